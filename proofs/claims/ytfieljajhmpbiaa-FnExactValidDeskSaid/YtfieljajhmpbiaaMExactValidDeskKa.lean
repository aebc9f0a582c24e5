/-
  The model ends so. Printed by a program of the session; nothing here is trusted.
-/
import Derived.Test.YtfieljajhmpbiaaProg
import Derived.KernelRfl
import Derived.Test.YtfieljajhmpbiaaMExactValidDeskWa
namespace Go.Proofs.Ytfieljajhmpbiaa.F
open Go Go.Ab Go.Proofs
set_option maxRecDepth 100000
set_option linter.unusedVariables false
set_option linter.unusedSimpArgs false
set_option maxHeartbeats 1000000
theorem hm : Try.prog.follows .mixedOrders = true := by kernel_rfl
end Go.Proofs.Ytfieljajhmpbiaa.F

namespace Go.Proofs.Ytfieljajhmpbiaa.G
open Go Go.Ab Go.Proofs Go.Proofs.Ytfieljajhmpbiaa
set_option maxRecDepth 100000
set_option linter.unusedVariables false
set_option linter.unusedSimpArgs false
set_option maxHeartbeats 1000000
theorem F60.ti22 : (telem Try.prog 22).isSome = true := by kernel_rfl
theorem laws_szFloat32S_ok {fr : List Pc} {H : Heap} (v0 : AV) (l0 : List (Nat)) (a1 : Int) (hs : Sep H (fr)) (g0 : ∀ H, Sep H fr → Shows H v0 1 (enc (eFlt .f32) l0)) (K : Int → Prop) (h : laws_szFloat32S.wp l0 a1 K) : OkQ Try.prog 60 [(.v v0), (.v (.int .i64 a1))] H (fun r H2 => ∃ (y0 : Int), K y0 ∧ r = (.v (.int .i64 y0)) ∧ Sep H2 (fr)) := by
  unfold laws_szFloat32S.wp at h
  refine of_body Try.f60 F.hm Try.func60 rfl Try.call60 (by kernel_rfl) (by simp) ?_
  refine fi_seq ?_
  refine fi_region ?_
  refine so_assign rfl ?_
  refine so_nil ?_
  refine fi_seq ?_
  refine fi_region ?_
  refine so_move rfl ?_
  refine so_move rfl ?_
  refine sv_len (g0 _ hs) (fun _ => rfl) (by decide) rfl F60.ti22 ?_
  refine so_bin rfl rfl ab_sub ?_
  refine so_assign rfl ?_
  refine so_nil ?_
  refine fi_seq ?_
  refine fi_seq ?_
  refine fi_region ?_
  refine so_move rfl ?_
  refine so_bin rfl rfl ab_lss ?_
  refine so_nil ?_
  replace h := ofP h; rcases h with ⟨c101, h⟩ | ⟨c101, h⟩
  · refine fi_true rfl (decide_eq_true c101) ?_
    refine fi_seq ?_
    refine fi_region ?_
    refine so_assign rfl ?_
    refine so_nil ?_
    exact by_ret rfl ⟨_, h, rfl, hs⟩
  · refine fi_false rfl (decide_eq_false c101) ?_
    refine fi_skip ?_
    refine fi_seq ?_
    refine fi_region ?_
    refine so_move rfl ?_
    refine so_assign rfl ?_
    refine so_nil ?_
    exact by_ret rfl ⟨_, h, rfl, hs⟩

end Go.Proofs.Ytfieljajhmpbiaa.G

namespace Go.Proofs.Ytfieljajhmpbiaa.G
open Go Go.Ab Go.Proofs Go.Proofs.Ytfieljajhmpbiaa
set_option maxRecDepth 100000
set_option linter.unusedVariables false
set_option linter.unusedSimpArgs false
set_option maxHeartbeats 1000000
theorem F104.ag22 : tagg Try.prog 22 = some false := by kernel_rfl
theorem F104.fd69_0 : tfield Try.prog 69 0 = some (0, 1, false) := by kernel_rfl
theorem F104.inf69 : (Try.prog.info? 69).isSome = true := by kernel_rfl
theorem laws_szScheme_ok {fr : List Pc} {H : Heap} (v0 : AV) (l0 : List (Nat)) (a1 : Nat) (a2 : Int) (hs : Sep H (fr)) (g0 : ∀ H, Sep H fr → Shows H v0 1 (enc (eFlt .f32) l0)) (K : Int → Prop) (h : laws_szScheme.wp l0 a1 a2 K) : OkQ Try.prog 104 [(.g [v0, (.flt .f32 a1)]), (.v (.int .i64 a2))] H (fun r H2 => ∃ (y0 : Int), K y0 ∧ r = (.v (.int .i64 y0)) ∧ Sep H2 (fr)) := by
  unfold laws_szScheme.wp at h
  refine of_body Try.f104 F.hm Try.func104 rfl Try.call104 (by kernel_rfl) (by simp) ?_
  refine fi_seq ?_
  refine fi_region ?_
  refine sv_box hs rfl (c := [v0, (.flt .f32 a1)]) rfl F104.inf69 (stc (g0 _ hs).stor (stc rfl stn)) nofun (fun id101 H102 hs => ?_)
  refine so_assign rfl ?_
  refine so_nil ?_
  refine fi_seq ?_
  refine fi_region ?_
  refine so_fieldAddr rfl F104.fd69_0 ?_
  refine sv_ld hs 0 rfl rfl rfl F104.ag22 ?_
  refine so_move rfl ?_
  refine sv_call (laws_szFloat32S_ok v0 l0 a2 hs (fun _ hs => (g0 _ hs.tl)) _ h) rfl rfl nofun ?_
  clear h hs
  rintro _ H105 ⟨y104, h, rfl, hs⟩
  refine so_assign rfl ?_
  refine so_nil ?_
  refine fi_seq ?_
  refine fi_seq ?_
  refine fi_region ?_
  refine so_move rfl ?_
  refine so_bin rfl rfl ab_lss ?_
  refine so_nil ?_
  replace h := ofP h; rcases h with ⟨c106, h⟩ | ⟨c106, h⟩
  · refine fi_true rfl (decide_eq_true c106) ?_
    refine fi_seq ?_
    refine fi_region ?_
    refine so_assign rfl ?_
    refine so_nil ?_
    exact by_ret rfl ⟨_, h, rfl, (Sep.del 0 hs)⟩
  · refine fi_false rfl (decide_eq_false c106) ?_
    refine fi_skip ?_
    refine fi_seq ?_
    refine fi_region ?_
    refine so_move rfl ?_
    refine so_assign rfl ?_
    refine so_nil ?_
    exact by_ret rfl ⟨_, h, rfl, (Sep.del 0 hs)⟩

end Go.Proofs.Ytfieljajhmpbiaa.G

namespace Go.Proofs.Ytfieljajhmpbiaa.G
open Go Go.Ab Go.Proofs Go.Proofs.Ytfieljajhmpbiaa
set_option maxRecDepth 100000
set_option linter.unusedVariables false
set_option linter.unusedSimpArgs false
set_option maxHeartbeats 1000000
theorem F105.ag22 : tagg Try.prog 22 = some false := by kernel_rfl
theorem F105.fd71_2 : tfield Try.prog 71 2 = some (2, 1, false) := by kernel_rfl
theorem F105.inf71 : (Try.prog.info? 71).isSome = true := by kernel_rfl
theorem laws_szPicture_ok {fr : List Pc} {H : Heap} (a0 : Int) (a1 : Int) (v2 : AV) (l2 : List (Nat)) (a3 : Int) (hs : Sep H (fr)) (g2 : ∀ H, Sep H fr → Shows H v2 1 (enc (eFlt .f32) l2)) (K : Int → Prop) (h : laws_szPicture.wp a0 a1 l2 a3 K) : OkQ Try.prog 105 [(.g [(.int .i64 a0), (.int .i64 a1), v2]), (.v (.int .i64 a3))] H (fun r H2 => ∃ (y0 : Int), K y0 ∧ r = (.v (.int .i64 y0)) ∧ Sep H2 (fr)) := by
  unfold laws_szPicture.wp at h
  refine of_body Try.f105 F.hm Try.func105 rfl Try.call105 (by kernel_rfl) (by simp) ?_
  refine fi_seq ?_
  refine fi_region ?_
  refine sv_box hs rfl (c := [(.int .i64 a0), (.int .i64 a1), v2]) rfl F105.inf71 (stc rfl (stc rfl (stc (g2 _ hs).stor stn))) nofun (fun id101 H102 hs => ?_)
  refine so_assign rfl ?_
  refine so_nil ?_
  refine fi_seq ?_
  refine fi_region ?_
  refine so_fieldAddr rfl F105.fd71_2 ?_
  refine sv_ld hs 0 rfl rfl rfl F105.ag22 ?_
  refine so_move rfl ?_
  refine sv_call (laws_szFloat32S_ok v2 l2 a3 hs (fun _ hs => (g2 _ hs.tl)) _ h) rfl rfl nofun ?_
  clear h hs
  rintro _ H105 ⟨y104, h, rfl, hs⟩
  refine so_assign rfl ?_
  refine so_nil ?_
  refine fi_seq ?_
  refine fi_seq ?_
  refine fi_region ?_
  refine so_move rfl ?_
  refine so_bin rfl rfl ab_lss ?_
  refine so_nil ?_
  replace h := ofP h; rcases h with ⟨c106, h⟩ | ⟨c106, h⟩
  · refine fi_true rfl (decide_eq_true c106) ?_
    refine fi_seq ?_
    refine fi_region ?_
    refine so_assign rfl ?_
    refine so_nil ?_
    exact by_ret rfl ⟨_, h, rfl, (Sep.del 0 hs)⟩
  · refine fi_false rfl (decide_eq_false c106) ?_
    refine fi_skip ?_
    refine fi_seq ?_
    refine fi_region ?_
    refine so_move rfl ?_
    refine so_assign rfl ?_
    refine so_nil ?_
    exact by_ret rfl ⟨_, h, rfl, (Sep.del 0 hs)⟩

end Go.Proofs.Ytfieljajhmpbiaa.G

namespace Go.Proofs.Ytfieljajhmpbiaa.G
open Go Go.Ab Go.Proofs Go.Proofs.Ytfieljajhmpbiaa
set_option maxRecDepth 100000
set_option linter.unusedVariables false
set_option linter.unusedSimpArgs false
set_option maxHeartbeats 1000000
theorem F135.ti72 : (telem Try.prog 72).isSome = true := by kernel_rfl
theorem laws_szBoolS_ok {fr : List Pc} {H : Heap} (v0 : AV) (l0 : List (Bool)) (a1 : Int) (hs : Sep H (fr)) (g0 : ∀ H, Sep H fr → Shows H v0 1 (enc eBool l0)) (K : Int → Prop) (h : laws_szBoolS.wp l0 a1 K) : OkQ Try.prog 135 [(.v v0), (.v (.int .i64 a1))] H (fun r H2 => ∃ (y0 : Int), K y0 ∧ r = (.v (.int .i64 y0)) ∧ Sep H2 (fr)) := by
  unfold laws_szBoolS.wp at h
  refine of_body Try.f135 F.hm Try.func135 rfl Try.call135 (by kernel_rfl) (by simp) ?_
  refine fi_seq ?_
  refine fi_region ?_
  refine so_assign rfl ?_
  refine so_nil ?_
  refine fi_seq ?_
  refine fi_region ?_
  refine so_move rfl ?_
  refine so_move rfl ?_
  refine sv_len (g0 _ hs) (fun _ => rfl) (by decide) rfl F135.ti72 ?_
  refine so_bin rfl rfl ab_sub ?_
  refine so_assign rfl ?_
  refine so_nil ?_
  refine fi_seq ?_
  refine fi_seq ?_
  refine fi_region ?_
  refine so_move rfl ?_
  refine so_bin rfl rfl ab_lss ?_
  refine so_nil ?_
  replace h := ofP h; rcases h with ⟨c101, h⟩ | ⟨c101, h⟩
  · refine fi_true rfl (decide_eq_true c101) ?_
    refine fi_seq ?_
    refine fi_region ?_
    refine so_assign rfl ?_
    refine so_nil ?_
    exact by_ret rfl ⟨_, h, rfl, hs⟩
  · refine fi_false rfl (decide_eq_false c101) ?_
    refine fi_skip ?_
    refine fi_seq ?_
    refine fi_region ?_
    refine so_move rfl ?_
    refine so_assign rfl ?_
    refine so_nil ?_
    exact by_ret rfl ⟨_, h, rfl, hs⟩

end Go.Proofs.Ytfieljajhmpbiaa.G

namespace Go.Proofs.Ytfieljajhmpbiaa.G
open Go Go.Ab Go.Proofs Go.Proofs.Ytfieljajhmpbiaa
set_option maxRecDepth 100000
set_option linter.unusedVariables false
set_option linter.unusedSimpArgs false
set_option maxHeartbeats 1000000
theorem F106.ag72 : tagg Try.prog 72 = some false := by kernel_rfl
theorem F106.fd74_2 : tfield Try.prog 74 2 = some (2, 1, false) := by kernel_rfl
theorem F106.inf74 : (Try.prog.info? 74).isSome = true := by kernel_rfl
theorem laws_szCoded_ok {fr : List Pc} {H : Heap} (a0 : Int) (a1 : Int) (v2 : AV) (l2 : List (Bool)) (a3 : Int) (hs : Sep H (fr)) (g2 : ∀ H, Sep H fr → Shows H v2 1 (enc eBool l2)) (K : Int → Prop) (h : laws_szCoded.wp a0 a1 l2 a3 K) : OkQ Try.prog 106 [(.g [(.int .i64 a0), (.int .i64 a1), v2]), (.v (.int .i64 a3))] H (fun r H2 => ∃ (y0 : Int), K y0 ∧ r = (.v (.int .i64 y0)) ∧ Sep H2 (fr)) := by
  unfold laws_szCoded.wp at h
  refine of_body Try.f106 F.hm Try.func106 rfl Try.call106 (by kernel_rfl) (by simp) ?_
  refine fi_seq ?_
  refine fi_region ?_
  refine sv_box hs rfl (c := [(.int .i64 a0), (.int .i64 a1), v2]) rfl F106.inf74 (stc rfl (stc rfl (stc (g2 _ hs).stor stn))) nofun (fun id101 H102 hs => ?_)
  refine so_assign rfl ?_
  refine so_nil ?_
  refine fi_seq ?_
  refine fi_region ?_
  refine so_fieldAddr rfl F106.fd74_2 ?_
  refine sv_ld hs 0 rfl rfl rfl F106.ag72 ?_
  refine so_move rfl ?_
  refine sv_call (laws_szBoolS_ok v2 l2 a3 hs (fun _ hs => (g2 _ hs.tl)) _ h) rfl rfl nofun ?_
  clear h hs
  rintro _ H105 ⟨y104, h, rfl, hs⟩
  refine so_assign rfl ?_
  refine so_nil ?_
  refine fi_seq ?_
  refine fi_seq ?_
  refine fi_region ?_
  refine so_move rfl ?_
  refine so_bin rfl rfl ab_lss ?_
  refine so_nil ?_
  replace h := ofP h; rcases h with ⟨c106, h⟩ | ⟨c106, h⟩
  · refine fi_true rfl (decide_eq_true c106) ?_
    refine fi_seq ?_
    refine fi_region ?_
    refine so_assign rfl ?_
    refine so_nil ?_
    exact by_ret rfl ⟨_, h, rfl, (Sep.del 0 hs)⟩
  · refine fi_false rfl (decide_eq_false c106) ?_
    refine fi_skip ?_
    refine fi_seq ?_
    refine fi_region ?_
    refine so_move rfl ?_
    refine so_assign rfl ?_
    refine so_nil ?_
    exact by_ret rfl ⟨_, h, rfl, (Sep.del 0 hs)⟩

end Go.Proofs.Ytfieljajhmpbiaa.G

namespace Go.Proofs.Ytfieljajhmpbiaa.G
open Go Go.Ab Go.Proofs Go.Proofs.Ytfieljajhmpbiaa
set_option maxRecDepth 100000
set_option linter.unusedVariables false
set_option linter.unusedSimpArgs false
set_option maxHeartbeats 1000000
theorem F53.ag22 : tagg Try.prog 22 = some false := by kernel_rfl
theorem F53.ag69 : tagg Try.prog 69 = some true := by kernel_rfl
theorem F53.ag71 : tagg Try.prog 71 = some true := by kernel_rfl
theorem F53.ag74 : tagg Try.prog 74 = some true := by kernel_rfl
theorem F53.fd76_0 : tfield Try.prog 76 0 = some (0, 1, false) := by kernel_rfl
theorem F53.fd76_1 : tfield Try.prog 76 1 = some (1, 2, true) := by kernel_rfl
theorem F53.fd76_2 : tfield Try.prog 76 2 = some (3, 3, true) := by kernel_rfl
theorem F53.fd76_3 : tfield Try.prog 76 3 = some (6, 3, true) := by kernel_rfl
theorem F53.inf76 : (Try.prog.info? 76).isSome = true := by kernel_rfl
theorem F53.sz69 : tsz Try.prog 69 = some 2 := by kernel_rfl
theorem F53.sz71 : tsz Try.prog 71 = some 3 := by kernel_rfl
theorem F53.sz74 : tsz Try.prog 74 = some 3 := by kernel_rfl
theorem laws_szDesk_ok {fr : List Pc} {H : Heap} (v0 : AV) (l0 : List (Nat)) (v1 : AV) (l1 : List (Nat)) (a2 : Nat) (a3 : Int) (a4 : Int) (v5 : AV) (l5 : List (Nat)) (a6 : Int) (a7 : Int) (v8 : AV) (l8 : List (Bool)) (a9 : Int) (hs : Sep H (fr)) (g0 : ∀ H, Sep H fr → Shows H v0 1 (enc (eFlt .f32) l0)) (g1 : ∀ H, Sep H fr → Shows H v1 1 (enc (eFlt .f32) l1)) (g5 : ∀ H, Sep H fr → Shows H v5 1 (enc (eFlt .f32) l5)) (g8 : ∀ H, Sep H fr → Shows H v8 1 (enc eBool l8)) (K : Int → Prop) (h : laws_szDesk.wp l0 l1 a2 a3 a4 l5 a6 a7 l8 a9 K) : OkQ Try.prog 53 [(.g [v0, v1, (.flt .f32 a2), (.int .i64 a3), (.int .i64 a4), v5, (.int .i64 a6), (.int .i64 a7), v8]), (.v (.int .i64 a9))] H (fun r H2 => ∃ (y0 : Int), K y0 ∧ r = (.v (.int .i64 y0)) ∧ Sep H2 (fr)) := by
  unfold laws_szDesk.wp at h
  refine of_body Try.f53 F.hm Try.func53 rfl Try.call53 (by kernel_rfl) (by simp) ?_
  refine fi_seq ?_
  refine fi_region ?_
  refine sv_box hs rfl (c := [v0, v1, (.flt .f32 a2), (.int .i64 a3), (.int .i64 a4), v5, (.int .i64 a6), (.int .i64 a7), v8]) rfl F53.inf76 (stc (g0 _ hs).stor (stc (g1 _ hs).stor (stc rfl (stc rfl (stc rfl (stc (g5 _ hs).stor (stc rfl (stc rfl (stc (g8 _ hs).stor stn))))))))) nofun (fun id101 H102 hs => ?_)
  refine so_assign rfl ?_
  refine so_nil ?_
  refine fi_seq ?_
  refine fi_region ?_
  refine so_fieldAddr rfl F53.fd76_0 ?_
  refine sv_ld hs 0 rfl rfl rfl F53.ag22 ?_
  refine so_move rfl ?_
  refine sv_call (laws_szFloat32S_ok v0 l0 a9 hs (fun _ hs => (g0 _ hs.tl)) _ h) rfl rfl nofun ?_
  clear h hs
  rintro _ H105 ⟨y104, h, rfl, hs⟩
  refine so_assign rfl ?_
  refine so_nil ?_
  refine fi_seq ?_
  refine fi_seq ?_
  refine fi_region ?_
  refine so_move rfl ?_
  refine so_bin rfl rfl ab_lss ?_
  refine so_nil ?_
  replace h := ofP h; rcases h with ⟨c106, h⟩ | ⟨c106, h⟩
  · refine fi_true rfl (decide_eq_true c106) ?_
    refine fi_seq ?_
    refine fi_region ?_
    refine so_assign rfl ?_
    refine so_nil ?_
    exact by_ret rfl ⟨_, h, rfl, (Sep.del 0 hs)⟩
  · refine fi_false rfl (decide_eq_false c106) ?_
    refine fi_skip ?_
    refine fi_seq ?_
    refine fi_region ?_
    refine so_fieldAddr rfl F53.fd76_1 ?_
    refine sv_lds hs 0 rfl rfl (leb rfl) rfl F53.ag69 F53.sz69 ?_
    refine so_move rfl ?_
    refine sv_call (laws_szScheme_ok v1 l1 a2 y104 hs (fun _ hs => (g1 _ hs.tl)) _ h) rfl rfl nofun ?_
    clear h hs
    rintro _ H108 ⟨y107, h, rfl, hs⟩
    refine so_assign rfl ?_
    refine so_nil ?_
    refine fi_seq ?_
    refine fi_seq ?_
    refine fi_region ?_
    refine so_move rfl ?_
    refine so_bin rfl rfl ab_lss ?_
    refine so_nil ?_
    replace h := ofP h; rcases h with ⟨c109, h⟩ | ⟨c109, h⟩
    · refine fi_true rfl (decide_eq_true c109) ?_
      refine fi_seq ?_
      refine fi_region ?_
      refine so_assign rfl ?_
      refine so_nil ?_
      exact by_ret rfl ⟨_, h, rfl, (Sep.del 0 hs)⟩
    · refine fi_false rfl (decide_eq_false c109) ?_
      refine fi_skip ?_
      refine fi_seq ?_
      refine fi_region ?_
      refine so_fieldAddr rfl F53.fd76_2 ?_
      refine sv_lds hs 0 rfl rfl (leb rfl) rfl F53.ag71 F53.sz71 ?_
      refine so_move rfl ?_
      refine sv_call (laws_szPicture_ok a3 a4 v5 l5 y107 hs (fun _ hs => (g5 _ hs.tl)) _ h) rfl rfl nofun ?_
      clear h hs
      rintro _ H111 ⟨y110, h, rfl, hs⟩
      refine so_assign rfl ?_
      refine so_nil ?_
      refine fi_seq ?_
      refine fi_seq ?_
      refine fi_region ?_
      refine so_move rfl ?_
      refine so_bin rfl rfl ab_lss ?_
      refine so_nil ?_
      replace h := ofP h; rcases h with ⟨c112, h⟩ | ⟨c112, h⟩
      · refine fi_true rfl (decide_eq_true c112) ?_
        refine fi_seq ?_
        refine fi_region ?_
        refine so_assign rfl ?_
        refine so_nil ?_
        exact by_ret rfl ⟨_, h, rfl, (Sep.del 0 hs)⟩
      · refine fi_false rfl (decide_eq_false c112) ?_
        refine fi_skip ?_
        refine fi_seq ?_
        refine fi_region ?_
        refine so_fieldAddr rfl F53.fd76_3 ?_
        refine sv_lds hs 0 rfl rfl (leb rfl) rfl F53.ag74 F53.sz74 ?_
        refine so_move rfl ?_
        refine sv_call (laws_szCoded_ok a6 a7 v8 l8 y110 hs (fun _ hs => (g8 _ hs.tl)) _ h) rfl rfl nofun ?_
        clear h hs
        rintro _ H114 ⟨y113, h, rfl, hs⟩
        refine so_assign rfl ?_
        refine so_nil ?_
        refine fi_seq ?_
        refine fi_seq ?_
        refine fi_region ?_
        refine so_move rfl ?_
        refine so_bin rfl rfl ab_lss ?_
        refine so_nil ?_
        replace h := ofP h; rcases h with ⟨c115, h⟩ | ⟨c115, h⟩
        · refine fi_true rfl (decide_eq_true c115) ?_
          refine fi_seq ?_
          refine fi_region ?_
          refine so_assign rfl ?_
          refine so_nil ?_
          exact by_ret rfl ⟨_, h, rfl, (Sep.del 0 hs)⟩
        · refine fi_false rfl (decide_eq_false c115) ?_
          refine fi_skip ?_
          refine fi_seq ?_
          refine fi_region ?_
          refine so_move rfl ?_
          refine so_assign rfl ?_
          refine so_nil ?_
          exact by_ret rfl ⟨_, h, rfl, (Sep.del 0 hs)⟩

end Go.Proofs.Ytfieljajhmpbiaa.G

namespace Go.Proofs.Ytfieljajhmpbiaa.G
open Go Go.Ab Go.Proofs Go.Proofs.Ytfieljajhmpbiaa
set_option maxRecDepth 100000
set_option linter.unusedVariables false
set_option linter.unusedSimpArgs false
set_option maxHeartbeats 1000000
theorem spec_l01Finite_ok {fr : List Pc} {H : Heap} (a0 : Nat) (hs : Sep H (fr))  (K : Bool → Prop) (h : spec_l01Finite.wp a0 K) : OkQ Try.prog 121 [(.v (.flt .f32 a0))] H (fun r H2 => ∃ (y0 : Bool), K y0 ∧ r = (.v (.bool y0)) ∧ Sep H2 (fr)) := by
  unfold spec_l01Finite.wp at h
  refine of_body Try.f121 F.hm Try.func121 rfl Try.call121 (by kernel_rfl) (by simp) ?_
  refine fi_seq ?_
  refine fi_region ?_
  refine so_assign rfl ?_
  refine so_nil ?_
  refine fi_seq ?_
  refine fi_region ?_
  refine so_move rfl ?_
  refine so_move rfl ?_
  refine so_bin rfl rfl ab_fsub ?_
  refine so_bin rfl rfl ab_feql ?_
  refine so_assign rfl ?_
  refine so_nil ?_
  exact by_ret rfl ⟨_, h, rfl, hs⟩

end Go.Proofs.Ytfieljajhmpbiaa.G

namespace Go.Proofs.Ytfieljajhmpbiaa.G
open Go Go.Ab Go.Proofs Go.Proofs.Ytfieljajhmpbiaa
set_option maxRecDepth 100000
set_option linter.unusedVariables false
set_option linter.unusedSimpArgs false
set_option maxHeartbeats 1000000
theorem spec_l02Above_ok {fr : List Pc} {H : Heap} (a0 : Nat) (hs : Sep H (fr))  (K : Bool → Prop) (h : spec_l02Above.wp a0 K) : OkQ Try.prog 69 [(.v (.flt .f32 a0))] H (fun r H2 => ∃ (y0 : Bool), K y0 ∧ r = (.v (.bool y0)) ∧ Sep H2 (fr)) := by
  unfold spec_l02Above.wp at h
  refine of_body Try.f69 F.hm Try.func69 rfl Try.call69 (by kernel_rfl) (by simp) ?_
  refine fi_seq ?_
  refine fi_region ?_
  refine so_assign rfl ?_
  refine so_nil ?_
  refine fi_seq ?_
  refine fi_region ?_
  refine so_move rfl ?_
  refine sv_call (spec_l01Finite_ok a0 hs  _ h) rfl rfl nofun ?_
  clear h hs
  rintro _ H102 ⟨y101, h, rfl, hs⟩
  refine so_move rfl ?_
  replace h := ofT h; rcases h with ⟨c103, h⟩ | ⟨c103, h⟩
  · refine so_gyes rfl c103 ?_
    refine so_move rfl ?_
    refine so_gyes rfl c103 ?_
    refine so_bin rfl rfl ab_fgtr ?_
    refine so_pick_t rfl c103 rfl ?_
    refine so_assign rfl ?_
    refine so_nil ?_
    exact by_ret rfl ⟨_, h, rfl, hs⟩
  · refine so_gno rfl c103 ?_
    refine so_gno rfl c103 ?_
    refine so_pick_f rfl c103 rfl ?_
    refine so_assign rfl ?_
    refine so_nil ?_
    exact by_ret rfl ⟨_, h, rfl, hs⟩

end Go.Proofs.Ytfieljajhmpbiaa.G

namespace Go.Proofs.Ytfieljajhmpbiaa.G
open Go Go.Ab Go.Proofs Go.Proofs.Ytfieljajhmpbiaa
set_option maxRecDepth 100000
set_option linter.unusedVariables false
set_option linter.unusedSimpArgs false
set_option maxHeartbeats 1000000
theorem F71.ag36 : tagg Try.prog 36 = some false := by kernel_rfl
theorem F71.ti22 : (telem Try.prog 22).isSome = true := by kernel_rfl
theorem F71.tl22 : (telem Try.prog 22).bind (tsz Try.prog) = some 1 := by kernel_rfl
theorem spec_l02Finite_ok {fr : List Pc} {H : Heap} (v0 : AV) (l0 : List (Nat)) (hs : Sep H (fr)) (g0 : ∀ H, Sep H fr → Shows H v0 1 (enc (eFlt .f32) l0)) (K : Bool → Prop) (h : spec_l02Finite.wp l0 K) : OkQ Try.prog 71 [(.v v0)] H (fun r H2 => ∃ (y0 : Bool), K y0 ∧ r = (.v (.bool y0)) ∧ Sep H2 (fr)) := by
  unfold spec_l02Finite.wp at h
  refine of_body Try.f71 F.hm Try.func71 rfl Try.call71 (by kernel_rfl) (by simp) ?_
  refine fi_seq ?_
  refine fi_region ?_
  refine so_assign rfl ?_
  refine so_nil ?_
  refine fi_seq ?_
  refine fi_seq ?_
  refine fi_region ?_
  refine so_assign rfl ?_
  refine so_nil ?_
  refine fi_block ?_
  refine fi_loop ?_
  refine fi_at [(0, (.v v0)), (3, (.v (.int .i64 (0 : Int))))] ⟨rfl, rfl, trivial⟩ ?_
  refine h (fun (i102 : Int) => ∀ (s : Nat → TV) (H : Heap), Sep H (fr) → Fin _ _ (updL s [(0, (.v v0)), (3, (.v (.int .i64 i102)))]) H _) ?_ _ _ hs
  intro i102 h s108 H109 hs
  refine fi_inLoop ?_
  refine fi_seq ?_
  refine fi_seq ?_
  refine fi_region ?_
  refine so_move rfl ?_
  refine so_move rfl ?_
  refine sv_len (g0 _ hs) (fun _ => rfl) (by decide) rfl F71.ti22 ?_
  refine so_bin rfl rfl ab_lss ?_
  refine so_nil ?_
  replace h := ofP h; rcases h with ⟨c103, h⟩ | ⟨c103, h⟩
  · refine fi_true rfl (decide_eq_true c103) ?_
    refine fi_skip ?_
    refine fi_seq ?_
    refine fi_block ?_
    refine fi_seq ?_
    refine fi_region ?_
    refine so_move rfl ?_
    refine so_move rfl ?_
    obtain ⟨c104, h⟩ := h
    refine sv_idx (g0 _ hs) c104 (fun _ => rfl) (by decide) rfl rfl F71.tl22 ?_
    refine sv_cell (g0 _ hs) c104 (0 : Nat) 0 (fun x => (AV.flt .f32 x)) (fun _ => rfl) (fun _ => rfl) rfl F71.ag36 ?_
    refine sv_call (spec_l01Finite_ok (l0.getD (i102).toNat (0 : Nat)) hs  _ h) rfl rfl nofun ?_
    clear h hs
    rintro _ H106 ⟨y105, h, rfl, hs⟩
    refine so_un rfl au_not ?_
    refine so_nil ?_
    replace h := ofT h; rcases h with ⟨c107, h⟩ | ⟨c107, h⟩
    · refine fi_false rfl (not_f c107) ?_
      refine fi_skip ?_
      refine fi_inBlock ?_
      refine fi_region ?_
      refine so_move rfl ?_
      refine so_bin rfl rfl ab_add ?_
      refine so_assign rfl ?_
      refine so_nil ?_
      exact fi_at [(0, (.v v0)), (3, (.v (.int .i64 (IntKind.i64.wrap (i102 + (1 : Int))))))] ⟨rfl, rfl, trivial⟩ (h _ _  hs)
    · refine fi_true rfl (not_t c107) ?_
      refine fi_seq ?_
      refine fi_region ?_
      refine so_assign rfl ?_
      refine so_nil ?_
      exact by_ret rfl ⟨_, h, rfl, hs⟩
  · refine fi_false rfl (decide_eq_false c103) ?_
    refine fi_exit rfl ?_
    refine fi_seq ?_
    refine fi_region ?_
    refine so_assign rfl ?_
    refine so_nil ?_
    exact by_ret rfl ⟨_, h, rfl, hs⟩

end Go.Proofs.Ytfieljajhmpbiaa.G

namespace Go.Proofs.Ytfieljajhmpbiaa.G
open Go Go.Ab Go.Proofs Go.Proofs.Ytfieljajhmpbiaa
set_option maxRecDepth 100000
set_option linter.unusedVariables false
set_option linter.unusedSimpArgs false
set_option maxHeartbeats 1000000
theorem F136.ag22 : tagg Try.prog 22 = some false := by kernel_rfl
theorem F136.ag36 : tagg Try.prog 36 = some false := by kernel_rfl
theorem F136.fd79_0 : tfield Try.prog 79 0 = some (0, 1, false) := by kernel_rfl
theorem F136.fd79_1 : tfield Try.prog 79 1 = some (1, 1, false) := by kernel_rfl
theorem F136.ti22 : (telem Try.prog 22).isSome = true := by kernel_rfl
theorem spec_l02Scheme_ok {fr : List Pc} {H : Heap} (i0 o0 : Nat) (v0 : AV) (l0 : List (Nat)) (a1 : Nat) (hs : Sep H (fr)) (g0 : ∀ H, Sep H fr → Shows H v0 1 (enc (eFlt .f32) l0)) (q0 : ∀ H, Sep H fr → PtAt H i0 o0 [v0, (.flt .f32 a1)]) (K : Bool → Prop) (h : spec_l02Scheme.wp l0 a1 K) : OkQ Try.prog 136 [(.v (.ptr i0 o0))] H (fun r H2 => ∃ (y0 : Bool), K y0 ∧ r = (.v (.bool y0)) ∧ Sep H2 (fr)) := by
  unfold spec_l02Scheme.wp at h
  refine of_body Try.f136 F.hm Try.func136 rfl Try.call136 (by kernel_rfl) (by simp) ?_
  refine fi_seq ?_
  refine fi_region ?_
  refine so_assign rfl ?_
  refine so_nil ?_
  refine fi_seq ?_
  refine fi_region ?_
  refine so_move rfl ?_
  refine so_nilCheck rfl ?_
  refine so_fieldAddr rfl F136.fd79_0 ?_
  refine su_ld (q0 _ hs) 0 rfl rfl F136.ag22 ?_
  refine sv_len (g0 _ hs) (fun _ => rfl) (by decide) rfl F136.ti22 ?_
  refine so_bin rfl rfl ab_geq ?_
  refine so_move rfl ?_
  replace h := ofP h; rcases h with ⟨c101, h⟩ | ⟨c101, h⟩
  · refine so_gyes rfl (decide_eq_true c101) ?_
    refine so_move rfl ?_
    refine so_gyes rfl (decide_eq_true c101) ?_
    refine so_nilCheck rfl ?_
    refine so_gyes rfl (decide_eq_true c101) ?_
    refine so_fieldAddr rfl F136.fd79_0 ?_
    refine so_gyes rfl (decide_eq_true c101) ?_
    refine su_ld (q0 _ hs) 0 rfl rfl F136.ag22 ?_
    refine so_gyes rfl (decide_eq_true c101) ?_
    refine sv_len (g0 _ hs) (fun _ => rfl) (by decide) rfl F136.ti22 ?_
    refine so_gyes rfl (decide_eq_true c101) ?_
    refine so_bin rfl rfl ab_leq ?_
    refine so_pick_t rfl (decide_eq_true c101) rfl ?_
    refine so_move rfl ?_
    replace h := ofP h; rcases h with ⟨c102, h⟩ | ⟨c102, h⟩
    · refine so_gyes rfl (decide_eq_true c102) ?_
      refine so_move rfl ?_
      refine so_gyes rfl (decide_eq_true c102) ?_
      refine so_nilCheck rfl ?_
      refine so_gyes rfl (decide_eq_true c102) ?_
      refine so_fieldAddr rfl F136.fd79_0 ?_
      refine so_gyes rfl (decide_eq_true c102) ?_
      refine su_ld (q0 _ hs) 0 rfl rfl F136.ag22 ?_
      refine so_gyes rfl (decide_eq_true c102) ?_
      refine sv_call (spec_l02Finite_ok v0 l0 hs (fun _ hs => (g0 _ hs)) _ h) rfl rfl nofun ?_
      clear h hs
      rintro _ H104 ⟨y103, h, rfl, hs⟩
      refine so_pick_t rfl (decide_eq_true c102) rfl ?_
      refine so_move rfl ?_
      replace h := ofT h; rcases h with ⟨c105, h⟩ | ⟨c105, h⟩
      · refine so_gyes rfl c105 ?_
        refine so_move rfl ?_
        refine so_gyes rfl c105 ?_
        refine so_nilCheck rfl ?_
        refine so_gyes rfl c105 ?_
        refine so_fieldAddr rfl F136.fd79_1 ?_
        refine so_gyes rfl c105 ?_
        refine su_ld (q0 _ hs) 1 rfl rfl F136.ag36 ?_
        refine so_gyes rfl c105 ?_
        refine sv_call (spec_l02Above_ok a1 hs  _ h) rfl rfl nofun ?_
        clear h hs
        rintro _ H107 ⟨y106, h, rfl, hs⟩
        refine so_pick_t rfl c105 rfl ?_
        refine so_assign rfl ?_
        refine so_nil ?_
        exact by_ret rfl ⟨_, h, rfl, hs⟩
      · refine so_gno rfl c105 ?_
        refine so_gno rfl c105 ?_
        refine so_gno rfl c105 ?_
        refine so_gno rfl c105 ?_
        refine so_gno rfl c105 ?_
        refine so_pick_f rfl c105 rfl ?_
        refine so_assign rfl ?_
        refine so_nil ?_
        exact by_ret rfl ⟨_, h, rfl, hs⟩
    · refine so_gno rfl (decide_eq_false c102) ?_
      refine so_gno rfl (decide_eq_false c102) ?_
      refine so_gno rfl (decide_eq_false c102) ?_
      refine so_gno rfl (decide_eq_false c102) ?_
      refine so_gno rfl (decide_eq_false c102) ?_
      refine so_pick_f rfl (decide_eq_false c102) rfl ?_
      refine so_move rfl ?_
      refine so_gno rfl rfl ?_
      refine so_gno rfl rfl ?_
      refine so_gno rfl rfl ?_
      refine so_gno rfl rfl ?_
      refine so_gno rfl rfl ?_
      refine so_pick_f rfl rfl rfl ?_
      refine so_assign rfl ?_
      refine so_nil ?_
      exact by_ret rfl ⟨_, h, rfl, hs⟩
  · refine so_gno rfl (decide_eq_false c101) ?_
    refine so_gno rfl (decide_eq_false c101) ?_
    refine so_gno rfl (decide_eq_false c101) ?_
    refine so_gno rfl (decide_eq_false c101) ?_
    refine so_gno rfl (decide_eq_false c101) ?_
    refine so_gno rfl (decide_eq_false c101) ?_
    refine so_pick_f rfl (decide_eq_false c101) rfl ?_
    refine so_move rfl ?_
    refine so_gno rfl rfl ?_
    refine so_gno rfl rfl ?_
    refine so_gno rfl rfl ?_
    refine so_gno rfl rfl ?_
    refine so_gno rfl rfl ?_
    refine so_pick_f rfl rfl rfl ?_
    refine so_move rfl ?_
    refine so_gno rfl rfl ?_
    refine so_gno rfl rfl ?_
    refine so_gno rfl rfl ?_
    refine so_gno rfl rfl ?_
    refine so_gno rfl rfl ?_
    refine so_pick_f rfl rfl rfl ?_
    refine so_assign rfl ?_
    refine so_nil ?_
    exact by_ret rfl ⟨_, h, rfl, hs⟩

end Go.Proofs.Ytfieljajhmpbiaa.G

namespace Go.Proofs.Ytfieljajhmpbiaa.G
open Go Go.Ab Go.Proofs Go.Proofs.Ytfieljajhmpbiaa
set_option maxRecDepth 100000
set_option linter.unusedVariables false
set_option linter.unusedSimpArgs false
set_option maxHeartbeats 1000000
theorem spec_l00In_ok {fr : List Pc} {H : Heap} (a0 : Int) (a1 : Int) (a2 : Int) (hs : Sep H (fr))  (K : Bool → Prop) (h : spec_l00In.wp a0 a1 a2 K) : OkQ Try.prog 118 [(.v (.int .i64 a0)), (.v (.int .i64 a1)), (.v (.int .i64 a2))] H (fun r H2 => ∃ (y0 : Bool), K y0 ∧ r = (.v (.bool y0)) ∧ Sep H2 (fr)) := by
  unfold spec_l00In.wp at h
  refine of_body Try.f118 F.hm Try.func118 rfl Try.call118 (by kernel_rfl) (by simp) ?_
  refine fi_seq ?_
  refine fi_region ?_
  refine so_assign rfl ?_
  refine so_nil ?_
  refine fi_seq ?_
  refine fi_region ?_
  refine so_move rfl ?_
  refine so_move rfl ?_
  refine so_bin rfl rfl ab_geq ?_
  refine so_move rfl ?_
  replace h := ofP h; rcases h with ⟨c101, h⟩ | ⟨c101, h⟩
  · refine so_gyes rfl (decide_eq_true c101) ?_
    refine so_move rfl ?_
    refine so_gyes rfl (decide_eq_true c101) ?_
    refine so_move rfl ?_
    refine so_gyes rfl (decide_eq_true c101) ?_
    refine so_bin rfl rfl ab_leq ?_
    refine so_pick_t rfl (decide_eq_true c101) rfl ?_
    refine so_assign rfl ?_
    refine so_nil ?_
    exact by_ret rfl ⟨_, h, rfl, hs⟩
  · refine so_gno rfl (decide_eq_false c101) ?_
    refine so_gno rfl (decide_eq_false c101) ?_
    refine so_gno rfl (decide_eq_false c101) ?_
    refine so_pick_f rfl (decide_eq_false c101) rfl ?_
    refine so_assign rfl ?_
    refine so_nil ?_
    exact by_ret rfl ⟨_, h, rfl, hs⟩

end Go.Proofs.Ytfieljajhmpbiaa.G

namespace Go.Proofs.Ytfieljajhmpbiaa.G
open Go Go.Ab Go.Proofs Go.Proofs.Ytfieljajhmpbiaa
set_option maxRecDepth 100000
set_option linter.unusedVariables false
set_option linter.unusedSimpArgs false
set_option maxHeartbeats 1000000
theorem spec_l04Sides_ok {fr : List Pc} {H : Heap} (a0 : Int) (a1 : Int) (hs : Sep H (fr))  (K : Bool → Prop) (h : spec_l04Sides.wp a0 a1 K) : OkQ Try.prog 144 [(.v (.int .i64 a0)), (.v (.int .i64 a1))] H (fun r H2 => ∃ (y0 : Bool), K y0 ∧ r = (.v (.bool y0)) ∧ Sep H2 (fr)) := by
  unfold spec_l04Sides.wp at h
  refine of_body Try.f144 F.hm Try.func144 rfl Try.call144 (by kernel_rfl) (by simp) ?_
  refine fi_seq ?_
  refine fi_region ?_
  refine so_assign rfl ?_
  refine so_nil ?_
  refine fi_seq ?_
  refine fi_region ?_
  refine so_move rfl ?_
  refine sv_call (spec_l00In_ok a0 (1 : Int) (16 : Int) hs  _ h) rfl rfl nofun ?_
  clear h hs
  rintro _ H102 ⟨y101, h, rfl, hs⟩
  refine so_move rfl ?_
  replace h := ofT h; rcases h with ⟨c103, h⟩ | ⟨c103, h⟩
  · refine so_gyes rfl c103 ?_
    refine so_move rfl ?_
    refine so_gyes rfl c103 ?_
    refine sv_call (spec_l00In_ok a1 (1 : Int) (16 : Int) hs  _ h) rfl rfl nofun ?_
    clear h hs
    rintro _ H105 ⟨y104, h, rfl, hs⟩
    refine so_pick_t rfl c103 rfl ?_
    refine so_assign rfl ?_
    refine so_nil ?_
    exact by_ret rfl ⟨_, h, rfl, hs⟩
  · refine so_gno rfl c103 ?_
    refine so_gno rfl c103 ?_
    refine so_pick_f rfl c103 rfl ?_
    refine so_assign rfl ?_
    refine so_nil ?_
    exact by_ret rfl ⟨_, h, rfl, hs⟩

end Go.Proofs.Ytfieljajhmpbiaa.G

namespace Go.Proofs.Ytfieljajhmpbiaa.G
open Go Go.Ab Go.Proofs Go.Proofs.Ytfieljajhmpbiaa
set_option maxRecDepth 100000
set_option linter.unusedVariables false
set_option linter.unusedSimpArgs false
set_option maxHeartbeats 1000000
theorem F137.ag2 : tagg Try.prog 2 = some false := by kernel_rfl
theorem F137.ag22 : tagg Try.prog 22 = some false := by kernel_rfl
theorem F137.fd80_0 : tfield Try.prog 80 0 = some (0, 1, false) := by kernel_rfl
theorem F137.fd80_1 : tfield Try.prog 80 1 = some (1, 1, false) := by kernel_rfl
theorem F137.fd80_2 : tfield Try.prog 80 2 = some (2, 1, false) := by kernel_rfl
theorem F137.ti22 : (telem Try.prog 22).isSome = true := by kernel_rfl
theorem spec_l04Is_ok {fr : List Pc} {H : Heap} (i0 o0 : Nat) (a0 : Int) (a1 : Int) (v2 : AV) (l2 : List (Nat)) (hs : Sep H (fr)) (g2 : ∀ H, Sep H fr → Shows H v2 1 (enc (eFlt .f32) l2)) (q0 : ∀ H, Sep H fr → PtAt H i0 o0 [(.int .i64 a0), (.int .i64 a1), v2]) (K : Bool → Prop) (h : spec_l04Is.wp a0 a1 l2 K) : OkQ Try.prog 137 [(.v (.ptr i0 o0))] H (fun r H2 => ∃ (y0 : Bool), K y0 ∧ r = (.v (.bool y0)) ∧ Sep H2 (fr)) := by
  unfold spec_l04Is.wp at h
  refine of_body Try.f137 F.hm Try.func137 rfl Try.call137 (by kernel_rfl) (by simp) ?_
  refine fi_seq ?_
  refine fi_region ?_
  refine so_assign rfl ?_
  refine so_nil ?_
  refine fi_seq ?_
  refine fi_region ?_
  refine so_move rfl ?_
  refine so_nilCheck rfl ?_
  refine so_fieldAddr rfl F137.fd80_0 ?_
  refine su_ld (q0 _ hs) 0 rfl rfl F137.ag2 ?_
  refine so_move rfl ?_
  refine so_nilCheck rfl ?_
  refine so_fieldAddr rfl F137.fd80_1 ?_
  refine su_ld (q0 _ hs) 1 rfl rfl F137.ag2 ?_
  refine sv_call (spec_l04Sides_ok a0 a1 hs  _ h) rfl rfl (fun _ => by kernel_rfl) ?_
  clear h hs
  rintro _ H102 ⟨y101, h, rfl, hs⟩
  refine so_move rfl ?_
  replace h := ofT h; rcases h with ⟨c103, h⟩ | ⟨c103, h⟩
  · refine so_gyes rfl c103 ?_
    refine so_move rfl ?_
    refine so_gyes rfl c103 ?_
    refine so_nilCheck rfl ?_
    refine so_gyes rfl c103 ?_
    refine so_fieldAddr rfl F137.fd80_2 ?_
    refine so_gyes rfl c103 ?_
    refine su_ld (q0 _ hs) 2 rfl rfl F137.ag22 ?_
    refine so_gyes rfl c103 ?_
    refine sv_len (g2 _ hs) (fun _ => rfl) (by decide) rfl F137.ti22 ?_
    refine so_gyes rfl c103 ?_
    refine so_move rfl ?_
    refine so_gyes rfl c103 ?_
    refine so_nilCheck rfl ?_
    refine so_gyes rfl c103 ?_
    refine so_fieldAddr rfl F137.fd80_0 ?_
    refine so_gyes rfl c103 ?_
    refine su_ld (q0 _ hs) 0 rfl rfl F137.ag2 ?_
    refine so_gyes rfl c103 ?_
    refine so_move rfl ?_
    refine so_gyes rfl c103 ?_
    refine so_nilCheck rfl ?_
    refine so_gyes rfl c103 ?_
    refine so_fieldAddr rfl F137.fd80_1 ?_
    refine so_gyes rfl c103 ?_
    refine su_ld (q0 _ hs) 1 rfl rfl F137.ag2 ?_
    refine so_gyes rfl c103 ?_
    refine so_bin rfl rfl ab_mul ?_
    refine so_gyes rfl c103 ?_
    refine so_bin rfl rfl ab_eql ?_
    refine so_pick_t rfl c103 rfl ?_
    refine so_move rfl ?_
    replace h := ofP h; rcases h with ⟨c104, h⟩ | ⟨c104, h⟩
    · refine so_gyes rfl (decide_eq_true c104) ?_
      refine so_move rfl ?_
      refine so_gyes rfl (decide_eq_true c104) ?_
      refine so_nilCheck rfl ?_
      refine so_gyes rfl (decide_eq_true c104) ?_
      refine so_fieldAddr rfl F137.fd80_2 ?_
      refine so_gyes rfl (decide_eq_true c104) ?_
      refine su_ld (q0 _ hs) 2 rfl rfl F137.ag22 ?_
      refine so_gyes rfl (decide_eq_true c104) ?_
      refine sv_call (spec_l02Finite_ok v2 l2 hs (fun _ hs => (g2 _ hs)) _ h) rfl rfl (fun _ => by kernel_rfl) ?_
      clear h hs
      rintro _ H106 ⟨y105, h, rfl, hs⟩
      refine so_pick_t rfl (decide_eq_true c104) rfl ?_
      refine so_assign rfl ?_
      refine so_nil ?_
      exact by_ret rfl ⟨_, h, rfl, hs⟩
    · refine so_gno rfl (decide_eq_false c104) ?_
      refine so_gno rfl (decide_eq_false c104) ?_
      refine so_gno rfl (decide_eq_false c104) ?_
      refine so_gno rfl (decide_eq_false c104) ?_
      refine so_gno rfl (decide_eq_false c104) ?_
      refine so_pick_f rfl (decide_eq_false c104) rfl ?_
      refine so_assign rfl ?_
      refine so_nil ?_
      exact by_ret rfl ⟨_, h, rfl, hs⟩
  · refine so_gno rfl c103 ?_
    refine so_gno rfl c103 ?_
    refine so_gno rfl c103 ?_
    refine so_gno rfl c103 ?_
    refine so_gno rfl c103 ?_
    refine so_gno rfl c103 ?_
    refine so_gno rfl c103 ?_
    refine so_gno rfl c103 ?_
    refine so_gno rfl c103 ?_
    refine so_gno rfl c103 ?_
    refine so_gno rfl c103 ?_
    refine so_gno rfl c103 ?_
    refine so_gno rfl c103 ?_
    refine so_gno rfl c103 ?_
    refine so_gno rfl c103 ?_
    refine so_pick_f rfl c103 rfl ?_
    refine so_move rfl ?_
    refine so_gno rfl rfl ?_
    refine so_gno rfl rfl ?_
    refine so_gno rfl rfl ?_
    refine so_gno rfl rfl ?_
    refine so_gno rfl rfl ?_
    refine so_pick_f rfl rfl rfl ?_
    refine so_assign rfl ?_
    refine so_nil ?_
    exact by_ret rfl ⟨_, h, rfl, hs⟩

end Go.Proofs.Ytfieljajhmpbiaa.G

namespace Go.Proofs.Ytfieljajhmpbiaa.G
open Go Go.Ab Go.Proofs Go.Proofs.Ytfieljajhmpbiaa
set_option maxRecDepth 100000
set_option linter.unusedVariables false
set_option linter.unusedSimpArgs false
set_option maxHeartbeats 1000000
theorem F138.ag2 : tagg Try.prog 2 = some false := by kernel_rfl
theorem F138.ag72 : tagg Try.prog 72 = some false := by kernel_rfl
theorem F138.fd81_0 : tfield Try.prog 81 0 = some (0, 1, false) := by kernel_rfl
theorem F138.fd81_1 : tfield Try.prog 81 1 = some (1, 1, false) := by kernel_rfl
theorem F138.fd81_2 : tfield Try.prog 81 2 = some (2, 1, false) := by kernel_rfl
theorem F138.ti72 : (telem Try.prog 72).isSome = true := by kernel_rfl
theorem spec_l06Is_ok {fr : List Pc} {H : Heap} (i0 o0 : Nat) (a0 : Int) (a1 : Int) (v2 : AV) (l2 : List (Bool)) (hs : Sep H (fr)) (g2 : ∀ H, Sep H fr → Shows H v2 1 (enc eBool l2)) (q0 : ∀ H, Sep H fr → PtAt H i0 o0 [(.int .i64 a0), (.int .i64 a1), v2]) (K : Bool → Prop) (h : spec_l06Is.wp a0 a1 l2 K) : OkQ Try.prog 138 [(.v (.ptr i0 o0))] H (fun r H2 => ∃ (y0 : Bool), K y0 ∧ r = (.v (.bool y0)) ∧ Sep H2 (fr)) := by
  unfold spec_l06Is.wp at h
  refine of_body Try.f138 F.hm Try.func138 rfl Try.call138 (by kernel_rfl) (by simp) ?_
  refine fi_seq ?_
  refine fi_region ?_
  refine so_assign rfl ?_
  refine so_nil ?_
  refine fi_seq ?_
  refine fi_region ?_
  refine so_move rfl ?_
  refine so_nilCheck rfl ?_
  refine so_fieldAddr rfl F138.fd81_0 ?_
  refine su_ld (q0 _ hs) 0 rfl rfl F138.ag2 ?_
  refine sv_call (spec_l00In_ok a0 (1 : Int) (128 : Int) hs  _ h) rfl rfl nofun ?_
  clear h hs
  rintro _ H102 ⟨y101, h, rfl, hs⟩
  refine so_move rfl ?_
  replace h := ofT h; rcases h with ⟨c103, h⟩ | ⟨c103, h⟩
  · refine so_gyes rfl c103 ?_
    refine so_move rfl ?_
    refine so_gyes rfl c103 ?_
    refine so_nilCheck rfl ?_
    refine so_gyes rfl c103 ?_
    refine so_fieldAddr rfl F138.fd81_1 ?_
    refine so_gyes rfl c103 ?_
    refine su_ld (q0 _ hs) 1 rfl rfl F138.ag2 ?_
    refine so_gyes rfl c103 ?_
    refine sv_call (spec_l00In_ok a1 (0 : Int) (24 : Int) hs  _ h) rfl rfl nofun ?_
    clear h hs
    rintro _ H105 ⟨y104, h, rfl, hs⟩
    refine so_pick_t rfl c103 rfl ?_
    refine so_move rfl ?_
    replace h := ofT h; rcases h with ⟨c106, h⟩ | ⟨c106, h⟩
    · refine so_gyes rfl c106 ?_
      refine so_move rfl ?_
      refine so_gyes rfl c106 ?_
      refine so_nilCheck rfl ?_
      refine so_gyes rfl c106 ?_
      refine so_fieldAddr rfl F138.fd81_2 ?_
      refine so_gyes rfl c106 ?_
      refine su_ld (q0 _ hs) 2 rfl rfl F138.ag72 ?_
      refine so_gyes rfl c106 ?_
      refine sv_len (g2 _ hs) (fun _ => rfl) (by decide) rfl F138.ti72 ?_
      refine so_gyes rfl c106 ?_
      refine so_bin rfl rfl ab_leq ?_
      refine so_pick_t rfl c106 rfl ?_
      refine so_assign rfl ?_
      refine so_nil ?_
      exact by_ret rfl ⟨_, h, rfl, hs⟩
    · refine so_gno rfl c106 ?_
      refine so_gno rfl c106 ?_
      refine so_gno rfl c106 ?_
      refine so_gno rfl c106 ?_
      refine so_gno rfl c106 ?_
      refine so_gno rfl c106 ?_
      refine so_pick_f rfl c106 rfl ?_
      refine so_assign rfl ?_
      refine so_nil ?_
      exact by_ret rfl ⟨_, h, rfl, hs⟩
  · refine so_gno rfl c103 ?_
    refine so_gno rfl c103 ?_
    refine so_gno rfl c103 ?_
    refine so_gno rfl c103 ?_
    refine so_gno rfl c103 ?_
    refine so_pick_f rfl c103 rfl ?_
    refine so_move rfl ?_
    refine so_gno rfl rfl ?_
    refine so_gno rfl rfl ?_
    refine so_gno rfl rfl ?_
    refine so_gno rfl rfl ?_
    refine so_gno rfl rfl ?_
    refine so_gno rfl rfl ?_
    refine so_pick_f rfl rfl rfl ?_
    refine so_assign rfl ?_
    refine so_nil ?_
    exact by_ret rfl ⟨_, h, rfl, hs⟩

end Go.Proofs.Ytfieljajhmpbiaa.G

namespace Go.Proofs.Ytfieljajhmpbiaa.G
open Go Go.Ab Go.Proofs Go.Proofs.Ytfieljajhmpbiaa
set_option maxRecDepth 100000
set_option linter.unusedVariables false
set_option linter.unusedSimpArgs false
set_option maxHeartbeats 1000000
theorem F78.ti22 : (telem Try.prog 22).isSome = true := by kernel_rfl
theorem spec_l02Is_ok {fr : List Pc} {H : Heap} (v0 : AV) (l0 : List (Nat)) (hs : Sep H (fr)) (g0 : ∀ H, Sep H fr → Shows H v0 1 (enc (eFlt .f32) l0)) (K : Bool → Prop) (h : spec_l02Is.wp l0 K) : OkQ Try.prog 78 [(.v v0)] H (fun r H2 => ∃ (y0 : Bool), K y0 ∧ r = (.v (.bool y0)) ∧ Sep H2 (fr)) := by
  unfold spec_l02Is.wp at h
  refine of_body Try.f78 F.hm Try.func78 rfl Try.call78 (by kernel_rfl) (by simp) ?_
  refine fi_seq ?_
  refine fi_region ?_
  refine so_assign rfl ?_
  refine so_nil ?_
  refine fi_seq ?_
  refine fi_region ?_
  refine so_move rfl ?_
  refine sv_len (g0 _ hs) (fun _ => rfl) (by decide) rfl F78.ti22 ?_
  refine so_bin rfl rfl ab_geq ?_
  refine so_move rfl ?_
  replace h := ofP h; rcases h with ⟨c101, h⟩ | ⟨c101, h⟩
  · refine so_gyes rfl (decide_eq_true c101) ?_
    refine so_move rfl ?_
    refine so_gyes rfl (decide_eq_true c101) ?_
    refine sv_len (g0 _ hs) (fun _ => rfl) (by decide) rfl F78.ti22 ?_
    refine so_gyes rfl (decide_eq_true c101) ?_
    refine so_bin rfl rfl ab_leq ?_
    refine so_pick_t rfl (decide_eq_true c101) rfl ?_
    refine so_move rfl ?_
    replace h := ofP h; rcases h with ⟨c102, h⟩ | ⟨c102, h⟩
    · refine so_gyes rfl (decide_eq_true c102) ?_
      refine so_move rfl ?_
      refine so_gyes rfl (decide_eq_true c102) ?_
      refine sv_call (spec_l02Finite_ok v0 l0 hs (fun _ hs => (g0 _ hs)) _ h) rfl rfl nofun ?_
      clear h hs
      rintro _ H104 ⟨y103, h, rfl, hs⟩
      refine so_pick_t rfl (decide_eq_true c102) rfl ?_
      refine so_assign rfl ?_
      refine so_nil ?_
      exact by_ret rfl ⟨_, h, rfl, hs⟩
    · refine so_gno rfl (decide_eq_false c102) ?_
      refine so_gno rfl (decide_eq_false c102) ?_
      refine so_pick_f rfl (decide_eq_false c102) rfl ?_
      refine so_assign rfl ?_
      refine so_nil ?_
      exact by_ret rfl ⟨_, h, rfl, hs⟩
  · refine so_gno rfl (decide_eq_false c101) ?_
    refine so_gno rfl (decide_eq_false c101) ?_
    refine so_gno rfl (decide_eq_false c101) ?_
    refine so_pick_f rfl (decide_eq_false c101) rfl ?_
    refine so_move rfl ?_
    refine so_gno rfl rfl ?_
    refine so_gno rfl rfl ?_
    refine so_pick_f rfl rfl rfl ?_
    refine so_assign rfl ?_
    refine so_nil ?_
    exact by_ret rfl ⟨_, h, rfl, hs⟩

end Go.Proofs.Ytfieljajhmpbiaa.G

namespace Go.Proofs.Ytfieljajhmpbiaa.G
open Go Go.Ab Go.Proofs Go.Proofs.Ytfieljajhmpbiaa
set_option maxRecDepth 100000
set_option linter.unusedVariables false
set_option linter.unusedSimpArgs false
set_option maxHeartbeats 1000000
theorem F107.ag22 : tagg Try.prog 22 = some false := by kernel_rfl
theorem F107.fd83_0 : tfield Try.prog 83 0 = some (0, 1, false) := by kernel_rfl
theorem F107.fd83_1 : tfield Try.prog 83 1 = some (1, 2, true) := by kernel_rfl
theorem F107.fd83_2 : tfield Try.prog 83 2 = some (3, 3, true) := by kernel_rfl
theorem F107.fd83_3 : tfield Try.prog 83 3 = some (6, 3, true) := by kernel_rfl
theorem spec_l08Is_ok {fr : List Pc} {H : Heap} (i0 o0 : Nat) (v0 : AV) (l0 : List (Nat)) (v1 : AV) (l1 : List (Nat)) (a2 : Nat) (a3 : Int) (a4 : Int) (v5 : AV) (l5 : List (Nat)) (a6 : Int) (a7 : Int) (v8 : AV) (l8 : List (Bool)) (hs : Sep H (fr)) (g0 : ∀ H, Sep H fr → Shows H v0 1 (enc (eFlt .f32) l0)) (g1 : ∀ H, Sep H fr → Shows H v1 1 (enc (eFlt .f32) l1)) (g5 : ∀ H, Sep H fr → Shows H v5 1 (enc (eFlt .f32) l5)) (g8 : ∀ H, Sep H fr → Shows H v8 1 (enc eBool l8)) (q0 : ∀ H, Sep H fr → PtAt H i0 o0 [v0, v1, (.flt .f32 a2), (.int .i64 a3), (.int .i64 a4), v5, (.int .i64 a6), (.int .i64 a7), v8]) (K : Bool → Prop) (h : spec_l08Is.wp l0 l1 a2 a3 a4 l5 a6 a7 l8 K) : OkQ Try.prog 107 [(.v (.ptr i0 o0))] H (fun r H2 => ∃ (y0 : Bool), K y0 ∧ r = (.v (.bool y0)) ∧ Sep H2 (fr)) := by
  unfold spec_l08Is.wp at h
  refine of_body Try.f107 F.hm Try.func107 rfl Try.call107 (by kernel_rfl) (by simp) ?_
  refine fi_seq ?_
  refine fi_region ?_
  refine so_assign rfl ?_
  refine so_nil ?_
  refine fi_seq ?_
  refine fi_region ?_
  refine so_move rfl ?_
  refine so_nilCheck rfl ?_
  refine so_fieldAddr rfl F107.fd83_0 ?_
  refine su_ld (q0 _ hs) 0 rfl rfl F107.ag22 ?_
  refine sv_call (spec_l02Is_ok v0 l0 hs (fun _ hs => (g0 _ hs)) _ h) rfl rfl nofun ?_
  clear h hs
  rintro _ H102 ⟨y101, h, rfl, hs⟩
  refine so_move rfl ?_
  replace h := ofT h; rcases h with ⟨c103, h⟩ | ⟨c103, h⟩
  · refine so_gyes rfl c103 ?_
    refine so_move rfl ?_
    refine so_gyes rfl c103 ?_
    refine so_nilCheck rfl ?_
    refine so_gyes rfl c103 ?_
    refine so_fieldAddr rfl F107.fd83_1 ?_
    refine so_gyes rfl c103 ?_
    refine sv_call (spec_l02Scheme_ok i0 (o0 + 1) v1 l1 a2 hs (fun _ hs => (g1 _ hs)) (fun _ hs => ((q0 _ hs).sub 1 2 rfl)) _ h) rfl rfl nofun ?_
    clear h hs
    rintro _ H105 ⟨y104, h, rfl, hs⟩
    refine so_pick_t rfl c103 rfl ?_
    refine so_move rfl ?_
    replace h := ofT h; rcases h with ⟨c106, h⟩ | ⟨c106, h⟩
    · refine so_gyes rfl c106 ?_
      refine so_move rfl ?_
      refine so_gyes rfl c106 ?_
      refine so_nilCheck rfl ?_
      refine so_gyes rfl c106 ?_
      refine so_fieldAddr rfl F107.fd83_2 ?_
      refine so_gyes rfl c106 ?_
      refine sv_call (spec_l04Is_ok i0 (o0 + 3) a3 a4 v5 l5 hs (fun _ hs => (g5 _ hs)) (fun _ hs => ((q0 _ hs).sub 3 3 rfl)) _ h) rfl rfl nofun ?_
      clear h hs
      rintro _ H108 ⟨y107, h, rfl, hs⟩
      refine so_pick_t rfl c106 rfl ?_
      refine so_move rfl ?_
      replace h := ofT h; rcases h with ⟨c109, h⟩ | ⟨c109, h⟩
      · refine so_gyes rfl c109 ?_
        refine so_move rfl ?_
        refine so_gyes rfl c109 ?_
        refine so_nilCheck rfl ?_
        refine so_gyes rfl c109 ?_
        refine so_fieldAddr rfl F107.fd83_3 ?_
        refine so_gyes rfl c109 ?_
        refine sv_call (spec_l06Is_ok i0 (o0 + 6) a6 a7 v8 l8 hs (fun _ hs => (g8 _ hs)) (fun _ hs => ((q0 _ hs).sub 6 3 rfl)) _ h) rfl rfl nofun ?_
        clear h hs
        rintro _ H111 ⟨y110, h, rfl, hs⟩
        refine so_pick_t rfl c109 rfl ?_
        refine so_assign rfl ?_
        refine so_nil ?_
        exact by_ret rfl ⟨_, h, rfl, hs⟩
      · refine so_gno rfl c109 ?_
        refine so_gno rfl c109 ?_
        refine so_gno rfl c109 ?_
        refine so_gno rfl c109 ?_
        refine so_pick_f rfl c109 rfl ?_
        refine so_assign rfl ?_
        refine so_nil ?_
        exact by_ret rfl ⟨_, h, rfl, hs⟩
    · refine so_gno rfl c106 ?_
      refine so_gno rfl c106 ?_
      refine so_gno rfl c106 ?_
      refine so_gno rfl c106 ?_
      refine so_pick_f rfl c106 rfl ?_
      refine so_move rfl ?_
      refine so_gno rfl rfl ?_
      refine so_gno rfl rfl ?_
      refine so_gno rfl rfl ?_
      refine so_gno rfl rfl ?_
      refine so_pick_f rfl rfl rfl ?_
      refine so_assign rfl ?_
      refine so_nil ?_
      exact by_ret rfl ⟨_, h, rfl, hs⟩
  · refine so_gno rfl c103 ?_
    refine so_gno rfl c103 ?_
    refine so_gno rfl c103 ?_
    refine so_gno rfl c103 ?_
    refine so_pick_f rfl c103 rfl ?_
    refine so_move rfl ?_
    refine so_gno rfl rfl ?_
    refine so_gno rfl rfl ?_
    refine so_gno rfl rfl ?_
    refine so_gno rfl rfl ?_
    refine so_pick_f rfl rfl rfl ?_
    refine so_move rfl ?_
    refine so_gno rfl rfl ?_
    refine so_gno rfl rfl ?_
    refine so_gno rfl rfl ?_
    refine so_gno rfl rfl ?_
    refine so_pick_f rfl rfl rfl ?_
    refine so_assign rfl ?_
    refine so_nil ?_
    exact by_ret rfl ⟨_, h, rfl, hs⟩

end Go.Proofs.Ytfieljajhmpbiaa.G

namespace Go.Proofs.Ytfieljajhmpbiaa.G
open Go Go.Ab Go.Proofs Go.Proofs.Ytfieljajhmpbiaa
set_option maxRecDepth 100000
set_option linter.unusedVariables false
set_option linter.unusedSimpArgs false
set_option maxHeartbeats 1000000
theorem F54.inf83 : (Try.prog.info? 83).isSome = true := by kernel_rfl
theorem spec_ValidDesk_ok {fr : List Pc} {H : Heap} (v0 : AV) (l0 : List (Nat)) (v1 : AV) (l1 : List (Nat)) (a2 : Nat) (a3 : Int) (a4 : Int) (v5 : AV) (l5 : List (Nat)) (a6 : Int) (a7 : Int) (v8 : AV) (l8 : List (Bool)) (hs : Sep H (fr)) (g0 : ∀ H, Sep H fr → Shows H v0 1 (enc (eFlt .f32) l0)) (g1 : ∀ H, Sep H fr → Shows H v1 1 (enc (eFlt .f32) l1)) (g5 : ∀ H, Sep H fr → Shows H v5 1 (enc (eFlt .f32) l5)) (g8 : ∀ H, Sep H fr → Shows H v8 1 (enc eBool l8)) (K : Bool → Prop) (h : spec_ValidDesk.wp l0 l1 a2 a3 a4 l5 a6 a7 l8 K) : OkQ Try.prog 54 [(.g [v0, v1, (.flt .f32 a2), (.int .i64 a3), (.int .i64 a4), v5, (.int .i64 a6), (.int .i64 a7), v8])] H (fun r H2 => ∃ (y0 : Bool), K y0 ∧ r = (.v (.bool y0)) ∧ Sep H2 (fr)) := by
  unfold spec_ValidDesk.wp at h
  refine of_body Try.f54 F.hm Try.func54 rfl Try.call54 (by kernel_rfl) (by simp) ?_
  refine fi_seq ?_
  refine fi_region ?_
  refine sv_box hs rfl (c := [v0, v1, (.flt .f32 a2), (.int .i64 a3), (.int .i64 a4), v5, (.int .i64 a6), (.int .i64 a7), v8]) rfl F54.inf83 (stc (g0 _ hs).stor (stc (g1 _ hs).stor (stc rfl (stc rfl (stc rfl (stc (g5 _ hs).stor (stc rfl (stc rfl (stc (g8 _ hs).stor stn))))))))) nofun (fun id101 H102 hs => ?_)
  refine so_assign rfl ?_
  refine so_nil ?_
  refine fi_seq ?_
  refine fi_region ?_
  refine sv_call (spec_l08Is_ok id101 0 v0 l0 v1 l1 a2 a3 a4 v5 l5 a6 a7 v8 l8 hs (fun _ hs => (g0 _ hs.tl)) (fun _ hs => (g1 _ hs.tl)) (fun _ hs => (g5 _ hs.tl)) (fun _ hs => (g8 _ hs.tl)) (fun _ hs => (hs.ptat 0 rfl)) _ h) rfl rfl nofun ?_
  clear h hs
  rintro _ H105 ⟨y104, h, rfl, hs⟩
  refine so_assign rfl ?_
  refine so_nil ?_
  exact by_ret rfl ⟨_, h, rfl, (Sep.del 0 hs)⟩

end Go.Proofs.Ytfieljajhmpbiaa.G

namespace Go.Proofs.Ytfieljajhmpbiaa.G
open Go Go.Ab Go.Proofs Go.Proofs.Ytfieljajhmpbiaa
set_option maxRecDepth 100000
set_option linter.unusedVariables false
set_option linter.unusedSimpArgs false
set_option maxHeartbeats 1000000
theorem F21.ag36 : tagg Try.prog 36 = some false := by kernel_rfl
theorem F21.by36 : tbytes Try.prog 36 = some 4 := by kernel_rfl
theorem F21.sz36 : tsz Try.prog 36 = some 1 := by kernel_rfl
theorem F21.te22 : telem Try.prog 22 = some 36 := by kernel_rfl
theorem F21.ti22 : (telem Try.prog 22).isSome = true := by kernel_rfl
theorem F21.tl22 : (telem Try.prog 22).bind (tsz Try.prog) = some 1 := by kernel_rfl
theorem F21.ze36 : tzero Try.prog 36 = some [(.flt .f32 (0 : Nat))] := by kernel_rfl
theorem laws_toFloat32S_ok {fr : List Pc} {H : Heap} (v0 : AV) (l0 : List (Nat)) (hs : Sep H (fr)) (g0 : ∀ H, Sep H fr → Shows H v0 1 (enc (eFlt .f32) l0)) (K : (List (Nat)) → Prop) (h : laws_toFloat32S.wp l0 K) : OkQ Try.prog 21 [(.v v0)] H (fun r H2 => ∃ (y0 : List (Nat)), K y0 ∧ ∃ (w0_ : AV), r = (.v w0_) ∧ Sep H2 (Pc.osl w0_ 1 (enc (eFlt .f32) y0) :: fr)) := by
  unfold laws_toFloat32S.wp at h
  refine of_body Try.f21 F.hm Try.func21 rfl Try.call21 (by kernel_rfl) (by simp) ?_
  refine fi_seq ?_
  refine fi_region ?_
  refine so_assign rfl ?_
  refine so_nil ?_
  refine fi_seq ?_
  refine fi_region ?_
  refine so_move rfl ?_
  refine sv_len (g0 _ hs) (fun _ => rfl) (by decide) rfl F21.ti22 ?_
  obtain ⟨c101, h⟩ := h
  refine sv_make hs (eFlt .f32) (0 : Nat) c101 (fun _ => rfl) rfl rfl F21.te22 F21.sz36 F21.by36 F21.ze36 rfl rfl nofun (fun v102 H103 nv102 hs => ?_)
  refine so_assign rfl ?_
  refine so_nil ?_
  refine fi_seq ?_
  refine fi_seq ?_
  refine fi_region ?_
  refine so_assign rfl ?_
  refine so_nil ?_
  refine fi_block ?_
  refine fi_loop ?_
  refine fi_at [(0, (.v v0)), (3, (.v v102)), (4, (.v (.int .i64 (0 : Int))))] ⟨rfl, rfl, rfl, trivial⟩ ?_
  refine h (fun (out112 : List (Nat)) (i113 : Int) => ∀ (s : Nat → TV) (H : Heap), Sep H (Pc.osl v102 1 (enc (eFlt .f32) out112) :: fr) → Fin _ _ (updL s [(0, (.v v0)), (3, (.v v102)), (4, (.v (.int .i64 i113)))]) H _) ?_ _ _ hs
  intro out112 i113 h s118 H119 hs
  refine fi_inLoop ?_
  refine fi_seq ?_
  refine fi_seq ?_
  refine fi_region ?_
  refine so_move rfl ?_
  refine so_move rfl ?_
  refine sv_len (g0 _ hs.tl) (fun _ => rfl) (by decide) rfl F21.ti22 ?_
  refine so_bin rfl rfl ab_lss ?_
  refine so_nil ?_
  replace h := ofP h; rcases h with ⟨c114, h⟩ | ⟨c114, h⟩
  · refine fi_true rfl (decide_eq_true c114) ?_
    refine fi_skip ?_
    refine fi_seq ?_
    refine fi_block ?_
    refine fi_region ?_
    refine so_move rfl ?_
    refine so_move rfl ?_
    refine so_move rfl ?_
    refine so_move rfl ?_
    obtain ⟨c115, h⟩ := h
    refine sv_idx (g0 _ hs.tl) c115 (fun _ => rfl) (by decide) rfl rfl F21.tl22 ?_
    refine sv_cell (g0 _ hs.tl) c115 (0 : Nat) 0 (fun x => (AV.flt .f32 x)) (fun _ => rfl) (fun _ => rfl) rfl F21.ag36 ?_
    obtain ⟨c116, h⟩ := h
    refine sv_idx (hs.shows 0 rfl) c116 (fun _ => rfl) (by decide) rfl rfl F21.tl22 ?_
    refine sv_set hs 0 rfl c116 (l0.getD (i113).toNat (0 : Nat)) (fun _ => rfl) (by decide) rfl rfl rfl rfl F21.sz36 nofun (fun H117 hs => ?_)
    refine so_nil ?_
    refine fi_inBlock ?_
    refine fi_region ?_
    refine so_move rfl ?_
    refine so_bin rfl rfl ab_add ?_
    refine so_assign rfl ?_
    refine so_nil ?_
    exact fi_at [(0, (.v v0)), (3, (.v v102)), (4, (.v (.int .i64 (IntKind.i64.wrap (i113 + (1 : Int))))))] ⟨rfl, rfl, rfl, trivial⟩ (h _ _  hs)
  · refine fi_false rfl (decide_eq_false c114) ?_
    refine fi_exit rfl ?_
    refine fi_seq ?_
    refine fi_region ?_
    refine so_move rfl ?_
    refine so_assign rfl ?_
    refine so_nil ?_
    exact by_ret rfl ⟨_, h, _, rfl, hs⟩

end Go.Proofs.Ytfieljajhmpbiaa.G

namespace Go.Proofs.Ytfieljajhmpbiaa.G
open Go Go.Ab Go.Proofs Go.Proofs.Ytfieljajhmpbiaa
set_option maxRecDepth 100000
set_option linter.unusedVariables false
set_option linter.unusedSimpArgs false
set_option maxHeartbeats 1000000
theorem F108.ag22 : tagg Try.prog 22 = some false := by kernel_rfl
theorem F108.ag36 : tagg Try.prog 36 = some false := by kernel_rfl
theorem F108.ag79 : tagg Try.prog 79 = some true := by kernel_rfl
theorem F108.fd69_0 : tfield Try.prog 69 0 = some (0, 1, false) := by kernel_rfl
theorem F108.fd69_1 : tfield Try.prog 69 1 = some (1, 1, false) := by kernel_rfl
theorem F108.fd79_0 : tfield Try.prog 79 0 = some (0, 1, false) := by kernel_rfl
theorem F108.fd79_1 : tfield Try.prog 79 1 = some (1, 1, false) := by kernel_rfl
theorem F108.inf69 : (Try.prog.info? 69).isSome = true := by kernel_rfl
theorem F108.sz22 : tsz Try.prog 22 = some 1 := by kernel_rfl
theorem F108.sz36 : tsz Try.prog 36 = some 1 := by kernel_rfl
theorem F108.sz79 : tsz Try.prog 79 = some 2 := by kernel_rfl
theorem F108.ze79 : tzero Try.prog 79 = some [.nilsl, (.flt .f32 (0 : Nat))] := by kernel_rfl
theorem laws_toScheme_ok {fr : List Pc} {H : Heap} (v0 : AV) (l0 : List (Nat)) (a1 : Nat) (hs : Sep H (fr)) (g0 : ∀ H, Sep H fr → Shows H v0 1 (enc (eFlt .f32) l0)) (K : (List (Nat)) → Nat → Prop) (h : laws_toScheme.wp l0 a1 K) : OkQ Try.prog 108 [(.g [v0, (.flt .f32 a1)])] H (fun r H2 => ∃ (y0 : List (Nat)) (y1 : Nat), K y0 y1 ∧ ∃ (w0_ : AV), r = (.g [w0_, (.flt .f32 y1)]) ∧ Sep H2 (Pc.osl w0_ 1 (enc (eFlt .f32) y0) :: fr)) := by
  unfold laws_toScheme.wp at h
  refine of_body Try.f108 F.hm Try.func108 rfl Try.call108 (by kernel_rfl) (by simp) ?_
  refine fi_seq ?_
  refine fi_region ?_
  refine sv_box hs rfl (c := [v0, (.flt .f32 a1)]) rfl F108.inf69 (stc (g0 _ hs).stor (stc rfl stn)) nofun (fun id101 H102 hs => ?_)
  refine sv_alloc hs F108.ze79 rfl nofun (fun id104 H105 hs => ?_)
  refine so_nil ?_
  refine fi_seq ?_
  refine fi_region ?_
  refine sv_alloc hs F108.ze79 rfl nofun (fun id107 H108 hs => ?_)
  refine so_nil ?_
  refine fi_seq ?_
  refine fi_region ?_
  refine so_fieldAddr rfl F108.fd69_0 ?_
  refine sv_ld hs 2 rfl rfl rfl F108.ag22 ?_
  refine sv_call (laws_toFloat32S_ok v0 l0 hs (fun _ hs => (g0 _ hs.tl.tl.tl)) _ h) rfl rfl nofun ?_
  clear h hs
  rintro _ H113 ⟨y110, h, v111, rfl, hs⟩
  refine so_fieldAddr rfl F108.fd79_0 ?_
  refine sv_st hs 1 rfl rfl rfl (c := [v111]) rfl F108.sz22 rfl (stc (hs.shows 0 rfl).stor stn) (leb rfl) (cs' := [v111, (.flt .f32 (0 : Nat))]) rfl nofun (fun H114 hs => ?_)
  refine so_nil ?_
  refine fi_seq ?_
  refine fi_region ?_
  refine so_fieldAddr rfl F108.fd69_1 ?_
  refine sv_ld hs 3 rfl rfl rfl F108.ag36 ?_
  refine so_fieldAddr rfl F108.fd79_1 ?_
  refine sv_st hs 1 rfl rfl rfl (c := [(.flt .f32 a1)]) rfl F108.sz36 rfl (stc rfl stn) (leb rfl) (cs' := [v111, (.flt .f32 a1)]) rfl nofun (fun H115 hs => ?_)
  refine so_nil ?_
  refine fi_seq ?_
  refine fi_region ?_
  refine sv_lds hs 1 rfl rfl (leb rfl) rfl F108.ag79 F108.sz79 ?_
  refine sv_st hs 2 rfl rfl rfl (c := [v111, (.flt .f32 a1)]) rfl F108.sz79 rfl (stc (hs.shows 0 rfl).stor (stc rfl stn)) (leb rfl) (cs' := [v111, (.flt .f32 a1)]) rfl nofun (fun H116 hs => ?_)
  refine so_nil ?_
  exact by_ret (res_mk (ar_cells rfl F108.ag79 F108.sz79 (hs.lds 2 rfl (leb rfl) rfl) ar_nil) rfl) ⟨_, _, h, _, rfl, (Sep.del 1 (Sep.del 1 (Sep.del 1 hs)))⟩

end Go.Proofs.Ytfieljajhmpbiaa.G

namespace Go.Proofs.Ytfieljajhmpbiaa.G
open Go Go.Ab Go.Proofs Go.Proofs.Ytfieljajhmpbiaa
set_option maxRecDepth 100000
set_option linter.unusedVariables false
set_option linter.unusedSimpArgs false
set_option maxHeartbeats 1000000
theorem F109.ag2 : tagg Try.prog 2 = some false := by kernel_rfl
theorem F109.ag22 : tagg Try.prog 22 = some false := by kernel_rfl
theorem F109.ag80 : tagg Try.prog 80 = some true := by kernel_rfl
theorem F109.fd71_0 : tfield Try.prog 71 0 = some (0, 1, false) := by kernel_rfl
theorem F109.fd71_1 : tfield Try.prog 71 1 = some (1, 1, false) := by kernel_rfl
theorem F109.fd71_2 : tfield Try.prog 71 2 = some (2, 1, false) := by kernel_rfl
theorem F109.fd80_0 : tfield Try.prog 80 0 = some (0, 1, false) := by kernel_rfl
theorem F109.fd80_1 : tfield Try.prog 80 1 = some (1, 1, false) := by kernel_rfl
theorem F109.fd80_2 : tfield Try.prog 80 2 = some (2, 1, false) := by kernel_rfl
theorem F109.inf71 : (Try.prog.info? 71).isSome = true := by kernel_rfl
theorem F109.sz2 : tsz Try.prog 2 = some 1 := by kernel_rfl
theorem F109.sz22 : tsz Try.prog 22 = some 1 := by kernel_rfl
theorem F109.sz80 : tsz Try.prog 80 = some 3 := by kernel_rfl
theorem F109.ze80 : tzero Try.prog 80 = some [(.int .i64 (0 : Int)), (.int .i64 (0 : Int)), .nilsl] := by kernel_rfl
theorem laws_toPicture_ok {fr : List Pc} {H : Heap} (a0 : Int) (a1 : Int) (v2 : AV) (l2 : List (Nat)) (hs : Sep H (fr)) (g2 : ∀ H, Sep H fr → Shows H v2 1 (enc (eFlt .f32) l2)) (K : Int → Int → (List (Nat)) → Prop) (h : laws_toPicture.wp a0 a1 l2 K) : OkQ Try.prog 109 [(.g [(.int .i64 a0), (.int .i64 a1), v2])] H (fun r H2 => ∃ (y0 : Int) (y1 : Int) (y2 : List (Nat)), K y0 y1 y2 ∧ ∃ (w0_ : AV), r = (.g [(.int .i64 y0), (.int .i64 y1), w0_]) ∧ Sep H2 (Pc.osl w0_ 1 (enc (eFlt .f32) y2) :: fr)) := by
  unfold laws_toPicture.wp at h
  refine of_body Try.f109 F.hm Try.func109 rfl Try.call109 (by kernel_rfl) (by simp) ?_
  refine fi_seq ?_
  refine fi_region ?_
  refine sv_box hs rfl (c := [(.int .i64 a0), (.int .i64 a1), v2]) rfl F109.inf71 (stc rfl (stc rfl (stc (g2 _ hs).stor stn))) nofun (fun id101 H102 hs => ?_)
  refine sv_alloc hs F109.ze80 rfl nofun (fun id104 H105 hs => ?_)
  refine so_nil ?_
  refine fi_seq ?_
  refine fi_region ?_
  refine sv_alloc hs F109.ze80 rfl nofun (fun id107 H108 hs => ?_)
  refine so_nil ?_
  refine fi_seq ?_
  refine fi_region ?_
  refine so_fieldAddr rfl F109.fd71_0 ?_
  refine sv_ld hs 2 rfl rfl rfl F109.ag2 ?_
  refine so_fieldAddr rfl F109.fd80_0 ?_
  refine sv_st hs 0 rfl rfl rfl (c := [(.int .i64 a0)]) rfl F109.sz2 rfl (stc rfl stn) (leb rfl) (cs' := [(.int .i64 a0), (.int .i64 (0 : Int)), .nilsl]) rfl nofun (fun H110 hs => ?_)
  refine so_nil ?_
  refine fi_seq ?_
  refine fi_region ?_
  refine so_fieldAddr rfl F109.fd71_1 ?_
  refine sv_ld hs 2 rfl rfl rfl F109.ag2 ?_
  refine so_fieldAddr rfl F109.fd80_1 ?_
  refine sv_st hs 0 rfl rfl rfl (c := [(.int .i64 a1)]) rfl F109.sz2 rfl (stc rfl stn) (leb rfl) (cs' := [(.int .i64 a0), (.int .i64 a1), .nilsl]) rfl nofun (fun H111 hs => ?_)
  refine so_nil ?_
  refine fi_seq ?_
  refine fi_region ?_
  refine so_fieldAddr rfl F109.fd71_2 ?_
  refine sv_ld hs 2 rfl rfl rfl F109.ag22 ?_
  refine sv_call (laws_toFloat32S_ok v2 l2 hs (fun _ hs => (g2 _ hs.tl.tl.tl)) _ h) rfl rfl nofun ?_
  clear h hs
  rintro _ H115 ⟨y112, h, v113, rfl, hs⟩
  refine so_fieldAddr rfl F109.fd80_2 ?_
  refine sv_st hs 1 rfl rfl rfl (c := [v113]) rfl F109.sz22 rfl (stc (hs.shows 0 rfl).stor stn) (leb rfl) (cs' := [(.int .i64 a0), (.int .i64 a1), v113]) rfl nofun (fun H116 hs => ?_)
  refine so_nil ?_
  refine fi_seq ?_
  refine fi_region ?_
  refine sv_lds hs 1 rfl rfl (leb rfl) rfl F109.ag80 F109.sz80 ?_
  refine sv_st hs 2 rfl rfl rfl (c := [(.int .i64 a0), (.int .i64 a1), v113]) rfl F109.sz80 rfl (stc rfl (stc rfl (stc (hs.shows 0 rfl).stor stn))) (leb rfl) (cs' := [(.int .i64 a0), (.int .i64 a1), v113]) rfl nofun (fun H117 hs => ?_)
  refine so_nil ?_
  exact by_ret (res_mk (ar_cells rfl F109.ag80 F109.sz80 (hs.lds 2 rfl (leb rfl) rfl) ar_nil) rfl) ⟨_, _, _, h, _, rfl, (Sep.del 1 (Sep.del 1 (Sep.del 1 hs)))⟩

end Go.Proofs.Ytfieljajhmpbiaa.G

namespace Go.Proofs.Ytfieljajhmpbiaa.G
open Go Go.Ab Go.Proofs Go.Proofs.Ytfieljajhmpbiaa
set_option maxRecDepth 100000
set_option linter.unusedVariables false
set_option linter.unusedSimpArgs false
set_option maxHeartbeats 1000000
theorem F139.ag4 : tagg Try.prog 4 = some false := by kernel_rfl
theorem F139.by4 : tbytes Try.prog 4 = some 1 := by kernel_rfl
theorem F139.sz4 : tsz Try.prog 4 = some 1 := by kernel_rfl
theorem F139.te72 : telem Try.prog 72 = some 4 := by kernel_rfl
theorem F139.ti72 : (telem Try.prog 72).isSome = true := by kernel_rfl
theorem F139.tl72 : (telem Try.prog 72).bind (tsz Try.prog) = some 1 := by kernel_rfl
theorem F139.ze4 : tzero Try.prog 4 = some [(.bool false)] := by kernel_rfl
theorem laws_toBoolS_ok {fr : List Pc} {H : Heap} (v0 : AV) (l0 : List (Bool)) (hs : Sep H (fr)) (g0 : ∀ H, Sep H fr → Shows H v0 1 (enc eBool l0)) (K : (List (Bool)) → Prop) (h : laws_toBoolS.wp l0 K) : OkQ Try.prog 139 [(.v v0)] H (fun r H2 => ∃ (y0 : List (Bool)), K y0 ∧ ∃ (w0_ : AV), r = (.v w0_) ∧ Sep H2 (Pc.osl w0_ 1 (enc eBool y0) :: fr)) := by
  unfold laws_toBoolS.wp at h
  refine of_body Try.f139 F.hm Try.func139 rfl Try.call139 (by kernel_rfl) (by simp) ?_
  refine fi_seq ?_
  refine fi_region ?_
  refine so_assign rfl ?_
  refine so_nil ?_
  refine fi_seq ?_
  refine fi_region ?_
  refine so_move rfl ?_
  refine sv_len (g0 _ hs) (fun _ => rfl) (by decide) rfl F139.ti72 ?_
  obtain ⟨c101, h⟩ := h
  refine sv_make hs eBool false c101 (fun _ => rfl) rfl rfl F139.te72 F139.sz4 F139.by4 F139.ze4 rfl rfl nofun (fun v102 H103 nv102 hs => ?_)
  refine so_assign rfl ?_
  refine so_nil ?_
  refine fi_seq ?_
  refine fi_seq ?_
  refine fi_region ?_
  refine so_assign rfl ?_
  refine so_nil ?_
  refine fi_block ?_
  refine fi_loop ?_
  refine fi_at [(0, (.v v0)), (3, (.v v102)), (4, (.v (.int .i64 (0 : Int))))] ⟨rfl, rfl, rfl, trivial⟩ ?_
  refine h (fun (out112 : List (Bool)) (i113 : Int) => ∀ (s : Nat → TV) (H : Heap), Sep H (Pc.osl v102 1 (enc eBool out112) :: fr) → Fin _ _ (updL s [(0, (.v v0)), (3, (.v v102)), (4, (.v (.int .i64 i113)))]) H _) ?_ _ _ hs
  intro out112 i113 h s118 H119 hs
  refine fi_inLoop ?_
  refine fi_seq ?_
  refine fi_seq ?_
  refine fi_region ?_
  refine so_move rfl ?_
  refine so_move rfl ?_
  refine sv_len (g0 _ hs.tl) (fun _ => rfl) (by decide) rfl F139.ti72 ?_
  refine so_bin rfl rfl ab_lss ?_
  refine so_nil ?_
  replace h := ofP h; rcases h with ⟨c114, h⟩ | ⟨c114, h⟩
  · refine fi_true rfl (decide_eq_true c114) ?_
    refine fi_skip ?_
    refine fi_seq ?_
    refine fi_block ?_
    refine fi_region ?_
    refine so_move rfl ?_
    refine so_move rfl ?_
    refine so_move rfl ?_
    refine so_move rfl ?_
    obtain ⟨c115, h⟩ := h
    refine sv_idx (g0 _ hs.tl) c115 (fun _ => rfl) (by decide) rfl rfl F139.tl72 ?_
    refine sv_cell (g0 _ hs.tl) c115 false 0 (fun x => (AV.bool x)) (fun _ => rfl) (fun _ => rfl) rfl F139.ag4 ?_
    obtain ⟨c116, h⟩ := h
    refine sv_idx (hs.shows 0 rfl) c116 (fun _ => rfl) (by decide) rfl rfl F139.tl72 ?_
    refine sv_set hs 0 rfl c116 (l0.getD (i113).toNat false) (fun _ => rfl) (by decide) rfl rfl rfl rfl F139.sz4 nofun (fun H117 hs => ?_)
    refine so_nil ?_
    refine fi_inBlock ?_
    refine fi_region ?_
    refine so_move rfl ?_
    refine so_bin rfl rfl ab_add ?_
    refine so_assign rfl ?_
    refine so_nil ?_
    exact fi_at [(0, (.v v0)), (3, (.v v102)), (4, (.v (.int .i64 (IntKind.i64.wrap (i113 + (1 : Int))))))] ⟨rfl, rfl, rfl, trivial⟩ (h _ _  hs)
  · refine fi_false rfl (decide_eq_false c114) ?_
    refine fi_exit rfl ?_
    refine fi_seq ?_
    refine fi_region ?_
    refine so_move rfl ?_
    refine so_assign rfl ?_
    refine so_nil ?_
    exact by_ret rfl ⟨_, h, _, rfl, hs⟩

end Go.Proofs.Ytfieljajhmpbiaa.G

namespace Go.Proofs.Ytfieljajhmpbiaa.G
open Go Go.Ab Go.Proofs Go.Proofs.Ytfieljajhmpbiaa
set_option maxRecDepth 100000
set_option linter.unusedVariables false
set_option linter.unusedSimpArgs false
set_option maxHeartbeats 1000000
theorem F110.ag2 : tagg Try.prog 2 = some false := by kernel_rfl
theorem F110.ag72 : tagg Try.prog 72 = some false := by kernel_rfl
theorem F110.ag81 : tagg Try.prog 81 = some true := by kernel_rfl
theorem F110.fd74_0 : tfield Try.prog 74 0 = some (0, 1, false) := by kernel_rfl
theorem F110.fd74_1 : tfield Try.prog 74 1 = some (1, 1, false) := by kernel_rfl
theorem F110.fd74_2 : tfield Try.prog 74 2 = some (2, 1, false) := by kernel_rfl
theorem F110.fd81_0 : tfield Try.prog 81 0 = some (0, 1, false) := by kernel_rfl
theorem F110.fd81_1 : tfield Try.prog 81 1 = some (1, 1, false) := by kernel_rfl
theorem F110.fd81_2 : tfield Try.prog 81 2 = some (2, 1, false) := by kernel_rfl
theorem F110.inf74 : (Try.prog.info? 74).isSome = true := by kernel_rfl
theorem F110.sz2 : tsz Try.prog 2 = some 1 := by kernel_rfl
theorem F110.sz72 : tsz Try.prog 72 = some 1 := by kernel_rfl
theorem F110.sz81 : tsz Try.prog 81 = some 3 := by kernel_rfl
theorem F110.ze81 : tzero Try.prog 81 = some [(.int .i64 (0 : Int)), (.int .i64 (0 : Int)), .nilsl] := by kernel_rfl
theorem laws_toCoded_ok {fr : List Pc} {H : Heap} (a0 : Int) (a1 : Int) (v2 : AV) (l2 : List (Bool)) (hs : Sep H (fr)) (g2 : ∀ H, Sep H fr → Shows H v2 1 (enc eBool l2)) (K : Int → Int → (List (Bool)) → Prop) (h : laws_toCoded.wp a0 a1 l2 K) : OkQ Try.prog 110 [(.g [(.int .i64 a0), (.int .i64 a1), v2])] H (fun r H2 => ∃ (y0 : Int) (y1 : Int) (y2 : List (Bool)), K y0 y1 y2 ∧ ∃ (w0_ : AV), r = (.g [(.int .i64 y0), (.int .i64 y1), w0_]) ∧ Sep H2 (Pc.osl w0_ 1 (enc eBool y2) :: fr)) := by
  unfold laws_toCoded.wp at h
  refine of_body Try.f110 F.hm Try.func110 rfl Try.call110 (by kernel_rfl) (by simp) ?_
  refine fi_seq ?_
  refine fi_region ?_
  refine sv_box hs rfl (c := [(.int .i64 a0), (.int .i64 a1), v2]) rfl F110.inf74 (stc rfl (stc rfl (stc (g2 _ hs).stor stn))) nofun (fun id101 H102 hs => ?_)
  refine sv_alloc hs F110.ze81 rfl nofun (fun id104 H105 hs => ?_)
  refine so_nil ?_
  refine fi_seq ?_
  refine fi_region ?_
  refine sv_alloc hs F110.ze81 rfl nofun (fun id107 H108 hs => ?_)
  refine so_nil ?_
  refine fi_seq ?_
  refine fi_region ?_
  refine so_fieldAddr rfl F110.fd74_0 ?_
  refine sv_ld hs 2 rfl rfl rfl F110.ag2 ?_
  refine so_fieldAddr rfl F110.fd81_0 ?_
  refine sv_st hs 0 rfl rfl rfl (c := [(.int .i64 a0)]) rfl F110.sz2 rfl (stc rfl stn) (leb rfl) (cs' := [(.int .i64 a0), (.int .i64 (0 : Int)), .nilsl]) rfl nofun (fun H110 hs => ?_)
  refine so_nil ?_
  refine fi_seq ?_
  refine fi_region ?_
  refine so_fieldAddr rfl F110.fd74_1 ?_
  refine sv_ld hs 2 rfl rfl rfl F110.ag2 ?_
  refine so_fieldAddr rfl F110.fd81_1 ?_
  refine sv_st hs 0 rfl rfl rfl (c := [(.int .i64 a1)]) rfl F110.sz2 rfl (stc rfl stn) (leb rfl) (cs' := [(.int .i64 a0), (.int .i64 a1), .nilsl]) rfl nofun (fun H111 hs => ?_)
  refine so_nil ?_
  refine fi_seq ?_
  refine fi_region ?_
  refine so_fieldAddr rfl F110.fd74_2 ?_
  refine sv_ld hs 2 rfl rfl rfl F110.ag72 ?_
  refine sv_call (laws_toBoolS_ok v2 l2 hs (fun _ hs => (g2 _ hs.tl.tl.tl)) _ h) rfl rfl nofun ?_
  clear h hs
  rintro _ H115 ⟨y112, h, v113, rfl, hs⟩
  refine so_fieldAddr rfl F110.fd81_2 ?_
  refine sv_st hs 1 rfl rfl rfl (c := [v113]) rfl F110.sz72 rfl (stc (hs.shows 0 rfl).stor stn) (leb rfl) (cs' := [(.int .i64 a0), (.int .i64 a1), v113]) rfl nofun (fun H116 hs => ?_)
  refine so_nil ?_
  refine fi_seq ?_
  refine fi_region ?_
  refine sv_lds hs 1 rfl rfl (leb rfl) rfl F110.ag81 F110.sz81 ?_
  refine sv_st hs 2 rfl rfl rfl (c := [(.int .i64 a0), (.int .i64 a1), v113]) rfl F110.sz81 rfl (stc rfl (stc rfl (stc (hs.shows 0 rfl).stor stn))) (leb rfl) (cs' := [(.int .i64 a0), (.int .i64 a1), v113]) rfl nofun (fun H117 hs => ?_)
  refine so_nil ?_
  exact by_ret (res_mk (ar_cells rfl F110.ag81 F110.sz81 (hs.lds 2 rfl (leb rfl) rfl) ar_nil) rfl) ⟨_, _, _, h, _, rfl, (Sep.del 1 (Sep.del 1 (Sep.del 1 hs)))⟩

end Go.Proofs.Ytfieljajhmpbiaa.G

namespace Go.Proofs.Ytfieljajhmpbiaa.G
open Go Go.Ab Go.Proofs Go.Proofs.Ytfieljajhmpbiaa
set_option maxRecDepth 100000
set_option linter.unusedVariables false
set_option linter.unusedSimpArgs false
set_option maxHeartbeats 1000000
theorem F55.ag22 : tagg Try.prog 22 = some false := by kernel_rfl
theorem F55.ag69 : tagg Try.prog 69 = some true := by kernel_rfl
theorem F55.ag71 : tagg Try.prog 71 = some true := by kernel_rfl
theorem F55.ag74 : tagg Try.prog 74 = some true := by kernel_rfl
theorem F55.ag83 : tagg Try.prog 83 = some true := by kernel_rfl
theorem F55.fd76_0 : tfield Try.prog 76 0 = some (0, 1, false) := by kernel_rfl
theorem F55.fd76_1 : tfield Try.prog 76 1 = some (1, 2, true) := by kernel_rfl
theorem F55.fd76_2 : tfield Try.prog 76 2 = some (3, 3, true) := by kernel_rfl
theorem F55.fd76_3 : tfield Try.prog 76 3 = some (6, 3, true) := by kernel_rfl
theorem F55.fd83_0 : tfield Try.prog 83 0 = some (0, 1, false) := by kernel_rfl
theorem F55.fd83_1 : tfield Try.prog 83 1 = some (1, 2, true) := by kernel_rfl
theorem F55.fd83_2 : tfield Try.prog 83 2 = some (3, 3, true) := by kernel_rfl
theorem F55.fd83_3 : tfield Try.prog 83 3 = some (6, 3, true) := by kernel_rfl
theorem F55.inf76 : (Try.prog.info? 76).isSome = true := by kernel_rfl
theorem F55.sz22 : tsz Try.prog 22 = some 1 := by kernel_rfl
theorem F55.sz69 : tsz Try.prog 69 = some 2 := by kernel_rfl
theorem F55.sz71 : tsz Try.prog 71 = some 3 := by kernel_rfl
theorem F55.sz74 : tsz Try.prog 74 = some 3 := by kernel_rfl
theorem F55.sz79 : tsz Try.prog 79 = some 2 := by kernel_rfl
theorem F55.sz80 : tsz Try.prog 80 = some 3 := by kernel_rfl
theorem F55.sz81 : tsz Try.prog 81 = some 3 := by kernel_rfl
theorem F55.sz83 : tsz Try.prog 83 = some 9 := by kernel_rfl
theorem F55.ze83 : tzero Try.prog 83 = some [.nilsl, .nilsl, (.flt .f32 (0 : Nat)), (.int .i64 (0 : Int)), (.int .i64 (0 : Int)), .nilsl, (.int .i64 (0 : Int)), (.int .i64 (0 : Int)), .nilsl] := by kernel_rfl
theorem laws_toDesk_ok {fr : List Pc} {H : Heap} (v0 : AV) (l0 : List (Nat)) (v1 : AV) (l1 : List (Nat)) (a2 : Nat) (a3 : Int) (a4 : Int) (v5 : AV) (l5 : List (Nat)) (a6 : Int) (a7 : Int) (v8 : AV) (l8 : List (Bool)) (hs : Sep H (fr)) (g0 : ∀ H, Sep H fr → Shows H v0 1 (enc (eFlt .f32) l0)) (g1 : ∀ H, Sep H fr → Shows H v1 1 (enc (eFlt .f32) l1)) (g5 : ∀ H, Sep H fr → Shows H v5 1 (enc (eFlt .f32) l5)) (g8 : ∀ H, Sep H fr → Shows H v8 1 (enc eBool l8)) (K : (List (Nat)) → (List (Nat)) → Nat → Int → Int → (List (Nat)) → Int → Int → (List (Bool)) → Prop) (h : laws_toDesk.wp l0 l1 a2 a3 a4 l5 a6 a7 l8 K) : OkQ Try.prog 55 [(.g [v0, v1, (.flt .f32 a2), (.int .i64 a3), (.int .i64 a4), v5, (.int .i64 a6), (.int .i64 a7), v8])] H (fun r H2 => ∃ (y0 : List (Nat)) (y1 : List (Nat)) (y2 : Nat) (y3 : Int) (y4 : Int) (y5 : List (Nat)) (y6 : Int) (y7 : Int) (y8 : List (Bool)), K y0 y1 y2 y3 y4 y5 y6 y7 y8 ∧ ∃ (w0_ : AV) (w1_ : AV) (w2_ : AV) (w3_ : AV), r = (.g [w0_, w1_, (.flt .f32 y2), (.int .i64 y3), (.int .i64 y4), w2_, (.int .i64 y6), (.int .i64 y7), w3_]) ∧ Sep H2 (Pc.osl w0_ 1 (enc (eFlt .f32) y0) :: Pc.osl w1_ 1 (enc (eFlt .f32) y1) :: Pc.osl w2_ 1 (enc (eFlt .f32) y5) :: Pc.osl w3_ 1 (enc eBool y8) :: fr)) := by
  unfold laws_toDesk.wp at h
  refine of_body Try.f55 F.hm Try.func55 rfl Try.call55 (by kernel_rfl) (by simp) ?_
  refine fi_seq ?_
  refine fi_region ?_
  refine sv_box hs rfl (c := [v0, v1, (.flt .f32 a2), (.int .i64 a3), (.int .i64 a4), v5, (.int .i64 a6), (.int .i64 a7), v8]) rfl F55.inf76 (stc (g0 _ hs).stor (stc (g1 _ hs).stor (stc rfl (stc rfl (stc rfl (stc (g5 _ hs).stor (stc rfl (stc rfl (stc (g8 _ hs).stor stn))))))))) nofun (fun id101 H102 hs => ?_)
  refine sv_alloc hs F55.ze83 rfl nofun (fun id104 H105 hs => ?_)
  refine so_nil ?_
  refine fi_seq ?_
  refine fi_region ?_
  refine sv_alloc hs F55.ze83 rfl nofun (fun id107 H108 hs => ?_)
  refine so_nil ?_
  refine fi_seq ?_
  refine fi_region ?_
  refine so_fieldAddr rfl F55.fd76_0 ?_
  refine sv_ld hs 2 rfl rfl rfl F55.ag22 ?_
  refine sv_call (laws_toFloat32S_ok v0 l0 hs (fun _ hs => (g0 _ hs.tl.tl.tl)) _ h) rfl rfl nofun ?_
  clear h hs
  rintro _ H113 ⟨y110, h, v111, rfl, hs⟩
  refine so_fieldAddr rfl F55.fd83_0 ?_
  refine sv_st hs 1 rfl rfl rfl (c := [v111]) rfl F55.sz22 rfl (stc (hs.shows 0 rfl).stor stn) (leb rfl) (cs' := [v111, .nilsl, (.flt .f32 (0 : Nat)), (.int .i64 (0 : Int)), (.int .i64 (0 : Int)), .nilsl, (.int .i64 (0 : Int)), (.int .i64 (0 : Int)), .nilsl]) rfl nofun (fun H114 hs => ?_)
  refine so_nil ?_
  refine fi_seq ?_
  refine fi_region ?_
  refine so_fieldAddr rfl F55.fd76_1 ?_
  refine sv_lds hs 3 rfl rfl (leb rfl) rfl F55.ag69 F55.sz69 ?_
  refine sv_call (laws_toScheme_ok v1 l1 a2 hs (fun _ hs => (g1 _ hs.tl.tl.tl.tl)) _ h) rfl rfl nofun ?_
  clear h hs
  rintro _ H119 ⟨y115, y118, h, v116, rfl, hs⟩
  refine so_fieldAddr rfl F55.fd83_1 ?_
  refine sv_st hs 2 rfl rfl rfl (c := [v116, (.flt .f32 y118)]) rfl F55.sz79 rfl (stc (hs.shows 0 rfl).stor (stc rfl stn)) (leb rfl) (cs' := [v111, v116, (.flt .f32 y118), (.int .i64 (0 : Int)), (.int .i64 (0 : Int)), .nilsl, (.int .i64 (0 : Int)), (.int .i64 (0 : Int)), .nilsl]) rfl nofun (fun H120 hs => ?_)
  refine so_nil ?_
  refine fi_seq ?_
  refine fi_region ?_
  refine so_fieldAddr rfl F55.fd76_2 ?_
  refine sv_lds hs 4 rfl rfl (leb rfl) rfl F55.ag71 F55.sz71 ?_
  refine sv_call (laws_toPicture_ok a3 a4 v5 l5 hs (fun _ hs => (g5 _ hs.tl.tl.tl.tl.tl)) _ h) rfl rfl nofun ?_
  clear h hs
  rintro _ H126 ⟨y121, y122, y123, h, v124, rfl, hs⟩
  refine so_fieldAddr rfl F55.fd83_2 ?_
  refine sv_st hs 3 rfl rfl rfl (c := [(.int .i64 y121), (.int .i64 y122), v124]) rfl F55.sz80 rfl (stc rfl (stc rfl (stc (hs.shows 0 rfl).stor stn))) (leb rfl) (cs' := [v111, v116, (.flt .f32 y118), (.int .i64 y121), (.int .i64 y122), v124, (.int .i64 (0 : Int)), (.int .i64 (0 : Int)), .nilsl]) rfl nofun (fun H127 hs => ?_)
  refine so_nil ?_
  refine fi_seq ?_
  refine fi_region ?_
  refine so_fieldAddr rfl F55.fd76_3 ?_
  refine sv_lds hs 5 rfl rfl (leb rfl) rfl F55.ag74 F55.sz74 ?_
  refine sv_call (laws_toCoded_ok a6 a7 v8 l8 hs (fun _ hs => (g8 _ hs.tl.tl.tl.tl.tl.tl)) _ h) rfl rfl nofun ?_
  clear h hs
  rintro _ H133 ⟨y128, y129, y130, h, v131, rfl, hs⟩
  refine so_fieldAddr rfl F55.fd83_3 ?_
  refine sv_st hs 4 rfl rfl rfl (c := [(.int .i64 y128), (.int .i64 y129), v131]) rfl F55.sz81 rfl (stc rfl (stc rfl (stc (hs.shows 0 rfl).stor stn))) (leb rfl) (cs' := [v111, v116, (.flt .f32 y118), (.int .i64 y121), (.int .i64 y122), v124, (.int .i64 y128), (.int .i64 y129), v131]) rfl nofun (fun H134 hs => ?_)
  refine so_nil ?_
  refine fi_seq ?_
  refine fi_region ?_
  refine sv_lds hs 4 rfl rfl (leb rfl) rfl F55.ag83 F55.sz83 ?_
  refine sv_st hs 5 rfl rfl rfl (c := [v111, v116, (.flt .f32 y118), (.int .i64 y121), (.int .i64 y122), v124, (.int .i64 y128), (.int .i64 y129), v131]) rfl F55.sz83 rfl (stc (hs.shows 3 rfl).stor (stc (hs.shows 2 rfl).stor (stc rfl (stc rfl (stc rfl (stc (hs.shows 1 rfl).stor (stc rfl (stc rfl (stc (hs.shows 0 rfl).stor stn))))))))) (leb rfl) (cs' := [v111, v116, (.flt .f32 y118), (.int .i64 y121), (.int .i64 y122), v124, (.int .i64 y128), (.int .i64 y129), v131]) rfl nofun (fun H135 hs => ?_)
  refine so_nil ?_
  exact by_ret (res_mk (ar_cells rfl F55.ag83 F55.sz83 (hs.lds 5 rfl (leb rfl) rfl) ar_nil) rfl) ⟨_, _, _, _, _, _, _, _, _, h, _, _, _, _, rfl, (Sep.front 3 (Sep.front 2 (Sep.front 1 (Sep.del 4 (Sep.del 4 (Sep.del 4 hs))) rfl) rfl) rfl)⟩

end Go.Proofs.Ytfieljajhmpbiaa.G

namespace Go.Proofs.Ytfieljajhmpbiaa.G
open Go Go.Ab Go.Proofs Go.Proofs.Ytfieljajhmpbiaa
set_option maxRecDepth 100000
set_option linter.unusedVariables false
set_option linter.unusedSimpArgs false
set_option maxHeartbeats 1000000
theorem impl_IsFinite_ok {fr : List Pc} {H : Heap} (a0 : Nat) (hs : Sep H (fr))  (K : Bool → Prop) (h : impl_IsFinite.wp a0 K) : OkQ Try.prog 123 [(.v (.flt .f32 a0))] H (fun r H2 => ∃ (y0 : Bool), K y0 ∧ r = (.v (.bool y0)) ∧ Sep H2 (fr)) := by
  unfold impl_IsFinite.wp at h
  refine of_body Try.f123 F.hm Try.func123 rfl Try.call123 (by kernel_rfl) (by simp) ?_
  refine fi_seq ?_
  refine fi_region ?_
  refine so_assign rfl ?_
  refine so_nil ?_
  refine fi_seq ?_
  refine fi_region ?_
  refine so_move rfl ?_
  refine so_move rfl ?_
  refine so_bin rfl rfl ab_fsub ?_
  refine so_bin rfl rfl ab_feql ?_
  refine so_assign rfl ?_
  refine so_nil ?_
  exact by_ret rfl ⟨_, h, rfl, hs⟩

end Go.Proofs.Ytfieljajhmpbiaa.G

namespace Go.Proofs.Ytfieljajhmpbiaa.G
open Go Go.Ab Go.Proofs Go.Proofs.Ytfieljajhmpbiaa
set_option maxRecDepth 100000
set_option linter.unusedVariables false
set_option linter.unusedSimpArgs false
set_option maxHeartbeats 1000000
theorem F122.ag22 : tagg Try.prog 22 = some false := by kernel_rfl
theorem F122.ag36 : tagg Try.prog 36 = some false := by kernel_rfl
theorem F122.ti148 : (telem Try.prog 148).isSome = true := by kernel_rfl
theorem F122.ti22 : (telem Try.prog 22).isSome = true := by kernel_rfl
theorem F122.tl148 : (telem Try.prog 148).bind (tsz Try.prog) = some 1 := by kernel_rfl
theorem F122.tl22 : (telem Try.prog 22).bind (tsz Try.prog) = some 1 := by kernel_rfl
theorem impl_areFinite_ok {fr : List Pc} {H : Heap} (v0 : AV) (w0 : List (List AV)) (l0 : List (List (Nat))) (hs : Sep H (fr)) (g0 : ∀ H, Sep H fr → DSh H v0 1 R_LeFlt_f32_o l0 w0) (K : Bool → Prop) (h : impl_areFinite.wp l0 K) : OkQ Try.prog 122 [(.v v0)] H (fun r H2 => ∃ (y0 : Bool), K y0 ∧ r = (.v (.bool y0)) ∧ Sep H2 (fr)) := by
  unfold impl_areFinite.wp at h
  refine of_body Try.f122 F.hm Try.func122 rfl Try.call122 (by kernel_rfl) (by simp) ?_
  refine fi_seq ?_
  refine fi_region ?_
  refine so_assign rfl ?_
  refine so_nil ?_
  refine fi_seq ?_
  refine fi_seq ?_
  refine fi_region ?_
  refine so_move rfl ?_
  refine sd_len ((g0 _ hs) : DSh _ _ 1 R_LeFlt_f32_o l0 w0) (by decide) rfl F122.ti148 ?_
  refine so_move rfl ?_
  refine so_nil ?_
  refine fi_block ?_
  refine fi_loop ?_
  refine fi_at [(7, (.v v0)), (8, (.v (.int .i64 (l0.length : Int)))), (9, (.v (.int .i64 (0 : Int))))] ⟨rfl, rfl, rfl, trivial⟩ ?_
  refine h (fun (x102 : Int) => ∀ (s : Nat → TV) (H : Heap), Sep H (fr) → Fin _ _ (updL s [(7, (.v v0)), (8, (.v (.int .i64 (l0.length : Int)))), (9, (.v (.int .i64 x102)))]) H _) ?_ _ _ hs
  intro x102 h s114 H115 hs
  refine fi_inLoop ?_
  refine fi_seq ?_
  refine fi_region ?_
  refine so_bin rfl rfl ab_lss ?_
  refine so_nil ?_
  refine fi_seq ?_
  replace h := ofP h; rcases h with ⟨c103, h⟩ | ⟨c103, h⟩
  · refine fi_true rfl (decide_eq_true c103) ?_
    refine fi_skip ?_
    refine fi_seq ?_
    refine fi_block ?_
    refine fi_seq ?_
    refine fi_region ?_
    obtain ⟨c104, h⟩ := h
    refine sd_idx ((g0 _ hs) : DSh _ _ 1 R_LeFlt_f32_o l0 w0) c104 ([] : List (Nat)) (by decide) rfl rfl F122.tl148 ?_
    refine su_ld ((((g0 _ hs) : DSh _ _ 1 R_LeFlt_f32_o l0 w0)).at (by decide) c104 ([] : List (Nat))).2.2 0 (congrArg (fun c => c[0]?) ((((g0 _ hs) : DSh _ _ 1 R_LeFlt_f32_o l0 w0)).at (by decide) c104 ([] : List (Nat))).2.1.1) rfl F122.ag22 ?_
    refine so_assign rfl ?_
    refine so_nil ?_
    refine fi_seq ?_
    refine fi_region ?_
    refine so_move rfl ?_
    refine sv_len ((((g0 _ hs) : DSh _ _ 1 R_LeFlt_f32_o l0 w0)).at (by decide) c104 ([] : List (Nat))).2.1.2 (fun _ => rfl) (by decide) rfl F122.ti22 ?_
    refine so_move rfl ?_
    refine so_nil ?_
    refine fi_block ?_
    refine fi_loop ?_
    refine fi_at [(7, (.v v0)), (8, (.v (.int .i64 (l0.length : Int)))), (9, (.v (.int .i64 x102))), (13, (.v ((w0.getD (x102).toNat []).getD 0 .und))), (14, (.v (.int .i64 ((l0.getD (x102).toNat ([] : List (Nat))).length : Int)))), (15, (.v (.int .i64 (0 : Int))))] ⟨rfl, rfl, rfl, rfl, rfl, rfl, trivial⟩ ?_
    refine h (fun (x106 : Int) => ∀ (s : Nat → TV) (H : Heap), Sep H (fr) → Fin _ _ (updL s [(7, (.v v0)), (8, (.v (.int .i64 (l0.length : Int)))), (9, (.v (.int .i64 x102))), (13, (.v ((w0.getD (x102).toNat []).getD 0 .und))), (14, (.v (.int .i64 ((l0.getD (x102).toNat ([] : List (Nat))).length : Int)))), (15, (.v (.int .i64 x106)))]) H _) ?_ _ _ hs
    intro x106 h s112 H113 hs
    refine fi_inLoop ?_
    refine fi_seq ?_
    refine fi_region ?_
    refine so_bin rfl rfl ab_lss ?_
    refine so_nil ?_
    refine fi_seq ?_
    replace h := ofP h; rcases h with ⟨c107, h⟩ | ⟨c107, h⟩
    · refine fi_true rfl (decide_eq_true c107) ?_
      refine fi_skip ?_
      refine fi_seq ?_
      refine fi_block ?_
      refine fi_seq ?_
      refine fi_region ?_
      obtain ⟨c108, h⟩ := h
      refine sv_idx ((((g0 _ hs) : DSh _ _ 1 R_LeFlt_f32_o l0 w0)).at (by decide) c104 ([] : List (Nat))).2.1.2 c108 (fun _ => rfl) (by decide) rfl rfl F122.tl22 ?_
      refine sv_cell ((((g0 _ hs) : DSh _ _ 1 R_LeFlt_f32_o l0 w0)).at (by decide) c104 ([] : List (Nat))).2.1.2 c108 (0 : Nat) 0 (fun x => (AV.flt .f32 x)) (fun _ => rfl) (fun _ => rfl) rfl F122.ag36 ?_
      refine so_assign rfl ?_
      refine so_nil ?_
      refine fi_seq ?_
      refine fi_region ?_
      refine so_move rfl ?_
      refine sv_call (impl_IsFinite_ok ((l0.getD (x102).toNat ([] : List (Nat))).getD (x106).toNat (0 : Nat)) hs  _ h) rfl rfl nofun ?_
      clear h hs
      rintro _ H110 ⟨y109, h, rfl, hs⟩
      refine so_un rfl au_not ?_
      refine so_nil ?_
      replace h := ofT h; rcases h with ⟨c111, h⟩ | ⟨c111, h⟩
      · refine fi_false rfl (not_f c111) ?_
        refine fi_skip ?_
        refine fi_inBlock ?_
        refine fi_region ?_
        refine so_bin rfl rfl ab_add ?_
        refine so_move rfl ?_
        refine so_nil ?_
        exact fi_at [(7, (.v v0)), (8, (.v (.int .i64 (l0.length : Int)))), (9, (.v (.int .i64 x102))), (13, (.v ((w0.getD (x102).toNat []).getD 0 .und))), (14, (.v (.int .i64 ((l0.getD (x102).toNat ([] : List (Nat))).length : Int)))), (15, (.v (.int .i64 (IntKind.i64.wrap (x106 + (1 : Int))))))] ⟨rfl, rfl, rfl, rfl, rfl, rfl, trivial⟩ (h _ _  hs)
      · refine fi_true rfl (not_t c111) ?_
        refine fi_seq ?_
        refine fi_region ?_
        refine so_assign rfl ?_
        refine so_nil ?_
        exact by_ret rfl ⟨_, h, rfl, hs⟩
    · refine fi_false rfl (decide_eq_false c107) ?_
      refine fi_exit rfl ?_
      refine fi_inBlock ?_
      refine fi_region ?_
      refine so_bin rfl rfl ab_add ?_
      refine so_move rfl ?_
      refine so_nil ?_
      exact fi_at [(7, (.v v0)), (8, (.v (.int .i64 (l0.length : Int)))), (9, (.v (.int .i64 (IntKind.i64.wrap (x102 + (1 : Int))))))] ⟨rfl, rfl, rfl, trivial⟩ (h _ _  hs)
  · refine fi_false rfl (decide_eq_false c103) ?_
    refine fi_exit rfl ?_
    refine fi_seq ?_
    refine fi_region ?_
    refine so_assign rfl ?_
    refine so_nil ?_
    exact by_ret rfl ⟨_, h, rfl, hs⟩

end Go.Proofs.Ytfieljajhmpbiaa.G

namespace Go.Proofs.Ytfieljajhmpbiaa.G
open Go Go.Ab Go.Proofs Go.Proofs.Ytfieljajhmpbiaa
set_option maxRecDepth 100000
set_option linter.unusedVariables false
set_option linter.unusedSimpArgs false
set_option maxHeartbeats 1000000
theorem impl_within_ok {fr : List Pc} {H : Heap} (a0 : Int) (a1 : Int) (a2 : Int) (hs : Sep H (fr))  (K : Bool → Prop) (h : impl_within.wp a0 a1 a2 K) : OkQ Try.prog 63 [(.v (.int .i64 a0)), (.v (.int .i64 a1)), (.v (.int .i64 a2))] H (fun r H2 => ∃ (y0 : Bool), K y0 ∧ r = (.v (.bool y0)) ∧ Sep H2 (fr)) := by
  unfold impl_within.wp at h
  refine of_body Try.f63 F.hm Try.func63 rfl Try.call63 (by kernel_rfl) (by simp) ?_
  refine fi_seq ?_
  refine fi_region ?_
  refine so_assign rfl ?_
  refine so_nil ?_
  refine fi_seq ?_
  refine fi_region ?_
  refine so_move rfl ?_
  refine so_move rfl ?_
  refine so_bin rfl rfl ab_geq ?_
  refine so_move rfl ?_
  replace h := ofP h; rcases h with ⟨c101, h⟩ | ⟨c101, h⟩
  · refine so_gyes rfl (decide_eq_true c101) ?_
    refine so_move rfl ?_
    refine so_gyes rfl (decide_eq_true c101) ?_
    refine so_move rfl ?_
    refine so_gyes rfl (decide_eq_true c101) ?_
    refine so_bin rfl rfl ab_leq ?_
    refine so_pick_t rfl (decide_eq_true c101) rfl ?_
    refine so_assign rfl ?_
    refine so_nil ?_
    exact by_ret rfl ⟨_, h, rfl, hs⟩
  · refine so_gno rfl (decide_eq_false c101) ?_
    refine so_gno rfl (decide_eq_false c101) ?_
    refine so_gno rfl (decide_eq_false c101) ?_
    refine so_pick_f rfl (decide_eq_false c101) rfl ?_
    refine so_assign rfl ?_
    refine so_nil ?_
    exact by_ret rfl ⟨_, h, rfl, hs⟩

end Go.Proofs.Ytfieljajhmpbiaa.G

namespace Go.Proofs.Ytfieljajhmpbiaa.G
open Go Go.Ab Go.Proofs Go.Proofs.Ytfieljajhmpbiaa
set_option maxRecDepth 100000
set_option linter.unusedVariables false
set_option linter.unusedSimpArgs false
set_option maxHeartbeats 1000000
theorem impl_isOver_ok {fr : List Pc} {H : Heap} (a0 : Nat) (hs : Sep H (fr))  (K : Bool → Prop) (h : impl_isOver.wp a0 K) : OkQ Try.prog 73 [(.v (.flt .f32 a0))] H (fun r H2 => ∃ (y0 : Bool), K y0 ∧ r = (.v (.bool y0)) ∧ Sep H2 (fr)) := by
  unfold impl_isOver.wp at h
  refine of_body Try.f73 F.hm Try.func73 rfl Try.call73 (by kernel_rfl) (by simp) ?_
  refine fi_seq ?_
  refine fi_region ?_
  refine so_assign rfl ?_
  refine so_nil ?_
  refine fi_seq ?_
  refine fi_region ?_
  refine so_move rfl ?_
  refine sv_call (impl_IsFinite_ok a0 hs  _ h) rfl rfl nofun ?_
  clear h hs
  rintro _ H102 ⟨y101, h, rfl, hs⟩
  refine so_move rfl ?_
  replace h := ofT h; rcases h with ⟨c103, h⟩ | ⟨c103, h⟩
  · refine so_gyes rfl c103 ?_
    refine so_move rfl ?_
    refine so_gyes rfl c103 ?_
    refine so_bin rfl rfl ab_fgtr ?_
    refine so_pick_t rfl c103 rfl ?_
    refine so_assign rfl ?_
    refine so_nil ?_
    exact by_ret rfl ⟨_, h, rfl, hs⟩
  · refine so_gno rfl c103 ?_
    refine so_gno rfl c103 ?_
    refine so_pick_f rfl c103 rfl ?_
    refine so_assign rfl ?_
    refine so_nil ?_
    exact by_ret rfl ⟨_, h, rfl, hs⟩

end Go.Proofs.Ytfieljajhmpbiaa.G

namespace Go.Proofs.Ytfieljajhmpbiaa.G
open Go Go.Ab Go.Proofs Go.Proofs.Ytfieljajhmpbiaa
set_option maxRecDepth 100000
set_option linter.unusedVariables false
set_option linter.unusedSimpArgs false
set_option maxHeartbeats 1000000
theorem F111.ag22 : tagg Try.prog 22 = some false := by kernel_rfl
theorem F111.ag36 : tagg Try.prog 36 = some false := by kernel_rfl
theorem F111.fd79_0 : tfield Try.prog 79 0 = some (0, 1, false) := by kernel_rfl
theorem F111.fd79_1 : tfield Try.prog 79 1 = some (1, 1, false) := by kernel_rfl
theorem F111.inf79 : (Try.prog.info? 79).isSome = true := by kernel_rfl
theorem F111.sz22 : tsz Try.prog 22 = some 1 := by kernel_rfl
theorem F111.te148 : telem Try.prog 148 = some 22 := by kernel_rfl
theorem F111.ti22 : (telem Try.prog 22).isSome = true := by kernel_rfl
theorem F111.ze22 : tzero Try.prog 22 = some [.nilsl] := by kernel_rfl
theorem impl_ValidScheme_ok {fr : List Pc} {H : Heap} (v0 : AV) (l0 : List (Nat)) (a1 : Nat) (hs : Sep H (fr)) (g0 : ∀ H, Sep H fr → Shows H v0 1 (enc (eFlt .f32) l0)) (K : Bool → Prop) (h : impl_ValidScheme.wp l0 a1 K) : OkQ Try.prog 111 [(.g [v0, (.flt .f32 a1)])] H (fun r H2 => ∃ (y0 : Bool), K y0 ∧ r = (.v (.bool y0)) ∧ Sep H2 (fr)) := by
  unfold impl_ValidScheme.wp at h
  refine of_body Try.f111 F.hm Try.func111 rfl Try.call111 (by kernel_rfl) (by simp) ?_
  refine fi_seq ?_
  refine fi_region ?_
  refine sv_box hs rfl (c := [v0, (.flt .f32 a1)]) rfl F111.inf79 (stc (g0 _ hs).stor (stc rfl stn)) nofun (fun id101 H102 hs => ?_)
  refine so_assign rfl ?_
  refine so_nil ?_
  refine fi_seq ?_
  refine fi_region ?_
  refine so_fieldAddr rfl F111.fd79_0 ?_
  refine sv_ld hs 0 rfl rfl rfl F111.ag22 ?_
  refine sv_len (g0 _ hs.tl) (fun _ => rfl) (by decide) rfl F111.ti22 ?_
  refine sv_call (impl_within_ok (l0.length : Int) (1 : Int) (8 : Int) hs  _ h) rfl rfl nofun ?_
  clear h hs
  rintro _ H105 ⟨y104, h, rfl, hs⟩
  refine so_move rfl ?_
  replace h := ofT h; rcases h with ⟨c106, h⟩ | ⟨c106, h⟩
  · refine so_gyes rfl c106 ?_
    refine so_fieldAddr rfl F111.fd79_0 ?_
    refine so_gyes rfl c106 ?_
    refine sv_ld hs 0 rfl rfl rfl F111.ag22 ?_
    refine so_gyes rfl c106 ?_
    refine sd_bslice hs [[v0]] F111.te148 F111.sz22 F111.ze22 rfl rfl rfl (by simp) (fac (stc (g0 _ hs.tl).stor stn) fan) (by decide) rfl nofun (fun v107 H108 _ hs => ?_)
    refine so_gyes rfl c106 ?_
    refine sv_call (impl_areFinite_ok v107 ([[v0]]) ([l0] : List (List (Nat))) hs (fun _ hs => ⟨hs.shows 0 rfl, by simp, ⟨⟨rfl, (g0 _ hs.tl.tl)⟩, trivial⟩⟩) _ h) rfl rfl nofun ?_
    clear h hs
    rintro _ H111 ⟨y110, h, rfl, hs⟩
    refine so_pick_t rfl c106 rfl ?_
    refine so_move rfl ?_
    replace h := ofT h; rcases h with ⟨c112, h⟩ | ⟨c112, h⟩
    · refine so_gyes rfl c112 ?_
      refine so_fieldAddr rfl F111.fd79_1 ?_
      refine so_gyes rfl c112 ?_
      refine sv_ld hs 1 rfl rfl rfl F111.ag36 ?_
      refine so_gyes rfl c112 ?_
      refine sv_call (impl_isOver_ok a1 hs  _ h) rfl rfl nofun ?_
      clear h hs
      rintro _ H114 ⟨y113, h, rfl, hs⟩
      refine so_pick_t rfl c112 rfl ?_
      refine so_assign rfl ?_
      refine so_nil ?_
      exact by_ret rfl ⟨_, h, rfl, (Sep.del 0 (Sep.del 0 hs))⟩
    · refine so_gno rfl c112 ?_
      refine so_gno rfl c112 ?_
      refine so_gno rfl c112 ?_
      refine so_pick_f rfl c112 rfl ?_
      refine so_assign rfl ?_
      refine so_nil ?_
      exact by_ret rfl ⟨_, h, rfl, (Sep.del 0 (Sep.del 0 hs))⟩
  · refine so_gno rfl c106 ?_
    refine so_gno rfl c106 ?_
    refine so_gno rfl c106 ?_
    refine so_gno rfl c106 ?_
    refine so_pick_f rfl c106 rfl ?_
    refine so_move rfl ?_
    refine so_gno rfl rfl ?_
    refine so_gno rfl rfl ?_
    refine so_gno rfl rfl ?_
    refine so_pick_f rfl rfl rfl ?_
    refine so_assign rfl ?_
    refine so_nil ?_
    exact by_ret rfl ⟨_, h, rfl, (Sep.del 0 hs)⟩

end Go.Proofs.Ytfieljajhmpbiaa.G

namespace Go.Proofs.Ytfieljajhmpbiaa.G
open Go Go.Ab Go.Proofs Go.Proofs.Ytfieljajhmpbiaa
set_option maxRecDepth 100000
set_option linter.unusedVariables false
set_option linter.unusedSimpArgs false
set_option maxHeartbeats 1000000
theorem F112.ag2 : tagg Try.prog 2 = some false := by kernel_rfl
theorem F112.ag22 : tagg Try.prog 22 = some false := by kernel_rfl
theorem F112.fd80_0 : tfield Try.prog 80 0 = some (0, 1, false) := by kernel_rfl
theorem F112.fd80_1 : tfield Try.prog 80 1 = some (1, 1, false) := by kernel_rfl
theorem F112.fd80_2 : tfield Try.prog 80 2 = some (2, 1, false) := by kernel_rfl
theorem F112.inf80 : (Try.prog.info? 80).isSome = true := by kernel_rfl
theorem F112.sz22 : tsz Try.prog 22 = some 1 := by kernel_rfl
theorem F112.te148 : telem Try.prog 148 = some 22 := by kernel_rfl
theorem F112.ti22 : (telem Try.prog 22).isSome = true := by kernel_rfl
theorem F112.ze22 : tzero Try.prog 22 = some [.nilsl] := by kernel_rfl
theorem impl_ValidPicture_ok {fr : List Pc} {H : Heap} (a0 : Int) (a1 : Int) (v2 : AV) (l2 : List (Nat)) (hs : Sep H (fr)) (g2 : ∀ H, Sep H fr → Shows H v2 1 (enc (eFlt .f32) l2)) (K : Bool → Prop) (h : impl_ValidPicture.wp a0 a1 l2 K) : OkQ Try.prog 112 [(.g [(.int .i64 a0), (.int .i64 a1), v2])] H (fun r H2 => ∃ (y0 : Bool), K y0 ∧ r = (.v (.bool y0)) ∧ Sep H2 (fr)) := by
  unfold impl_ValidPicture.wp at h
  refine of_body Try.f112 F.hm Try.func112 rfl Try.call112 (by kernel_rfl) (by simp) ?_
  refine fi_seq ?_
  refine fi_region ?_
  refine sv_box hs rfl (c := [(.int .i64 a0), (.int .i64 a1), v2]) rfl F112.inf80 (stc rfl (stc rfl (stc (g2 _ hs).stor stn))) nofun (fun id101 H102 hs => ?_)
  refine so_assign rfl ?_
  refine so_nil ?_
  refine fi_seq ?_
  refine fi_region ?_
  refine so_fieldAddr rfl F112.fd80_0 ?_
  refine sv_ld hs 0 rfl rfl rfl F112.ag2 ?_
  refine sv_call (impl_within_ok a0 (1 : Int) (16 : Int) hs  _ h) rfl rfl nofun ?_
  clear h hs
  rintro _ H105 ⟨y104, h, rfl, hs⟩
  refine so_move rfl ?_
  replace h := ofT h; rcases h with ⟨c106, h⟩ | ⟨c106, h⟩
  · refine so_gyes rfl c106 ?_
    refine so_fieldAddr rfl F112.fd80_1 ?_
    refine so_gyes rfl c106 ?_
    refine sv_ld hs 0 rfl rfl rfl F112.ag2 ?_
    refine so_gyes rfl c106 ?_
    refine sv_call (impl_within_ok a1 (1 : Int) (16 : Int) hs  _ h) rfl rfl nofun ?_
    clear h hs
    rintro _ H108 ⟨y107, h, rfl, hs⟩
    refine so_pick_t rfl c106 rfl ?_
    refine so_move rfl ?_
    replace h := ofT h; rcases h with ⟨c109, h⟩ | ⟨c109, h⟩
    · refine so_gyes rfl c109 ?_
      refine so_fieldAddr rfl F112.fd80_2 ?_
      refine so_gyes rfl c109 ?_
      refine sv_ld hs 0 rfl rfl rfl F112.ag22 ?_
      refine so_gyes rfl c109 ?_
      refine sv_len (g2 _ hs.tl) (fun _ => rfl) (by decide) rfl F112.ti22 ?_
      refine so_gyes rfl c109 ?_
      refine so_fieldAddr rfl F112.fd80_0 ?_
      refine so_gyes rfl c109 ?_
      refine sv_ld hs 0 rfl rfl rfl F112.ag2 ?_
      refine so_gyes rfl c109 ?_
      refine so_fieldAddr rfl F112.fd80_1 ?_
      refine so_gyes rfl c109 ?_
      refine sv_ld hs 0 rfl rfl rfl F112.ag2 ?_
      refine so_gyes rfl c109 ?_
      refine so_bin rfl rfl ab_mul ?_
      refine so_gyes rfl c109 ?_
      refine so_bin rfl rfl ab_eql ?_
      refine so_pick_t rfl c109 rfl ?_
      refine so_move rfl ?_
      replace h := ofP h; rcases h with ⟨c110, h⟩ | ⟨c110, h⟩
      · refine so_gyes rfl (decide_eq_true c110) ?_
        refine so_fieldAddr rfl F112.fd80_2 ?_
        refine so_gyes rfl (decide_eq_true c110) ?_
        refine sv_ld hs 0 rfl rfl rfl F112.ag22 ?_
        refine so_gyes rfl (decide_eq_true c110) ?_
        refine sd_bslice hs [[v2]] F112.te148 F112.sz22 F112.ze22 rfl rfl rfl (by simp) (fac (stc (g2 _ hs.tl).stor stn) fan) (by decide) rfl nofun (fun v111 H112 _ hs => ?_)
        refine so_gyes rfl (decide_eq_true c110) ?_
        refine sv_call (impl_areFinite_ok v111 ([[v2]]) ([l2] : List (List (Nat))) hs (fun _ hs => ⟨hs.shows 0 rfl, by simp, ⟨⟨rfl, (g2 _ hs.tl.tl)⟩, trivial⟩⟩) _ h) rfl rfl nofun ?_
        clear h hs
        rintro _ H115 ⟨y114, h, rfl, hs⟩
        refine so_pick_t rfl (decide_eq_true c110) rfl ?_
        refine so_assign rfl ?_
        refine so_nil ?_
        exact by_ret rfl ⟨_, h, rfl, (Sep.del 0 (Sep.del 0 hs))⟩
      · refine so_gno rfl (decide_eq_false c110) ?_
        refine so_gno rfl (decide_eq_false c110) ?_
        refine so_gno rfl (decide_eq_false c110) ?_
        refine so_gno rfl (decide_eq_false c110) ?_
        refine so_pick_f rfl (decide_eq_false c110) rfl ?_
        refine so_assign rfl ?_
        refine so_nil ?_
        exact by_ret rfl ⟨_, h, rfl, (Sep.del 0 hs)⟩
    · refine so_gno rfl c109 ?_
      refine so_gno rfl c109 ?_
      refine so_gno rfl c109 ?_
      refine so_gno rfl c109 ?_
      refine so_gno rfl c109 ?_
      refine so_gno rfl c109 ?_
      refine so_gno rfl c109 ?_
      refine so_gno rfl c109 ?_
      refine so_gno rfl c109 ?_
      refine so_pick_f rfl c109 rfl ?_
      refine so_move rfl ?_
      refine so_gno rfl rfl ?_
      refine so_gno rfl rfl ?_
      refine so_gno rfl rfl ?_
      refine so_gno rfl rfl ?_
      refine so_pick_f rfl rfl rfl ?_
      refine so_assign rfl ?_
      refine so_nil ?_
      exact by_ret rfl ⟨_, h, rfl, (Sep.del 0 hs)⟩
  · refine so_gno rfl c106 ?_
    refine so_gno rfl c106 ?_
    refine so_gno rfl c106 ?_
    refine so_pick_f rfl c106 rfl ?_
    refine so_move rfl ?_
    refine so_gno rfl rfl ?_
    refine so_gno rfl rfl ?_
    refine so_gno rfl rfl ?_
    refine so_gno rfl rfl ?_
    refine so_gno rfl rfl ?_
    refine so_gno rfl rfl ?_
    refine so_gno rfl rfl ?_
    refine so_gno rfl rfl ?_
    refine so_gno rfl rfl ?_
    refine so_pick_f rfl rfl rfl ?_
    refine so_move rfl ?_
    refine so_gno rfl rfl ?_
    refine so_gno rfl rfl ?_
    refine so_gno rfl rfl ?_
    refine so_gno rfl rfl ?_
    refine so_pick_f rfl rfl rfl ?_
    refine so_assign rfl ?_
    refine so_nil ?_
    exact by_ret rfl ⟨_, h, rfl, (Sep.del 0 hs)⟩

end Go.Proofs.Ytfieljajhmpbiaa.G

namespace Go.Proofs.Ytfieljajhmpbiaa.G
open Go Go.Ab Go.Proofs Go.Proofs.Ytfieljajhmpbiaa
set_option maxRecDepth 100000
set_option linter.unusedVariables false
set_option linter.unusedSimpArgs false
set_option maxHeartbeats 1000000
theorem F113.ag2 : tagg Try.prog 2 = some false := by kernel_rfl
theorem F113.ag72 : tagg Try.prog 72 = some false := by kernel_rfl
theorem F113.fd81_0 : tfield Try.prog 81 0 = some (0, 1, false) := by kernel_rfl
theorem F113.fd81_1 : tfield Try.prog 81 1 = some (1, 1, false) := by kernel_rfl
theorem F113.fd81_2 : tfield Try.prog 81 2 = some (2, 1, false) := by kernel_rfl
theorem F113.inf81 : (Try.prog.info? 81).isSome = true := by kernel_rfl
theorem F113.ti72 : (telem Try.prog 72).isSome = true := by kernel_rfl
theorem impl_ValidCoded_ok {fr : List Pc} {H : Heap} (a0 : Int) (a1 : Int) (v2 : AV) (l2 : List (Bool)) (hs : Sep H (fr)) (g2 : ∀ H, Sep H fr → Shows H v2 1 (enc eBool l2)) (K : Bool → Prop) (h : impl_ValidCoded.wp a0 a1 l2 K) : OkQ Try.prog 113 [(.g [(.int .i64 a0), (.int .i64 a1), v2])] H (fun r H2 => ∃ (y0 : Bool), K y0 ∧ r = (.v (.bool y0)) ∧ Sep H2 (fr)) := by
  unfold impl_ValidCoded.wp at h
  refine of_body Try.f113 F.hm Try.func113 rfl Try.call113 (by kernel_rfl) (by simp) ?_
  refine fi_seq ?_
  refine fi_region ?_
  refine sv_box hs rfl (c := [(.int .i64 a0), (.int .i64 a1), v2]) rfl F113.inf81 (stc rfl (stc rfl (stc (g2 _ hs).stor stn))) nofun (fun id101 H102 hs => ?_)
  refine so_assign rfl ?_
  refine so_nil ?_
  refine fi_seq ?_
  refine fi_region ?_
  refine so_fieldAddr rfl F113.fd81_0 ?_
  refine sv_ld hs 0 rfl rfl rfl F113.ag2 ?_
  refine sv_call (impl_within_ok a0 (1 : Int) (128 : Int) hs  _ h) rfl rfl nofun ?_
  clear h hs
  rintro _ H105 ⟨y104, h, rfl, hs⟩
  refine so_move rfl ?_
  replace h := ofT h; rcases h with ⟨c106, h⟩ | ⟨c106, h⟩
  · refine so_gyes rfl c106 ?_
    refine so_fieldAddr rfl F113.fd81_1 ?_
    refine so_gyes rfl c106 ?_
    refine sv_ld hs 0 rfl rfl rfl F113.ag2 ?_
    refine so_gyes rfl c106 ?_
    refine sv_call (impl_within_ok a1 (0 : Int) (24 : Int) hs  _ h) rfl rfl nofun ?_
    clear h hs
    rintro _ H108 ⟨y107, h, rfl, hs⟩
    refine so_pick_t rfl c106 rfl ?_
    refine so_move rfl ?_
    replace h := ofT h; rcases h with ⟨c109, h⟩ | ⟨c109, h⟩
    · refine so_gyes rfl c109 ?_
      refine so_fieldAddr rfl F113.fd81_2 ?_
      refine so_gyes rfl c109 ?_
      refine sv_ld hs 0 rfl rfl rfl F113.ag72 ?_
      refine so_gyes rfl c109 ?_
      refine sv_len (g2 _ hs.tl) (fun _ => rfl) (by decide) rfl F113.ti72 ?_
      refine so_gyes rfl c109 ?_
      refine so_bin rfl rfl ab_leq ?_
      refine so_pick_t rfl c109 rfl ?_
      refine so_assign rfl ?_
      refine so_nil ?_
      exact by_ret rfl ⟨_, h, rfl, (Sep.del 0 hs)⟩
    · refine so_gno rfl c109 ?_
      refine so_gno rfl c109 ?_
      refine so_gno rfl c109 ?_
      refine so_gno rfl c109 ?_
      refine so_pick_f rfl c109 rfl ?_
      refine so_assign rfl ?_
      refine so_nil ?_
      exact by_ret rfl ⟨_, h, rfl, (Sep.del 0 hs)⟩
  · refine so_gno rfl c106 ?_
    refine so_gno rfl c106 ?_
    refine so_gno rfl c106 ?_
    refine so_pick_f rfl c106 rfl ?_
    refine so_move rfl ?_
    refine so_gno rfl rfl ?_
    refine so_gno rfl rfl ?_
    refine so_gno rfl rfl ?_
    refine so_gno rfl rfl ?_
    refine so_pick_f rfl rfl rfl ?_
    refine so_assign rfl ?_
    refine so_nil ?_
    exact by_ret rfl ⟨_, h, rfl, (Sep.del 0 hs)⟩

end Go.Proofs.Ytfieljajhmpbiaa.G

namespace Go.Proofs.Ytfieljajhmpbiaa.G
open Go Go.Ab Go.Proofs Go.Proofs.Ytfieljajhmpbiaa
set_option maxRecDepth 100000
set_option linter.unusedVariables false
set_option linter.unusedSimpArgs false
set_option maxHeartbeats 1000000
theorem F80.sz22 : tsz Try.prog 22 = some 1 := by kernel_rfl
theorem F80.te148 : telem Try.prog 148 = some 22 := by kernel_rfl
theorem F80.ti22 : (telem Try.prog 22).isSome = true := by kernel_rfl
theorem F80.ze22 : tzero Try.prog 22 = some [.nilsl] := by kernel_rfl
theorem impl_IsList_ok {fr : List Pc} {H : Heap} (v0 : AV) (l0 : List (Nat)) (hs : Sep H (fr)) (g0 : ∀ H, Sep H fr → Shows H v0 1 (enc (eFlt .f32) l0)) (K : Bool → Prop) (h : impl_IsList.wp l0 K) : OkQ Try.prog 80 [(.v v0)] H (fun r H2 => ∃ (y0 : Bool), K y0 ∧ r = (.v (.bool y0)) ∧ Sep H2 (fr)) := by
  unfold impl_IsList.wp at h
  refine of_body Try.f80 F.hm Try.func80 rfl Try.call80 (by kernel_rfl) (by simp) ?_
  refine fi_seq ?_
  refine fi_region ?_
  refine so_assign rfl ?_
  refine so_nil ?_
  refine fi_seq ?_
  refine fi_region ?_
  refine so_move rfl ?_
  refine sv_len (g0 _ hs) (fun _ => rfl) (by decide) rfl F80.ti22 ?_
  refine sv_call (impl_within_ok (l0.length : Int) (1 : Int) (128 : Int) hs  _ h) rfl rfl nofun ?_
  clear h hs
  rintro _ H102 ⟨y101, h, rfl, hs⟩
  refine so_move rfl ?_
  replace h := ofT h; rcases h with ⟨c103, h⟩ | ⟨c103, h⟩
  · refine so_gyes rfl c103 ?_
    refine so_move rfl ?_
    refine so_gyes rfl c103 ?_
    refine sd_bslice hs [[v0]] F80.te148 F80.sz22 F80.ze22 rfl rfl rfl (by simp) (fac (stc (g0 _ hs).stor stn) fan) (by decide) rfl nofun (fun v104 H105 _ hs => ?_)
    refine so_gyes rfl c103 ?_
    refine sv_call (impl_areFinite_ok v104 ([[v0]]) ([l0] : List (List (Nat))) hs (fun _ hs => ⟨hs.shows 0 rfl, by simp, ⟨⟨rfl, (g0 _ hs.tl)⟩, trivial⟩⟩) _ h) rfl rfl nofun ?_
    clear h hs
    rintro _ H108 ⟨y107, h, rfl, hs⟩
    refine so_pick_t rfl c103 rfl ?_
    refine so_assign rfl ?_
    refine so_nil ?_
    exact by_ret rfl ⟨_, h, rfl, (Sep.del 0 hs)⟩
  · refine so_gno rfl c103 ?_
    refine so_gno rfl c103 ?_
    refine so_gno rfl c103 ?_
    refine so_pick_f rfl c103 rfl ?_
    refine so_assign rfl ?_
    refine so_nil ?_
    exact by_ret rfl ⟨_, h, rfl, hs⟩

end Go.Proofs.Ytfieljajhmpbiaa.G

namespace Go.Proofs.Ytfieljajhmpbiaa.G
open Go Go.Ab Go.Proofs Go.Proofs.Ytfieljajhmpbiaa
set_option maxRecDepth 100000
set_option linter.unusedVariables false
set_option linter.unusedSimpArgs false
set_option maxHeartbeats 1000000
theorem F56.ag22 : tagg Try.prog 22 = some false := by kernel_rfl
theorem F56.ag79 : tagg Try.prog 79 = some true := by kernel_rfl
theorem F56.ag80 : tagg Try.prog 80 = some true := by kernel_rfl
theorem F56.ag81 : tagg Try.prog 81 = some true := by kernel_rfl
theorem F56.fd83_0 : tfield Try.prog 83 0 = some (0, 1, false) := by kernel_rfl
theorem F56.fd83_1 : tfield Try.prog 83 1 = some (1, 2, true) := by kernel_rfl
theorem F56.fd83_2 : tfield Try.prog 83 2 = some (3, 3, true) := by kernel_rfl
theorem F56.fd83_3 : tfield Try.prog 83 3 = some (6, 3, true) := by kernel_rfl
theorem F56.inf83 : (Try.prog.info? 83).isSome = true := by kernel_rfl
theorem F56.sz79 : tsz Try.prog 79 = some 2 := by kernel_rfl
theorem F56.sz80 : tsz Try.prog 80 = some 3 := by kernel_rfl
theorem F56.sz81 : tsz Try.prog 81 = some 3 := by kernel_rfl
theorem impl_ValidDesk_ok {fr : List Pc} {H : Heap} (v0 : AV) (l0 : List (Nat)) (v1 : AV) (l1 : List (Nat)) (a2 : Nat) (a3 : Int) (a4 : Int) (v5 : AV) (l5 : List (Nat)) (a6 : Int) (a7 : Int) (v8 : AV) (l8 : List (Bool)) (hs : Sep H (fr)) (g0 : ∀ H, Sep H fr → Shows H v0 1 (enc (eFlt .f32) l0)) (g1 : ∀ H, Sep H fr → Shows H v1 1 (enc (eFlt .f32) l1)) (g5 : ∀ H, Sep H fr → Shows H v5 1 (enc (eFlt .f32) l5)) (g8 : ∀ H, Sep H fr → Shows H v8 1 (enc eBool l8)) (K : Bool → Prop) (h : impl_ValidDesk.wp l0 l1 a2 a3 a4 l5 a6 a7 l8 K) : OkQ Try.prog 56 [(.g [v0, v1, (.flt .f32 a2), (.int .i64 a3), (.int .i64 a4), v5, (.int .i64 a6), (.int .i64 a7), v8])] H (fun r H2 => ∃ (y0 : Bool), K y0 ∧ r = (.v (.bool y0)) ∧ Sep H2 (fr)) := by
  unfold impl_ValidDesk.wp at h
  refine of_body Try.f56 F.hm Try.func56 rfl Try.call56 (by kernel_rfl) (by simp) ?_
  refine fi_seq ?_
  refine fi_region ?_
  refine sv_box hs rfl (c := [v0, v1, (.flt .f32 a2), (.int .i64 a3), (.int .i64 a4), v5, (.int .i64 a6), (.int .i64 a7), v8]) rfl F56.inf83 (stc (g0 _ hs).stor (stc (g1 _ hs).stor (stc rfl (stc rfl (stc rfl (stc (g5 _ hs).stor (stc rfl (stc rfl (stc (g8 _ hs).stor stn))))))))) nofun (fun id101 H102 hs => ?_)
  refine so_assign rfl ?_
  refine so_nil ?_
  refine fi_seq ?_
  refine fi_region ?_
  refine so_fieldAddr rfl F56.fd83_0 ?_
  refine sv_ld hs 0 rfl rfl rfl F56.ag22 ?_
  refine sv_call (impl_IsList_ok v0 l0 hs (fun _ hs => (g0 _ hs.tl)) _ h) rfl rfl nofun ?_
  clear h hs
  rintro _ H105 ⟨y104, h, rfl, hs⟩
  refine so_move rfl ?_
  replace h := ofT h; rcases h with ⟨c106, h⟩ | ⟨c106, h⟩
  · refine so_gyes rfl c106 ?_
    refine so_fieldAddr rfl F56.fd83_1 ?_
    refine so_gyes rfl c106 ?_
    refine sv_lds hs 0 rfl rfl (leb rfl) rfl F56.ag79 F56.sz79 ?_
    refine so_gyes rfl c106 ?_
    refine sv_call (impl_ValidScheme_ok v1 l1 a2 hs (fun _ hs => (g1 _ hs.tl)) _ h) rfl rfl nofun ?_
    clear h hs
    rintro _ H108 ⟨y107, h, rfl, hs⟩
    refine so_pick_t rfl c106 rfl ?_
    refine so_move rfl ?_
    replace h := ofT h; rcases h with ⟨c109, h⟩ | ⟨c109, h⟩
    · refine so_gyes rfl c109 ?_
      refine so_fieldAddr rfl F56.fd83_2 ?_
      refine so_gyes rfl c109 ?_
      refine sv_lds hs 0 rfl rfl (leb rfl) rfl F56.ag80 F56.sz80 ?_
      refine so_gyes rfl c109 ?_
      refine sv_call (impl_ValidPicture_ok a3 a4 v5 l5 hs (fun _ hs => (g5 _ hs.tl)) _ h) rfl rfl nofun ?_
      clear h hs
      rintro _ H111 ⟨y110, h, rfl, hs⟩
      refine so_pick_t rfl c109 rfl ?_
      refine so_move rfl ?_
      replace h := ofT h; rcases h with ⟨c112, h⟩ | ⟨c112, h⟩
      · refine so_gyes rfl c112 ?_
        refine so_fieldAddr rfl F56.fd83_3 ?_
        refine so_gyes rfl c112 ?_
        refine sv_lds hs 0 rfl rfl (leb rfl) rfl F56.ag81 F56.sz81 ?_
        refine so_gyes rfl c112 ?_
        refine sv_call (impl_ValidCoded_ok a6 a7 v8 l8 hs (fun _ hs => (g8 _ hs.tl)) _ h) rfl rfl nofun ?_
        clear h hs
        rintro _ H114 ⟨y113, h, rfl, hs⟩
        refine so_pick_t rfl c112 rfl ?_
        refine so_assign rfl ?_
        refine so_nil ?_
        exact by_ret rfl ⟨_, h, rfl, (Sep.del 0 hs)⟩
      · refine so_gno rfl c112 ?_
        refine so_gno rfl c112 ?_
        refine so_gno rfl c112 ?_
        refine so_pick_f rfl c112 rfl ?_
        refine so_assign rfl ?_
        refine so_nil ?_
        exact by_ret rfl ⟨_, h, rfl, (Sep.del 0 hs)⟩
    · refine so_gno rfl c109 ?_
      refine so_gno rfl c109 ?_
      refine so_gno rfl c109 ?_
      refine so_pick_f rfl c109 rfl ?_
      refine so_move rfl ?_
      refine so_gno rfl rfl ?_
      refine so_gno rfl rfl ?_
      refine so_gno rfl rfl ?_
      refine so_pick_f rfl rfl rfl ?_
      refine so_assign rfl ?_
      refine so_nil ?_
      exact by_ret rfl ⟨_, h, rfl, (Sep.del 0 hs)⟩
  · refine so_gno rfl c106 ?_
    refine so_gno rfl c106 ?_
    refine so_gno rfl c106 ?_
    refine so_pick_f rfl c106 rfl ?_
    refine so_move rfl ?_
    refine so_gno rfl rfl ?_
    refine so_gno rfl rfl ?_
    refine so_gno rfl rfl ?_
    refine so_pick_f rfl rfl rfl ?_
    refine so_move rfl ?_
    refine so_gno rfl rfl ?_
    refine so_gno rfl rfl ?_
    refine so_gno rfl rfl ?_
    refine so_pick_f rfl rfl rfl ?_
    refine so_assign rfl ?_
    refine so_nil ?_
    exact by_ret rfl ⟨_, h, rfl, (Sep.del 0 hs)⟩

end Go.Proofs.Ytfieljajhmpbiaa.G

namespace Go.Proofs.Ytfieljajhmpbiaa.G
open Go Go.Ab Go.Proofs Go.Proofs.Ytfieljajhmpbiaa
set_option maxRecDepth 100000
set_option linter.unusedVariables false
set_option linter.unusedSimpArgs false
set_option maxHeartbeats 1000000
theorem F67.tb4 : tbool Try.prog 4 = true := by kernel_rfl
theorem laws_sameFloat_ok {fr : List Pc} {H : Heap} (a0 : Nat) (a1 : Nat) (hs : Sep H (fr))  (K : Bool → Prop) (h : laws_sameFloat.wp a0 a1 K) : OkQ Try.prog 67 [(.v (.flt .f64 a0)), (.v (.flt .f64 a1))] H (fun r H2 => ∃ (y0 : Bool), K y0 ∧ r = (.v (.bool y0)) ∧ Sep H2 (fr)) := by
  unfold laws_sameFloat.wp at h
  refine of_body Try.f67 F.hm Try.func67 rfl Try.call67 (by kernel_rfl) (by simp) ?_
  refine fi_seq ?_
  refine fi_region ?_
  refine so_assign rfl ?_
  refine so_nil ?_
  refine fi_seq ?_
  refine fi_seq ?_
  refine fi_region ?_
  refine so_move rfl ?_
  refine so_move rfl ?_
  refine so_bin rfl rfl ab_fneq ?_
  refine so_move rfl ?_
  replace h := ofT h; rcases h with ⟨c101, h⟩ | ⟨c101, h⟩
  · refine so_gno rfl c101 ?_
    refine so_gno rfl c101 ?_
    refine so_gno rfl c101 ?_
    refine so_pick_t rfl c101 rfl ?_
    refine so_nil ?_
    refine fi_true rfl rfl ?_
    refine fi_seq ?_
    refine fi_region ?_
    refine so_move rfl ?_
    refine so_move rfl ?_
    refine so_bin rfl rfl ab_fneq ?_
    refine so_move rfl ?_
    refine so_gyes rfl c101 ?_
    refine so_move rfl ?_
    refine so_gyes rfl c101 ?_
    refine so_move rfl ?_
    refine so_gyes rfl c101 ?_
    refine so_bin rfl rfl ab_fneq ?_
    refine so_pick_t rfl c101 rfl ?_
    refine so_assign rfl ?_
    refine so_nil ?_
    exact by_ret rfl ⟨_, h, rfl, hs⟩
  · refine so_gyes rfl c101 ?_
    refine so_move rfl ?_
    refine so_gyes rfl c101 ?_
    refine so_move rfl ?_
    refine so_gyes rfl c101 ?_
    refine so_bin rfl rfl ab_fneq ?_
    refine so_pick_f rfl c101 rfl ?_
    refine so_nil ?_
    replace h := ofT h; rcases h with ⟨c102, h⟩ | ⟨c102, h⟩
    · refine fi_true rfl c102 ?_
      refine fi_seq ?_
      refine fi_region ?_
      refine so_move rfl ?_
      refine so_move rfl ?_
      refine so_bin rfl rfl ab_fneq ?_
      refine so_move rfl ?_
      refine so_gno rfl c101 ?_
      refine so_gno rfl c101 ?_
      refine so_gno rfl c101 ?_
      refine so_pick_f rfl c101 rfl ?_
      refine so_assign rfl ?_
      refine so_nil ?_
      exact by_ret rfl ⟨_, h, rfl, hs⟩
    · refine fi_false rfl c102 ?_
      refine fi_skip ?_
      refine fi_seq ?_
      refine fi_seq ?_
      refine fi_region ?_
      refine so_move rfl ?_
      refine so_bin rfl rfl ab_feql ?_
      refine so_move rfl ?_
      replace h := ofT h; rcases h with ⟨c103, h⟩ | ⟨c103, h⟩
      · refine so_gyes rfl c103 ?_
        refine so_move rfl ?_
        refine so_gyes rfl c103 ?_
        refine so_bin rfl rfl ab_feql ?_
        refine so_pick_t rfl c103 rfl ?_
        refine so_nil ?_
        replace h := ofT h; rcases h with ⟨c104, h⟩ | ⟨c104, h⟩
        · refine fi_true rfl c104 ?_
          refine fi_seq ?_
          refine fi_region ?_
          refine so_move rfl ?_
          refine so_bin rfl rfl ab_fquo ?_
          refine so_bin rfl rfl ab_fgtr ?_
          refine so_move rfl ?_
          refine so_bin rfl rfl ab_fquo ?_
          refine so_bin rfl rfl ab_fgtr ?_
          refine so_bin rfl rfl (ab_beql F67.tb4) ?_
          refine so_assign rfl ?_
          refine so_nil ?_
          exact by_ret rfl ⟨_, h, rfl, hs⟩
        · refine fi_false rfl c104 ?_
          refine fi_skip ?_
          refine fi_seq ?_
          refine fi_region ?_
          refine so_move rfl ?_
          refine so_move rfl ?_
          refine so_bin rfl rfl ab_feql ?_
          refine so_assign rfl ?_
          refine so_nil ?_
          exact by_ret rfl ⟨_, h, rfl, hs⟩
      · refine so_gno rfl c103 ?_
        refine so_gno rfl c103 ?_
        refine so_pick_f rfl c103 rfl ?_
        refine so_nil ?_
        refine fi_false rfl rfl ?_
        refine fi_skip ?_
        refine fi_seq ?_
        refine fi_region ?_
        refine so_move rfl ?_
        refine so_move rfl ?_
        refine so_bin rfl rfl ab_feql ?_
        refine so_assign rfl ?_
        refine so_nil ?_
        exact by_ret rfl ⟨_, h, rfl, hs⟩

end Go.Proofs.Ytfieljajhmpbiaa.G

namespace Go.Proofs.Ytfieljajhmpbiaa.G
open Go Go.Ab Go.Proofs Go.Proofs.Ytfieljajhmpbiaa
set_option maxRecDepth 100000
set_option linter.unusedVariables false
set_option linter.unusedSimpArgs false
set_option maxHeartbeats 1000000
theorem F23.ag36 : tagg Try.prog 36 = some false := by kernel_rfl
theorem F23.fl94 : tflt Try.prog 94 = some .f64 := by kernel_rfl
theorem F23.in94 : tint Try.prog 94 = none := by kernel_rfl
theorem F23.ti22 : (telem Try.prog 22).isSome = true := by kernel_rfl
theorem F23.tl22 : (telem Try.prog 22).bind (tsz Try.prog) = some 1 := by kernel_rfl
theorem F23.us36 : (Try.prog.underlying 36).isSome = true := by kernel_rfl
theorem laws_eqFloat32S_ok {fr : List Pc} {H : Heap} (v0 : AV) (l0 : List (Nat)) (v1 : AV) (l1 : List (Nat)) (hs : Sep H (fr)) (g0 : ∀ H, Sep H fr → Shows H v0 1 (enc (eFlt .f32) l0)) (g1 : ∀ H, Sep H fr → Shows H v1 1 (enc (eFlt .f32) l1)) (K : Bool → Prop) (h : laws_eqFloat32S.wp l0 l1 K) : OkQ Try.prog 23 [(.v v0), (.v v1)] H (fun r H2 => ∃ (y0 : Bool), K y0 ∧ r = (.v (.bool y0)) ∧ Sep H2 (fr)) := by
  unfold laws_eqFloat32S.wp at h
  refine of_body Try.f23 F.hm Try.func23 rfl Try.call23 (by kernel_rfl) (by simp) ?_
  refine fi_seq ?_
  refine fi_region ?_
  refine so_assign rfl ?_
  refine so_nil ?_
  refine fi_seq ?_
  refine fi_seq ?_
  refine fi_region ?_
  refine so_move rfl ?_
  refine sv_len (g0 _ hs) (fun _ => rfl) (by decide) rfl F23.ti22 ?_
  refine so_move rfl ?_
  refine sv_len (g1 _ hs) (fun _ => rfl) (by decide) rfl F23.ti22 ?_
  refine so_bin rfl rfl ab_neq ?_
  refine so_nil ?_
  replace h := ofP h; rcases h with ⟨c101, h⟩ | ⟨c101, h⟩
  · refine fi_false rfl (not_f (decide_eq_true c101)) ?_
    refine fi_skip ?_
    refine fi_seq ?_
    refine fi_seq ?_
    refine fi_region ?_
    refine so_assign rfl ?_
    refine so_nil ?_
    refine fi_block ?_
    refine fi_loop ?_
    refine fi_at [(0, (.v v0)), (1, (.v v1)), (5, (.v (.int .i64 (0 : Int))))] ⟨rfl, rfl, rfl, trivial⟩ ?_
    refine h (fun (i103 : Int) => ∀ (s : Nat → TV) (H : Heap), Sep H (fr) → Fin _ _ (updL s [(0, (.v v0)), (1, (.v v1)), (5, (.v (.int .i64 i103)))]) H _) ?_ _ _ hs
    intro i103 h s110 H111 hs
    refine fi_inLoop ?_
    refine fi_seq ?_
    refine fi_seq ?_
    refine fi_region ?_
    refine so_move rfl ?_
    refine so_move rfl ?_
    refine sv_len (g0 _ hs) (fun _ => rfl) (by decide) rfl F23.ti22 ?_
    refine so_bin rfl rfl ab_lss ?_
    refine so_nil ?_
    replace h := ofP h; rcases h with ⟨c104, h⟩ | ⟨c104, h⟩
    · refine fi_true rfl (decide_eq_true c104) ?_
      refine fi_skip ?_
      refine fi_seq ?_
      refine fi_block ?_
      refine fi_seq ?_
      refine fi_region ?_
      refine so_move rfl ?_
      refine so_move rfl ?_
      obtain ⟨c105, h⟩ := h
      refine sv_idx (g0 _ hs) c105 (fun _ => rfl) (by decide) rfl rfl F23.tl22 ?_
      refine sv_cell (g0 _ hs) c105 (0 : Nat) 0 (fun x => (AV.flt .f32 x)) (fun _ => rfl) (fun _ => rfl) rfl F23.ag36 ?_
      refine sv_ffw rfl F23.us36 F23.in94 F23.fl94 ?_
      refine so_move rfl ?_
      refine so_move rfl ?_
      obtain ⟨c106, h⟩ := h
      refine sv_idx (g1 _ hs) c106 (fun _ => rfl) (by decide) rfl rfl F23.tl22 ?_
      refine sv_cell (g1 _ hs) c106 (0 : Nat) 0 (fun x => (AV.flt .f32 x)) (fun _ => rfl) (fun _ => rfl) rfl F23.ag36 ?_
      refine sv_ffw rfl F23.us36 F23.in94 F23.fl94 ?_
      refine sv_call (laws_sameFloat_ok (widen (l0.getD (i103).toNat (0 : Nat))) (widen (l1.getD (i103).toNat (0 : Nat))) hs  _ h) rfl rfl (fun _ => by kernel_rfl) ?_
      clear h hs
      rintro _ H108 ⟨y107, h, rfl, hs⟩
      refine so_un rfl au_not ?_
      refine so_nil ?_
      replace h := ofT h; rcases h with ⟨c109, h⟩ | ⟨c109, h⟩
      · refine fi_false rfl (not_f c109) ?_
        refine fi_skip ?_
        refine fi_inBlock ?_
        refine fi_region ?_
        refine so_move rfl ?_
        refine so_bin rfl rfl ab_add ?_
        refine so_assign rfl ?_
        refine so_nil ?_
        exact fi_at [(0, (.v v0)), (1, (.v v1)), (5, (.v (.int .i64 (IntKind.i64.wrap (i103 + (1 : Int))))))] ⟨rfl, rfl, rfl, trivial⟩ (h _ _  hs)
      · refine fi_true rfl (not_t c109) ?_
        refine fi_seq ?_
        refine fi_region ?_
        refine so_assign rfl ?_
        refine so_nil ?_
        exact by_ret rfl ⟨_, h, rfl, hs⟩
    · refine fi_false rfl (decide_eq_false c104) ?_
      refine fi_exit rfl ?_
      refine fi_seq ?_
      refine fi_region ?_
      refine so_assign rfl ?_
      refine so_nil ?_
      exact by_ret rfl ⟨_, h, rfl, hs⟩
  · refine fi_true rfl (not_t (decide_eq_false c101)) ?_
    refine fi_seq ?_
    refine fi_region ?_
    refine so_assign rfl ?_
    refine so_nil ?_
    exact by_ret rfl ⟨_, h, rfl, hs⟩

end Go.Proofs.Ytfieljajhmpbiaa.G

namespace Go.Proofs.Ytfieljajhmpbiaa.G
open Go Go.Ab Go.Proofs Go.Proofs.Ytfieljajhmpbiaa
set_option maxRecDepth 100000
set_option linter.unusedVariables false
set_option linter.unusedSimpArgs false
set_option maxHeartbeats 1000000
theorem F114.ag22 : tagg Try.prog 22 = some false := by kernel_rfl
theorem F114.ag36 : tagg Try.prog 36 = some false := by kernel_rfl
theorem F114.fd79_0 : tfield Try.prog 79 0 = some (0, 1, false) := by kernel_rfl
theorem F114.fd79_1 : tfield Try.prog 79 1 = some (1, 1, false) := by kernel_rfl
theorem F114.fl94 : tflt Try.prog 94 = some .f64 := by kernel_rfl
theorem F114.in94 : tint Try.prog 94 = none := by kernel_rfl
theorem F114.inf79 : (Try.prog.info? 79).isSome = true := by kernel_rfl
theorem F114.us36 : (Try.prog.underlying 36).isSome = true := by kernel_rfl
theorem laws_eqScheme_ok {fr : List Pc} {H : Heap} (v0 : AV) (l0 : List (Nat)) (a1 : Nat) (v2 : AV) (l2 : List (Nat)) (a3 : Nat) (hs : Sep H (fr)) (g0 : ∀ H, Sep H fr → Shows H v0 1 (enc (eFlt .f32) l0)) (g2 : ∀ H, Sep H fr → Shows H v2 1 (enc (eFlt .f32) l2)) (K : Bool → Prop) (h : laws_eqScheme.wp l0 a1 l2 a3 K) : OkQ Try.prog 114 [(.g [v0, (.flt .f32 a1)]), (.g [v2, (.flt .f32 a3)])] H (fun r H2 => ∃ (y0 : Bool), K y0 ∧ r = (.v (.bool y0)) ∧ Sep H2 (fr)) := by
  unfold laws_eqScheme.wp at h
  refine of_body Try.f114 F.hm Try.func114 rfl Try.call114 (by kernel_rfl) (by simp) ?_
  refine fi_seq ?_
  refine fi_region ?_
  refine sv_box hs rfl (c := [v0, (.flt .f32 a1)]) rfl F114.inf79 (stc (g0 _ hs).stor (stc rfl stn)) nofun (fun id101 H102 hs => ?_)
  refine sv_box hs rfl (c := [v2, (.flt .f32 a3)]) rfl F114.inf79 (stc (g2 _ hs.tl).stor (stc rfl stn)) nofun (fun id104 H105 hs => ?_)
  refine so_assign rfl ?_
  refine so_nil ?_
  refine fi_seq ?_
  refine fi_seq ?_
  refine fi_region ?_
  refine so_fieldAddr rfl F114.fd79_0 ?_
  refine sv_ld hs 1 rfl rfl rfl F114.ag22 ?_
  refine so_fieldAddr rfl F114.fd79_0 ?_
  refine sv_ld hs 0 rfl rfl rfl F114.ag22 ?_
  refine sv_call (laws_eqFloat32S_ok v0 l0 v2 l2 hs (fun _ hs => (g0 _ hs.tl.tl)) (fun _ hs => (g2 _ hs.tl.tl)) _ h) rfl rfl nofun ?_
  clear h hs
  rintro _ H108 ⟨y107, h, rfl, hs⟩
  refine so_un rfl au_not ?_
  refine so_nil ?_
  replace h := ofT h; rcases h with ⟨c109, h⟩ | ⟨c109, h⟩
  · refine fi_false rfl (not_f c109) ?_
    refine fi_skip ?_
    refine fi_seq ?_
    refine fi_seq ?_
    refine fi_region ?_
    refine so_fieldAddr rfl F114.fd79_1 ?_
    refine sv_ld hs 1 rfl rfl rfl F114.ag36 ?_
    refine sv_ffw rfl F114.us36 F114.in94 F114.fl94 ?_
    refine so_fieldAddr rfl F114.fd79_1 ?_
    refine sv_ld hs 0 rfl rfl rfl F114.ag36 ?_
    refine sv_ffw rfl F114.us36 F114.in94 F114.fl94 ?_
    refine sv_call (laws_sameFloat_ok (widen a1) (widen a3) hs  _ h) rfl rfl nofun ?_
    clear h hs
    rintro _ H111 ⟨y110, h, rfl, hs⟩
    refine so_un rfl au_not ?_
    refine so_nil ?_
    replace h := ofT h; rcases h with ⟨c112, h⟩ | ⟨c112, h⟩
    · refine fi_false rfl (not_f c112) ?_
      refine fi_skip ?_
      refine fi_seq ?_
      refine fi_region ?_
      refine so_assign rfl ?_
      refine so_nil ?_
      exact by_ret rfl ⟨_, h, rfl, (Sep.del 0 (Sep.del 0 hs))⟩
    · refine fi_true rfl (not_t c112) ?_
      refine fi_seq ?_
      refine fi_region ?_
      refine so_assign rfl ?_
      refine so_nil ?_
      exact by_ret rfl ⟨_, h, rfl, (Sep.del 0 (Sep.del 0 hs))⟩
  · refine fi_true rfl (not_t c109) ?_
    refine fi_seq ?_
    refine fi_region ?_
    refine so_assign rfl ?_
    refine so_nil ?_
    exact by_ret rfl ⟨_, h, rfl, (Sep.del 0 (Sep.del 0 hs))⟩

end Go.Proofs.Ytfieljajhmpbiaa.G

namespace Go.Proofs.Ytfieljajhmpbiaa.G
open Go Go.Ab Go.Proofs Go.Proofs.Ytfieljajhmpbiaa
set_option maxRecDepth 100000
set_option linter.unusedVariables false
set_option linter.unusedSimpArgs false
set_option maxHeartbeats 1000000
theorem F115.ag2 : tagg Try.prog 2 = some false := by kernel_rfl
theorem F115.ag22 : tagg Try.prog 22 = some false := by kernel_rfl
theorem F115.fd80_0 : tfield Try.prog 80 0 = some (0, 1, false) := by kernel_rfl
theorem F115.fd80_1 : tfield Try.prog 80 1 = some (1, 1, false) := by kernel_rfl
theorem F115.fd80_2 : tfield Try.prog 80 2 = some (2, 1, false) := by kernel_rfl
theorem F115.inf80 : (Try.prog.info? 80).isSome = true := by kernel_rfl
theorem laws_eqPicture_ok {fr : List Pc} {H : Heap} (a0 : Int) (a1 : Int) (v2 : AV) (l2 : List (Nat)) (a3 : Int) (a4 : Int) (v5 : AV) (l5 : List (Nat)) (hs : Sep H (fr)) (g2 : ∀ H, Sep H fr → Shows H v2 1 (enc (eFlt .f32) l2)) (g5 : ∀ H, Sep H fr → Shows H v5 1 (enc (eFlt .f32) l5)) (K : Bool → Prop) (h : laws_eqPicture.wp a0 a1 l2 a3 a4 l5 K) : OkQ Try.prog 115 [(.g [(.int .i64 a0), (.int .i64 a1), v2]), (.g [(.int .i64 a3), (.int .i64 a4), v5])] H (fun r H2 => ∃ (y0 : Bool), K y0 ∧ r = (.v (.bool y0)) ∧ Sep H2 (fr)) := by
  unfold laws_eqPicture.wp at h
  refine of_body Try.f115 F.hm Try.func115 rfl Try.call115 (by kernel_rfl) (by simp) ?_
  refine fi_seq ?_
  refine fi_region ?_
  refine sv_box hs rfl (c := [(.int .i64 a0), (.int .i64 a1), v2]) rfl F115.inf80 (stc rfl (stc rfl (stc (g2 _ hs).stor stn))) nofun (fun id101 H102 hs => ?_)
  refine sv_box hs rfl (c := [(.int .i64 a3), (.int .i64 a4), v5]) rfl F115.inf80 (stc rfl (stc rfl (stc (g5 _ hs.tl).stor stn))) nofun (fun id104 H105 hs => ?_)
  refine so_assign rfl ?_
  refine so_nil ?_
  refine fi_seq ?_
  refine fi_seq ?_
  refine fi_region ?_
  refine so_fieldAddr rfl F115.fd80_0 ?_
  refine sv_ld hs 1 rfl rfl rfl F115.ag2 ?_
  refine so_fieldAddr rfl F115.fd80_0 ?_
  refine sv_ld hs 0 rfl rfl rfl F115.ag2 ?_
  refine so_bin rfl rfl ab_neq ?_
  refine so_nil ?_
  replace h := ofP h; rcases h with ⟨c107, h⟩ | ⟨c107, h⟩
  · refine fi_false rfl (not_f (decide_eq_true c107)) ?_
    refine fi_skip ?_
    refine fi_seq ?_
    refine fi_seq ?_
    refine fi_region ?_
    refine so_fieldAddr rfl F115.fd80_1 ?_
    refine sv_ld hs 1 rfl rfl rfl F115.ag2 ?_
    refine so_fieldAddr rfl F115.fd80_1 ?_
    refine sv_ld hs 0 rfl rfl rfl F115.ag2 ?_
    refine so_bin rfl rfl ab_neq ?_
    refine so_nil ?_
    replace h := ofP h; rcases h with ⟨c108, h⟩ | ⟨c108, h⟩
    · refine fi_false rfl (not_f (decide_eq_true c108)) ?_
      refine fi_skip ?_
      refine fi_seq ?_
      refine fi_seq ?_
      refine fi_region ?_
      refine so_fieldAddr rfl F115.fd80_2 ?_
      refine sv_ld hs 1 rfl rfl rfl F115.ag22 ?_
      refine so_fieldAddr rfl F115.fd80_2 ?_
      refine sv_ld hs 0 rfl rfl rfl F115.ag22 ?_
      refine sv_call (laws_eqFloat32S_ok v2 l2 v5 l5 hs (fun _ hs => (g2 _ hs.tl.tl)) (fun _ hs => (g5 _ hs.tl.tl)) _ h) rfl rfl nofun ?_
      clear h hs
      rintro _ H110 ⟨y109, h, rfl, hs⟩
      refine so_un rfl au_not ?_
      refine so_nil ?_
      replace h := ofT h; rcases h with ⟨c111, h⟩ | ⟨c111, h⟩
      · refine fi_false rfl (not_f c111) ?_
        refine fi_skip ?_
        refine fi_seq ?_
        refine fi_region ?_
        refine so_assign rfl ?_
        refine so_nil ?_
        exact by_ret rfl ⟨_, h, rfl, (Sep.del 0 (Sep.del 0 hs))⟩
      · refine fi_true rfl (not_t c111) ?_
        refine fi_seq ?_
        refine fi_region ?_
        refine so_assign rfl ?_
        refine so_nil ?_
        exact by_ret rfl ⟨_, h, rfl, (Sep.del 0 (Sep.del 0 hs))⟩
    · refine fi_true rfl (not_t (decide_eq_false c108)) ?_
      refine fi_seq ?_
      refine fi_region ?_
      refine so_assign rfl ?_
      refine so_nil ?_
      exact by_ret rfl ⟨_, h, rfl, (Sep.del 0 (Sep.del 0 hs))⟩
  · refine fi_true rfl (not_t (decide_eq_false c107)) ?_
    refine fi_seq ?_
    refine fi_region ?_
    refine so_assign rfl ?_
    refine so_nil ?_
    exact by_ret rfl ⟨_, h, rfl, (Sep.del 0 (Sep.del 0 hs))⟩

end Go.Proofs.Ytfieljajhmpbiaa.G

namespace Go.Proofs.Ytfieljajhmpbiaa.G
open Go Go.Ab Go.Proofs Go.Proofs.Ytfieljajhmpbiaa
set_option maxRecDepth 100000
set_option linter.unusedVariables false
set_option linter.unusedSimpArgs false
set_option maxHeartbeats 1000000
theorem F140.ag4 : tagg Try.prog 4 = some false := by kernel_rfl
theorem F140.tb4 : tbool Try.prog 4 = true := by kernel_rfl
theorem F140.ti72 : (telem Try.prog 72).isSome = true := by kernel_rfl
theorem F140.tl72 : (telem Try.prog 72).bind (tsz Try.prog) = some 1 := by kernel_rfl
theorem laws_eqBoolS_ok {fr : List Pc} {H : Heap} (v0 : AV) (l0 : List (Bool)) (v1 : AV) (l1 : List (Bool)) (hs : Sep H (fr)) (g0 : ∀ H, Sep H fr → Shows H v0 1 (enc eBool l0)) (g1 : ∀ H, Sep H fr → Shows H v1 1 (enc eBool l1)) (K : Bool → Prop) (h : laws_eqBoolS.wp l0 l1 K) : OkQ Try.prog 140 [(.v v0), (.v v1)] H (fun r H2 => ∃ (y0 : Bool), K y0 ∧ r = (.v (.bool y0)) ∧ Sep H2 (fr)) := by
  unfold laws_eqBoolS.wp at h
  refine of_body Try.f140 F.hm Try.func140 rfl Try.call140 (by kernel_rfl) (by simp) ?_
  refine fi_seq ?_
  refine fi_region ?_
  refine so_assign rfl ?_
  refine so_nil ?_
  refine fi_seq ?_
  refine fi_seq ?_
  refine fi_region ?_
  refine so_move rfl ?_
  refine sv_len (g0 _ hs) (fun _ => rfl) (by decide) rfl F140.ti72 ?_
  refine so_move rfl ?_
  refine sv_len (g1 _ hs) (fun _ => rfl) (by decide) rfl F140.ti72 ?_
  refine so_bin rfl rfl ab_neq ?_
  refine so_nil ?_
  replace h := ofP h; rcases h with ⟨c101, h⟩ | ⟨c101, h⟩
  · refine fi_false rfl (not_f (decide_eq_true c101)) ?_
    refine fi_skip ?_
    refine fi_seq ?_
    refine fi_seq ?_
    refine fi_region ?_
    refine so_assign rfl ?_
    refine so_nil ?_
    refine fi_block ?_
    refine fi_loop ?_
    refine fi_at [(0, (.v v0)), (1, (.v v1)), (5, (.v (.int .i64 (0 : Int))))] ⟨rfl, rfl, rfl, trivial⟩ ?_
    refine h (fun (i103 : Int) => ∀ (s : Nat → TV) (H : Heap), Sep H (fr) → Fin _ _ (updL s [(0, (.v v0)), (1, (.v v1)), (5, (.v (.int .i64 i103)))]) H _) ?_ _ _ hs
    intro i103 h s108 H109 hs
    refine fi_inLoop ?_
    refine fi_seq ?_
    refine fi_seq ?_
    refine fi_region ?_
    refine so_move rfl ?_
    refine so_move rfl ?_
    refine sv_len (g0 _ hs) (fun _ => rfl) (by decide) rfl F140.ti72 ?_
    refine so_bin rfl rfl ab_lss ?_
    refine so_nil ?_
    replace h := ofP h; rcases h with ⟨c104, h⟩ | ⟨c104, h⟩
    · refine fi_true rfl (decide_eq_true c104) ?_
      refine fi_skip ?_
      refine fi_seq ?_
      refine fi_block ?_
      refine fi_seq ?_
      refine fi_region ?_
      refine so_move rfl ?_
      refine so_move rfl ?_
      obtain ⟨c105, h⟩ := h
      refine sv_idx (g0 _ hs) c105 (fun _ => rfl) (by decide) rfl rfl F140.tl72 ?_
      refine sv_cell (g0 _ hs) c105 false 0 (fun x => (AV.bool x)) (fun _ => rfl) (fun _ => rfl) rfl F140.ag4 ?_
      refine so_move rfl ?_
      refine so_move rfl ?_
      obtain ⟨c106, h⟩ := h
      refine sv_idx (g1 _ hs) c106 (fun _ => rfl) (by decide) rfl rfl F140.tl72 ?_
      refine sv_cell (g1 _ hs) c106 false 0 (fun x => (AV.bool x)) (fun _ => rfl) (fun _ => rfl) rfl F140.ag4 ?_
      refine so_bin rfl rfl (ab_bneq F140.tb4) ?_
      refine so_nil ?_
      replace h := ofT h; rcases h with ⟨c107, h⟩ | ⟨c107, h⟩
      · refine fi_false rfl (not_f c107) ?_
        refine fi_skip ?_
        refine fi_inBlock ?_
        refine fi_region ?_
        refine so_move rfl ?_
        refine so_bin rfl rfl ab_add ?_
        refine so_assign rfl ?_
        refine so_nil ?_
        exact fi_at [(0, (.v v0)), (1, (.v v1)), (5, (.v (.int .i64 (IntKind.i64.wrap (i103 + (1 : Int))))))] ⟨rfl, rfl, rfl, trivial⟩ (h _ _  hs)
      · refine fi_true rfl (not_t c107) ?_
        refine fi_seq ?_
        refine fi_region ?_
        refine so_assign rfl ?_
        refine so_nil ?_
        exact by_ret rfl ⟨_, h, rfl, hs⟩
    · refine fi_false rfl (decide_eq_false c104) ?_
      refine fi_exit rfl ?_
      refine fi_seq ?_
      refine fi_region ?_
      refine so_assign rfl ?_
      refine so_nil ?_
      exact by_ret rfl ⟨_, h, rfl, hs⟩
  · refine fi_true rfl (not_t (decide_eq_false c101)) ?_
    refine fi_seq ?_
    refine fi_region ?_
    refine so_assign rfl ?_
    refine so_nil ?_
    exact by_ret rfl ⟨_, h, rfl, hs⟩

end Go.Proofs.Ytfieljajhmpbiaa.G

namespace Go.Proofs.Ytfieljajhmpbiaa.G
open Go Go.Ab Go.Proofs Go.Proofs.Ytfieljajhmpbiaa
set_option maxRecDepth 100000
set_option linter.unusedVariables false
set_option linter.unusedSimpArgs false
set_option maxHeartbeats 1000000
theorem F116.ag2 : tagg Try.prog 2 = some false := by kernel_rfl
theorem F116.ag72 : tagg Try.prog 72 = some false := by kernel_rfl
theorem F116.fd81_0 : tfield Try.prog 81 0 = some (0, 1, false) := by kernel_rfl
theorem F116.fd81_1 : tfield Try.prog 81 1 = some (1, 1, false) := by kernel_rfl
theorem F116.fd81_2 : tfield Try.prog 81 2 = some (2, 1, false) := by kernel_rfl
theorem F116.inf81 : (Try.prog.info? 81).isSome = true := by kernel_rfl
theorem laws_eqCoded_ok {fr : List Pc} {H : Heap} (a0 : Int) (a1 : Int) (v2 : AV) (l2 : List (Bool)) (a3 : Int) (a4 : Int) (v5 : AV) (l5 : List (Bool)) (hs : Sep H (fr)) (g2 : ∀ H, Sep H fr → Shows H v2 1 (enc eBool l2)) (g5 : ∀ H, Sep H fr → Shows H v5 1 (enc eBool l5)) (K : Bool → Prop) (h : laws_eqCoded.wp a0 a1 l2 a3 a4 l5 K) : OkQ Try.prog 116 [(.g [(.int .i64 a0), (.int .i64 a1), v2]), (.g [(.int .i64 a3), (.int .i64 a4), v5])] H (fun r H2 => ∃ (y0 : Bool), K y0 ∧ r = (.v (.bool y0)) ∧ Sep H2 (fr)) := by
  unfold laws_eqCoded.wp at h
  refine of_body Try.f116 F.hm Try.func116 rfl Try.call116 (by kernel_rfl) (by simp) ?_
  refine fi_seq ?_
  refine fi_region ?_
  refine sv_box hs rfl (c := [(.int .i64 a0), (.int .i64 a1), v2]) rfl F116.inf81 (stc rfl (stc rfl (stc (g2 _ hs).stor stn))) nofun (fun id101 H102 hs => ?_)
  refine sv_box hs rfl (c := [(.int .i64 a3), (.int .i64 a4), v5]) rfl F116.inf81 (stc rfl (stc rfl (stc (g5 _ hs.tl).stor stn))) nofun (fun id104 H105 hs => ?_)
  refine so_assign rfl ?_
  refine so_nil ?_
  refine fi_seq ?_
  refine fi_seq ?_
  refine fi_region ?_
  refine so_fieldAddr rfl F116.fd81_0 ?_
  refine sv_ld hs 1 rfl rfl rfl F116.ag2 ?_
  refine so_fieldAddr rfl F116.fd81_0 ?_
  refine sv_ld hs 0 rfl rfl rfl F116.ag2 ?_
  refine so_bin rfl rfl ab_neq ?_
  refine so_nil ?_
  replace h := ofP h; rcases h with ⟨c107, h⟩ | ⟨c107, h⟩
  · refine fi_false rfl (not_f (decide_eq_true c107)) ?_
    refine fi_skip ?_
    refine fi_seq ?_
    refine fi_seq ?_
    refine fi_region ?_
    refine so_fieldAddr rfl F116.fd81_1 ?_
    refine sv_ld hs 1 rfl rfl rfl F116.ag2 ?_
    refine so_fieldAddr rfl F116.fd81_1 ?_
    refine sv_ld hs 0 rfl rfl rfl F116.ag2 ?_
    refine so_bin rfl rfl ab_neq ?_
    refine so_nil ?_
    replace h := ofP h; rcases h with ⟨c108, h⟩ | ⟨c108, h⟩
    · refine fi_false rfl (not_f (decide_eq_true c108)) ?_
      refine fi_skip ?_
      refine fi_seq ?_
      refine fi_seq ?_
      refine fi_region ?_
      refine so_fieldAddr rfl F116.fd81_2 ?_
      refine sv_ld hs 1 rfl rfl rfl F116.ag72 ?_
      refine so_fieldAddr rfl F116.fd81_2 ?_
      refine sv_ld hs 0 rfl rfl rfl F116.ag72 ?_
      refine sv_call (laws_eqBoolS_ok v2 l2 v5 l5 hs (fun _ hs => (g2 _ hs.tl.tl)) (fun _ hs => (g5 _ hs.tl.tl)) _ h) rfl rfl nofun ?_
      clear h hs
      rintro _ H110 ⟨y109, h, rfl, hs⟩
      refine so_un rfl au_not ?_
      refine so_nil ?_
      replace h := ofT h; rcases h with ⟨c111, h⟩ | ⟨c111, h⟩
      · refine fi_false rfl (not_f c111) ?_
        refine fi_skip ?_
        refine fi_seq ?_
        refine fi_region ?_
        refine so_assign rfl ?_
        refine so_nil ?_
        exact by_ret rfl ⟨_, h, rfl, (Sep.del 0 (Sep.del 0 hs))⟩
      · refine fi_true rfl (not_t c111) ?_
        refine fi_seq ?_
        refine fi_region ?_
        refine so_assign rfl ?_
        refine so_nil ?_
        exact by_ret rfl ⟨_, h, rfl, (Sep.del 0 (Sep.del 0 hs))⟩
    · refine fi_true rfl (not_t (decide_eq_false c108)) ?_
      refine fi_seq ?_
      refine fi_region ?_
      refine so_assign rfl ?_
      refine so_nil ?_
      exact by_ret rfl ⟨_, h, rfl, (Sep.del 0 (Sep.del 0 hs))⟩
  · refine fi_true rfl (not_t (decide_eq_false c107)) ?_
    refine fi_seq ?_
    refine fi_region ?_
    refine so_assign rfl ?_
    refine so_nil ?_
    exact by_ret rfl ⟨_, h, rfl, (Sep.del 0 (Sep.del 0 hs))⟩

end Go.Proofs.Ytfieljajhmpbiaa.G

namespace Go.Proofs.Ytfieljajhmpbiaa.G
open Go Go.Ab Go.Proofs Go.Proofs.Ytfieljajhmpbiaa
set_option maxRecDepth 100000
set_option linter.unusedVariables false
set_option linter.unusedSimpArgs false
set_option maxHeartbeats 1000000
theorem F57.ag22 : tagg Try.prog 22 = some false := by kernel_rfl
theorem F57.ag79 : tagg Try.prog 79 = some true := by kernel_rfl
theorem F57.ag80 : tagg Try.prog 80 = some true := by kernel_rfl
theorem F57.ag81 : tagg Try.prog 81 = some true := by kernel_rfl
theorem F57.fd83_0 : tfield Try.prog 83 0 = some (0, 1, false) := by kernel_rfl
theorem F57.fd83_1 : tfield Try.prog 83 1 = some (1, 2, true) := by kernel_rfl
theorem F57.fd83_2 : tfield Try.prog 83 2 = some (3, 3, true) := by kernel_rfl
theorem F57.fd83_3 : tfield Try.prog 83 3 = some (6, 3, true) := by kernel_rfl
theorem F57.inf83 : (Try.prog.info? 83).isSome = true := by kernel_rfl
theorem F57.sz79 : tsz Try.prog 79 = some 2 := by kernel_rfl
theorem F57.sz80 : tsz Try.prog 80 = some 3 := by kernel_rfl
theorem F57.sz81 : tsz Try.prog 81 = some 3 := by kernel_rfl
theorem laws_eqDesk_ok {fr : List Pc} {H : Heap} (v0 : AV) (l0 : List (Nat)) (v1 : AV) (l1 : List (Nat)) (a2 : Nat) (a3 : Int) (a4 : Int) (v5 : AV) (l5 : List (Nat)) (a6 : Int) (a7 : Int) (v8 : AV) (l8 : List (Bool)) (v9 : AV) (l9 : List (Nat)) (v10 : AV) (l10 : List (Nat)) (a11 : Nat) (a12 : Int) (a13 : Int) (v14 : AV) (l14 : List (Nat)) (a15 : Int) (a16 : Int) (v17 : AV) (l17 : List (Bool)) (hs : Sep H (fr)) (g0 : ∀ H, Sep H fr → Shows H v0 1 (enc (eFlt .f32) l0)) (g1 : ∀ H, Sep H fr → Shows H v1 1 (enc (eFlt .f32) l1)) (g5 : ∀ H, Sep H fr → Shows H v5 1 (enc (eFlt .f32) l5)) (g8 : ∀ H, Sep H fr → Shows H v8 1 (enc eBool l8)) (g9 : ∀ H, Sep H fr → Shows H v9 1 (enc (eFlt .f32) l9)) (g10 : ∀ H, Sep H fr → Shows H v10 1 (enc (eFlt .f32) l10)) (g14 : ∀ H, Sep H fr → Shows H v14 1 (enc (eFlt .f32) l14)) (g17 : ∀ H, Sep H fr → Shows H v17 1 (enc eBool l17)) (K : Bool → Prop) (h : laws_eqDesk.wp l0 l1 a2 a3 a4 l5 a6 a7 l8 l9 l10 a11 a12 a13 l14 a15 a16 l17 K) : OkQ Try.prog 57 [(.g [v0, v1, (.flt .f32 a2), (.int .i64 a3), (.int .i64 a4), v5, (.int .i64 a6), (.int .i64 a7), v8]), (.g [v9, v10, (.flt .f32 a11), (.int .i64 a12), (.int .i64 a13), v14, (.int .i64 a15), (.int .i64 a16), v17])] H (fun r H2 => ∃ (y0 : Bool), K y0 ∧ r = (.v (.bool y0)) ∧ Sep H2 (fr)) := by
  unfold laws_eqDesk.wp at h
  refine of_body Try.f57 F.hm Try.func57 rfl Try.call57 (by kernel_rfl) (by simp) ?_
  refine fi_seq ?_
  refine fi_region ?_
  refine sv_box hs rfl (c := [v0, v1, (.flt .f32 a2), (.int .i64 a3), (.int .i64 a4), v5, (.int .i64 a6), (.int .i64 a7), v8]) rfl F57.inf83 (stc (g0 _ hs).stor (stc (g1 _ hs).stor (stc rfl (stc rfl (stc rfl (stc (g5 _ hs).stor (stc rfl (stc rfl (stc (g8 _ hs).stor stn))))))))) nofun (fun id101 H102 hs => ?_)
  refine sv_box hs rfl (c := [v9, v10, (.flt .f32 a11), (.int .i64 a12), (.int .i64 a13), v14, (.int .i64 a15), (.int .i64 a16), v17]) rfl F57.inf83 (stc (g9 _ hs.tl).stor (stc (g10 _ hs.tl).stor (stc rfl (stc rfl (stc rfl (stc (g14 _ hs.tl).stor (stc rfl (stc rfl (stc (g17 _ hs.tl).stor stn))))))))) nofun (fun id104 H105 hs => ?_)
  refine so_assign rfl ?_
  refine so_nil ?_
  refine fi_seq ?_
  refine fi_seq ?_
  refine fi_region ?_
  refine so_fieldAddr rfl F57.fd83_0 ?_
  refine sv_ld hs 1 rfl rfl rfl F57.ag22 ?_
  refine so_fieldAddr rfl F57.fd83_0 ?_
  refine sv_ld hs 0 rfl rfl rfl F57.ag22 ?_
  refine sv_call (laws_eqFloat32S_ok v0 l0 v9 l9 hs (fun _ hs => (g0 _ hs.tl.tl)) (fun _ hs => (g9 _ hs.tl.tl)) _ h) rfl rfl nofun ?_
  clear h hs
  rintro _ H108 ⟨y107, h, rfl, hs⟩
  refine so_un rfl au_not ?_
  refine so_nil ?_
  replace h := ofT h; rcases h with ⟨c109, h⟩ | ⟨c109, h⟩
  · refine fi_false rfl (not_f c109) ?_
    refine fi_skip ?_
    refine fi_seq ?_
    refine fi_seq ?_
    refine fi_region ?_
    refine so_fieldAddr rfl F57.fd83_1 ?_
    refine sv_lds hs 1 rfl rfl (leb rfl) rfl F57.ag79 F57.sz79 ?_
    refine so_fieldAddr rfl F57.fd83_1 ?_
    refine sv_lds hs 0 rfl rfl (leb rfl) rfl F57.ag79 F57.sz79 ?_
    refine sv_call (laws_eqScheme_ok v1 l1 a2 v10 l10 a11 hs (fun _ hs => (g1 _ hs.tl.tl)) (fun _ hs => (g10 _ hs.tl.tl)) _ h) rfl rfl nofun ?_
    clear h hs
    rintro _ H111 ⟨y110, h, rfl, hs⟩
    refine so_un rfl au_not ?_
    refine so_nil ?_
    replace h := ofT h; rcases h with ⟨c112, h⟩ | ⟨c112, h⟩
    · refine fi_false rfl (not_f c112) ?_
      refine fi_skip ?_
      refine fi_seq ?_
      refine fi_seq ?_
      refine fi_region ?_
      refine so_fieldAddr rfl F57.fd83_2 ?_
      refine sv_lds hs 1 rfl rfl (leb rfl) rfl F57.ag80 F57.sz80 ?_
      refine so_fieldAddr rfl F57.fd83_2 ?_
      refine sv_lds hs 0 rfl rfl (leb rfl) rfl F57.ag80 F57.sz80 ?_
      refine sv_call (laws_eqPicture_ok a3 a4 v5 l5 a12 a13 v14 l14 hs (fun _ hs => (g5 _ hs.tl.tl)) (fun _ hs => (g14 _ hs.tl.tl)) _ h) rfl rfl nofun ?_
      clear h hs
      rintro _ H114 ⟨y113, h, rfl, hs⟩
      refine so_un rfl au_not ?_
      refine so_nil ?_
      replace h := ofT h; rcases h with ⟨c115, h⟩ | ⟨c115, h⟩
      · refine fi_false rfl (not_f c115) ?_
        refine fi_skip ?_
        refine fi_seq ?_
        refine fi_seq ?_
        refine fi_region ?_
        refine so_fieldAddr rfl F57.fd83_3 ?_
        refine sv_lds hs 1 rfl rfl (leb rfl) rfl F57.ag81 F57.sz81 ?_
        refine so_fieldAddr rfl F57.fd83_3 ?_
        refine sv_lds hs 0 rfl rfl (leb rfl) rfl F57.ag81 F57.sz81 ?_
        refine sv_call (laws_eqCoded_ok a6 a7 v8 l8 a15 a16 v17 l17 hs (fun _ hs => (g8 _ hs.tl.tl)) (fun _ hs => (g17 _ hs.tl.tl)) _ h) rfl rfl nofun ?_
        clear h hs
        rintro _ H117 ⟨y116, h, rfl, hs⟩
        refine so_un rfl au_not ?_
        refine so_nil ?_
        replace h := ofT h; rcases h with ⟨c118, h⟩ | ⟨c118, h⟩
        · refine fi_false rfl (not_f c118) ?_
          refine fi_skip ?_
          refine fi_seq ?_
          refine fi_region ?_
          refine so_assign rfl ?_
          refine so_nil ?_
          exact by_ret rfl ⟨_, h, rfl, (Sep.del 0 (Sep.del 0 hs))⟩
        · refine fi_true rfl (not_t c118) ?_
          refine fi_seq ?_
          refine fi_region ?_
          refine so_assign rfl ?_
          refine so_nil ?_
          exact by_ret rfl ⟨_, h, rfl, (Sep.del 0 (Sep.del 0 hs))⟩
      · refine fi_true rfl (not_t c115) ?_
        refine fi_seq ?_
        refine fi_region ?_
        refine so_assign rfl ?_
        refine so_nil ?_
        exact by_ret rfl ⟨_, h, rfl, (Sep.del 0 (Sep.del 0 hs))⟩
    · refine fi_true rfl (not_t c112) ?_
      refine fi_seq ?_
      refine fi_region ?_
      refine so_assign rfl ?_
      refine so_nil ?_
      exact by_ret rfl ⟨_, h, rfl, (Sep.del 0 (Sep.del 0 hs))⟩
  · refine fi_true rfl (not_t c109) ?_
    refine fi_seq ?_
    refine fi_region ?_
    refine so_assign rfl ?_
    refine so_nil ?_
    exact by_ret rfl ⟨_, h, rfl, (Sep.del 0 (Sep.del 0 hs))⟩

end Go.Proofs.Ytfieljajhmpbiaa.G

namespace Go.Proofs.Ytfieljajhmpbiaa.G
open Go Go.Ab Go.Proofs Go.Proofs.Ytfieljajhmpbiaa
set_option maxRecDepth 100000
set_option linter.unusedVariables false
set_option linter.unusedSimpArgs false
set_option maxHeartbeats 1000000
theorem F13.ag76 : tagg Try.prog 76 = some true := by kernel_rfl
theorem F13.ag83 : tagg Try.prog 83 = some true := by kernel_rfl
theorem F13.inf76 : (Try.prog.info? 76).isSome = true := by kernel_rfl
theorem F13.sz76 : tsz Try.prog 76 = some 9 := by kernel_rfl
theorem F13.sz83 : tsz Try.prog 83 = some 9 := by kernel_rfl
theorem F13.tb4 : tbool Try.prog 4 = true := by kernel_rfl
theorem F13.ze83 : tzero Try.prog 83 = some [.nilsl, .nilsl, (.flt .f32 (0 : Nat)), (.int .i64 (0 : Int)), (.int .i64 (0 : Int)), .nilsl, (.int .i64 (0 : Int)), (.int .i64 (0 : Int)), .nilsl] := by kernel_rfl
theorem laws_FnExactValidDesk_ok {fr : List Pc} {H : Heap} (v0 : AV) (l0 : List (Nat)) (v1 : AV) (l1 : List (Nat)) (a2 : Nat) (a3 : Int) (a4 : Int) (v5 : AV) (l5 : List (Nat)) (a6 : Int) (a7 : Int) (v8 : AV) (l8 : List (Bool)) (hs : Sep H (fr)) (g0 : ∀ H, Sep H fr → Shows H v0 1 (enc (eFlt .f32) l0)) (g1 : ∀ H, Sep H fr → Shows H v1 1 (enc (eFlt .f32) l1)) (g5 : ∀ H, Sep H fr → Shows H v5 1 (enc (eFlt .f32) l5)) (g8 : ∀ H, Sep H fr → Shows H v8 1 (enc eBool l8)) (K : Bool → Prop) (h : laws_FnExactValidDesk.wp l0 l1 a2 a3 a4 l5 a6 a7 l8 K) : OkQ Try.prog 13 [(.g [v0, v1, (.flt .f32 a2), (.int .i64 a3), (.int .i64 a4), v5, (.int .i64 a6), (.int .i64 a7), v8])] H (fun r H2 => ∃ (y0 : Bool), K y0 ∧ r = (.v (.bool y0)) ∧ Sep H2 (fr)) := by
  unfold laws_FnExactValidDesk.wp at h
  refine of_body Try.f13 F.hm Try.func13 rfl Try.call13 (by kernel_rfl) (by simp) ?_
  refine fi_seq ?_
  refine fi_region ?_
  refine sv_box hs rfl (c := [v0, v1, (.flt .f32 a2), (.int .i64 a3), (.int .i64 a4), v5, (.int .i64 a6), (.int .i64 a7), v8]) rfl F13.inf76 (stc (g0 _ hs).stor (stc (g1 _ hs).stor (stc rfl (stc rfl (stc rfl (stc (g5 _ hs).stor (stc rfl (stc rfl (stc (g8 _ hs).stor stn))))))))) nofun (fun id101 H102 hs => ?_)
  refine so_assign rfl ?_
  refine so_nil ?_
  refine fi_seq ?_
  refine fi_region ?_
  refine so_assign rfl ?_
  refine so_nil ?_
  refine fi_seq ?_
  refine fi_region ?_
  refine sv_lds hs 0 rfl rfl (leb rfl) rfl F13.ag76 F13.sz76 ?_
  refine so_move rfl ?_
  refine sv_call (laws_szDesk_ok v0 l0 v1 l1 a2 a3 a4 v5 l5 a6 a7 v8 l8 (1048576 : Int) hs (fun _ hs => (g0 _ hs.tl)) (fun _ hs => (g1 _ hs.tl)) (fun _ hs => (g5 _ hs.tl)) (fun _ hs => (g8 _ hs.tl)) _ h) rfl rfl nofun ?_
  clear h hs
  rintro _ H105 ⟨y104, h, rfl, hs⟩
  refine so_assign rfl ?_
  refine so_nil ?_
  refine fi_seq ?_
  refine fi_seq ?_
  refine fi_region ?_
  refine so_move rfl ?_
  refine so_bin rfl rfl ab_lss ?_
  refine so_nil ?_
  replace h := ofP h; rcases h with ⟨c106, h⟩ | ⟨c106, h⟩
  · refine fi_true rfl (decide_eq_true c106) ?_
    refine fi_seq ?_
    refine fi_region ?_
    refine so_assign rfl ?_
    refine so_nil ?_
    exact by_ret rfl ⟨_, h, rfl, (Sep.del 0 hs)⟩
  · refine fi_false rfl (decide_eq_false c106) ?_
    refine fi_skip ?_
    refine fi_seq ?_
    refine fi_region ?_
    refine sv_lds hs 0 rfl rfl (leb rfl) rfl F13.ag76 F13.sz76 ?_
    refine sv_call (laws_toDesk_ok v0 l0 v1 l1 a2 a3 a4 v5 l5 a6 a7 v8 l8 hs (fun _ hs => (g0 _ hs.tl)) (fun _ hs => (g1 _ hs.tl)) (fun _ hs => (g5 _ hs.tl)) (fun _ hs => (g8 _ hs.tl)) _ h) rfl rfl nofun ?_
    clear h hs
    rintro _ H124 ⟨y107, y110, y113, y114, y115, y116, y119, y120, y121, h, v108, v111, v117, v122, rfl, hs⟩
    refine sv_call (spec_ValidDesk_ok v108 y107 v111 y110 y113 y114 y115 v117 y116 y119 y120 v122 y121 hs (fun _ hs => (hs.shows 0 rfl)) (fun _ hs => (hs.shows 1 rfl)) (fun _ hs => (hs.shows 2 rfl)) (fun _ hs => (hs.shows 3 rfl)) _ h) rfl rfl nofun ?_
    clear h hs
    rintro _ H126 ⟨y125, h, rfl, hs⟩
    refine so_assign rfl ?_
    refine so_nil ?_
    refine fi_seq ?_
    refine fi_region ?_
    refine sv_lds hs 4 rfl rfl (leb rfl) rfl F13.ag76 F13.sz76 ?_
    refine sv_call (laws_toDesk_ok v0 l0 v1 l1 a2 a3 a4 v5 l5 a6 a7 v8 l8 hs (fun _ hs => (g0 _ hs.tl.tl.tl.tl.tl)) (fun _ hs => (g1 _ hs.tl.tl.tl.tl.tl)) (fun _ hs => (g5 _ hs.tl.tl.tl.tl.tl)) (fun _ hs => (g8 _ hs.tl.tl.tl.tl.tl)) _ h) rfl rfl nofun ?_
    clear h hs
    rintro _ H144 ⟨y127, y130, y133, y134, y135, y136, y139, y140, y141, h, v128, v131, v137, v142, rfl, hs⟩
    refine sv_alloc hs F13.ze83 rfl nofun (fun id145 H146 hs => ?_)
    refine sv_st hs 0 rfl rfl rfl (c := [v128, v131, (.flt .f32 y133), (.int .i64 y134), (.int .i64 y135), v137, (.int .i64 y139), (.int .i64 y140), v142]) rfl F13.sz83 rfl (stc (hs.shows 1 rfl).stor (stc (hs.shows 2 rfl).stor (stc rfl (stc rfl (stc rfl (stc (hs.shows 3 rfl).stor (stc rfl (stc rfl (stc (hs.shows 4 rfl).stor stn))))))))) (leb rfl) (cs' := [v128, v131, (.flt .f32 y133), (.int .i64 y134), (.int .i64 y135), v137, (.int .i64 y139), (.int .i64 y140), v142]) rfl nofun (fun H148 hs => ?_)
    refine so_nil ?_
    refine fi_seq ?_
    refine fi_region ?_
    refine sv_lds hs 0 rfl rfl (leb rfl) rfl F13.ag83 F13.sz83 ?_
    refine sv_call (impl_ValidDesk_ok v128 y127 v131 y130 y133 y134 y135 v137 y136 y139 y140 v142 y141 hs (fun _ hs => (hs.shows 1 rfl)) (fun _ hs => (hs.shows 2 rfl)) (fun _ hs => (hs.shows 3 rfl)) (fun _ hs => (hs.shows 4 rfl)) _ h) rfl rfl nofun ?_
    clear h hs
    rintro _ H150 ⟨y149, h, rfl, hs⟩
    refine so_assign rfl ?_
    refine so_nil ?_
    refine fi_seq ?_
    refine fi_seq ?_
    refine fi_region ?_
    refine so_move rfl ?_
    refine so_move rfl ?_
    refine so_bin rfl rfl (ab_bneq F13.tb4) ?_
    refine so_nil ?_
    replace h := ofT h; rcases h with ⟨c151, h⟩ | ⟨c151, h⟩
    · refine fi_false rfl (not_f c151) ?_
      refine fi_skip ?_
      refine fi_seq ?_
      refine fi_seq ?_
      refine fi_free [0] ?_
      refine wf_free (.g [v128, v131, (.flt .f32 y133), (.int .i64 y134), (.int .i64 y135), v137, (.int .i64 y139), (.int .i64 y140), v142]) rfl (fac (stepr (i := 0) rfl (by refine sv_lds hs 0 rfl rfl (leb rfl) rfl F13.ag83 F13.sz83 ?_; exact so_end ⟨rfl, rfl⟩)) fan) ?_
      refine wf_same (by decide +kernel) ?_
      refine sv_lds hs 9 rfl rfl (leb rfl) rfl F13.ag76 F13.sz76 ?_
      refine so_end ⟨rfl, ?_⟩
      have hs0_ := hs
      refine wf_chg (by kernel_rfl) ?_
      refine sv_call (laws_toDesk_ok v0 l0 v1 l1 a2 a3 a4 v5 l5 a6 a7 v8 l8 hs (fun _ hs => (g0 _ hs.tl.tl.tl.tl.tl.tl.tl.tl.tl.tl)) (fun _ hs => (g1 _ hs.tl.tl.tl.tl.tl.tl.tl.tl.tl.tl)) (fun _ hs => (g5 _ hs.tl.tl.tl.tl.tl.tl.tl.tl.tl.tl)) (fun _ hs => (g8 _ hs.tl.tl.tl.tl.tl.tl.tl.tl.tl.tl)) _ h) rfl rfl nofun ?_
      clear h
      rintro _ H169 ⟨y152, y155, y158, y159, y160, y161, y164, y165, y166, h, v153, v156, v162, v167, rfl, hs⟩
      refine so_end ⟨(fac (stepr (i := 0) rfl (by refine sv_lds hs 4 rfl rfl (leb rfl) rfl F13.ag83 F13.sz83 ?_; exact so_end ⟨rfl, rfl⟩)) fan), ?_⟩
      have hs1_ := hs
      refine wf_chg (by kernel_rfl) ?_
      refine sv_call (laws_eqDesk_ok v128 y127 v131 y130 y133 y134 y135 v137 y136 y139 y140 v142 y141 v153 y152 v156 y155 y158 y159 y160 v162 y161 y164 y165 v167 y166 hs (fun _ hs => (hs.shows 5 rfl)) (fun _ hs => (hs.shows 6 rfl)) (fun _ hs => (hs.shows 7 rfl)) (fun _ hs => (hs.shows 8 rfl)) (fun _ hs => (hs.shows 0 rfl)) (fun _ hs => (hs.shows 1 rfl)) (fun _ hs => (hs.shows 2 rfl)) (fun _ hs => (hs.shows 3 rfl)) _ h) rfl rfl nofun ?_
      clear h
      rintro _ H171 ⟨y170, h, rfl, hs⟩
      refine so_end ⟨(fac (stepr (i := 0) rfl (by refine sv_lds hs 4 rfl rfl (leb rfl) rfl F13.ag83 F13.sz83 ?_; exact so_end ⟨rfl, rfl⟩)) fan), ?_⟩
      refine wf_pure rfl ?_
      refine so_un rfl au_not ?_
      refine so_end ?_
      refine wf_nil ?_
      replace h := ofT h; rcases h with ⟨c172, h⟩ | ⟨c172, h⟩
      · refine fi_false rfl (not_f c172) ?_
        refine fi_skip ?_
        refine fi_seq ?_
        refine fi_region ?_
        refine so_assign rfl ?_
        refine so_nil ?_
        exact by_ret rfl ⟨_, h, rfl, (Sep.del 0 (Sep.del 0 (Sep.del 0 (Sep.del 0 (Sep.del 0 (Sep.del 0 (Sep.del 0 (Sep.del 0 (Sep.del 0 (Sep.del 0 (Sep.del 0 (Sep.del 0 (Sep.del 0 (Sep.del 0 hs))))))))))))))⟩
      · refine fi_true rfl (not_t c172) ?_
        refine fi_seq ?_
        refine fi_region ?_
        refine so_assign rfl ?_
        refine so_nil ?_
        exact by_ret rfl ⟨_, h, rfl, (Sep.del 0 (Sep.del 0 (Sep.del 0 (Sep.del 0 (Sep.del 0 (Sep.del 0 (Sep.del 0 (Sep.del 0 (Sep.del 0 (Sep.del 0 (Sep.del 0 (Sep.del 0 (Sep.del 0 (Sep.del 0 hs))))))))))))))⟩
    · refine fi_true rfl (not_t c151) ?_
      refine fi_seq ?_
      refine fi_region ?_
      refine so_assign rfl ?_
      refine so_nil ?_
      exact by_ret rfl ⟨_, h, rfl, (Sep.del 0 (Sep.del 0 (Sep.del 0 (Sep.del 0 (Sep.del 0 (Sep.del 0 (Sep.del 0 (Sep.del 0 (Sep.del 0 (Sep.del 0 hs))))))))))⟩

end Go.Proofs.Ytfieljajhmpbiaa.G

