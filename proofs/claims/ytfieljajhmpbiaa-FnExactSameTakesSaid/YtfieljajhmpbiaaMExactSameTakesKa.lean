/-
  The model ends so. Printed by a program of the session; nothing here is trusted.
-/
import Derived.Test.YtfieljajhmpbiaaProg
import Derived.KernelRfl
import Derived.Test.YtfieljajhmpbiaaMExactSameTakesWa
namespace Go.Proofs.Ytfieljajhmpbiaa.F
open Go Go.Ab Go.Proofs
set_option maxRecDepth 100000
set_option linter.unusedVariables false
set_option linter.unusedSimpArgs false
set_option maxHeartbeats 1000000
theorem hm : Try.prog.follows .mixedOrders = true := by kernel_rfl
end Go.Proofs.Ytfieljajhmpbiaa.F

namespace Go.Proofs.Ytfieljajhmpbiaa.G
open Go Go.Ab Go.Proofs Go.Proofs.Ytfieljajhmpbiaa
set_option maxRecDepth 100000
set_option linter.unusedVariables false
set_option linter.unusedSimpArgs false
set_option maxHeartbeats 1000000
theorem F60.ti22 : (telem Try.prog 22).isSome = true := by kernel_rfl
theorem laws_szFloat32S_ok {fr : List Pc} {H : Heap} (v0 : AV) (l0 : List (Nat)) (a1 : Int) (hs : Sep H (fr)) (g0 : ∀ H, Sep H fr → Shows H v0 1 (enc (eFlt .f32) l0)) (K : Int → Prop) (h : laws_szFloat32S.wp l0 a1 K) : OkQ Try.prog 60 [(.v v0), (.v (.int .i64 a1))] H (fun r H2 => ∃ (y0 : Int), K y0 ∧ r = (.v (.int .i64 y0)) ∧ Sep H2 (fr)) := by
  unfold laws_szFloat32S.wp at h
  refine of_body Try.f60 F.hm Try.func60 rfl Try.call60 (by kernel_rfl) (by simp) ?_
  refine fi_seq ?_
  refine fi_region ?_
  refine so_assign rfl ?_
  refine so_nil ?_
  refine fi_seq ?_
  refine fi_region ?_
  refine so_move rfl ?_
  refine so_move rfl ?_
  refine sv_len (g0 _ hs) (fun _ => rfl) (by decide) rfl F60.ti22 ?_
  refine so_bin rfl rfl ab_sub ?_
  refine so_assign rfl ?_
  refine so_nil ?_
  refine fi_seq ?_
  refine fi_seq ?_
  refine fi_region ?_
  refine so_move rfl ?_
  refine so_bin rfl rfl ab_lss ?_
  refine so_nil ?_
  replace h := ofP h; rcases h with ⟨c101, h⟩ | ⟨c101, h⟩
  · refine fi_true rfl (decide_eq_true c101) ?_
    refine fi_seq ?_
    refine fi_region ?_
    refine so_assign rfl ?_
    refine so_nil ?_
    exact by_ret rfl ⟨_, h, rfl, hs⟩
  · refine fi_false rfl (decide_eq_false c101) ?_
    refine fi_skip ?_
    refine fi_seq ?_
    refine fi_region ?_
    refine so_move rfl ?_
    refine so_assign rfl ?_
    refine so_nil ?_
    exact by_ret rfl ⟨_, h, rfl, hs⟩

end Go.Proofs.Ytfieljajhmpbiaa.G

namespace Go.Proofs.Ytfieljajhmpbiaa.G
open Go Go.Ab Go.Proofs Go.Proofs.Ytfieljajhmpbiaa
set_option maxRecDepth 100000
set_option linter.unusedVariables false
set_option linter.unusedSimpArgs false
set_option maxHeartbeats 1000000
theorem F15.ag22 : tagg Try.prog 22 = some false := by kernel_rfl
theorem F15.ag9 : tagg Try.prog 9 = some false := by kernel_rfl
theorem F15.fd24_0 : tfield Try.prog 24 0 = some (0, 1, false) := by kernel_rfl
theorem F15.fd24_2 : tfield Try.prog 24 2 = some (2, 1, false) := by kernel_rfl
theorem F15.inf24 : (Try.prog.info? 24).isSome = true := by kernel_rfl
theorem F15.sr9 : tstr Try.prog 9 = true := by kernel_rfl
theorem laws_szTake_ok {fr : List Pc} {H : Heap} (a0 : List UInt8) (a1 : Int) (v2 : AV) (l2 : List (Nat)) (a3 : Int) (hs : Sep H (fr)) (g2 : ∀ H, Sep H fr → Shows H v2 1 (enc (eFlt .f32) l2)) (K : Int → Prop) (h : laws_szTake.wp a0 a1 l2 a3 K) : OkQ Try.prog 15 [(.g [(.str (pk a0)), (.int .i64 a1), v2]), (.v (.int .i64 a3))] H (fun r H2 => ∃ (y0 : Int), K y0 ∧ r = (.v (.int .i64 y0)) ∧ Sep H2 (fr)) := by
  unfold laws_szTake.wp at h
  refine of_body Try.f15 F.hm Try.func15 rfl Try.call15 (by kernel_rfl) (by simp) ?_
  refine fi_seq ?_
  refine fi_region ?_
  refine sv_box hs rfl (c := [(.str (pk a0)), (.int .i64 a1), v2]) rfl F15.inf24 (stc rfl (stc rfl (stc (g2 _ hs).stor stn))) nofun (fun id101 H102 hs => ?_)
  refine so_assign rfl ?_
  refine so_nil ?_
  refine fi_seq ?_
  refine fi_region ?_
  refine so_move rfl ?_
  refine so_fieldAddr rfl F15.fd24_0 ?_
  refine sv_ld hs 0 rfl rfl rfl F15.ag9 ?_
  refine so_slen rfl F15.sr9 ?_
  refine so_bin rfl rfl ab_sub ?_
  refine so_assign rfl ?_
  refine so_nil ?_
  refine fi_seq ?_
  refine fi_seq ?_
  refine fi_region ?_
  refine so_move rfl ?_
  refine so_bin rfl rfl ab_lss ?_
  refine so_nil ?_
  replace h := ofP h; rcases h with ⟨c104, h⟩ | ⟨c104, h⟩
  · refine fi_true rfl (decide_eq_true c104) ?_
    refine fi_seq ?_
    refine fi_region ?_
    refine so_assign rfl ?_
    refine so_nil ?_
    exact by_ret rfl ⟨_, h, rfl, (Sep.del 0 hs)⟩
  · refine fi_false rfl (decide_eq_false c104) ?_
    refine fi_skip ?_
    refine fi_seq ?_
    refine fi_region ?_
    refine so_fieldAddr rfl F15.fd24_2 ?_
    refine sv_ld hs 0 rfl rfl rfl F15.ag22 ?_
    refine so_move rfl ?_
    refine sv_call (laws_szFloat32S_ok v2 l2 (IntKind.i64.wrap (a3 - (a0.length : Int))) hs (fun _ hs => (g2 _ hs.tl)) _ h) rfl rfl nofun ?_
    clear h hs
    rintro _ H106 ⟨y105, h, rfl, hs⟩
    refine so_assign rfl ?_
    refine so_nil ?_
    refine fi_seq ?_
    refine fi_seq ?_
    refine fi_region ?_
    refine so_move rfl ?_
    refine so_bin rfl rfl ab_lss ?_
    refine so_nil ?_
    replace h := ofP h; rcases h with ⟨c107, h⟩ | ⟨c107, h⟩
    · refine fi_true rfl (decide_eq_true c107) ?_
      refine fi_seq ?_
      refine fi_region ?_
      refine so_assign rfl ?_
      refine so_nil ?_
      exact by_ret rfl ⟨_, h, rfl, (Sep.del 0 hs)⟩
    · refine fi_false rfl (decide_eq_false c107) ?_
      refine fi_skip ?_
      refine fi_seq ?_
      refine fi_region ?_
      refine so_move rfl ?_
      refine so_assign rfl ?_
      refine so_nil ?_
      exact by_ret rfl ⟨_, h, rfl, (Sep.del 0 hs)⟩

end Go.Proofs.Ytfieljajhmpbiaa.G

namespace Go.Proofs.Ytfieljajhmpbiaa.G
open Go Go.Ab Go.Proofs Go.Proofs.Ytfieljajhmpbiaa
set_option maxRecDepth 100000
set_option linter.unusedVariables false
set_option linter.unusedSimpArgs false
set_option maxHeartbeats 1000000
theorem F44.ag24 : tagg Try.prog 24 = some true := by kernel_rfl
theorem F44.sz24 : tsz Try.prog 24 = some 3 := by kernel_rfl
theorem F44.ti59 : (telem Try.prog 59).isSome = true := by kernel_rfl
theorem F44.tl59 : (telem Try.prog 59).bind (tsz Try.prog) = some 3 := by kernel_rfl
theorem laws_szTakeS_ok {fr : List Pc} {H : Heap} (v0 : AV) (w0 : List (List AV)) (l0 : List ((List UInt8) × (Int) × (List (Nat)))) (a1 : Int) (hs : Sep H (fr)) (g0 : ∀ H, Sep H fr → DSh H v0 3 R_s_ii64_LeFlt_f32_poooq l0 w0) (K : Int → Prop) (h : laws_szTakeS.wp l0 a1 K) : OkQ Try.prog 44 [(.v v0), (.v (.int .i64 a1))] H (fun r H2 => ∃ (y0 : Int), K y0 ∧ r = (.v (.int .i64 y0)) ∧ Sep H2 (fr)) := by
  unfold laws_szTakeS.wp at h
  refine of_body Try.f44 F.hm Try.func44 rfl Try.call44 (by kernel_rfl) (by simp) ?_
  refine fi_seq ?_
  refine fi_region ?_
  refine so_assign rfl ?_
  refine so_nil ?_
  refine fi_seq ?_
  refine fi_region ?_
  refine so_move rfl ?_
  refine so_move rfl ?_
  refine sd_len ((g0 _ hs) : DSh _ _ 3 R_s_ii64_LeFlt_f32_poooq l0 w0) (by decide) rfl F44.ti59 ?_
  refine so_bin rfl rfl ab_sub ?_
  refine so_assign rfl ?_
  refine so_nil ?_
  refine fi_seq ?_
  refine fi_seq ?_
  refine fi_region ?_
  refine so_move rfl ?_
  refine so_bin rfl rfl ab_lss ?_
  refine so_nil ?_
  replace h := ofP h; rcases h with ⟨c101, h⟩ | ⟨c101, h⟩
  · refine fi_true rfl (decide_eq_true c101) ?_
    refine fi_seq ?_
    refine fi_region ?_
    refine so_assign rfl ?_
    refine so_nil ?_
    exact by_ret rfl ⟨_, h, rfl, hs⟩
  · refine fi_false rfl (decide_eq_false c101) ?_
    refine fi_skip ?_
    refine fi_seq ?_
    refine fi_seq ?_
    refine fi_region ?_
    refine so_assign rfl ?_
    refine so_nil ?_
    refine fi_block ?_
    refine fi_loop ?_
    refine fi_at [(0, (.v v0)), (1, (.v (.int .i64 (IntKind.i64.wrap (a1 - (l0.length : Int)))))), (5, (.v (.int .i64 (0 : Int))))] ⟨rfl, rfl, rfl, trivial⟩ ?_
    refine h (fun (left103 : Int) (i104 : Int) => ∀ (s : Nat → TV) (H : Heap), Sep H (fr) → Fin _ _ (updL s [(0, (.v v0)), (1, (.v (.int .i64 left103))), (5, (.v (.int .i64 i104)))]) H _) ?_ _ _ hs
    intro left103 i104 h s110 H111 hs
    refine fi_inLoop ?_
    refine fi_seq ?_
    refine fi_seq ?_
    refine fi_region ?_
    refine so_move rfl ?_
    refine so_move rfl ?_
    refine sd_len ((g0 _ hs) : DSh _ _ 3 R_s_ii64_LeFlt_f32_poooq l0 w0) (by decide) rfl F44.ti59 ?_
    refine so_bin rfl rfl ab_lss ?_
    refine so_nil ?_
    replace h := ofP h; rcases h with ⟨c105, h⟩ | ⟨c105, h⟩
    · refine fi_true rfl (decide_eq_true c105) ?_
      refine fi_skip ?_
      refine fi_seq ?_
      refine fi_block ?_
      refine fi_seq ?_
      refine fi_region ?_
      refine so_move rfl ?_
      refine so_move rfl ?_
      obtain ⟨c106, h⟩ := h
      refine sd_idx ((g0 _ hs) : DSh _ _ 3 R_s_ii64_LeFlt_f32_poooq l0 w0) c106 (([] : List UInt8), (0 : Int), ([] : List (Nat))) (by decide) rfl rfl F44.tl59 ?_
      refine su_lds ((((g0 _ hs) : DSh _ _ 3 R_s_ii64_LeFlt_f32_poooq l0 w0)).at (by decide) c106 (([] : List UInt8), (0 : Int), ([] : List (Nat)))).2.2 0 3 (lenc ((((g0 _ hs) : DSh _ _ 3 R_s_ii64_LeFlt_f32_poooq l0 w0)).at (by decide) c106 (([] : List UInt8), (0 : Int), ([] : List (Nat)))).2.1.1 (by simp)) (by decide) (whole ((((g0 _ hs) : DSh _ _ 3 R_s_ii64_LeFlt_f32_poooq l0 w0)).at (by decide) c106 (([] : List UInt8), (0 : Int), ([] : List (Nat)))).2.1.1 (by rfl)) rfl F44.ag24 F44.sz24 ?_
      refine so_move rfl ?_
      refine sv_call (laws_szTake_ok (l0.getD (i104).toNat (([] : List UInt8), (0 : Int), ([] : List (Nat)))).1 (l0.getD (i104).toNat (([] : List UInt8), (0 : Int), ([] : List (Nat)))).2.1 ((w0.getD (i104).toNat []).getD 2 .und) (l0.getD (i104).toNat (([] : List UInt8), (0 : Int), ([] : List (Nat)))).2.2 left103 hs (fun _ hs => ((((g0 _ hs) : DSh _ _ 3 R_s_ii64_LeFlt_f32_poooq l0 w0)).at (by decide) c106 (([] : List UInt8), (0 : Int), ([] : List (Nat)))).2.1.2) _ h) rfl rfl nofun ?_
      clear h hs
      rintro _ H108 ⟨y107, h, rfl, hs⟩
      refine so_assign rfl ?_
      refine so_nil ?_
      refine fi_seq ?_
      refine fi_region ?_
      refine so_move rfl ?_
      refine so_bin rfl rfl ab_lss ?_
      refine so_nil ?_
      replace h := ofP h; rcases h with ⟨c109, h⟩ | ⟨c109, h⟩
      · refine fi_true rfl (decide_eq_true c109) ?_
        refine fi_seq ?_
        refine fi_region ?_
        refine so_assign rfl ?_
        refine so_nil ?_
        exact by_ret rfl ⟨_, h, rfl, hs⟩
      · refine fi_false rfl (decide_eq_false c109) ?_
        refine fi_skip ?_
        refine fi_inBlock ?_
        refine fi_region ?_
        refine so_move rfl ?_
        refine so_bin rfl rfl ab_add ?_
        refine so_assign rfl ?_
        refine so_nil ?_
        exact fi_at [(0, (.v v0)), (1, (.v (.int .i64 y107))), (5, (.v (.int .i64 (IntKind.i64.wrap (i104 + (1 : Int))))))] ⟨rfl, rfl, rfl, trivial⟩ (h _ _  hs)
    · refine fi_false rfl (decide_eq_false c105) ?_
      refine fi_exit rfl ?_
      refine fi_seq ?_
      refine fi_region ?_
      refine so_move rfl ?_
      refine so_assign rfl ?_
      refine so_nil ?_
      exact by_ret rfl ⟨_, h, rfl, hs⟩

end Go.Proofs.Ytfieljajhmpbiaa.G

namespace Go.Proofs.Ytfieljajhmpbiaa.G
open Go Go.Ab Go.Proofs Go.Proofs.Ytfieljajhmpbiaa
set_option maxRecDepth 100000
set_option linter.unusedVariables false
set_option linter.unusedSimpArgs false
set_option maxHeartbeats 1000000
theorem F141.xb141 : Try.f141.body = none := rfl
theorem F141.xe141 : Extern.find Try.f141 = some Extern.MathFloatBits.float32bits := by rfl
theorem F141.xf141 : (Extern.findNext Try.f141).isNone = true := by kernel_rfl
theorem F141.xn141 : (Try.f141.name == "runtime.NumGoroutine") = false := by kernel_rfl
theorem math_Float32bits_ok {fr : List Pc} {H : Heap} (x : Nat) (hs : Sep H fr) (K : Int → Prop) (h : math_Float32bits.wp x K) : OkQ Try.prog 141 [(.v (.flt .f32 x))] H (fun r H2 => ∃ y0 : Int, K y0 ∧ r = (.v (.int .u32 y0)) ∧ Sep H2 fr) := ⟨_, _, f32bits_ok Try.func141 F141.xn141 F141.xb141 F141.xf141 F141.xe141 x h.1, _, h.2, rfl, hs⟩

end Go.Proofs.Ytfieljajhmpbiaa.G

namespace Go.Proofs.Ytfieljajhmpbiaa.G
open Go Go.Ab Go.Proofs Go.Proofs.Ytfieljajhmpbiaa
set_option maxRecDepth 100000
set_option linter.unusedVariables false
set_option linter.unusedSimpArgs false
set_option maxHeartbeats 1000000
theorem F119.it2 : tint Try.prog 2 = some .i64 := by kernel_rfl
theorem F119.us135 : (Try.prog.underlying 135).isSome = true := by kernel_rfl
theorem spec_l01Bits_ok {fr : List Pc} {H : Heap} (a0 : Nat) (hs : Sep H (fr))  (K : Int → Prop) (h : spec_l01Bits.wp a0 K) : OkQ Try.prog 119 [(.v (.flt .f32 a0))] H (fun r H2 => ∃ (y0 : Int), K y0 ∧ r = (.v (.int .i64 y0)) ∧ Sep H2 (fr)) := by
  unfold spec_l01Bits.wp at h
  refine of_body Try.f119 F.hm Try.func119 rfl Try.call119 (by kernel_rfl) (by simp) ?_
  refine fi_seq ?_
  refine fi_region ?_
  refine so_assign rfl ?_
  refine so_nil ?_
  refine fi_seq ?_
  refine fi_seq ?_
  refine fi_region ?_
  refine so_move rfl ?_
  refine so_move rfl ?_
  refine so_bin rfl rfl ab_fneq ?_
  refine so_nil ?_
  replace h := ofT h; rcases h with ⟨c101, h⟩ | ⟨c101, h⟩
  · refine fi_true rfl c101 ?_
    refine fi_seq ?_
    refine fi_region ?_
    refine so_assign rfl ?_
    refine so_nil ?_
    exact by_ret rfl ⟨_, h, rfl, hs⟩
  · refine fi_false rfl c101 ?_
    refine fi_skip ?_
    refine fi_seq ?_
    refine fi_region ?_
    refine so_move rfl ?_
    refine sv_call (math_Float32bits_ok a0 hs  _ h) rfl rfl nofun ?_
    clear h hs
    rintro _ H103 ⟨y102, h, rfl, hs⟩
    refine sv_ii rfl F119.us135 F119.it2 ?_
    refine so_assign rfl ?_
    refine so_nil ?_
    exact by_ret rfl ⟨_, h, rfl, hs⟩

end Go.Proofs.Ytfieljajhmpbiaa.G

namespace Go.Proofs.Ytfieljajhmpbiaa.G
open Go Go.Ab Go.Proofs Go.Proofs.Ytfieljajhmpbiaa
set_option maxRecDepth 100000
set_option linter.unusedVariables false
set_option linter.unusedSimpArgs false
set_option maxHeartbeats 1000000
theorem spec_l01Same_ok {fr : List Pc} {H : Heap} (a0 : Nat) (a1 : Nat) (hs : Sep H (fr))  (K : Bool → Prop) (h : spec_l01Same.wp a0 a1 K) : OkQ Try.prog 142 [(.v (.flt .f32 a0)), (.v (.flt .f32 a1))] H (fun r H2 => ∃ (y0 : Bool), K y0 ∧ r = (.v (.bool y0)) ∧ Sep H2 (fr)) := by
  unfold spec_l01Same.wp at h
  refine of_body Try.f142 F.hm Try.func142 rfl Try.call142 (by kernel_rfl) (by simp) ?_
  refine fi_seq ?_
  refine fi_region ?_
  refine so_assign rfl ?_
  refine so_nil ?_
  refine fi_seq ?_
  refine fi_region ?_
  refine so_move rfl ?_
  refine sv_call (spec_l01Bits_ok a0 hs  _ h) rfl rfl nofun ?_
  clear h hs
  rintro _ H102 ⟨y101, h, rfl, hs⟩
  refine so_move rfl ?_
  refine sv_call (spec_l01Bits_ok a1 hs  _ h) rfl rfl nofun ?_
  clear h hs
  rintro _ H104 ⟨y103, h, rfl, hs⟩
  refine so_bin rfl rfl ab_eql ?_
  refine so_assign rfl ?_
  refine so_nil ?_
  exact by_ret rfl ⟨_, h, rfl, hs⟩

end Go.Proofs.Ytfieljajhmpbiaa.G

namespace Go.Proofs.Ytfieljajhmpbiaa.G
open Go Go.Ab Go.Proofs Go.Proofs.Ytfieljajhmpbiaa
set_option maxRecDepth 100000
set_option linter.unusedVariables false
set_option linter.unusedSimpArgs false
set_option maxHeartbeats 1000000
theorem F128.ag36 : tagg Try.prog 36 = some false := by kernel_rfl
theorem F128.ti22 : (telem Try.prog 22).isSome = true := by kernel_rfl
theorem F128.tl22 : (telem Try.prog 22).bind (tsz Try.prog) = some 1 := by kernel_rfl
theorem spec_l01SameAll_ok {fr : List Pc} {H : Heap} (v0 : AV) (l0 : List (Nat)) (v1 : AV) (l1 : List (Nat)) (hs : Sep H (fr)) (g0 : ∀ H, Sep H fr → Shows H v0 1 (enc (eFlt .f32) l0)) (g1 : ∀ H, Sep H fr → Shows H v1 1 (enc (eFlt .f32) l1)) (K : Bool → Prop) (h : spec_l01SameAll.wp l0 l1 K) : OkQ Try.prog 128 [(.v v0), (.v v1)] H (fun r H2 => ∃ (y0 : Bool), K y0 ∧ r = (.v (.bool y0)) ∧ Sep H2 (fr)) := by
  unfold spec_l01SameAll.wp at h
  refine of_body Try.f128 F.hm Try.func128 rfl Try.call128 (by kernel_rfl) (by simp) ?_
  refine fi_seq ?_
  refine fi_region ?_
  refine so_assign rfl ?_
  refine so_nil ?_
  refine fi_seq ?_
  refine fi_seq ?_
  refine fi_region ?_
  refine so_move rfl ?_
  refine sv_len (g0 _ hs) (fun _ => rfl) (by decide) rfl F128.ti22 ?_
  refine so_move rfl ?_
  refine sv_len (g1 _ hs) (fun _ => rfl) (by decide) rfl F128.ti22 ?_
  refine so_bin rfl rfl ab_neq ?_
  refine so_nil ?_
  replace h := ofP h; rcases h with ⟨c101, h⟩ | ⟨c101, h⟩
  · refine fi_false rfl (not_f (decide_eq_true c101)) ?_
    refine fi_skip ?_
    refine fi_seq ?_
    refine fi_seq ?_
    refine fi_region ?_
    refine so_assign rfl ?_
    refine so_nil ?_
    refine fi_block ?_
    refine fi_loop ?_
    refine fi_at [(0, (.v v0)), (1, (.v v1)), (5, (.v (.int .i64 (0 : Int))))] ⟨rfl, rfl, rfl, trivial⟩ ?_
    refine h (fun (i103 : Int) => ∀ (s : Nat → TV) (H : Heap), Sep H (fr) → Fin _ _ (updL s [(0, (.v v0)), (1, (.v v1)), (5, (.v (.int .i64 i103)))]) H _) ?_ _ _ hs
    intro i103 h s110 H111 hs
    refine fi_inLoop ?_
    refine fi_seq ?_
    refine fi_seq ?_
    refine fi_region ?_
    refine so_move rfl ?_
    refine so_move rfl ?_
    refine sv_len (g0 _ hs) (fun _ => rfl) (by decide) rfl F128.ti22 ?_
    refine so_bin rfl rfl ab_lss ?_
    refine so_nil ?_
    replace h := ofP h; rcases h with ⟨c104, h⟩ | ⟨c104, h⟩
    · refine fi_true rfl (decide_eq_true c104) ?_
      refine fi_skip ?_
      refine fi_seq ?_
      refine fi_block ?_
      refine fi_seq ?_
      refine fi_region ?_
      refine so_move rfl ?_
      refine so_move rfl ?_
      obtain ⟨c105, h⟩ := h
      refine sv_idx (g0 _ hs) c105 (fun _ => rfl) (by decide) rfl rfl F128.tl22 ?_
      refine sv_cell (g0 _ hs) c105 (0 : Nat) 0 (fun x => (AV.flt .f32 x)) (fun _ => rfl) (fun _ => rfl) rfl F128.ag36 ?_
      refine so_move rfl ?_
      refine so_move rfl ?_
      obtain ⟨c106, h⟩ := h
      refine sv_idx (g1 _ hs) c106 (fun _ => rfl) (by decide) rfl rfl F128.tl22 ?_
      refine sv_cell (g1 _ hs) c106 (0 : Nat) 0 (fun x => (AV.flt .f32 x)) (fun _ => rfl) (fun _ => rfl) rfl F128.ag36 ?_
      refine sv_call (spec_l01Same_ok (l0.getD (i103).toNat (0 : Nat)) (l1.getD (i103).toNat (0 : Nat)) hs  _ h) rfl rfl (fun _ => by kernel_rfl) ?_
      clear h hs
      rintro _ H108 ⟨y107, h, rfl, hs⟩
      refine so_un rfl au_not ?_
      refine so_nil ?_
      replace h := ofT h; rcases h with ⟨c109, h⟩ | ⟨c109, h⟩
      · refine fi_false rfl (not_f c109) ?_
        refine fi_skip ?_
        refine fi_inBlock ?_
        refine fi_region ?_
        refine so_move rfl ?_
        refine so_bin rfl rfl ab_add ?_
        refine so_assign rfl ?_
        refine so_nil ?_
        exact fi_at [(0, (.v v0)), (1, (.v v1)), (5, (.v (.int .i64 (IntKind.i64.wrap (i103 + (1 : Int))))))] ⟨rfl, rfl, rfl, trivial⟩ (h _ _  hs)
      · refine fi_true rfl (not_t c109) ?_
        refine fi_seq ?_
        refine fi_region ?_
        refine so_assign rfl ?_
        refine so_nil ?_
        exact by_ret rfl ⟨_, h, rfl, hs⟩
    · refine fi_false rfl (decide_eq_false c104) ?_
      refine fi_exit rfl ?_
      refine fi_seq ?_
      refine fi_region ?_
      refine so_assign rfl ?_
      refine so_nil ?_
      exact by_ret rfl ⟨_, h, rfl, hs⟩
  · refine fi_true rfl (not_t (decide_eq_false c101)) ?_
    refine fi_seq ?_
    refine fi_region ?_
    refine so_assign rfl ?_
    refine so_nil ?_
    exact by_ret rfl ⟨_, h, rfl, hs⟩

end Go.Proofs.Ytfieljajhmpbiaa.G

namespace Go.Proofs.Ytfieljajhmpbiaa.G
open Go Go.Ab Go.Proofs Go.Proofs.Ytfieljajhmpbiaa
set_option maxRecDepth 100000
set_option linter.unusedVariables false
set_option linter.unusedSimpArgs false
set_option maxHeartbeats 1000000
theorem F91.ag2 : tagg Try.prog 2 = some false := by kernel_rfl
theorem F91.ag22 : tagg Try.prog 22 = some false := by kernel_rfl
theorem F91.ag9 : tagg Try.prog 9 = some false := by kernel_rfl
theorem F91.fd27_0 : tfield Try.prog 27 0 = some (0, 1, false) := by kernel_rfl
theorem F91.fd27_1 : tfield Try.prog 27 1 = some (1, 1, false) := by kernel_rfl
theorem F91.fd27_2 : tfield Try.prog 27 2 = some (2, 1, false) := by kernel_rfl
theorem F91.ti62 : (telem Try.prog 62).isSome = true := by kernel_rfl
theorem F91.tl62 : (telem Try.prog 62).bind (tsz Try.prog) = some 3 := by kernel_rfl
theorem spec_l07Same_ok {fr : List Pc} {H : Heap} (v0 : AV) (w0 : List (List AV)) (l0 : List ((List UInt8) × (Int) × (List (Nat)))) (v1 : AV) (w1 : List (List AV)) (l1 : List ((List UInt8) × (Int) × (List (Nat)))) (hs : Sep H (fr)) (g0 : ∀ H, Sep H fr → DSh H v0 3 R_s_ii64_LeFlt_f32_poooq l0 w0) (g1 : ∀ H, Sep H fr → DSh H v1 3 R_s_ii64_LeFlt_f32_poooq l1 w1) (K : Bool → Prop) (h : spec_l07Same.wp l0 l1 K) : OkQ Try.prog 91 [(.v v0), (.v v1)] H (fun r H2 => ∃ (y0 : Bool), K y0 ∧ r = (.v (.bool y0)) ∧ Sep H2 (fr)) := by
  unfold spec_l07Same.wp at h
  refine of_body Try.f91 F.hm Try.func91 rfl Try.call91 (by kernel_rfl) (by simp) ?_
  refine fi_seq ?_
  refine fi_region ?_
  refine so_assign rfl ?_
  refine so_nil ?_
  refine fi_seq ?_
  refine fi_seq ?_
  refine fi_region ?_
  refine so_move rfl ?_
  refine sd_len ((g0 _ hs) : DSh _ _ 3 R_s_ii64_LeFlt_f32_poooq l0 w0) (by decide) rfl F91.ti62 ?_
  refine so_move rfl ?_
  refine sd_len ((g1 _ hs) : DSh _ _ 3 R_s_ii64_LeFlt_f32_poooq l1 w1) (by decide) rfl F91.ti62 ?_
  refine so_bin rfl rfl ab_neq ?_
  refine so_nil ?_
  replace h := ofP h; rcases h with ⟨c101, h⟩ | ⟨c101, h⟩
  · refine fi_false rfl (not_f (decide_eq_true c101)) ?_
    refine fi_skip ?_
    refine fi_seq ?_
    refine fi_seq ?_
    refine fi_region ?_
    refine so_move rfl ?_
    refine sd_len ((g0 _ hs) : DSh _ _ 3 R_s_ii64_LeFlt_f32_poooq l0 w0) (by decide) rfl F91.ti62 ?_
    refine so_move rfl ?_
    refine so_nil ?_
    refine fi_block ?_
    refine fi_loop ?_
    refine fi_at [(0, (.v v0)), (1, (.v v1)), (12, (.v (.int .i64 (l0.length : Int)))), (13, (.v (.int .i64 (0 : Int))))] ⟨rfl, rfl, rfl, rfl, trivial⟩ ?_
    refine h (fun (x103 : Int) => ∀ (s : Nat → TV) (H : Heap), Sep H (fr) → Fin _ _ (updL s [(0, (.v v0)), (1, (.v v1)), (12, (.v (.int .i64 (l0.length : Int)))), (13, (.v (.int .i64 x103)))]) H _) ?_ _ _ hs
    intro x103 h s112 H113 hs
    refine fi_inLoop ?_
    refine fi_seq ?_
    refine fi_region ?_
    refine so_bin rfl rfl ab_lss ?_
    refine so_nil ?_
    refine fi_seq ?_
    replace h := ofP h; rcases h with ⟨c104, h⟩ | ⟨c104, h⟩
    · refine fi_true rfl (decide_eq_true c104) ?_
      refine fi_skip ?_
      refine fi_seq ?_
      refine fi_block ?_
      refine fi_seq ?_
      refine fi_region ?_
      refine so_move rfl ?_
      refine so_assign rfl ?_
      refine so_nil ?_
      refine fi_seq ?_
      refine fi_region ?_
      refine so_move rfl ?_
      refine so_move rfl ?_
      obtain ⟨c105, h⟩ := h
      refine sd_idx ((g0 _ hs) : DSh _ _ 3 R_s_ii64_LeFlt_f32_poooq l0 w0) c105 (([] : List UInt8), (0 : Int), ([] : List (Nat))) (by decide) rfl rfl F91.tl62 ?_
      refine so_fieldAddr rfl F91.fd27_0 ?_
      refine su_ld ((((g0 _ hs) : DSh _ _ 3 R_s_ii64_LeFlt_f32_poooq l0 w0)).at (by decide) c105 (([] : List UInt8), (0 : Int), ([] : List (Nat)))).2.2 0 (congrArg (fun c => c[0]?) ((((g0 _ hs) : DSh _ _ 3 R_s_ii64_LeFlt_f32_poooq l0 w0)).at (by decide) c105 (([] : List UInt8), (0 : Int), ([] : List (Nat)))).2.1.1) rfl F91.ag9 ?_
      refine so_move rfl ?_
      refine so_move rfl ?_
      obtain ⟨c106, h⟩ := h
      refine sd_idx ((g1 _ hs) : DSh _ _ 3 R_s_ii64_LeFlt_f32_poooq l1 w1) c106 (([] : List UInt8), (0 : Int), ([] : List (Nat))) (by decide) rfl rfl F91.tl62 ?_
      refine so_fieldAddr rfl F91.fd27_0 ?_
      refine su_ld ((((g1 _ hs) : DSh _ _ 3 R_s_ii64_LeFlt_f32_poooq l1 w1)).at (by decide) c106 (([] : List UInt8), (0 : Int), ([] : List (Nat)))).2.2 0 (congrArg (fun c => c[0]?) ((((g1 _ hs) : DSh _ _ 3 R_s_ii64_LeFlt_f32_poooq l1 w1)).at (by decide) c106 (([] : List UInt8), (0 : Int), ([] : List (Nat)))).2.1.1) rfl F91.ag9 ?_
      refine so_bin rfl rfl ab_sneq ?_
      refine so_move rfl ?_
      replace h := ofP h; rcases h with ⟨c107, h⟩ | ⟨c107, h⟩
      · refine so_gyes rfl (not_f (decide_eq_true c107)) ?_
        refine so_move rfl ?_
        refine so_gyes rfl (not_f (decide_eq_true c107)) ?_
        refine so_move rfl ?_
        refine so_gyes rfl (not_f (decide_eq_true c107)) ?_
        refine sd_idx ((g0 _ hs) : DSh _ _ 3 R_s_ii64_LeFlt_f32_poooq l0 w0) c105 (([] : List UInt8), (0 : Int), ([] : List (Nat))) (by decide) rfl rfl F91.tl62 ?_
        refine so_gyes rfl (not_f (decide_eq_true c107)) ?_
        refine so_fieldAddr rfl F91.fd27_1 ?_
        refine so_gyes rfl (not_f (decide_eq_true c107)) ?_
        refine su_ld ((((g0 _ hs) : DSh _ _ 3 R_s_ii64_LeFlt_f32_poooq l0 w0)).at (by decide) c105 (([] : List UInt8), (0 : Int), ([] : List (Nat)))).2.2 1 (congrArg (fun c => c[1]?) ((((g0 _ hs) : DSh _ _ 3 R_s_ii64_LeFlt_f32_poooq l0 w0)).at (by decide) c105 (([] : List UInt8), (0 : Int), ([] : List (Nat)))).2.1.1) rfl F91.ag2 ?_
        refine so_gyes rfl (not_f (decide_eq_true c107)) ?_
        refine so_move rfl ?_
        refine so_gyes rfl (not_f (decide_eq_true c107)) ?_
        refine so_move rfl ?_
        refine so_gyes rfl (not_f (decide_eq_true c107)) ?_
        refine sd_idx ((g1 _ hs) : DSh _ _ 3 R_s_ii64_LeFlt_f32_poooq l1 w1) c106 (([] : List UInt8), (0 : Int), ([] : List (Nat))) (by decide) rfl rfl F91.tl62 ?_
        refine so_gyes rfl (not_f (decide_eq_true c107)) ?_
        refine so_fieldAddr rfl F91.fd27_1 ?_
        refine so_gyes rfl (not_f (decide_eq_true c107)) ?_
        refine su_ld ((((g1 _ hs) : DSh _ _ 3 R_s_ii64_LeFlt_f32_poooq l1 w1)).at (by decide) c106 (([] : List UInt8), (0 : Int), ([] : List (Nat)))).2.2 1 (congrArg (fun c => c[1]?) ((((g1 _ hs) : DSh _ _ 3 R_s_ii64_LeFlt_f32_poooq l1 w1)).at (by decide) c106 (([] : List UInt8), (0 : Int), ([] : List (Nat)))).2.1.1) rfl F91.ag2 ?_
        refine so_gyes rfl (not_f (decide_eq_true c107)) ?_
        refine so_bin rfl rfl ab_neq ?_
        refine so_pick_f rfl (not_f (decide_eq_true c107)) rfl ?_
        refine so_move rfl ?_
        replace h := ofP h; rcases h with ⟨c108, h⟩ | ⟨c108, h⟩
        · refine so_gyes rfl (not_f (decide_eq_true c108)) ?_
          refine so_move rfl ?_
          refine so_gyes rfl (not_f (decide_eq_true c108)) ?_
          refine so_move rfl ?_
          refine so_gyes rfl (not_f (decide_eq_true c108)) ?_
          refine sd_idx ((g0 _ hs) : DSh _ _ 3 R_s_ii64_LeFlt_f32_poooq l0 w0) c105 (([] : List UInt8), (0 : Int), ([] : List (Nat))) (by decide) rfl rfl F91.tl62 ?_
          refine so_gyes rfl (not_f (decide_eq_true c108)) ?_
          refine so_fieldAddr rfl F91.fd27_2 ?_
          refine so_gyes rfl (not_f (decide_eq_true c108)) ?_
          refine su_ld ((((g0 _ hs) : DSh _ _ 3 R_s_ii64_LeFlt_f32_poooq l0 w0)).at (by decide) c105 (([] : List UInt8), (0 : Int), ([] : List (Nat)))).2.2 2 (congrArg (fun c => c[2]?) ((((g0 _ hs) : DSh _ _ 3 R_s_ii64_LeFlt_f32_poooq l0 w0)).at (by decide) c105 (([] : List UInt8), (0 : Int), ([] : List (Nat)))).2.1.1) rfl F91.ag22 ?_
          refine so_gyes rfl (not_f (decide_eq_true c108)) ?_
          refine so_move rfl ?_
          refine so_gyes rfl (not_f (decide_eq_true c108)) ?_
          refine so_move rfl ?_
          refine so_gyes rfl (not_f (decide_eq_true c108)) ?_
          refine sd_idx ((g1 _ hs) : DSh _ _ 3 R_s_ii64_LeFlt_f32_poooq l1 w1) c106 (([] : List UInt8), (0 : Int), ([] : List (Nat))) (by decide) rfl rfl F91.tl62 ?_
          refine so_gyes rfl (not_f (decide_eq_true c108)) ?_
          refine so_fieldAddr rfl F91.fd27_2 ?_
          refine so_gyes rfl (not_f (decide_eq_true c108)) ?_
          refine su_ld ((((g1 _ hs) : DSh _ _ 3 R_s_ii64_LeFlt_f32_poooq l1 w1)).at (by decide) c106 (([] : List UInt8), (0 : Int), ([] : List (Nat)))).2.2 2 (congrArg (fun c => c[2]?) ((((g1 _ hs) : DSh _ _ 3 R_s_ii64_LeFlt_f32_poooq l1 w1)).at (by decide) c106 (([] : List UInt8), (0 : Int), ([] : List (Nat)))).2.1.1) rfl F91.ag22 ?_
          refine so_gyes rfl (not_f (decide_eq_true c108)) ?_
          refine sv_call (spec_l01SameAll_ok ((w0.getD (x103).toNat []).getD 2 .und) (l0.getD (x103).toNat (([] : List UInt8), (0 : Int), ([] : List (Nat)))).2.2 ((w1.getD (x103).toNat []).getD 2 .und) (l1.getD (x103).toNat (([] : List UInt8), (0 : Int), ([] : List (Nat)))).2.2 hs (fun _ hs => ((((g0 _ hs) : DSh _ _ 3 R_s_ii64_LeFlt_f32_poooq l0 w0)).at (by decide) c105 (([] : List UInt8), (0 : Int), ([] : List (Nat)))).2.1.2) (fun _ hs => ((((g1 _ hs) : DSh _ _ 3 R_s_ii64_LeFlt_f32_poooq l1 w1)).at (by decide) c106 (([] : List UInt8), (0 : Int), ([] : List (Nat)))).2.1.2) _ h) rfl rfl (fun _ => by kernel_rfl) ?_
          clear h hs
          rintro _ H110 ⟨y109, h, rfl, hs⟩
          refine so_gyes rfl (not_f (decide_eq_true c108)) ?_
          refine so_un rfl au_not ?_
          refine so_pick_f rfl (not_f (decide_eq_true c108)) rfl ?_
          refine so_nil ?_
          replace h := ofT h; rcases h with ⟨c111, h⟩ | ⟨c111, h⟩
          · refine fi_false rfl (not_f c111) ?_
            refine fi_skip ?_
            refine fi_inBlock ?_
            refine fi_region ?_
            refine so_bin rfl rfl ab_add ?_
            refine so_move rfl ?_
            refine so_nil ?_
            exact fi_at [(0, (.v v0)), (1, (.v v1)), (12, (.v (.int .i64 (l0.length : Int)))), (13, (.v (.int .i64 (IntKind.i64.wrap (x103 + (1 : Int))))))] ⟨rfl, rfl, rfl, rfl, trivial⟩ (h _ _  hs)
          · refine fi_true rfl (not_t c111) ?_
            refine fi_seq ?_
            refine fi_region ?_
            refine so_assign rfl ?_
            refine so_nil ?_
            exact by_ret rfl ⟨_, h, rfl, hs⟩
        · refine so_gno rfl (not_t (decide_eq_false c108)) ?_
          refine so_gno rfl (not_t (decide_eq_false c108)) ?_
          refine so_gno rfl (not_t (decide_eq_false c108)) ?_
          refine so_gno rfl (not_t (decide_eq_false c108)) ?_
          refine so_gno rfl (not_t (decide_eq_false c108)) ?_
          refine so_gno rfl (not_t (decide_eq_false c108)) ?_
          refine so_gno rfl (not_t (decide_eq_false c108)) ?_
          refine so_gno rfl (not_t (decide_eq_false c108)) ?_
          refine so_gno rfl (not_t (decide_eq_false c108)) ?_
          refine so_gno rfl (not_t (decide_eq_false c108)) ?_
          refine so_gno rfl (not_t (decide_eq_false c108)) ?_
          refine so_gno rfl (not_t (decide_eq_false c108)) ?_
          refine so_pick_t rfl (not_t (decide_eq_false c108)) rfl ?_
          refine so_nil ?_
          refine fi_true rfl rfl ?_
          refine fi_seq ?_
          refine fi_region ?_
          refine so_assign rfl ?_
          refine so_nil ?_
          exact by_ret rfl ⟨_, h, rfl, hs⟩
      · refine so_gno rfl (not_t (decide_eq_false c107)) ?_
        refine so_gno rfl (not_t (decide_eq_false c107)) ?_
        refine so_gno rfl (not_t (decide_eq_false c107)) ?_
        refine so_gno rfl (not_t (decide_eq_false c107)) ?_
        refine so_gno rfl (not_t (decide_eq_false c107)) ?_
        refine so_gno rfl (not_t (decide_eq_false c107)) ?_
        refine so_gno rfl (not_t (decide_eq_false c107)) ?_
        refine so_gno rfl (not_t (decide_eq_false c107)) ?_
        refine so_gno rfl (not_t (decide_eq_false c107)) ?_
        refine so_gno rfl (not_t (decide_eq_false c107)) ?_
        refine so_gno rfl (not_t (decide_eq_false c107)) ?_
        refine so_pick_t rfl (not_t (decide_eq_false c107)) rfl ?_
        refine so_move rfl ?_
        refine so_gno rfl rfl ?_
        refine so_gno rfl rfl ?_
        refine so_gno rfl rfl ?_
        refine so_gno rfl rfl ?_
        refine so_gno rfl rfl ?_
        refine so_gno rfl rfl ?_
        refine so_gno rfl rfl ?_
        refine so_gno rfl rfl ?_
        refine so_gno rfl rfl ?_
        refine so_gno rfl rfl ?_
        refine so_gno rfl rfl ?_
        refine so_gno rfl rfl ?_
        refine so_pick_t rfl rfl rfl ?_
        refine so_nil ?_
        refine fi_true rfl rfl ?_
        refine fi_seq ?_
        refine fi_region ?_
        refine so_assign rfl ?_
        refine so_nil ?_
        exact by_ret rfl ⟨_, h, rfl, hs⟩
    · refine fi_false rfl (decide_eq_false c104) ?_
      refine fi_exit rfl ?_
      refine fi_seq ?_
      refine fi_region ?_
      refine so_assign rfl ?_
      refine so_nil ?_
      exact by_ret rfl ⟨_, h, rfl, hs⟩
  · refine fi_true rfl (not_t (decide_eq_false c101)) ?_
    refine fi_seq ?_
    refine fi_region ?_
    refine so_assign rfl ?_
    refine so_nil ?_
    exact by_ret rfl ⟨_, h, rfl, hs⟩

end Go.Proofs.Ytfieljajhmpbiaa.G

namespace Go.Proofs.Ytfieljajhmpbiaa.G
open Go Go.Ab Go.Proofs Go.Proofs.Ytfieljajhmpbiaa
set_option maxRecDepth 100000
set_option linter.unusedVariables false
set_option linter.unusedSimpArgs false
set_option maxHeartbeats 1000000
theorem spec_SameTakes_ok {fr : List Pc} {H : Heap} (v0 : AV) (w0 : List (List AV)) (l0 : List ((List UInt8) × (Int) × (List (Nat)))) (v1 : AV) (w1 : List (List AV)) (l1 : List ((List UInt8) × (Int) × (List (Nat)))) (hs : Sep H (fr)) (g0 : ∀ H, Sep H fr → DSh H v0 3 R_s_ii64_LeFlt_f32_poooq l0 w0) (g1 : ∀ H, Sep H fr → DSh H v1 3 R_s_ii64_LeFlt_f32_poooq l1 w1) (K : Bool → Prop) (h : spec_SameTakes.wp l0 l1 K) : OkQ Try.prog 45 [(.v v0), (.v v1)] H (fun r H2 => ∃ (y0 : Bool), K y0 ∧ r = (.v (.bool y0)) ∧ Sep H2 (fr)) := by
  unfold spec_SameTakes.wp at h
  refine of_body Try.f45 F.hm Try.func45 rfl Try.call45 (by kernel_rfl) (by simp) ?_
  refine fi_seq ?_
  refine fi_region ?_
  refine so_assign rfl ?_
  refine so_nil ?_
  refine fi_seq ?_
  refine fi_region ?_
  refine so_move rfl ?_
  refine so_move rfl ?_
  refine sv_call (spec_l07Same_ok v0 w0 l0 v1 w1 l1 hs (fun _ hs => (g0 _ hs)) (fun _ hs => (g1 _ hs)) _ h) rfl rfl nofun ?_
  clear h hs
  rintro _ H102 ⟨y101, h, rfl, hs⟩
  refine so_assign rfl ?_
  refine so_nil ?_
  exact by_ret rfl ⟨_, h, rfl, hs⟩

end Go.Proofs.Ytfieljajhmpbiaa.G

namespace Go.Proofs.Ytfieljajhmpbiaa.G
open Go Go.Ab Go.Proofs Go.Proofs.Ytfieljajhmpbiaa
set_option maxRecDepth 100000
set_option linter.unusedVariables false
set_option linter.unusedSimpArgs false
set_option maxHeartbeats 1000000
theorem F21.ag36 : tagg Try.prog 36 = some false := by kernel_rfl
theorem F21.by36 : tbytes Try.prog 36 = some 4 := by kernel_rfl
theorem F21.sz36 : tsz Try.prog 36 = some 1 := by kernel_rfl
theorem F21.te22 : telem Try.prog 22 = some 36 := by kernel_rfl
theorem F21.ti22 : (telem Try.prog 22).isSome = true := by kernel_rfl
theorem F21.tl22 : (telem Try.prog 22).bind (tsz Try.prog) = some 1 := by kernel_rfl
theorem F21.ze36 : tzero Try.prog 36 = some [(.flt .f32 (0 : Nat))] := by kernel_rfl
theorem laws_toFloat32S_ok {fr : List Pc} {H : Heap} (v0 : AV) (l0 : List (Nat)) (hs : Sep H (fr)) (g0 : ∀ H, Sep H fr → Shows H v0 1 (enc (eFlt .f32) l0)) (K : (List (Nat)) → Prop) (h : laws_toFloat32S.wp l0 K) : OkQ Try.prog 21 [(.v v0)] H (fun r H2 => ∃ (y0 : List (Nat)), K y0 ∧ ∃ (w0_ : AV), r = (.v w0_) ∧ Sep H2 (Pc.osl w0_ 1 (enc (eFlt .f32) y0) :: fr)) := by
  unfold laws_toFloat32S.wp at h
  refine of_body Try.f21 F.hm Try.func21 rfl Try.call21 (by kernel_rfl) (by simp) ?_
  refine fi_seq ?_
  refine fi_region ?_
  refine so_assign rfl ?_
  refine so_nil ?_
  refine fi_seq ?_
  refine fi_region ?_
  refine so_move rfl ?_
  refine sv_len (g0 _ hs) (fun _ => rfl) (by decide) rfl F21.ti22 ?_
  obtain ⟨c101, h⟩ := h
  refine sv_make hs (eFlt .f32) (0 : Nat) c101 (fun _ => rfl) rfl rfl F21.te22 F21.sz36 F21.by36 F21.ze36 rfl rfl nofun (fun v102 H103 nv102 hs => ?_)
  refine so_assign rfl ?_
  refine so_nil ?_
  refine fi_seq ?_
  refine fi_seq ?_
  refine fi_region ?_
  refine so_assign rfl ?_
  refine so_nil ?_
  refine fi_block ?_
  refine fi_loop ?_
  refine fi_at [(0, (.v v0)), (3, (.v v102)), (4, (.v (.int .i64 (0 : Int))))] ⟨rfl, rfl, rfl, trivial⟩ ?_
  refine h (fun (out112 : List (Nat)) (i113 : Int) => ∀ (s : Nat → TV) (H : Heap), Sep H (Pc.osl v102 1 (enc (eFlt .f32) out112) :: fr) → Fin _ _ (updL s [(0, (.v v0)), (3, (.v v102)), (4, (.v (.int .i64 i113)))]) H _) ?_ _ _ hs
  intro out112 i113 h s118 H119 hs
  refine fi_inLoop ?_
  refine fi_seq ?_
  refine fi_seq ?_
  refine fi_region ?_
  refine so_move rfl ?_
  refine so_move rfl ?_
  refine sv_len (g0 _ hs.tl) (fun _ => rfl) (by decide) rfl F21.ti22 ?_
  refine so_bin rfl rfl ab_lss ?_
  refine so_nil ?_
  replace h := ofP h; rcases h with ⟨c114, h⟩ | ⟨c114, h⟩
  · refine fi_true rfl (decide_eq_true c114) ?_
    refine fi_skip ?_
    refine fi_seq ?_
    refine fi_block ?_
    refine fi_region ?_
    refine so_move rfl ?_
    refine so_move rfl ?_
    refine so_move rfl ?_
    refine so_move rfl ?_
    obtain ⟨c115, h⟩ := h
    refine sv_idx (g0 _ hs.tl) c115 (fun _ => rfl) (by decide) rfl rfl F21.tl22 ?_
    refine sv_cell (g0 _ hs.tl) c115 (0 : Nat) 0 (fun x => (AV.flt .f32 x)) (fun _ => rfl) (fun _ => rfl) rfl F21.ag36 ?_
    obtain ⟨c116, h⟩ := h
    refine sv_idx (hs.shows 0 rfl) c116 (fun _ => rfl) (by decide) rfl rfl F21.tl22 ?_
    refine sv_set hs 0 rfl c116 (l0.getD (i113).toNat (0 : Nat)) (fun _ => rfl) (by decide) rfl rfl rfl rfl F21.sz36 nofun (fun H117 hs => ?_)
    refine so_nil ?_
    refine fi_inBlock ?_
    refine fi_region ?_
    refine so_move rfl ?_
    refine so_bin rfl rfl ab_add ?_
    refine so_assign rfl ?_
    refine so_nil ?_
    exact fi_at [(0, (.v v0)), (3, (.v v102)), (4, (.v (.int .i64 (IntKind.i64.wrap (i113 + (1 : Int))))))] ⟨rfl, rfl, rfl, trivial⟩ (h _ _  hs)
  · refine fi_false rfl (decide_eq_false c114) ?_
    refine fi_exit rfl ?_
    refine fi_seq ?_
    refine fi_region ?_
    refine so_move rfl ?_
    refine so_assign rfl ?_
    refine so_nil ?_
    exact by_ret rfl ⟨_, h, _, rfl, hs⟩

end Go.Proofs.Ytfieljajhmpbiaa.G

namespace Go.Proofs.Ytfieljajhmpbiaa.G
open Go Go.Ab Go.Proofs Go.Proofs.Ytfieljajhmpbiaa
set_option maxRecDepth 100000
set_option linter.unusedVariables false
set_option linter.unusedSimpArgs false
set_option maxHeartbeats 1000000
theorem F17.ag2 : tagg Try.prog 2 = some false := by kernel_rfl
theorem F17.ag22 : tagg Try.prog 22 = some false := by kernel_rfl
theorem F17.ag27 : tagg Try.prog 27 = some true := by kernel_rfl
theorem F17.ag9 : tagg Try.prog 9 = some false := by kernel_rfl
theorem F17.fd24_0 : tfield Try.prog 24 0 = some (0, 1, false) := by kernel_rfl
theorem F17.fd24_1 : tfield Try.prog 24 1 = some (1, 1, false) := by kernel_rfl
theorem F17.fd24_2 : tfield Try.prog 24 2 = some (2, 1, false) := by kernel_rfl
theorem F17.fd27_0 : tfield Try.prog 27 0 = some (0, 1, false) := by kernel_rfl
theorem F17.fd27_1 : tfield Try.prog 27 1 = some (1, 1, false) := by kernel_rfl
theorem F17.fd27_2 : tfield Try.prog 27 2 = some (2, 1, false) := by kernel_rfl
theorem F17.inf24 : (Try.prog.info? 24).isSome = true := by kernel_rfl
theorem F17.sz2 : tsz Try.prog 2 = some 1 := by kernel_rfl
theorem F17.sz22 : tsz Try.prog 22 = some 1 := by kernel_rfl
theorem F17.sz27 : tsz Try.prog 27 = some 3 := by kernel_rfl
theorem F17.sz9 : tsz Try.prog 9 = some 1 := by kernel_rfl
theorem F17.ze27 : tzero Try.prog 27 = some [(.str (pk ([] : List UInt8))), (.int .i64 (0 : Int)), .nilsl] := by kernel_rfl
theorem laws_toTake_ok {fr : List Pc} {H : Heap} (a0 : List UInt8) (a1 : Int) (v2 : AV) (l2 : List (Nat)) (hs : Sep H (fr)) (g2 : ∀ H, Sep H fr → Shows H v2 1 (enc (eFlt .f32) l2)) (K : (List UInt8) → Int → (List (Nat)) → Prop) (h : laws_toTake.wp a0 a1 l2 K) : OkQ Try.prog 17 [(.g [(.str (pk a0)), (.int .i64 a1), v2])] H (fun r H2 => ∃ (y0 : List UInt8) (y1 : Int) (y2 : List (Nat)), K y0 y1 y2 ∧ ∃ (w0_ : AV), r = (.g [(.str (pk y0)), (.int .i64 y1), w0_]) ∧ Sep H2 (Pc.osl w0_ 1 (enc (eFlt .f32) y2) :: fr)) := by
  unfold laws_toTake.wp at h
  refine of_body Try.f17 F.hm Try.func17 rfl Try.call17 (by kernel_rfl) (by simp) ?_
  refine fi_seq ?_
  refine fi_region ?_
  refine sv_box hs rfl (c := [(.str (pk a0)), (.int .i64 a1), v2]) rfl F17.inf24 (stc rfl (stc rfl (stc (g2 _ hs).stor stn))) nofun (fun id101 H102 hs => ?_)
  refine sv_alloc hs F17.ze27 rfl nofun (fun id104 H105 hs => ?_)
  refine so_nil ?_
  refine fi_seq ?_
  refine fi_region ?_
  refine sv_alloc hs F17.ze27 rfl nofun (fun id107 H108 hs => ?_)
  refine so_nil ?_
  refine fi_seq ?_
  refine fi_region ?_
  refine so_fieldAddr rfl F17.fd24_0 ?_
  refine sv_ld hs 2 rfl rfl rfl F17.ag9 ?_
  refine so_fieldAddr rfl F17.fd27_0 ?_
  refine sv_st hs 0 rfl rfl rfl (c := [(.str (pk a0))]) rfl F17.sz9 rfl (stc rfl stn) (leb rfl) (cs' := [(.str (pk a0)), (.int .i64 (0 : Int)), .nilsl]) rfl nofun (fun H110 hs => ?_)
  refine so_nil ?_
  refine fi_seq ?_
  refine fi_region ?_
  refine so_fieldAddr rfl F17.fd24_1 ?_
  refine sv_ld hs 2 rfl rfl rfl F17.ag2 ?_
  refine so_fieldAddr rfl F17.fd27_1 ?_
  refine sv_st hs 0 rfl rfl rfl (c := [(.int .i64 a1)]) rfl F17.sz2 rfl (stc rfl stn) (leb rfl) (cs' := [(.str (pk a0)), (.int .i64 a1), .nilsl]) rfl nofun (fun H111 hs => ?_)
  refine so_nil ?_
  refine fi_seq ?_
  refine fi_region ?_
  refine so_fieldAddr rfl F17.fd24_2 ?_
  refine sv_ld hs 2 rfl rfl rfl F17.ag22 ?_
  refine sv_call (laws_toFloat32S_ok v2 l2 hs (fun _ hs => (g2 _ hs.tl.tl.tl)) _ h) rfl rfl nofun ?_
  clear h hs
  rintro _ H115 ⟨y112, h, v113, rfl, hs⟩
  refine so_fieldAddr rfl F17.fd27_2 ?_
  refine sv_st hs 1 rfl rfl rfl (c := [v113]) rfl F17.sz22 rfl (stc (hs.shows 0 rfl).stor stn) (leb rfl) (cs' := [(.str (pk a0)), (.int .i64 a1), v113]) rfl nofun (fun H116 hs => ?_)
  refine so_nil ?_
  refine fi_seq ?_
  refine fi_region ?_
  refine sv_lds hs 1 rfl rfl (leb rfl) rfl F17.ag27 F17.sz27 ?_
  refine sv_st hs 2 rfl rfl rfl (c := [(.str (pk a0)), (.int .i64 a1), v113]) rfl F17.sz27 rfl (stc rfl (stc rfl (stc (hs.shows 0 rfl).stor stn))) (leb rfl) (cs' := [(.str (pk a0)), (.int .i64 a1), v113]) rfl nofun (fun H117 hs => ?_)
  refine so_nil ?_
  exact by_ret (res_mk (ar_cells rfl F17.ag27 F17.sz27 (hs.lds 2 rfl (leb rfl) rfl) ar_nil) rfl) ⟨_, _, _, h, _, rfl, (Sep.del 1 (Sep.del 1 (Sep.del 1 hs)))⟩

end Go.Proofs.Ytfieljajhmpbiaa.G

namespace Go.Proofs.Ytfieljajhmpbiaa.G
open Go Go.Ab Go.Proofs Go.Proofs.Ytfieljajhmpbiaa
set_option maxRecDepth 100000
set_option linter.unusedVariables false
set_option linter.unusedSimpArgs false
set_option maxHeartbeats 1000000
theorem F46.ag24 : tagg Try.prog 24 = some true := by kernel_rfl
theorem F46.by27 : tbytes Try.prog 27 = some 48 := by kernel_rfl
theorem F46.sz24 : tsz Try.prog 24 = some 3 := by kernel_rfl
theorem F46.sz27 : tsz Try.prog 27 = some 3 := by kernel_rfl
theorem F46.te62 : telem Try.prog 62 = some 27 := by kernel_rfl
theorem F46.ti59 : (telem Try.prog 59).isSome = true := by kernel_rfl
theorem F46.tl59 : (telem Try.prog 59).bind (tsz Try.prog) = some 3 := by kernel_rfl
theorem F46.tl62 : (telem Try.prog 62).bind (tsz Try.prog) = some 3 := by kernel_rfl
theorem F46.ze27 : tzero Try.prog 27 = some [(.str (pk ([] : List UInt8))), (.int .i64 (0 : Int)), .nilsl] := by kernel_rfl
theorem laws_toTakeS_ok {fr : List Pc} {H : Heap} (v0 : AV) (w0 : List (List AV)) (l0 : List ((List UInt8) × (Int) × (List (Nat)))) (hs : Sep H (fr)) (g0 : ∀ H, Sep H fr → DSh H v0 3 R_s_ii64_LeFlt_f32_poooq l0 w0) (K : (List ((List UInt8) × (Int) × (List (Nat)))) → Prop) (h : laws_toTakeS.wp l0 K) : OkQ Try.prog 46 [(.v v0)] H (fun r H2 => ∃ (y0 : List ((List UInt8) × (Int) × (List (Nat)))), K y0 ∧ ∃ (w0_ : AV) (wsw0_ : List (List AV)) (Sw0_ : Nat → Prop), r = (.v w0_) ∧ Sep H2 (dpc w0_ 3 R_s_ii64_LeFlt_f32_poooq y0 wsw0_ Sw0_ :: fr)) := by
  unfold laws_toTakeS.wp at h
  refine of_body Try.f46 F.hm Try.func46 rfl Try.call46 (by kernel_rfl) (by simp) ?_
  refine fi_seq ?_
  refine fi_region ?_
  refine so_assign rfl ?_
  refine so_nil ?_
  refine fi_seq ?_
  refine fi_region ?_
  refine so_move rfl ?_
  refine sd_len ((g0 _ hs) : DSh _ _ 3 R_s_ii64_LeFlt_f32_poooq l0 w0) (by decide) rfl F46.ti59 ?_
  obtain ⟨c101, h⟩ := h
  refine sk_make hs (([] : List UInt8), (0 : Int), ([] : List (Nat))) [(.str (pk ([] : List UInt8))), (.int .i64 (0 : Int)), .nilsl] R_s_ii64_LeFlt_f32_poooq c101 (fun _ => ⟨rfl, .inl ⟨rfl, rfl⟩⟩) rfl rfl F46.te62 F46.sz27 F46.by27 F46.ze27 rfl rfl nofun (fun v102 ws104 S105 H103 _ hs => ?_)
  refine so_assign rfl ?_
  refine so_nil ?_
  refine fi_seq ?_
  refine fi_seq ?_
  refine fi_region ?_
  refine so_assign rfl ?_
  refine so_nil ?_
  refine fi_block ?_
  refine fi_loop ?_
  refine fi_at [(0, (.v v0)), (3, (.v v102)), (4, (.v (.int .i64 (0 : Int))))] ⟨rfl, rfl, rfl, trivial⟩ ?_
  refine h (fun (out122 : List ((List UInt8) × (Int) × (List (Nat)))) (i125 : Int) => ∀ (s : Nat → TV) (H : Heap) (ws123 : List (List AV)) (S124 : Nat → Prop), Sep H (dpc v102 3 R_s_ii64_LeFlt_f32_poooq out122 ws123 S124 :: fr) → Fin _ _ (updL s [(0, (.v v0)), (3, (.v v102)), (4, (.v (.int .i64 i125)))]) H _) ?_ _ _ _ _ hs
  intro out122 i125 h s138 H139 ws123 S124 hs
  refine fi_inLoop ?_
  refine fi_seq ?_
  refine fi_seq ?_
  refine fi_region ?_
  refine so_move rfl ?_
  refine so_move rfl ?_
  refine sd_len ((g0 _ hs.tl) : DSh _ _ 3 R_s_ii64_LeFlt_f32_poooq l0 w0) (by decide) rfl F46.ti59 ?_
  refine so_bin rfl rfl ab_lss ?_
  refine so_nil ?_
  replace h := ofP h; rcases h with ⟨c126, h⟩ | ⟨c126, h⟩
  · refine fi_true rfl (decide_eq_true c126) ?_
    refine fi_skip ?_
    refine fi_seq ?_
    refine fi_block ?_
    refine fi_region ?_
    refine so_move rfl ?_
    refine so_move rfl ?_
    refine so_move rfl ?_
    refine so_move rfl ?_
    obtain ⟨c127, h⟩ := h
    refine sd_idx ((g0 _ hs.tl) : DSh _ _ 3 R_s_ii64_LeFlt_f32_poooq l0 w0) c127 (([] : List UInt8), (0 : Int), ([] : List (Nat))) (by decide) rfl rfl F46.tl59 ?_
    refine su_lds ((((g0 _ hs.tl) : DSh _ _ 3 R_s_ii64_LeFlt_f32_poooq l0 w0)).at (by decide) c127 (([] : List UInt8), (0 : Int), ([] : List (Nat)))).2.2 0 3 (lenc ((((g0 _ hs.tl) : DSh _ _ 3 R_s_ii64_LeFlt_f32_poooq l0 w0)).at (by decide) c127 (([] : List UInt8), (0 : Int), ([] : List (Nat)))).2.1.1 (by simp)) (by decide) (whole ((((g0 _ hs.tl) : DSh _ _ 3 R_s_ii64_LeFlt_f32_poooq l0 w0)).at (by decide) c127 (([] : List UInt8), (0 : Int), ([] : List (Nat)))).2.1.1 (by rfl)) rfl F46.ag24 F46.sz24 ?_
    refine sv_call (laws_toTake_ok (l0.getD (i125).toNat (([] : List UInt8), (0 : Int), ([] : List (Nat)))).1 (l0.getD (i125).toNat (([] : List UInt8), (0 : Int), ([] : List (Nat)))).2.1 ((w0.getD (i125).toNat []).getD 2 .und) (l0.getD (i125).toNat (([] : List UInt8), (0 : Int), ([] : List (Nat)))).2.2 hs (fun _ hs => ((((g0 _ hs.tl) : DSh _ _ 3 R_s_ii64_LeFlt_f32_poooq l0 w0)).at (by decide) c127 (([] : List UInt8), (0 : Int), ([] : List (Nat)))).2.1.2) _ h) rfl rfl nofun ?_
    clear h hs
    rintro _ H133 ⟨y128, y129, y130, h, v131, rfl, hs⟩
    obtain ⟨c134, h⟩ := h
    refine sd_idx ((hs.dshows 1 rfl) : DSh _ _ 3 R_s_ii64_LeFlt_f32_poooq out122 ws123) c134 (([] : List UInt8), (0 : Int), ([] : List (Nat))) (by decide) rfl rfl F46.tl62 ?_
    have so_ : ([(.str (pk y128)), (.int .i64 y129), v131] : List AV).all AV.stor = true := (stc rfl (stc rfl (stc (hs.shows 0 rfl).stor stn)))
    refine sk_set hs 0 rfl c134 (y128, y129, y130) [(.str (pk y128)), (.int .i64 y129), v131] (fun _ hh => ⟨rfl, hh⟩) rfl (by decide) so_ rfl rfl rfl F46.sz27 nofun (fun ws136 S137 H135 hs => ?_)
    refine so_nil ?_
    refine fi_inBlock ?_
    refine fi_region ?_
    refine so_move rfl ?_
    refine so_bin rfl rfl ab_add ?_
    refine so_assign rfl ?_
    refine so_nil ?_
    exact fi_at [(0, (.v v0)), (3, (.v v102)), (4, (.v (.int .i64 (IntKind.i64.wrap (i125 + (1 : Int))))))] ⟨rfl, rfl, rfl, trivial⟩ (h _ _ _ _ hs)
  · refine fi_false rfl (decide_eq_false c126) ?_
    refine fi_exit rfl ?_
    refine fi_seq ?_
    refine fi_region ?_
    refine so_move rfl ?_
    refine so_assign rfl ?_
    refine so_nil ?_
    exact by_ret rfl ⟨_, h, _, _, _, rfl, hs⟩

end Go.Proofs.Ytfieljajhmpbiaa.G

namespace Go.Proofs.Ytfieljajhmpbiaa.G
open Go Go.Ab Go.Proofs Go.Proofs.Ytfieljajhmpbiaa
set_option maxRecDepth 100000
set_option linter.unusedVariables false
set_option linter.unusedSimpArgs false
set_option maxHeartbeats 1000000
theorem F146.xb146 : Try.f146.body = none := rfl
theorem F146.xe146 : Extern.find Try.f146 = some Extern.MathFloatBits.float64bits := by rfl
theorem F146.xf146 : (Extern.findNext Try.f146).isNone = true := by kernel_rfl
theorem F146.xn146 : (Try.f146.name == "runtime.NumGoroutine") = false := by kernel_rfl
theorem math_Float64bits_ok {fr : List Pc} {H : Heap} (x : Nat) (hs : Sep H fr) (K : Int → Prop) (h : math_Float64bits.wp x K) : OkQ Try.prog 146 [(.v (.flt .f64 x))] H (fun r H2 => ∃ y0 : Int, K y0 ∧ r = (.v (.int .u64 y0)) ∧ Sep H2 fr) := ⟨_, _, f64bits_ok Try.func146 F146.xn146 F146.xb146 F146.xf146 F146.xe146 x h.1, _, h.2, rfl, hs⟩

end Go.Proofs.Ytfieljajhmpbiaa.G

namespace Go.Proofs.Ytfieljajhmpbiaa.G
open Go Go.Ab Go.Proofs Go.Proofs.Ytfieljajhmpbiaa
set_option maxRecDepth 100000
set_option linter.unusedVariables false
set_option linter.unusedSimpArgs false
set_option maxHeartbeats 1000000
theorem F145.it2 : tint Try.prog 2 = some .i64 := by kernel_rfl
theorem F145.us152 : (Try.prog.underlying 152).isSome = true := by kernel_rfl
theorem math_Signbit_ok {fr : List Pc} {H : Heap} (a0 : Nat) (hs : Sep H (fr))  (K : Bool → Prop) (h : math_Signbit.wp a0 K) : OkQ Try.prog 145 [(.v (.flt .f64 a0))] H (fun r H2 => ∃ (y0 : Bool), K y0 ∧ r = (.v (.bool y0)) ∧ Sep H2 (fr)) := by
  unfold math_Signbit.wp at h
  refine of_body Try.f145 F.hm Try.func145 rfl Try.call145 (by kernel_rfl) (by simp) ?_
  refine fi_seq ?_
  refine fi_region ?_
  refine so_assign rfl ?_
  refine so_nil ?_
  refine fi_seq ?_
  refine fi_region ?_
  refine so_move rfl ?_
  refine sv_call (math_Float64bits_ok a0 hs  _ h) rfl rfl nofun ?_
  clear h hs
  rintro _ H102 ⟨y101, h, rfl, hs⟩
  refine sv_ii rfl F145.us152 F145.it2 ?_
  refine so_bin rfl rfl ab_lss ?_
  refine so_assign rfl ?_
  refine so_nil ?_
  exact by_ret rfl ⟨_, h, rfl, hs⟩

end Go.Proofs.Ytfieljajhmpbiaa.G

namespace Go.Proofs.Ytfieljajhmpbiaa.G
open Go Go.Ab Go.Proofs Go.Proofs.Ytfieljajhmpbiaa
set_option maxRecDepth 100000
set_option linter.unusedVariables false
set_option linter.unusedSimpArgs false
set_option maxHeartbeats 1000000
theorem F143.fl94 : tflt Try.prog 94 = some .f64 := by kernel_rfl
theorem F143.in94 : tint Try.prog 94 = none := by kernel_rfl
theorem F143.tb4 : tbool Try.prog 4 = true := by kernel_rfl
theorem F143.us36 : (Try.prog.underlying 36).isSome = true := by kernel_rfl
theorem impl_SameNumber_ok {fr : List Pc} {H : Heap} (a0 : Nat) (a1 : Nat) (hs : Sep H (fr))  (K : Bool → Prop) (h : impl_SameNumber.wp a0 a1 K) : OkQ Try.prog 143 [(.v (.flt .f32 a0)), (.v (.flt .f32 a1))] H (fun r H2 => ∃ (y0 : Bool), K y0 ∧ r = (.v (.bool y0)) ∧ Sep H2 (fr)) := by
  unfold impl_SameNumber.wp at h
  refine of_body Try.f143 F.hm Try.func143 rfl Try.call143 (by kernel_rfl) (by simp) ?_
  refine fi_seq ?_
  refine fi_region ?_
  refine so_assign rfl ?_
  refine so_nil ?_
  refine fi_seq ?_
  refine fi_seq ?_
  refine fi_region ?_
  refine so_move rfl ?_
  refine so_move rfl ?_
  refine so_bin rfl rfl ab_fneq ?_
  refine so_move rfl ?_
  replace h := ofT h; rcases h with ⟨c101, h⟩ | ⟨c101, h⟩
  · refine so_gno rfl c101 ?_
    refine so_gno rfl c101 ?_
    refine so_gno rfl c101 ?_
    refine so_pick_t rfl c101 rfl ?_
    refine so_nil ?_
    refine fi_true rfl rfl ?_
    refine fi_seq ?_
    refine fi_region ?_
    refine so_move rfl ?_
    refine so_move rfl ?_
    refine so_bin rfl rfl ab_fneq ?_
    refine so_move rfl ?_
    refine so_gyes rfl c101 ?_
    refine so_move rfl ?_
    refine so_gyes rfl c101 ?_
    refine so_move rfl ?_
    refine so_gyes rfl c101 ?_
    refine so_bin rfl rfl ab_fneq ?_
    refine so_pick_t rfl c101 rfl ?_
    refine so_assign rfl ?_
    refine so_nil ?_
    exact by_ret rfl ⟨_, h, rfl, hs⟩
  · refine so_gyes rfl c101 ?_
    refine so_move rfl ?_
    refine so_gyes rfl c101 ?_
    refine so_move rfl ?_
    refine so_gyes rfl c101 ?_
    refine so_bin rfl rfl ab_fneq ?_
    refine so_pick_f rfl c101 rfl ?_
    refine so_nil ?_
    replace h := ofT h; rcases h with ⟨c102, h⟩ | ⟨c102, h⟩
    · refine fi_true rfl c102 ?_
      refine fi_seq ?_
      refine fi_region ?_
      refine so_move rfl ?_
      refine so_move rfl ?_
      refine so_bin rfl rfl ab_fneq ?_
      refine so_move rfl ?_
      refine so_gno rfl c101 ?_
      refine so_gno rfl c101 ?_
      refine so_gno rfl c101 ?_
      refine so_pick_f rfl c101 rfl ?_
      refine so_assign rfl ?_
      refine so_nil ?_
      exact by_ret rfl ⟨_, h, rfl, hs⟩
    · refine fi_false rfl c102 ?_
      refine fi_skip ?_
      refine fi_seq ?_
      refine fi_region ?_
      refine so_move rfl ?_
      refine so_move rfl ?_
      refine so_bin rfl rfl ab_feql ?_
      refine so_move rfl ?_
      replace h := ofT h; rcases h with ⟨c103, h⟩ | ⟨c103, h⟩
      · refine so_gyes rfl c103 ?_
        refine so_move rfl ?_
        refine so_gyes rfl c103 ?_
        refine sv_ffw rfl F143.us36 F143.in94 F143.fl94 ?_
        refine so_gyes rfl c103 ?_
        refine sv_call (math_Signbit_ok (widen a0) hs  _ h) rfl rfl nofun ?_
        clear h hs
        rintro _ H105 ⟨y104, h, rfl, hs⟩
        refine so_gyes rfl c103 ?_
        refine so_move rfl ?_
        refine so_gyes rfl c103 ?_
        refine sv_ffw rfl F143.us36 F143.in94 F143.fl94 ?_
        refine so_gyes rfl c103 ?_
        refine sv_call (math_Signbit_ok (widen a1) hs  _ h) rfl rfl nofun ?_
        clear h hs
        rintro _ H107 ⟨y106, h, rfl, hs⟩
        refine so_gyes rfl c103 ?_
        refine so_bin rfl rfl (ab_beql F143.tb4) ?_
        refine so_pick_t rfl c103 rfl ?_
        refine so_assign rfl ?_
        refine so_nil ?_
        exact by_ret rfl ⟨_, h, rfl, hs⟩
      · refine so_gno rfl c103 ?_
        refine so_gno rfl c103 ?_
        refine so_gno rfl c103 ?_
        refine so_gno rfl c103 ?_
        refine so_gno rfl c103 ?_
        refine so_gno rfl c103 ?_
        refine so_gno rfl c103 ?_
        refine so_pick_f rfl c103 rfl ?_
        refine so_assign rfl ?_
        refine so_nil ?_
        exact by_ret rfl ⟨_, h, rfl, hs⟩

end Go.Proofs.Ytfieljajhmpbiaa.G

namespace Go.Proofs.Ytfieljajhmpbiaa.G
open Go Go.Ab Go.Proofs Go.Proofs.Ytfieljajhmpbiaa
set_option maxRecDepth 100000
set_option linter.unusedVariables false
set_option linter.unusedSimpArgs false
set_option maxHeartbeats 1000000
theorem F129.ag36 : tagg Try.prog 36 = some false := by kernel_rfl
theorem F129.ti22 : (telem Try.prog 22).isSome = true := by kernel_rfl
theorem F129.tl22 : (telem Try.prog 22).bind (tsz Try.prog) = some 1 := by kernel_rfl
theorem impl_sameNumbers_ok {fr : List Pc} {H : Heap} (v0 : AV) (l0 : List (Nat)) (v1 : AV) (l1 : List (Nat)) (hs : Sep H (fr)) (g0 : ∀ H, Sep H fr → Shows H v0 1 (enc (eFlt .f32) l0)) (g1 : ∀ H, Sep H fr → Shows H v1 1 (enc (eFlt .f32) l1)) (K : Bool → Prop) (h : impl_sameNumbers.wp l0 l1 K) : OkQ Try.prog 129 [(.v v0), (.v v1)] H (fun r H2 => ∃ (y0 : Bool), K y0 ∧ r = (.v (.bool y0)) ∧ Sep H2 (fr)) := by
  unfold impl_sameNumbers.wp at h
  refine of_body Try.f129 F.hm Try.func129 rfl Try.call129 (by kernel_rfl) (by simp) ?_
  refine fi_seq ?_
  refine fi_region ?_
  refine so_assign rfl ?_
  refine so_nil ?_
  refine fi_seq ?_
  refine fi_seq ?_
  refine fi_region ?_
  refine so_move rfl ?_
  refine sv_len (g0 _ hs) (fun _ => rfl) (by decide) rfl F129.ti22 ?_
  refine so_move rfl ?_
  refine sv_len (g1 _ hs) (fun _ => rfl) (by decide) rfl F129.ti22 ?_
  refine so_bin rfl rfl ab_neq ?_
  refine so_nil ?_
  replace h := ofP h; rcases h with ⟨c101, h⟩ | ⟨c101, h⟩
  · refine fi_false rfl (not_f (decide_eq_true c101)) ?_
    refine fi_skip ?_
    refine fi_seq ?_
    refine fi_seq ?_
    refine fi_region ?_
    refine so_move rfl ?_
    refine sv_len (g0 _ hs) (fun _ => rfl) (by decide) rfl F129.ti22 ?_
    refine so_move rfl ?_
    refine so_nil ?_
    refine fi_block ?_
    refine fi_loop ?_
    refine fi_at [(0, (.v v0)), (1, (.v v1)), (12, (.v (.int .i64 (l0.length : Int)))), (13, (.v (.int .i64 (0 : Int))))] ⟨rfl, rfl, rfl, rfl, trivial⟩ ?_
    refine h (fun (x103 : Int) => ∀ (s : Nat → TV) (H : Heap), Sep H (fr) → Fin _ _ (updL s [(0, (.v v0)), (1, (.v v1)), (12, (.v (.int .i64 (l0.length : Int)))), (13, (.v (.int .i64 x103)))]) H _) ?_ _ _ hs
    intro x103 h s110 H111 hs
    refine fi_inLoop ?_
    refine fi_seq ?_
    refine fi_region ?_
    refine so_bin rfl rfl ab_lss ?_
    refine so_nil ?_
    refine fi_seq ?_
    replace h := ofP h; rcases h with ⟨c104, h⟩ | ⟨c104, h⟩
    · refine fi_true rfl (decide_eq_true c104) ?_
      refine fi_skip ?_
      refine fi_seq ?_
      refine fi_block ?_
      refine fi_seq ?_
      refine fi_region ?_
      refine so_move rfl ?_
      refine so_assign rfl ?_
      refine so_nil ?_
      refine fi_seq ?_
      refine fi_region ?_
      refine so_move rfl ?_
      refine so_move rfl ?_
      obtain ⟨c105, h⟩ := h
      refine sv_idx (g0 _ hs) c105 (fun _ => rfl) (by decide) rfl rfl F129.tl22 ?_
      refine sv_cell (g0 _ hs) c105 (0 : Nat) 0 (fun x => (AV.flt .f32 x)) (fun _ => rfl) (fun _ => rfl) rfl F129.ag36 ?_
      refine so_move rfl ?_
      refine so_move rfl ?_
      obtain ⟨c106, h⟩ := h
      refine sv_idx (g1 _ hs) c106 (fun _ => rfl) (by decide) rfl rfl F129.tl22 ?_
      refine sv_cell (g1 _ hs) c106 (0 : Nat) 0 (fun x => (AV.flt .f32 x)) (fun _ => rfl) (fun _ => rfl) rfl F129.ag36 ?_
      refine sv_call (impl_SameNumber_ok (l0.getD (x103).toNat (0 : Nat)) (l1.getD (x103).toNat (0 : Nat)) hs  _ h) rfl rfl (fun _ => by kernel_rfl) ?_
      clear h hs
      rintro _ H108 ⟨y107, h, rfl, hs⟩
      refine so_un rfl au_not ?_
      refine so_nil ?_
      replace h := ofT h; rcases h with ⟨c109, h⟩ | ⟨c109, h⟩
      · refine fi_false rfl (not_f c109) ?_
        refine fi_skip ?_
        refine fi_inBlock ?_
        refine fi_region ?_
        refine so_bin rfl rfl ab_add ?_
        refine so_move rfl ?_
        refine so_nil ?_
        exact fi_at [(0, (.v v0)), (1, (.v v1)), (12, (.v (.int .i64 (l0.length : Int)))), (13, (.v (.int .i64 (IntKind.i64.wrap (x103 + (1 : Int))))))] ⟨rfl, rfl, rfl, rfl, trivial⟩ (h _ _  hs)
      · refine fi_true rfl (not_t c109) ?_
        refine fi_seq ?_
        refine fi_region ?_
        refine so_assign rfl ?_
        refine so_nil ?_
        exact by_ret rfl ⟨_, h, rfl, hs⟩
    · refine fi_false rfl (decide_eq_false c104) ?_
      refine fi_exit rfl ?_
      refine fi_seq ?_
      refine fi_region ?_
      refine so_assign rfl ?_
      refine so_nil ?_
      exact by_ret rfl ⟨_, h, rfl, hs⟩
  · refine fi_true rfl (not_t (decide_eq_false c101)) ?_
    refine fi_seq ?_
    refine fi_region ?_
    refine so_assign rfl ?_
    refine so_nil ?_
    exact by_ret rfl ⟨_, h, rfl, hs⟩

end Go.Proofs.Ytfieljajhmpbiaa.G

namespace Go.Proofs.Ytfieljajhmpbiaa.G
open Go Go.Ab Go.Proofs Go.Proofs.Ytfieljajhmpbiaa
set_option maxRecDepth 100000
set_option linter.unusedVariables false
set_option linter.unusedSimpArgs false
set_option maxHeartbeats 1000000
theorem F93.ag2 : tagg Try.prog 2 = some false := by kernel_rfl
theorem F93.ag22 : tagg Try.prog 22 = some false := by kernel_rfl
theorem F93.ag9 : tagg Try.prog 9 = some false := by kernel_rfl
theorem F93.fd27_0 : tfield Try.prog 27 0 = some (0, 1, false) := by kernel_rfl
theorem F93.fd27_1 : tfield Try.prog 27 1 = some (1, 1, false) := by kernel_rfl
theorem F93.fd27_2 : tfield Try.prog 27 2 = some (2, 1, false) := by kernel_rfl
theorem F93.inf27 : (Try.prog.info? 27).isSome = true := by kernel_rfl
theorem impl_sameTake_ok {fr : List Pc} {H : Heap} (a0 : List UInt8) (a1 : Int) (v2 : AV) (l2 : List (Nat)) (a3 : List UInt8) (a4 : Int) (v5 : AV) (l5 : List (Nat)) (hs : Sep H (fr)) (g2 : ∀ H, Sep H fr → Shows H v2 1 (enc (eFlt .f32) l2)) (g5 : ∀ H, Sep H fr → Shows H v5 1 (enc (eFlt .f32) l5)) (K : Bool → Prop) (h : impl_sameTake.wp a0 a1 l2 a3 a4 l5 K) : OkQ Try.prog 93 [(.g [(.str (pk a0)), (.int .i64 a1), v2]), (.g [(.str (pk a3)), (.int .i64 a4), v5])] H (fun r H2 => ∃ (y0 : Bool), K y0 ∧ r = (.v (.bool y0)) ∧ Sep H2 (fr)) := by
  unfold impl_sameTake.wp at h
  refine of_body Try.f93 F.hm Try.func93 rfl Try.call93 (by kernel_rfl) (by simp) ?_
  refine fi_seq ?_
  refine fi_region ?_
  refine sv_box hs rfl (c := [(.str (pk a0)), (.int .i64 a1), v2]) rfl F93.inf27 (stc rfl (stc rfl (stc (g2 _ hs).stor stn))) nofun (fun id101 H102 hs => ?_)
  refine sv_box hs rfl (c := [(.str (pk a3)), (.int .i64 a4), v5]) rfl F93.inf27 (stc rfl (stc rfl (stc (g5 _ hs.tl).stor stn))) nofun (fun id104 H105 hs => ?_)
  refine so_assign rfl ?_
  refine so_nil ?_
  refine fi_seq ?_
  refine fi_region ?_
  refine so_fieldAddr rfl F93.fd27_0 ?_
  refine sv_ld hs 1 rfl rfl rfl F93.ag9 ?_
  refine so_fieldAddr rfl F93.fd27_0 ?_
  refine sv_ld hs 0 rfl rfl rfl F93.ag9 ?_
  refine so_bin rfl rfl ab_seql ?_
  refine so_move rfl ?_
  replace h := ofP h; rcases h with ⟨c107, h⟩ | ⟨c107, h⟩
  · refine so_gyes rfl (decide_eq_true c107) ?_
    refine so_fieldAddr rfl F93.fd27_1 ?_
    refine so_gyes rfl (decide_eq_true c107) ?_
    refine sv_ld hs 1 rfl rfl rfl F93.ag2 ?_
    refine so_gyes rfl (decide_eq_true c107) ?_
    refine so_fieldAddr rfl F93.fd27_1 ?_
    refine so_gyes rfl (decide_eq_true c107) ?_
    refine sv_ld hs 0 rfl rfl rfl F93.ag2 ?_
    refine so_gyes rfl (decide_eq_true c107) ?_
    refine so_bin rfl rfl ab_eql ?_
    refine so_pick_t rfl (decide_eq_true c107) rfl ?_
    refine so_move rfl ?_
    replace h := ofP h; rcases h with ⟨c108, h⟩ | ⟨c108, h⟩
    · refine so_gyes rfl (decide_eq_true c108) ?_
      refine so_fieldAddr rfl F93.fd27_2 ?_
      refine so_gyes rfl (decide_eq_true c108) ?_
      refine sv_ld hs 1 rfl rfl rfl F93.ag22 ?_
      refine so_gyes rfl (decide_eq_true c108) ?_
      refine so_fieldAddr rfl F93.fd27_2 ?_
      refine so_gyes rfl (decide_eq_true c108) ?_
      refine sv_ld hs 0 rfl rfl rfl F93.ag22 ?_
      refine so_gyes rfl (decide_eq_true c108) ?_
      refine sv_call (impl_sameNumbers_ok v2 l2 v5 l5 hs (fun _ hs => (g2 _ hs.tl.tl)) (fun _ hs => (g5 _ hs.tl.tl)) _ h) rfl rfl nofun ?_
      clear h hs
      rintro _ H110 ⟨y109, h, rfl, hs⟩
      refine so_pick_t rfl (decide_eq_true c108) rfl ?_
      refine so_assign rfl ?_
      refine so_nil ?_
      exact by_ret rfl ⟨_, h, rfl, (Sep.del 0 (Sep.del 0 hs))⟩
    · refine so_gno rfl (decide_eq_false c108) ?_
      refine so_gno rfl (decide_eq_false c108) ?_
      refine so_gno rfl (decide_eq_false c108) ?_
      refine so_gno rfl (decide_eq_false c108) ?_
      refine so_gno rfl (decide_eq_false c108) ?_
      refine so_pick_f rfl (decide_eq_false c108) rfl ?_
      refine so_assign rfl ?_
      refine so_nil ?_
      exact by_ret rfl ⟨_, h, rfl, (Sep.del 0 (Sep.del 0 hs))⟩
  · refine so_gno rfl (decide_eq_false c107) ?_
    refine so_gno rfl (decide_eq_false c107) ?_
    refine so_gno rfl (decide_eq_false c107) ?_
    refine so_gno rfl (decide_eq_false c107) ?_
    refine so_gno rfl (decide_eq_false c107) ?_
    refine so_pick_f rfl (decide_eq_false c107) rfl ?_
    refine so_move rfl ?_
    refine so_gno rfl rfl ?_
    refine so_gno rfl rfl ?_
    refine so_gno rfl rfl ?_
    refine so_gno rfl rfl ?_
    refine so_gno rfl rfl ?_
    refine so_pick_f rfl rfl rfl ?_
    refine so_assign rfl ?_
    refine so_nil ?_
    exact by_ret rfl ⟨_, h, rfl, (Sep.del 0 (Sep.del 0 hs))⟩

end Go.Proofs.Ytfieljajhmpbiaa.G

namespace Go.Proofs.Ytfieljajhmpbiaa.G
open Go Go.Ab Go.Proofs Go.Proofs.Ytfieljajhmpbiaa
set_option maxRecDepth 100000
set_option linter.unusedVariables false
set_option linter.unusedSimpArgs false
set_option maxHeartbeats 1000000
theorem F92s93.ag27 : tagg Try.prog 27 = some true := by kernel_rfl
theorem F92s93.sz27 : tsz Try.prog 27 = some 3 := by kernel_rfl
theorem F92s93.ti62 : (telem Try.prog 62).isSome = true := by kernel_rfl
theorem F92s93.tl62 : (telem Try.prog 62).bind (tsz Try.prog) = some 3 := by kernel_rfl
theorem F92s93.ze27 : tzero Try.prog 27 = some [(.str (pk ([] : List UInt8))), (.int .i64 (0 : Int)), .nilsl] := by kernel_rfl
theorem slices_EqualFunc_impl_Take_impl_Take_impl_Take_impl_Take_impl_sameTake_ok {fr : List Pc} {H : Heap} (v0 : AV) (w0 : List (List AV)) (l0 : List ((List UInt8) × (Int) × (List (Nat)))) (v1 : AV) (w1 : List (List AV)) (l1 : List ((List UInt8) × (Int) × (List (Nat)))) (hs : Sep H (fr)) (g0 : ∀ H, Sep H fr → DSh H v0 3 R_s_ii64_LeFlt_f32_poooq l0 w0) (g1 : ∀ H, Sep H fr → DSh H v1 3 R_s_ii64_LeFlt_f32_poooq l1 w1) (K : Bool → Prop) (h : slices_EqualFunc_impl_Take_impl_Take_impl_Take_impl_Take_impl_sameTake.wp l0 l1 K) : OkQ Try.prog 92 [(.v v0), (.v v1), (.v (.fn 93 []))] H (fun r H2 => ∃ (y0 : Bool), K y0 ∧ r = (.v (.bool y0)) ∧ Sep H2 (fr)) := by
  unfold slices_EqualFunc_impl_Take_impl_Take_impl_Take_impl_Take_impl_sameTake.wp at h
  refine of_body Try.f92 F.hm Try.func92 rfl Try.call92 (by kernel_rfl) (by simp) ?_
  refine fi_seq ?_
  refine fi_region ?_
  refine so_assign rfl ?_
  refine so_nil ?_
  refine fi_seq ?_
  refine fi_seq ?_
  refine fi_region ?_
  refine so_move rfl ?_
  refine sd_len ((g0 _ hs) : DSh _ _ 3 R_s_ii64_LeFlt_f32_poooq l0 w0) (by decide) rfl F92s93.ti62 ?_
  refine so_move rfl ?_
  refine sd_len ((g1 _ hs) : DSh _ _ 3 R_s_ii64_LeFlt_f32_poooq l1 w1) (by decide) rfl F92s93.ti62 ?_
  refine so_bin rfl rfl ab_neq ?_
  refine so_nil ?_
  replace h := ofP h; rcases h with ⟨c101, h⟩ | ⟨c101, h⟩
  · refine fi_false rfl (not_f (decide_eq_true c101)) ?_
    refine fi_skip ?_
    refine fi_seq ?_
    refine fi_seq ?_
    refine fi_region ?_
    refine so_move rfl ?_
    refine sd_len ((g0 _ hs) : DSh _ _ 3 R_s_ii64_LeFlt_f32_poooq l0 w0) (by decide) rfl F92s93.ti62 ?_
    refine so_move rfl ?_
    refine so_nil ?_
    refine fi_block ?_
    refine fi_loop ?_
    refine fi_at [(1, (.v v1)), (2, (.v (.fn 93 []))), (15, (.v v0)), (16, (.v (.int .i64 (l0.length : Int)))), (17, (.v (.int .i64 (0 : Int))))] ⟨rfl, rfl, rfl, rfl, rfl, trivial⟩ ?_
    refine h (fun (x103 : Int) => ∀ (s : Nat → TV) (H : Heap), Sep H (fr) → Fin _ _ (updL s [(1, (.v v1)), (2, (.v (.fn 93 []))), (15, (.v v0)), (16, (.v (.int .i64 (l0.length : Int)))), (17, (.v (.int .i64 x103)))]) H _) ?_ _ _ hs
    intro x103 h s118 H119 hs
    refine fi_inLoop ?_
    refine fi_seq ?_
    refine fi_region ?_
    refine so_bin rfl rfl ab_lss ?_
    refine so_nil ?_
    refine fi_seq ?_
    replace h := ofP h; rcases h with ⟨c104, h⟩ | ⟨c104, h⟩
    · refine fi_true rfl (decide_eq_true c104) ?_
      refine fi_skip ?_
      refine fi_seq ?_
      refine fi_block ?_
      refine fi_seq ?_
      refine fi_region ?_
      refine so_move rfl ?_
      obtain ⟨c105, h⟩ := h
      refine sd_idx ((g0 _ hs) : DSh _ _ 3 R_s_ii64_LeFlt_f32_poooq l0 w0) c105 (([] : List UInt8), (0 : Int), ([] : List (Nat))) (by decide) rfl rfl F92s93.tl62 ?_
      refine su_lds ((((g0 _ hs) : DSh _ _ 3 R_s_ii64_LeFlt_f32_poooq l0 w0)).at (by decide) c105 (([] : List UInt8), (0 : Int), ([] : List (Nat)))).2.2 0 3 (lenc ((((g0 _ hs) : DSh _ _ 3 R_s_ii64_LeFlt_f32_poooq l0 w0)).at (by decide) c105 (([] : List UInt8), (0 : Int), ([] : List (Nat)))).2.1.1 (by simp)) (by decide) (whole ((((g0 _ hs) : DSh _ _ 3 R_s_ii64_LeFlt_f32_poooq l0 w0)).at (by decide) c105 (([] : List UInt8), (0 : Int), ([] : List (Nat)))).2.1.1 (by rfl)) rfl F92s93.ag27 F92s93.sz27 ?_
      refine sv_alloc hs F92s93.ze27 rfl nofun (fun id106 H107 hs => ?_)
      refine so_assign rfl ?_
      refine sv_st hs 0 rfl rfl rfl (c := [(.str (pk (l0.getD (x103).toNat (([] : List UInt8), (0 : Int), ([] : List (Nat)))).1)), (.int .i64 (l0.getD (x103).toNat (([] : List UInt8), (0 : Int), ([] : List (Nat)))).2.1), ((w0.getD (x103).toNat []).getD 2 .und)]) rfl F92s93.sz27 rfl (stc rfl (stc rfl (stc ((((g0 _ hs.tl) : DSh _ _ 3 R_s_ii64_LeFlt_f32_poooq l0 w0)).at (by decide) c105 (([] : List UInt8), (0 : Int), ([] : List (Nat)))).2.1.2.stor stn))) (leb rfl) (cs' := [(.str (pk (l0.getD (x103).toNat (([] : List UInt8), (0 : Int), ([] : List (Nat)))).1)), (.int .i64 (l0.getD (x103).toNat (([] : List UInt8), (0 : Int), ([] : List (Nat)))).2.1), ((w0.getD (x103).toNat []).getD 2 .und)]) rfl nofun (fun H109 hs => ?_)
      refine so_nil ?_
      refine fi_seq ?_
      refine fi_region ?_
      refine so_move rfl ?_
      refine so_move rfl ?_
      obtain ⟨c110, h⟩ := h
      refine sd_idx ((g1 _ hs.tl) : DSh _ _ 3 R_s_ii64_LeFlt_f32_poooq l1 w1) c110 (([] : List UInt8), (0 : Int), ([] : List (Nat))) (by decide) rfl rfl F92s93.tl62 ?_
      refine su_lds ((((g1 _ hs.tl) : DSh _ _ 3 R_s_ii64_LeFlt_f32_poooq l1 w1)).at (by decide) c110 (([] : List UInt8), (0 : Int), ([] : List (Nat)))).2.2 0 3 (lenc ((((g1 _ hs.tl) : DSh _ _ 3 R_s_ii64_LeFlt_f32_poooq l1 w1)).at (by decide) c110 (([] : List UInt8), (0 : Int), ([] : List (Nat)))).2.1.1 (by simp)) (by decide) (whole ((((g1 _ hs.tl) : DSh _ _ 3 R_s_ii64_LeFlt_f32_poooq l1 w1)).at (by decide) c110 (([] : List UInt8), (0 : Int), ([] : List (Nat)))).2.1.1 (by rfl)) rfl F92s93.ag27 F92s93.sz27 ?_
      refine sv_alloc hs F92s93.ze27 rfl nofun (fun id111 H112 hs => ?_)
      refine sv_st hs 0 rfl rfl rfl (c := [(.str (pk (l1.getD (x103).toNat (([] : List UInt8), (0 : Int), ([] : List (Nat)))).1)), (.int .i64 (l1.getD (x103).toNat (([] : List UInt8), (0 : Int), ([] : List (Nat)))).2.1), ((w1.getD (x103).toNat []).getD 2 .und)]) rfl F92s93.sz27 rfl (stc rfl (stc rfl (stc ((((g1 _ hs.tl.tl) : DSh _ _ 3 R_s_ii64_LeFlt_f32_poooq l1 w1)).at (by decide) c110 (([] : List UInt8), (0 : Int), ([] : List (Nat)))).2.1.2.stor stn))) (leb rfl) (cs' := [(.str (pk (l1.getD (x103).toNat (([] : List UInt8), (0 : Int), ([] : List (Nat)))).1)), (.int .i64 (l1.getD (x103).toNat (([] : List UInt8), (0 : Int), ([] : List (Nat)))).2.1), ((w1.getD (x103).toNat []).getD 2 .und)]) rfl nofun (fun H114 hs => ?_)
      refine so_nil ?_
      refine fi_seq ?_
      refine fi_region ?_
      refine so_move rfl ?_
      refine sv_lds hs 1 rfl rfl (leb rfl) rfl F92s93.ag27 F92s93.sz27 ?_
      refine sv_lds hs 0 rfl rfl (leb rfl) rfl F92s93.ag27 F92s93.sz27 ?_
      refine sv_call (impl_sameTake_ok (l0.getD (x103).toNat (([] : List UInt8), (0 : Int), ([] : List (Nat)))).1 (l0.getD (x103).toNat (([] : List UInt8), (0 : Int), ([] : List (Nat)))).2.1 ((w0.getD (x103).toNat []).getD 2 .und) (l0.getD (x103).toNat (([] : List UInt8), (0 : Int), ([] : List (Nat)))).2.2 (l1.getD (x103).toNat (([] : List UInt8), (0 : Int), ([] : List (Nat)))).1 (l1.getD (x103).toNat (([] : List UInt8), (0 : Int), ([] : List (Nat)))).2.1 ((w1.getD (x103).toNat []).getD 2 .und) (l1.getD (x103).toNat (([] : List UInt8), (0 : Int), ([] : List (Nat)))).2.2 hs (fun _ hs => ((((g0 _ hs.tl.tl) : DSh _ _ 3 R_s_ii64_LeFlt_f32_poooq l0 w0)).at (by decide) c105 (([] : List UInt8), (0 : Int), ([] : List (Nat)))).2.1.2) (fun _ hs => ((((g1 _ hs.tl.tl) : DSh _ _ 3 R_s_ii64_LeFlt_f32_poooq l1 w1)).at (by decide) c110 (([] : List UInt8), (0 : Int), ([] : List (Nat)))).2.1.2) _ h) rfl rfl nofun ?_
      clear h hs
      rintro _ H116 ⟨y115, h, rfl, hs⟩
      refine so_un rfl au_not ?_
      refine so_nil ?_
      replace h := ofT h; rcases h with ⟨c117, h⟩ | ⟨c117, h⟩
      · refine fi_false rfl (not_f c117) ?_
        refine fi_skip ?_
        refine fi_inBlock ?_
        refine fi_region ?_
        refine so_bin rfl rfl ab_add ?_
        refine so_move rfl ?_
        refine so_nil ?_
        exact fi_at [(1, (.v v1)), (2, (.v (.fn 93 []))), (15, (.v v0)), (16, (.v (.int .i64 (l0.length : Int)))), (17, (.v (.int .i64 (IntKind.i64.wrap (x103 + (1 : Int))))))] ⟨rfl, rfl, rfl, rfl, rfl, trivial⟩ (h _ _  (Sep.del 0 (Sep.del 0 hs)))
      · refine fi_true rfl (not_t c117) ?_
        refine fi_seq ?_
        refine fi_region ?_
        refine so_assign rfl ?_
        refine so_nil ?_
        exact by_ret rfl ⟨_, h, rfl, (Sep.del 0 (Sep.del 0 hs))⟩
    · refine fi_false rfl (decide_eq_false c104) ?_
      refine fi_exit rfl ?_
      refine fi_seq ?_
      refine fi_region ?_
      refine so_assign rfl ?_
      refine so_nil ?_
      exact by_ret rfl ⟨_, h, rfl, hs⟩
  · refine fi_true rfl (not_t (decide_eq_false c101)) ?_
    refine fi_seq ?_
    refine fi_region ?_
    refine so_assign rfl ?_
    refine so_nil ?_
    exact by_ret rfl ⟨_, h, rfl, hs⟩

end Go.Proofs.Ytfieljajhmpbiaa.G

namespace Go.Proofs.Ytfieljajhmpbiaa.G
open Go Go.Ab Go.Proofs Go.Proofs.Ytfieljajhmpbiaa
set_option maxRecDepth 100000
set_option linter.unusedVariables false
set_option linter.unusedSimpArgs false
set_option maxHeartbeats 1000000
theorem impl_SameTakes_ok {fr : List Pc} {H : Heap} (v0 : AV) (w0 : List (List AV)) (l0 : List ((List UInt8) × (Int) × (List (Nat)))) (v1 : AV) (w1 : List (List AV)) (l1 : List ((List UInt8) × (Int) × (List (Nat)))) (hs : Sep H (fr)) (g0 : ∀ H, Sep H fr → DSh H v0 3 R_s_ii64_LeFlt_f32_poooq l0 w0) (g1 : ∀ H, Sep H fr → DSh H v1 3 R_s_ii64_LeFlt_f32_poooq l1 w1) (K : Bool → Prop) (h : impl_SameTakes.wp l0 l1 K) : OkQ Try.prog 47 [(.v v0), (.v v1)] H (fun r H2 => ∃ (y0 : Bool), K y0 ∧ r = (.v (.bool y0)) ∧ Sep H2 (fr)) := by
  unfold impl_SameTakes.wp at h
  refine of_body Try.f47 F.hm Try.func47 rfl Try.call47 (by kernel_rfl) (by simp) ?_
  refine fi_seq ?_
  refine fi_region ?_
  refine so_assign rfl ?_
  refine so_nil ?_
  refine fi_seq ?_
  refine fi_region ?_
  refine so_move rfl ?_
  refine so_move rfl ?_
  refine sv_call (slices_EqualFunc_impl_Take_impl_Take_impl_Take_impl_Take_impl_sameTake_ok v0 w0 l0 v1 w1 l1 hs (fun _ hs => (g0 _ hs)) (fun _ hs => (g1 _ hs)) _ h) rfl rfl nofun ?_
  clear h hs
  rintro _ H102 ⟨y101, h, rfl, hs⟩
  refine so_assign rfl ?_
  refine so_nil ?_
  exact by_ret rfl ⟨_, h, rfl, hs⟩

end Go.Proofs.Ytfieljajhmpbiaa.G

namespace Go.Proofs.Ytfieljajhmpbiaa.G
open Go Go.Ab Go.Proofs Go.Proofs.Ytfieljajhmpbiaa
set_option maxRecDepth 100000
set_option linter.unusedVariables false
set_option linter.unusedSimpArgs false
set_option maxHeartbeats 1000000
theorem F67.tb4 : tbool Try.prog 4 = true := by kernel_rfl
theorem laws_sameFloat_ok {fr : List Pc} {H : Heap} (a0 : Nat) (a1 : Nat) (hs : Sep H (fr))  (K : Bool → Prop) (h : laws_sameFloat.wp a0 a1 K) : OkQ Try.prog 67 [(.v (.flt .f64 a0)), (.v (.flt .f64 a1))] H (fun r H2 => ∃ (y0 : Bool), K y0 ∧ r = (.v (.bool y0)) ∧ Sep H2 (fr)) := by
  unfold laws_sameFloat.wp at h
  refine of_body Try.f67 F.hm Try.func67 rfl Try.call67 (by kernel_rfl) (by simp) ?_
  refine fi_seq ?_
  refine fi_region ?_
  refine so_assign rfl ?_
  refine so_nil ?_
  refine fi_seq ?_
  refine fi_seq ?_
  refine fi_region ?_
  refine so_move rfl ?_
  refine so_move rfl ?_
  refine so_bin rfl rfl ab_fneq ?_
  refine so_move rfl ?_
  replace h := ofT h; rcases h with ⟨c101, h⟩ | ⟨c101, h⟩
  · refine so_gno rfl c101 ?_
    refine so_gno rfl c101 ?_
    refine so_gno rfl c101 ?_
    refine so_pick_t rfl c101 rfl ?_
    refine so_nil ?_
    refine fi_true rfl rfl ?_
    refine fi_seq ?_
    refine fi_region ?_
    refine so_move rfl ?_
    refine so_move rfl ?_
    refine so_bin rfl rfl ab_fneq ?_
    refine so_move rfl ?_
    refine so_gyes rfl c101 ?_
    refine so_move rfl ?_
    refine so_gyes rfl c101 ?_
    refine so_move rfl ?_
    refine so_gyes rfl c101 ?_
    refine so_bin rfl rfl ab_fneq ?_
    refine so_pick_t rfl c101 rfl ?_
    refine so_assign rfl ?_
    refine so_nil ?_
    exact by_ret rfl ⟨_, h, rfl, hs⟩
  · refine so_gyes rfl c101 ?_
    refine so_move rfl ?_
    refine so_gyes rfl c101 ?_
    refine so_move rfl ?_
    refine so_gyes rfl c101 ?_
    refine so_bin rfl rfl ab_fneq ?_
    refine so_pick_f rfl c101 rfl ?_
    refine so_nil ?_
    replace h := ofT h; rcases h with ⟨c102, h⟩ | ⟨c102, h⟩
    · refine fi_true rfl c102 ?_
      refine fi_seq ?_
      refine fi_region ?_
      refine so_move rfl ?_
      refine so_move rfl ?_
      refine so_bin rfl rfl ab_fneq ?_
      refine so_move rfl ?_
      refine so_gno rfl c101 ?_
      refine so_gno rfl c101 ?_
      refine so_gno rfl c101 ?_
      refine so_pick_f rfl c101 rfl ?_
      refine so_assign rfl ?_
      refine so_nil ?_
      exact by_ret rfl ⟨_, h, rfl, hs⟩
    · refine fi_false rfl c102 ?_
      refine fi_skip ?_
      refine fi_seq ?_
      refine fi_seq ?_
      refine fi_region ?_
      refine so_move rfl ?_
      refine so_bin rfl rfl ab_feql ?_
      refine so_move rfl ?_
      replace h := ofT h; rcases h with ⟨c103, h⟩ | ⟨c103, h⟩
      · refine so_gyes rfl c103 ?_
        refine so_move rfl ?_
        refine so_gyes rfl c103 ?_
        refine so_bin rfl rfl ab_feql ?_
        refine so_pick_t rfl c103 rfl ?_
        refine so_nil ?_
        replace h := ofT h; rcases h with ⟨c104, h⟩ | ⟨c104, h⟩
        · refine fi_true rfl c104 ?_
          refine fi_seq ?_
          refine fi_region ?_
          refine so_move rfl ?_
          refine so_bin rfl rfl ab_fquo ?_
          refine so_bin rfl rfl ab_fgtr ?_
          refine so_move rfl ?_
          refine so_bin rfl rfl ab_fquo ?_
          refine so_bin rfl rfl ab_fgtr ?_
          refine so_bin rfl rfl (ab_beql F67.tb4) ?_
          refine so_assign rfl ?_
          refine so_nil ?_
          exact by_ret rfl ⟨_, h, rfl, hs⟩
        · refine fi_false rfl c104 ?_
          refine fi_skip ?_
          refine fi_seq ?_
          refine fi_region ?_
          refine so_move rfl ?_
          refine so_move rfl ?_
          refine so_bin rfl rfl ab_feql ?_
          refine so_assign rfl ?_
          refine so_nil ?_
          exact by_ret rfl ⟨_, h, rfl, hs⟩
      · refine so_gno rfl c103 ?_
        refine so_gno rfl c103 ?_
        refine so_pick_f rfl c103 rfl ?_
        refine so_nil ?_
        refine fi_false rfl rfl ?_
        refine fi_skip ?_
        refine fi_seq ?_
        refine fi_region ?_
        refine so_move rfl ?_
        refine so_move rfl ?_
        refine so_bin rfl rfl ab_feql ?_
        refine so_assign rfl ?_
        refine so_nil ?_
        exact by_ret rfl ⟨_, h, rfl, hs⟩

end Go.Proofs.Ytfieljajhmpbiaa.G

namespace Go.Proofs.Ytfieljajhmpbiaa.G
open Go Go.Ab Go.Proofs Go.Proofs.Ytfieljajhmpbiaa
set_option maxRecDepth 100000
set_option linter.unusedVariables false
set_option linter.unusedSimpArgs false
set_option maxHeartbeats 1000000
theorem F23.ag36 : tagg Try.prog 36 = some false := by kernel_rfl
theorem F23.fl94 : tflt Try.prog 94 = some .f64 := by kernel_rfl
theorem F23.in94 : tint Try.prog 94 = none := by kernel_rfl
theorem F23.ti22 : (telem Try.prog 22).isSome = true := by kernel_rfl
theorem F23.tl22 : (telem Try.prog 22).bind (tsz Try.prog) = some 1 := by kernel_rfl
theorem F23.us36 : (Try.prog.underlying 36).isSome = true := by kernel_rfl
theorem laws_eqFloat32S_ok {fr : List Pc} {H : Heap} (v0 : AV) (l0 : List (Nat)) (v1 : AV) (l1 : List (Nat)) (hs : Sep H (fr)) (g0 : ∀ H, Sep H fr → Shows H v0 1 (enc (eFlt .f32) l0)) (g1 : ∀ H, Sep H fr → Shows H v1 1 (enc (eFlt .f32) l1)) (K : Bool → Prop) (h : laws_eqFloat32S.wp l0 l1 K) : OkQ Try.prog 23 [(.v v0), (.v v1)] H (fun r H2 => ∃ (y0 : Bool), K y0 ∧ r = (.v (.bool y0)) ∧ Sep H2 (fr)) := by
  unfold laws_eqFloat32S.wp at h
  refine of_body Try.f23 F.hm Try.func23 rfl Try.call23 (by kernel_rfl) (by simp) ?_
  refine fi_seq ?_
  refine fi_region ?_
  refine so_assign rfl ?_
  refine so_nil ?_
  refine fi_seq ?_
  refine fi_seq ?_
  refine fi_region ?_
  refine so_move rfl ?_
  refine sv_len (g0 _ hs) (fun _ => rfl) (by decide) rfl F23.ti22 ?_
  refine so_move rfl ?_
  refine sv_len (g1 _ hs) (fun _ => rfl) (by decide) rfl F23.ti22 ?_
  refine so_bin rfl rfl ab_neq ?_
  refine so_nil ?_
  replace h := ofP h; rcases h with ⟨c101, h⟩ | ⟨c101, h⟩
  · refine fi_false rfl (not_f (decide_eq_true c101)) ?_
    refine fi_skip ?_
    refine fi_seq ?_
    refine fi_seq ?_
    refine fi_region ?_
    refine so_assign rfl ?_
    refine so_nil ?_
    refine fi_block ?_
    refine fi_loop ?_
    refine fi_at [(0, (.v v0)), (1, (.v v1)), (5, (.v (.int .i64 (0 : Int))))] ⟨rfl, rfl, rfl, trivial⟩ ?_
    refine h (fun (i103 : Int) => ∀ (s : Nat → TV) (H : Heap), Sep H (fr) → Fin _ _ (updL s [(0, (.v v0)), (1, (.v v1)), (5, (.v (.int .i64 i103)))]) H _) ?_ _ _ hs
    intro i103 h s110 H111 hs
    refine fi_inLoop ?_
    refine fi_seq ?_
    refine fi_seq ?_
    refine fi_region ?_
    refine so_move rfl ?_
    refine so_move rfl ?_
    refine sv_len (g0 _ hs) (fun _ => rfl) (by decide) rfl F23.ti22 ?_
    refine so_bin rfl rfl ab_lss ?_
    refine so_nil ?_
    replace h := ofP h; rcases h with ⟨c104, h⟩ | ⟨c104, h⟩
    · refine fi_true rfl (decide_eq_true c104) ?_
      refine fi_skip ?_
      refine fi_seq ?_
      refine fi_block ?_
      refine fi_seq ?_
      refine fi_region ?_
      refine so_move rfl ?_
      refine so_move rfl ?_
      obtain ⟨c105, h⟩ := h
      refine sv_idx (g0 _ hs) c105 (fun _ => rfl) (by decide) rfl rfl F23.tl22 ?_
      refine sv_cell (g0 _ hs) c105 (0 : Nat) 0 (fun x => (AV.flt .f32 x)) (fun _ => rfl) (fun _ => rfl) rfl F23.ag36 ?_
      refine sv_ffw rfl F23.us36 F23.in94 F23.fl94 ?_
      refine so_move rfl ?_
      refine so_move rfl ?_
      obtain ⟨c106, h⟩ := h
      refine sv_idx (g1 _ hs) c106 (fun _ => rfl) (by decide) rfl rfl F23.tl22 ?_
      refine sv_cell (g1 _ hs) c106 (0 : Nat) 0 (fun x => (AV.flt .f32 x)) (fun _ => rfl) (fun _ => rfl) rfl F23.ag36 ?_
      refine sv_ffw rfl F23.us36 F23.in94 F23.fl94 ?_
      refine sv_call (laws_sameFloat_ok (widen (l0.getD (i103).toNat (0 : Nat))) (widen (l1.getD (i103).toNat (0 : Nat))) hs  _ h) rfl rfl (fun _ => by kernel_rfl) ?_
      clear h hs
      rintro _ H108 ⟨y107, h, rfl, hs⟩
      refine so_un rfl au_not ?_
      refine so_nil ?_
      replace h := ofT h; rcases h with ⟨c109, h⟩ | ⟨c109, h⟩
      · refine fi_false rfl (not_f c109) ?_
        refine fi_skip ?_
        refine fi_inBlock ?_
        refine fi_region ?_
        refine so_move rfl ?_
        refine so_bin rfl rfl ab_add ?_
        refine so_assign rfl ?_
        refine so_nil ?_
        exact fi_at [(0, (.v v0)), (1, (.v v1)), (5, (.v (.int .i64 (IntKind.i64.wrap (i103 + (1 : Int))))))] ⟨rfl, rfl, rfl, trivial⟩ (h _ _  hs)
      · refine fi_true rfl (not_t c109) ?_
        refine fi_seq ?_
        refine fi_region ?_
        refine so_assign rfl ?_
        refine so_nil ?_
        exact by_ret rfl ⟨_, h, rfl, hs⟩
    · refine fi_false rfl (decide_eq_false c104) ?_
      refine fi_exit rfl ?_
      refine fi_seq ?_
      refine fi_region ?_
      refine so_assign rfl ?_
      refine so_nil ?_
      exact by_ret rfl ⟨_, h, rfl, hs⟩
  · refine fi_true rfl (not_t (decide_eq_false c101)) ?_
    refine fi_seq ?_
    refine fi_region ?_
    refine so_assign rfl ?_
    refine so_nil ?_
    exact by_ret rfl ⟨_, h, rfl, hs⟩

end Go.Proofs.Ytfieljajhmpbiaa.G

namespace Go.Proofs.Ytfieljajhmpbiaa.G
open Go Go.Ab Go.Proofs Go.Proofs.Ytfieljajhmpbiaa
set_option maxRecDepth 100000
set_option linter.unusedVariables false
set_option linter.unusedSimpArgs false
set_option maxHeartbeats 1000000
theorem F19.ag2 : tagg Try.prog 2 = some false := by kernel_rfl
theorem F19.ag22 : tagg Try.prog 22 = some false := by kernel_rfl
theorem F19.ag9 : tagg Try.prog 9 = some false := by kernel_rfl
theorem F19.fd27_0 : tfield Try.prog 27 0 = some (0, 1, false) := by kernel_rfl
theorem F19.fd27_1 : tfield Try.prog 27 1 = some (1, 1, false) := by kernel_rfl
theorem F19.fd27_2 : tfield Try.prog 27 2 = some (2, 1, false) := by kernel_rfl
theorem F19.inf27 : (Try.prog.info? 27).isSome = true := by kernel_rfl
theorem laws_eqTake_ok {fr : List Pc} {H : Heap} (a0 : List UInt8) (a1 : Int) (v2 : AV) (l2 : List (Nat)) (a3 : List UInt8) (a4 : Int) (v5 : AV) (l5 : List (Nat)) (hs : Sep H (fr)) (g2 : ∀ H, Sep H fr → Shows H v2 1 (enc (eFlt .f32) l2)) (g5 : ∀ H, Sep H fr → Shows H v5 1 (enc (eFlt .f32) l5)) (K : Bool → Prop) (h : laws_eqTake.wp a0 a1 l2 a3 a4 l5 K) : OkQ Try.prog 19 [(.g [(.str (pk a0)), (.int .i64 a1), v2]), (.g [(.str (pk a3)), (.int .i64 a4), v5])] H (fun r H2 => ∃ (y0 : Bool), K y0 ∧ r = (.v (.bool y0)) ∧ Sep H2 (fr)) := by
  unfold laws_eqTake.wp at h
  refine of_body Try.f19 F.hm Try.func19 rfl Try.call19 (by kernel_rfl) (by simp) ?_
  refine fi_seq ?_
  refine fi_region ?_
  refine sv_box hs rfl (c := [(.str (pk a0)), (.int .i64 a1), v2]) rfl F19.inf27 (stc rfl (stc rfl (stc (g2 _ hs).stor stn))) nofun (fun id101 H102 hs => ?_)
  refine sv_box hs rfl (c := [(.str (pk a3)), (.int .i64 a4), v5]) rfl F19.inf27 (stc rfl (stc rfl (stc (g5 _ hs.tl).stor stn))) nofun (fun id104 H105 hs => ?_)
  refine so_assign rfl ?_
  refine so_nil ?_
  refine fi_seq ?_
  refine fi_seq ?_
  refine fi_region ?_
  refine so_fieldAddr rfl F19.fd27_0 ?_
  refine sv_ld hs 1 rfl rfl rfl F19.ag9 ?_
  refine so_fieldAddr rfl F19.fd27_0 ?_
  refine sv_ld hs 0 rfl rfl rfl F19.ag9 ?_
  refine so_bin rfl rfl ab_sneq ?_
  refine so_nil ?_
  replace h := ofP h; rcases h with ⟨c107, h⟩ | ⟨c107, h⟩
  · refine fi_false rfl (not_f (decide_eq_true c107)) ?_
    refine fi_skip ?_
    refine fi_seq ?_
    refine fi_seq ?_
    refine fi_region ?_
    refine so_fieldAddr rfl F19.fd27_1 ?_
    refine sv_ld hs 1 rfl rfl rfl F19.ag2 ?_
    refine so_fieldAddr rfl F19.fd27_1 ?_
    refine sv_ld hs 0 rfl rfl rfl F19.ag2 ?_
    refine so_bin rfl rfl ab_neq ?_
    refine so_nil ?_
    replace h := ofP h; rcases h with ⟨c108, h⟩ | ⟨c108, h⟩
    · refine fi_false rfl (not_f (decide_eq_true c108)) ?_
      refine fi_skip ?_
      refine fi_seq ?_
      refine fi_seq ?_
      refine fi_region ?_
      refine so_fieldAddr rfl F19.fd27_2 ?_
      refine sv_ld hs 1 rfl rfl rfl F19.ag22 ?_
      refine so_fieldAddr rfl F19.fd27_2 ?_
      refine sv_ld hs 0 rfl rfl rfl F19.ag22 ?_
      refine sv_call (laws_eqFloat32S_ok v2 l2 v5 l5 hs (fun _ hs => (g2 _ hs.tl.tl)) (fun _ hs => (g5 _ hs.tl.tl)) _ h) rfl rfl nofun ?_
      clear h hs
      rintro _ H110 ⟨y109, h, rfl, hs⟩
      refine so_un rfl au_not ?_
      refine so_nil ?_
      replace h := ofT h; rcases h with ⟨c111, h⟩ | ⟨c111, h⟩
      · refine fi_false rfl (not_f c111) ?_
        refine fi_skip ?_
        refine fi_seq ?_
        refine fi_region ?_
        refine so_assign rfl ?_
        refine so_nil ?_
        exact by_ret rfl ⟨_, h, rfl, (Sep.del 0 (Sep.del 0 hs))⟩
      · refine fi_true rfl (not_t c111) ?_
        refine fi_seq ?_
        refine fi_region ?_
        refine so_assign rfl ?_
        refine so_nil ?_
        exact by_ret rfl ⟨_, h, rfl, (Sep.del 0 (Sep.del 0 hs))⟩
    · refine fi_true rfl (not_t (decide_eq_false c108)) ?_
      refine fi_seq ?_
      refine fi_region ?_
      refine so_assign rfl ?_
      refine so_nil ?_
      exact by_ret rfl ⟨_, h, rfl, (Sep.del 0 (Sep.del 0 hs))⟩
  · refine fi_true rfl (not_t (decide_eq_false c107)) ?_
    refine fi_seq ?_
    refine fi_region ?_
    refine so_assign rfl ?_
    refine so_nil ?_
    exact by_ret rfl ⟨_, h, rfl, (Sep.del 0 (Sep.del 0 hs))⟩

end Go.Proofs.Ytfieljajhmpbiaa.G

namespace Go.Proofs.Ytfieljajhmpbiaa.G
open Go Go.Ab Go.Proofs Go.Proofs.Ytfieljajhmpbiaa
set_option maxRecDepth 100000
set_option linter.unusedVariables false
set_option linter.unusedSimpArgs false
set_option maxHeartbeats 1000000
theorem F48.ag27 : tagg Try.prog 27 = some true := by kernel_rfl
theorem F48.sz27 : tsz Try.prog 27 = some 3 := by kernel_rfl
theorem F48.ti62 : (telem Try.prog 62).isSome = true := by kernel_rfl
theorem F48.tl62 : (telem Try.prog 62).bind (tsz Try.prog) = some 3 := by kernel_rfl
theorem laws_eqTakeS_ok {fr : List Pc} {H : Heap} (v0 : AV) (w0 : List (List AV)) (l0 : List ((List UInt8) × (Int) × (List (Nat)))) (v1 : AV) (w1 : List (List AV)) (l1 : List ((List UInt8) × (Int) × (List (Nat)))) (hs : Sep H (fr)) (g0 : ∀ H, Sep H fr → DSh H v0 3 R_s_ii64_LeFlt_f32_poooq l0 w0) (g1 : ∀ H, Sep H fr → DSh H v1 3 R_s_ii64_LeFlt_f32_poooq l1 w1) (K : Bool → Prop) (h : laws_eqTakeS.wp l0 l1 K) : OkQ Try.prog 48 [(.v v0), (.v v1)] H (fun r H2 => ∃ (y0 : Bool), K y0 ∧ r = (.v (.bool y0)) ∧ Sep H2 (fr)) := by
  unfold laws_eqTakeS.wp at h
  refine of_body Try.f48 F.hm Try.func48 rfl Try.call48 (by kernel_rfl) (by simp) ?_
  refine fi_seq ?_
  refine fi_region ?_
  refine so_assign rfl ?_
  refine so_nil ?_
  refine fi_seq ?_
  refine fi_seq ?_
  refine fi_region ?_
  refine so_move rfl ?_
  refine sd_len ((g0 _ hs) : DSh _ _ 3 R_s_ii64_LeFlt_f32_poooq l0 w0) (by decide) rfl F48.ti62 ?_
  refine so_move rfl ?_
  refine sd_len ((g1 _ hs) : DSh _ _ 3 R_s_ii64_LeFlt_f32_poooq l1 w1) (by decide) rfl F48.ti62 ?_
  refine so_bin rfl rfl ab_neq ?_
  refine so_nil ?_
  replace h := ofP h; rcases h with ⟨c101, h⟩ | ⟨c101, h⟩
  · refine fi_false rfl (not_f (decide_eq_true c101)) ?_
    refine fi_skip ?_
    refine fi_seq ?_
    refine fi_seq ?_
    refine fi_region ?_
    refine so_assign rfl ?_
    refine so_nil ?_
    refine fi_block ?_
    refine fi_loop ?_
    refine fi_at [(0, (.v v0)), (1, (.v v1)), (5, (.v (.int .i64 (0 : Int))))] ⟨rfl, rfl, rfl, trivial⟩ ?_
    refine h (fun (i103 : Int) => ∀ (s : Nat → TV) (H : Heap), Sep H (fr) → Fin _ _ (updL s [(0, (.v v0)), (1, (.v v1)), (5, (.v (.int .i64 i103)))]) H _) ?_ _ _ hs
    intro i103 h s110 H111 hs
    refine fi_inLoop ?_
    refine fi_seq ?_
    refine fi_seq ?_
    refine fi_region ?_
    refine so_move rfl ?_
    refine so_move rfl ?_
    refine sd_len ((g0 _ hs) : DSh _ _ 3 R_s_ii64_LeFlt_f32_poooq l0 w0) (by decide) rfl F48.ti62 ?_
    refine so_bin rfl rfl ab_lss ?_
    refine so_nil ?_
    replace h := ofP h; rcases h with ⟨c104, h⟩ | ⟨c104, h⟩
    · refine fi_true rfl (decide_eq_true c104) ?_
      refine fi_skip ?_
      refine fi_seq ?_
      refine fi_block ?_
      refine fi_seq ?_
      refine fi_region ?_
      refine so_move rfl ?_
      refine so_move rfl ?_
      obtain ⟨c105, h⟩ := h
      refine sd_idx ((g0 _ hs) : DSh _ _ 3 R_s_ii64_LeFlt_f32_poooq l0 w0) c105 (([] : List UInt8), (0 : Int), ([] : List (Nat))) (by decide) rfl rfl F48.tl62 ?_
      refine su_lds ((((g0 _ hs) : DSh _ _ 3 R_s_ii64_LeFlt_f32_poooq l0 w0)).at (by decide) c105 (([] : List UInt8), (0 : Int), ([] : List (Nat)))).2.2 0 3 (lenc ((((g0 _ hs) : DSh _ _ 3 R_s_ii64_LeFlt_f32_poooq l0 w0)).at (by decide) c105 (([] : List UInt8), (0 : Int), ([] : List (Nat)))).2.1.1 (by simp)) (by decide) (whole ((((g0 _ hs) : DSh _ _ 3 R_s_ii64_LeFlt_f32_poooq l0 w0)).at (by decide) c105 (([] : List UInt8), (0 : Int), ([] : List (Nat)))).2.1.1 (by rfl)) rfl F48.ag27 F48.sz27 ?_
      refine so_move rfl ?_
      refine so_move rfl ?_
      obtain ⟨c106, h⟩ := h
      refine sd_idx ((g1 _ hs) : DSh _ _ 3 R_s_ii64_LeFlt_f32_poooq l1 w1) c106 (([] : List UInt8), (0 : Int), ([] : List (Nat))) (by decide) rfl rfl F48.tl62 ?_
      refine su_lds ((((g1 _ hs) : DSh _ _ 3 R_s_ii64_LeFlt_f32_poooq l1 w1)).at (by decide) c106 (([] : List UInt8), (0 : Int), ([] : List (Nat)))).2.2 0 3 (lenc ((((g1 _ hs) : DSh _ _ 3 R_s_ii64_LeFlt_f32_poooq l1 w1)).at (by decide) c106 (([] : List UInt8), (0 : Int), ([] : List (Nat)))).2.1.1 (by simp)) (by decide) (whole ((((g1 _ hs) : DSh _ _ 3 R_s_ii64_LeFlt_f32_poooq l1 w1)).at (by decide) c106 (([] : List UInt8), (0 : Int), ([] : List (Nat)))).2.1.1 (by rfl)) rfl F48.ag27 F48.sz27 ?_
      refine sv_call (laws_eqTake_ok (l0.getD (i103).toNat (([] : List UInt8), (0 : Int), ([] : List (Nat)))).1 (l0.getD (i103).toNat (([] : List UInt8), (0 : Int), ([] : List (Nat)))).2.1 ((w0.getD (i103).toNat []).getD 2 .und) (l0.getD (i103).toNat (([] : List UInt8), (0 : Int), ([] : List (Nat)))).2.2 (l1.getD (i103).toNat (([] : List UInt8), (0 : Int), ([] : List (Nat)))).1 (l1.getD (i103).toNat (([] : List UInt8), (0 : Int), ([] : List (Nat)))).2.1 ((w1.getD (i103).toNat []).getD 2 .und) (l1.getD (i103).toNat (([] : List UInt8), (0 : Int), ([] : List (Nat)))).2.2 hs (fun _ hs => ((((g0 _ hs) : DSh _ _ 3 R_s_ii64_LeFlt_f32_poooq l0 w0)).at (by decide) c105 (([] : List UInt8), (0 : Int), ([] : List (Nat)))).2.1.2) (fun _ hs => ((((g1 _ hs) : DSh _ _ 3 R_s_ii64_LeFlt_f32_poooq l1 w1)).at (by decide) c106 (([] : List UInt8), (0 : Int), ([] : List (Nat)))).2.1.2) _ h) rfl rfl (fun _ => by kernel_rfl) ?_
      clear h hs
      rintro _ H108 ⟨y107, h, rfl, hs⟩
      refine so_un rfl au_not ?_
      refine so_nil ?_
      replace h := ofT h; rcases h with ⟨c109, h⟩ | ⟨c109, h⟩
      · refine fi_false rfl (not_f c109) ?_
        refine fi_skip ?_
        refine fi_inBlock ?_
        refine fi_region ?_
        refine so_move rfl ?_
        refine so_bin rfl rfl ab_add ?_
        refine so_assign rfl ?_
        refine so_nil ?_
        exact fi_at [(0, (.v v0)), (1, (.v v1)), (5, (.v (.int .i64 (IntKind.i64.wrap (i103 + (1 : Int))))))] ⟨rfl, rfl, rfl, trivial⟩ (h _ _  hs)
      · refine fi_true rfl (not_t c109) ?_
        refine fi_seq ?_
        refine fi_region ?_
        refine so_assign rfl ?_
        refine so_nil ?_
        exact by_ret rfl ⟨_, h, rfl, hs⟩
    · refine fi_false rfl (decide_eq_false c104) ?_
      refine fi_exit rfl ?_
      refine fi_seq ?_
      refine fi_region ?_
      refine so_assign rfl ?_
      refine so_nil ?_
      exact by_ret rfl ⟨_, h, rfl, hs⟩
  · refine fi_true rfl (not_t (decide_eq_false c101)) ?_
    refine fi_seq ?_
    refine fi_region ?_
    refine so_assign rfl ?_
    refine so_nil ?_
    exact by_ret rfl ⟨_, h, rfl, hs⟩

end Go.Proofs.Ytfieljajhmpbiaa.G

namespace Go.Proofs.Ytfieljajhmpbiaa.G
open Go Go.Ab Go.Proofs Go.Proofs.Ytfieljajhmpbiaa
set_option maxRecDepth 100000
set_option linter.unusedVariables false
set_option linter.unusedSimpArgs false
set_option maxHeartbeats 1000000
theorem F10.tb4 : tbool Try.prog 4 = true := by kernel_rfl
theorem laws_FnExactSameTakes_ok {fr : List Pc} {H : Heap} (v0 : AV) (w0 : List (List AV)) (l0 : List ((List UInt8) × (Int) × (List (Nat)))) (v1 : AV) (w1 : List (List AV)) (l1 : List ((List UInt8) × (Int) × (List (Nat)))) (hs : Sep H (fr)) (g0 : ∀ H, Sep H fr → DSh H v0 3 R_s_ii64_LeFlt_f32_poooq l0 w0) (g1 : ∀ H, Sep H fr → DSh H v1 3 R_s_ii64_LeFlt_f32_poooq l1 w1) (K : Bool → Prop) (h : laws_FnExactSameTakes.wp l0 l1 K) : OkQ Try.prog 10 [(.v v0), (.v v1)] H (fun r H2 => ∃ (y0 : Bool), K y0 ∧ r = (.v (.bool y0)) ∧ Sep H2 (fr)) := by
  unfold laws_FnExactSameTakes.wp at h
  refine of_body Try.f10 F.hm Try.func10 rfl Try.call10 (by kernel_rfl) (by simp) ?_
  refine fi_seq ?_
  refine fi_region ?_
  refine so_assign rfl ?_
  refine so_nil ?_
  refine fi_seq ?_
  refine fi_region ?_
  refine so_assign rfl ?_
  refine so_nil ?_
  refine fi_seq ?_
  refine fi_region ?_
  refine so_move rfl ?_
  refine so_move rfl ?_
  refine sv_call (laws_szTakeS_ok v0 w0 l0 (1048576 : Int) hs (fun _ hs => (g0 _ hs)) _ h) rfl rfl nofun ?_
  clear h hs
  rintro _ H102 ⟨y101, h, rfl, hs⟩
  refine so_assign rfl ?_
  refine so_nil ?_
  refine fi_seq ?_
  refine fi_seq ?_
  refine fi_region ?_
  refine so_move rfl ?_
  refine so_bin rfl rfl ab_lss ?_
  refine so_nil ?_
  replace h := ofP h; rcases h with ⟨c103, h⟩ | ⟨c103, h⟩
  · refine fi_true rfl (decide_eq_true c103) ?_
    refine fi_seq ?_
    refine fi_region ?_
    refine so_assign rfl ?_
    refine so_nil ?_
    exact by_ret rfl ⟨_, h, rfl, hs⟩
  · refine fi_false rfl (decide_eq_false c103) ?_
    refine fi_skip ?_
    refine fi_seq ?_
    refine fi_region ?_
    refine so_move rfl ?_
    refine so_move rfl ?_
    refine sv_call (laws_szTakeS_ok v1 w1 l1 y101 hs (fun _ hs => (g1 _ hs)) _ h) rfl rfl nofun ?_
    clear h hs
    rintro _ H105 ⟨y104, h, rfl, hs⟩
    refine so_assign rfl ?_
    refine so_nil ?_
    refine fi_seq ?_
    refine fi_seq ?_
    refine fi_region ?_
    refine so_move rfl ?_
    refine so_bin rfl rfl ab_lss ?_
    refine so_nil ?_
    replace h := ofP h; rcases h with ⟨c106, h⟩ | ⟨c106, h⟩
    · refine fi_true rfl (decide_eq_true c106) ?_
      refine fi_seq ?_
      refine fi_region ?_
      refine so_assign rfl ?_
      refine so_nil ?_
      exact by_ret rfl ⟨_, h, rfl, hs⟩
    · refine fi_false rfl (decide_eq_false c106) ?_
      refine fi_skip ?_
      refine fi_seq ?_
      refine fi_region ?_
      refine so_move rfl ?_
      refine sv_call (laws_toTakeS_ok v0 w0 l0 hs (fun _ hs => (g0 _ hs)) _ h) rfl rfl nofun ?_
      clear h hs
      rintro _ H112 ⟨y107, h, v108, ws110, S111, rfl, hs⟩
      refine so_move rfl ?_
      refine sv_call (laws_toTakeS_ok v1 w1 l1 hs (fun _ hs => (g1 _ hs.tl)) _ h) rfl rfl nofun ?_
      clear h hs
      rintro _ H118 ⟨y113, h, v114, ws116, S117, rfl, hs⟩
      refine sv_call (spec_SameTakes_ok v108 ws110 y107 v114 ws116 y113 hs (fun _ hs => (hs.dshows 1 rfl)) (fun _ hs => (hs.dshows 0 rfl)) _ h) rfl rfl nofun ?_
      clear h hs
      rintro _ H120 ⟨y119, h, rfl, hs⟩
      refine so_assign rfl ?_
      refine so_nil ?_
      refine fi_seq ?_
      refine fi_region ?_
      refine so_move rfl ?_
      refine sv_call (laws_toTakeS_ok v0 w0 l0 hs (fun _ hs => (g0 _ hs.tl.tl)) _ h) rfl rfl nofun ?_
      clear h hs
      rintro _ H126 ⟨y121, h, v122, ws124, S125, rfl, hs⟩
      refine so_assign rfl ?_
      refine so_nil ?_
      refine fi_seq ?_
      refine fi_region ?_
      refine so_move rfl ?_
      refine sv_call (laws_toTakeS_ok v1 w1 l1 hs (fun _ hs => (g1 _ hs.tl.tl.tl)) _ h) rfl rfl nofun ?_
      clear h hs
      rintro _ H132 ⟨y127, h, v128, ws130, S131, rfl, hs⟩
      refine so_assign rfl ?_
      refine so_nil ?_
      refine fi_seq ?_
      refine fi_region ?_
      refine so_move rfl ?_
      refine so_move rfl ?_
      refine sv_call (impl_SameTakes_ok v122 ws124 y121 v128 ws130 y127 hs (fun _ hs => (hs.dshows 1 rfl)) (fun _ hs => (hs.dshows 0 rfl)) _ h) rfl rfl nofun ?_
      clear h hs
      rintro _ H134 ⟨y133, h, rfl, hs⟩
      refine so_assign rfl ?_
      refine so_nil ?_
      refine fi_seq ?_
      refine fi_seq ?_
      refine fi_region ?_
      refine so_move rfl ?_
      refine so_move rfl ?_
      refine so_bin rfl rfl (ab_bneq F10.tb4) ?_
      refine so_nil ?_
      replace h := ofT h; rcases h with ⟨c135, h⟩ | ⟨c135, h⟩
      · refine fi_false rfl (not_f c135) ?_
        refine fi_skip ?_
        refine fi_seq ?_
        refine fi_seq ?_
        refine fi_region ?_
        refine so_move rfl ?_
        refine so_move rfl ?_
        refine sv_call (laws_toTakeS_ok v0 w0 l0 hs (fun _ hs => (g0 _ hs.tl.tl.tl.tl)) _ h) rfl rfl nofun ?_
        clear h hs
        rintro _ H141 ⟨y136, h, v137, ws139, S140, rfl, hs⟩
        refine sv_call (laws_eqTakeS_ok v122 ws124 y121 v137 ws139 y136 hs (fun _ hs => (hs.dshows 2 rfl)) (fun _ hs => (hs.dshows 0 rfl)) _ h) rfl rfl nofun ?_
        clear h hs
        rintro _ H143 ⟨y142, h, rfl, hs⟩
        refine so_un rfl au_not ?_
        refine so_nil ?_
        replace h := ofT h; rcases h with ⟨c144, h⟩ | ⟨c144, h⟩
        · refine fi_false rfl (not_f c144) ?_
          refine fi_skip ?_
          refine fi_seq ?_
          refine fi_seq ?_
          refine fi_region ?_
          refine so_move rfl ?_
          refine so_move rfl ?_
          refine sv_call (laws_toTakeS_ok v1 w1 l1 hs (fun _ hs => (g1 _ hs.tl.tl.tl.tl.tl)) _ h) rfl rfl nofun ?_
          clear h hs
          rintro _ H150 ⟨y145, h, v146, ws148, S149, rfl, hs⟩
          refine sv_call (laws_eqTakeS_ok v128 ws130 y127 v146 ws148 y145 hs (fun _ hs => (hs.dshows 2 rfl)) (fun _ hs => (hs.dshows 0 rfl)) _ h) rfl rfl nofun ?_
          clear h hs
          rintro _ H152 ⟨y151, h, rfl, hs⟩
          refine so_un rfl au_not ?_
          refine so_nil ?_
          replace h := ofT h; rcases h with ⟨c153, h⟩ | ⟨c153, h⟩
          · refine fi_false rfl (not_f c153) ?_
            refine fi_skip ?_
            refine fi_seq ?_
            refine fi_region ?_
            refine so_assign rfl ?_
            refine so_nil ?_
            exact by_ret rfl ⟨_, h, rfl, (Sep.del 0 (Sep.del 0 (Sep.del 0 (Sep.del 0 (Sep.del 0 (Sep.del 0 hs))))))⟩
          · refine fi_true rfl (not_t c153) ?_
            refine fi_seq ?_
            refine fi_region ?_
            refine so_assign rfl ?_
            refine so_nil ?_
            exact by_ret rfl ⟨_, h, rfl, (Sep.del 0 (Sep.del 0 (Sep.del 0 (Sep.del 0 (Sep.del 0 (Sep.del 0 hs))))))⟩
        · refine fi_true rfl (not_t c144) ?_
          refine fi_seq ?_
          refine fi_region ?_
          refine so_assign rfl ?_
          refine so_nil ?_
          exact by_ret rfl ⟨_, h, rfl, (Sep.del 0 (Sep.del 0 (Sep.del 0 (Sep.del 0 (Sep.del 0 hs)))))⟩
      · refine fi_true rfl (not_t c135) ?_
        refine fi_seq ?_
        refine fi_region ?_
        refine so_assign rfl ?_
        refine so_nil ?_
        exact by_ret rfl ⟨_, h, rfl, (Sep.del 0 (Sep.del 0 (Sep.del 0 (Sep.del 0 hs))))⟩

end Go.Proofs.Ytfieljajhmpbiaa.G

