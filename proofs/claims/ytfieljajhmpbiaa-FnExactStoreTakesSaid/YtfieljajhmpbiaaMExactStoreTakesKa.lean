/-
  The model ends so. Printed by a program of the session; nothing here is trusted.
-/
import Derived.Test.YtfieljajhmpbiaaProg
import Derived.KernelRfl
import Derived.Test.YtfieljajhmpbiaaMExactStoreTakesWa
namespace Go.Proofs.Ytfieljajhmpbiaa.F
open Go Go.Ab Go.Proofs
set_option maxRecDepth 100000
set_option linter.unusedVariables false
set_option linter.unusedSimpArgs false
set_option maxHeartbeats 1000000
theorem hm : Try.prog.follows .mixedOrders = true := by kernel_rfl
end Go.Proofs.Ytfieljajhmpbiaa.F

namespace Go.Proofs.Ytfieljajhmpbiaa.G
open Go Go.Ab Go.Proofs Go.Proofs.Ytfieljajhmpbiaa
set_option maxRecDepth 100000
set_option linter.unusedVariables false
set_option linter.unusedSimpArgs false
set_option maxHeartbeats 1000000
theorem F60.ti22 : (telem Try.prog 22).isSome = true := by kernel_rfl
theorem laws_szFloat32S_ok {fr : List Pc} {H : Heap} (v0 : AV) (l0 : List (Nat)) (a1 : Int) (hs : Sep H (fr)) (g0 : ∀ H, Sep H fr → Shows H v0 1 (enc (eFlt .f32) l0)) (K : Int → Prop) (h : laws_szFloat32S.wp l0 a1 K) : OkQ Try.prog 60 [(.v v0), (.v (.int .i64 a1))] H (fun r H2 => ∃ (y0 : Int), K y0 ∧ r = (.v (.int .i64 y0)) ∧ Sep H2 (fr)) := by
  unfold laws_szFloat32S.wp at h
  refine of_body Try.f60 F.hm Try.func60 rfl Try.call60 (by kernel_rfl) (by simp) ?_
  refine fi_seq ?_
  refine fi_region ?_
  refine so_assign rfl ?_
  refine so_nil ?_
  refine fi_seq ?_
  refine fi_region ?_
  refine so_move rfl ?_
  refine so_move rfl ?_
  refine sv_len (g0 _ hs) (fun _ => rfl) (by decide) rfl F60.ti22 ?_
  refine so_bin rfl rfl ab_sub ?_
  refine so_assign rfl ?_
  refine so_nil ?_
  refine fi_seq ?_
  refine fi_seq ?_
  refine fi_region ?_
  refine so_move rfl ?_
  refine so_bin rfl rfl ab_lss ?_
  refine so_nil ?_
  replace h := ofP h; rcases h with ⟨c101, h⟩ | ⟨c101, h⟩
  · refine fi_true rfl (decide_eq_true c101) ?_
    refine fi_seq ?_
    refine fi_region ?_
    refine so_assign rfl ?_
    refine so_nil ?_
    exact by_ret rfl ⟨_, h, rfl, hs⟩
  · refine fi_false rfl (decide_eq_false c101) ?_
    refine fi_skip ?_
    refine fi_seq ?_
    refine fi_region ?_
    refine so_move rfl ?_
    refine so_assign rfl ?_
    refine so_nil ?_
    exact by_ret rfl ⟨_, h, rfl, hs⟩

end Go.Proofs.Ytfieljajhmpbiaa.G

namespace Go.Proofs.Ytfieljajhmpbiaa.G
open Go Go.Ab Go.Proofs Go.Proofs.Ytfieljajhmpbiaa
set_option maxRecDepth 100000
set_option linter.unusedVariables false
set_option linter.unusedSimpArgs false
set_option maxHeartbeats 1000000
theorem F15.ag22 : tagg Try.prog 22 = some false := by kernel_rfl
theorem F15.ag9 : tagg Try.prog 9 = some false := by kernel_rfl
theorem F15.fd24_0 : tfield Try.prog 24 0 = some (0, 1, false) := by kernel_rfl
theorem F15.fd24_2 : tfield Try.prog 24 2 = some (2, 1, false) := by kernel_rfl
theorem F15.inf24 : (Try.prog.info? 24).isSome = true := by kernel_rfl
theorem F15.sr9 : tstr Try.prog 9 = true := by kernel_rfl
theorem laws_szTake_ok {fr : List Pc} {H : Heap} (a0 : List UInt8) (a1 : Int) (v2 : AV) (l2 : List (Nat)) (a3 : Int) (hs : Sep H (fr)) (g2 : ∀ H, Sep H fr → Shows H v2 1 (enc (eFlt .f32) l2)) (K : Int → Prop) (h : laws_szTake.wp a0 a1 l2 a3 K) : OkQ Try.prog 15 [(.g [(.str (pk a0)), (.int .i64 a1), v2]), (.v (.int .i64 a3))] H (fun r H2 => ∃ (y0 : Int), K y0 ∧ r = (.v (.int .i64 y0)) ∧ Sep H2 (fr)) := by
  unfold laws_szTake.wp at h
  refine of_body Try.f15 F.hm Try.func15 rfl Try.call15 (by kernel_rfl) (by simp) ?_
  refine fi_seq ?_
  refine fi_region ?_
  refine sv_box hs rfl (c := [(.str (pk a0)), (.int .i64 a1), v2]) rfl F15.inf24 (stc rfl (stc rfl (stc (g2 _ hs).stor stn))) nofun (fun id101 H102 hs => ?_)
  refine so_assign rfl ?_
  refine so_nil ?_
  refine fi_seq ?_
  refine fi_region ?_
  refine so_move rfl ?_
  refine so_fieldAddr rfl F15.fd24_0 ?_
  refine sv_ld hs 0 rfl rfl rfl F15.ag9 ?_
  refine so_slen rfl F15.sr9 ?_
  refine so_bin rfl rfl ab_sub ?_
  refine so_assign rfl ?_
  refine so_nil ?_
  refine fi_seq ?_
  refine fi_seq ?_
  refine fi_region ?_
  refine so_move rfl ?_
  refine so_bin rfl rfl ab_lss ?_
  refine so_nil ?_
  replace h := ofP h; rcases h with ⟨c104, h⟩ | ⟨c104, h⟩
  · refine fi_true rfl (decide_eq_true c104) ?_
    refine fi_seq ?_
    refine fi_region ?_
    refine so_assign rfl ?_
    refine so_nil ?_
    exact by_ret rfl ⟨_, h, rfl, (Sep.del 0 hs)⟩
  · refine fi_false rfl (decide_eq_false c104) ?_
    refine fi_skip ?_
    refine fi_seq ?_
    refine fi_region ?_
    refine so_fieldAddr rfl F15.fd24_2 ?_
    refine sv_ld hs 0 rfl rfl rfl F15.ag22 ?_
    refine so_move rfl ?_
    refine sv_call (laws_szFloat32S_ok v2 l2 (IntKind.i64.wrap (a3 - (a0.length : Int))) hs (fun _ hs => (g2 _ hs.tl)) _ h) rfl rfl nofun ?_
    clear h hs
    rintro _ H106 ⟨y105, h, rfl, hs⟩
    refine so_assign rfl ?_
    refine so_nil ?_
    refine fi_seq ?_
    refine fi_seq ?_
    refine fi_region ?_
    refine so_move rfl ?_
    refine so_bin rfl rfl ab_lss ?_
    refine so_nil ?_
    replace h := ofP h; rcases h with ⟨c107, h⟩ | ⟨c107, h⟩
    · refine fi_true rfl (decide_eq_true c107) ?_
      refine fi_seq ?_
      refine fi_region ?_
      refine so_assign rfl ?_
      refine so_nil ?_
      exact by_ret rfl ⟨_, h, rfl, (Sep.del 0 hs)⟩
    · refine fi_false rfl (decide_eq_false c107) ?_
      refine fi_skip ?_
      refine fi_seq ?_
      refine fi_region ?_
      refine so_move rfl ?_
      refine so_assign rfl ?_
      refine so_nil ?_
      exact by_ret rfl ⟨_, h, rfl, (Sep.del 0 hs)⟩

end Go.Proofs.Ytfieljajhmpbiaa.G

namespace Go.Proofs.Ytfieljajhmpbiaa.G
open Go Go.Ab Go.Proofs Go.Proofs.Ytfieljajhmpbiaa
set_option maxRecDepth 100000
set_option linter.unusedVariables false
set_option linter.unusedSimpArgs false
set_option maxHeartbeats 1000000
theorem F44.ag24 : tagg Try.prog 24 = some true := by kernel_rfl
theorem F44.sz24 : tsz Try.prog 24 = some 3 := by kernel_rfl
theorem F44.ti59 : (telem Try.prog 59).isSome = true := by kernel_rfl
theorem F44.tl59 : (telem Try.prog 59).bind (tsz Try.prog) = some 3 := by kernel_rfl
theorem laws_szTakeS_ok {fr : List Pc} {H : Heap} (v0 : AV) (w0 : List (List AV)) (l0 : List ((List UInt8) × (Int) × (List (Nat)))) (a1 : Int) (hs : Sep H (fr)) (g0 : ∀ H, Sep H fr → DSh H v0 3 R_s_ii64_LeFlt_f32_poooq l0 w0) (K : Int → Prop) (h : laws_szTakeS.wp l0 a1 K) : OkQ Try.prog 44 [(.v v0), (.v (.int .i64 a1))] H (fun r H2 => ∃ (y0 : Int), K y0 ∧ r = (.v (.int .i64 y0)) ∧ Sep H2 (fr)) := by
  unfold laws_szTakeS.wp at h
  refine of_body Try.f44 F.hm Try.func44 rfl Try.call44 (by kernel_rfl) (by simp) ?_
  refine fi_seq ?_
  refine fi_region ?_
  refine so_assign rfl ?_
  refine so_nil ?_
  refine fi_seq ?_
  refine fi_region ?_
  refine so_move rfl ?_
  refine so_move rfl ?_
  refine sd_len ((g0 _ hs) : DSh _ _ 3 R_s_ii64_LeFlt_f32_poooq l0 w0) (by decide) rfl F44.ti59 ?_
  refine so_bin rfl rfl ab_sub ?_
  refine so_assign rfl ?_
  refine so_nil ?_
  refine fi_seq ?_
  refine fi_seq ?_
  refine fi_region ?_
  refine so_move rfl ?_
  refine so_bin rfl rfl ab_lss ?_
  refine so_nil ?_
  replace h := ofP h; rcases h with ⟨c101, h⟩ | ⟨c101, h⟩
  · refine fi_true rfl (decide_eq_true c101) ?_
    refine fi_seq ?_
    refine fi_region ?_
    refine so_assign rfl ?_
    refine so_nil ?_
    exact by_ret rfl ⟨_, h, rfl, hs⟩
  · refine fi_false rfl (decide_eq_false c101) ?_
    refine fi_skip ?_
    refine fi_seq ?_
    refine fi_seq ?_
    refine fi_region ?_
    refine so_assign rfl ?_
    refine so_nil ?_
    refine fi_block ?_
    refine fi_loop ?_
    refine fi_at [(0, (.v v0)), (1, (.v (.int .i64 (IntKind.i64.wrap (a1 - (l0.length : Int)))))), (5, (.v (.int .i64 (0 : Int))))] ⟨rfl, rfl, rfl, trivial⟩ ?_
    refine h (fun (left103 : Int) (i104 : Int) => ∀ (s : Nat → TV) (H : Heap), Sep H (fr) → Fin _ _ (updL s [(0, (.v v0)), (1, (.v (.int .i64 left103))), (5, (.v (.int .i64 i104)))]) H _) ?_ _ _ hs
    intro left103 i104 h s110 H111 hs
    refine fi_inLoop ?_
    refine fi_seq ?_
    refine fi_seq ?_
    refine fi_region ?_
    refine so_move rfl ?_
    refine so_move rfl ?_
    refine sd_len ((g0 _ hs) : DSh _ _ 3 R_s_ii64_LeFlt_f32_poooq l0 w0) (by decide) rfl F44.ti59 ?_
    refine so_bin rfl rfl ab_lss ?_
    refine so_nil ?_
    replace h := ofP h; rcases h with ⟨c105, h⟩ | ⟨c105, h⟩
    · refine fi_true rfl (decide_eq_true c105) ?_
      refine fi_skip ?_
      refine fi_seq ?_
      refine fi_block ?_
      refine fi_seq ?_
      refine fi_region ?_
      refine so_move rfl ?_
      refine so_move rfl ?_
      obtain ⟨c106, h⟩ := h
      refine sd_idx ((g0 _ hs) : DSh _ _ 3 R_s_ii64_LeFlt_f32_poooq l0 w0) c106 (([] : List UInt8), (0 : Int), ([] : List (Nat))) (by decide) rfl rfl F44.tl59 ?_
      refine su_lds ((((g0 _ hs) : DSh _ _ 3 R_s_ii64_LeFlt_f32_poooq l0 w0)).at (by decide) c106 (([] : List UInt8), (0 : Int), ([] : List (Nat)))).2.2 0 3 (lenc ((((g0 _ hs) : DSh _ _ 3 R_s_ii64_LeFlt_f32_poooq l0 w0)).at (by decide) c106 (([] : List UInt8), (0 : Int), ([] : List (Nat)))).2.1.1 (by simp)) (by decide) (whole ((((g0 _ hs) : DSh _ _ 3 R_s_ii64_LeFlt_f32_poooq l0 w0)).at (by decide) c106 (([] : List UInt8), (0 : Int), ([] : List (Nat)))).2.1.1 (by rfl)) rfl F44.ag24 F44.sz24 ?_
      refine so_move rfl ?_
      refine sv_call (laws_szTake_ok (l0.getD (i104).toNat (([] : List UInt8), (0 : Int), ([] : List (Nat)))).1 (l0.getD (i104).toNat (([] : List UInt8), (0 : Int), ([] : List (Nat)))).2.1 ((w0.getD (i104).toNat []).getD 2 .und) (l0.getD (i104).toNat (([] : List UInt8), (0 : Int), ([] : List (Nat)))).2.2 left103 hs (fun _ hs => ((((g0 _ hs) : DSh _ _ 3 R_s_ii64_LeFlt_f32_poooq l0 w0)).at (by decide) c106 (([] : List UInt8), (0 : Int), ([] : List (Nat)))).2.1.2) _ h) rfl rfl nofun ?_
      clear h hs
      rintro _ H108 ⟨y107, h, rfl, hs⟩
      refine so_assign rfl ?_
      refine so_nil ?_
      refine fi_seq ?_
      refine fi_region ?_
      refine so_move rfl ?_
      refine so_bin rfl rfl ab_lss ?_
      refine so_nil ?_
      replace h := ofP h; rcases h with ⟨c109, h⟩ | ⟨c109, h⟩
      · refine fi_true rfl (decide_eq_true c109) ?_
        refine fi_seq ?_
        refine fi_region ?_
        refine so_assign rfl ?_
        refine so_nil ?_
        exact by_ret rfl ⟨_, h, rfl, hs⟩
      · refine fi_false rfl (decide_eq_false c109) ?_
        refine fi_skip ?_
        refine fi_inBlock ?_
        refine fi_region ?_
        refine so_move rfl ?_
        refine so_bin rfl rfl ab_add ?_
        refine so_assign rfl ?_
        refine so_nil ?_
        exact fi_at [(0, (.v v0)), (1, (.v (.int .i64 y107))), (5, (.v (.int .i64 (IntKind.i64.wrap (i104 + (1 : Int))))))] ⟨rfl, rfl, rfl, trivial⟩ (h _ _  hs)
    · refine fi_false rfl (decide_eq_false c105) ?_
      refine fi_exit rfl ?_
      refine fi_seq ?_
      refine fi_region ?_
      refine so_move rfl ?_
      refine so_assign rfl ?_
      refine so_nil ?_
      exact by_ret rfl ⟨_, h, rfl, hs⟩

end Go.Proofs.Ytfieljajhmpbiaa.G

namespace Go.Proofs.Ytfieljajhmpbiaa.G
open Go Go.Ab Go.Proofs Go.Proofs.Ytfieljajhmpbiaa
set_option maxRecDepth 100000
set_option linter.unusedVariables false
set_option linter.unusedSimpArgs false
set_option maxHeartbeats 1000000
theorem F21.ag36 : tagg Try.prog 36 = some false := by kernel_rfl
theorem F21.by36 : tbytes Try.prog 36 = some 4 := by kernel_rfl
theorem F21.sz36 : tsz Try.prog 36 = some 1 := by kernel_rfl
theorem F21.te22 : telem Try.prog 22 = some 36 := by kernel_rfl
theorem F21.ti22 : (telem Try.prog 22).isSome = true := by kernel_rfl
theorem F21.tl22 : (telem Try.prog 22).bind (tsz Try.prog) = some 1 := by kernel_rfl
theorem F21.ze36 : tzero Try.prog 36 = some [(.flt .f32 (0 : Nat))] := by kernel_rfl
theorem laws_toFloat32S_ok {fr : List Pc} {H : Heap} (v0 : AV) (l0 : List (Nat)) (hs : Sep H (fr)) (g0 : ∀ H, Sep H fr → Shows H v0 1 (enc (eFlt .f32) l0)) (K : (List (Nat)) → Prop) (h : laws_toFloat32S.wp l0 K) : OkQ Try.prog 21 [(.v v0)] H (fun r H2 => ∃ (y0 : List (Nat)), K y0 ∧ ∃ (w0_ : AV), r = (.v w0_) ∧ Sep H2 (Pc.osl w0_ 1 (enc (eFlt .f32) y0) :: fr)) := by
  unfold laws_toFloat32S.wp at h
  refine of_body Try.f21 F.hm Try.func21 rfl Try.call21 (by kernel_rfl) (by simp) ?_
  refine fi_seq ?_
  refine fi_region ?_
  refine so_assign rfl ?_
  refine so_nil ?_
  refine fi_seq ?_
  refine fi_region ?_
  refine so_move rfl ?_
  refine sv_len (g0 _ hs) (fun _ => rfl) (by decide) rfl F21.ti22 ?_
  obtain ⟨c101, h⟩ := h
  refine sv_make hs (eFlt .f32) (0 : Nat) c101 (fun _ => rfl) rfl rfl F21.te22 F21.sz36 F21.by36 F21.ze36 rfl rfl nofun (fun v102 H103 nv102 hs => ?_)
  refine so_assign rfl ?_
  refine so_nil ?_
  refine fi_seq ?_
  refine fi_seq ?_
  refine fi_region ?_
  refine so_assign rfl ?_
  refine so_nil ?_
  refine fi_block ?_
  refine fi_loop ?_
  refine fi_at [(0, (.v v0)), (3, (.v v102)), (4, (.v (.int .i64 (0 : Int))))] ⟨rfl, rfl, rfl, trivial⟩ ?_
  refine h (fun (out112 : List (Nat)) (i113 : Int) => ∀ (s : Nat → TV) (H : Heap), Sep H (Pc.osl v102 1 (enc (eFlt .f32) out112) :: fr) → Fin _ _ (updL s [(0, (.v v0)), (3, (.v v102)), (4, (.v (.int .i64 i113)))]) H _) ?_ _ _ hs
  intro out112 i113 h s118 H119 hs
  refine fi_inLoop ?_
  refine fi_seq ?_
  refine fi_seq ?_
  refine fi_region ?_
  refine so_move rfl ?_
  refine so_move rfl ?_
  refine sv_len (g0 _ hs.tl) (fun _ => rfl) (by decide) rfl F21.ti22 ?_
  refine so_bin rfl rfl ab_lss ?_
  refine so_nil ?_
  replace h := ofP h; rcases h with ⟨c114, h⟩ | ⟨c114, h⟩
  · refine fi_true rfl (decide_eq_true c114) ?_
    refine fi_skip ?_
    refine fi_seq ?_
    refine fi_block ?_
    refine fi_region ?_
    refine so_move rfl ?_
    refine so_move rfl ?_
    refine so_move rfl ?_
    refine so_move rfl ?_
    obtain ⟨c115, h⟩ := h
    refine sv_idx (g0 _ hs.tl) c115 (fun _ => rfl) (by decide) rfl rfl F21.tl22 ?_
    refine sv_cell (g0 _ hs.tl) c115 (0 : Nat) 0 (fun x => (AV.flt .f32 x)) (fun _ => rfl) (fun _ => rfl) rfl F21.ag36 ?_
    obtain ⟨c116, h⟩ := h
    refine sv_idx (hs.shows 0 rfl) c116 (fun _ => rfl) (by decide) rfl rfl F21.tl22 ?_
    refine sv_set hs 0 rfl c116 (l0.getD (i113).toNat (0 : Nat)) (fun _ => rfl) (by decide) rfl rfl rfl rfl F21.sz36 nofun (fun H117 hs => ?_)
    refine so_nil ?_
    refine fi_inBlock ?_
    refine fi_region ?_
    refine so_move rfl ?_
    refine so_bin rfl rfl ab_add ?_
    refine so_assign rfl ?_
    refine so_nil ?_
    exact fi_at [(0, (.v v0)), (3, (.v v102)), (4, (.v (.int .i64 (IntKind.i64.wrap (i113 + (1 : Int))))))] ⟨rfl, rfl, rfl, trivial⟩ (h _ _  hs)
  · refine fi_false rfl (decide_eq_false c114) ?_
    refine fi_exit rfl ?_
    refine fi_seq ?_
    refine fi_region ?_
    refine so_move rfl ?_
    refine so_assign rfl ?_
    refine so_nil ?_
    exact by_ret rfl ⟨_, h, _, rfl, hs⟩

end Go.Proofs.Ytfieljajhmpbiaa.G

namespace Go.Proofs.Ytfieljajhmpbiaa.G
open Go Go.Ab Go.Proofs Go.Proofs.Ytfieljajhmpbiaa
set_option maxRecDepth 100000
set_option linter.unusedVariables false
set_option linter.unusedSimpArgs false
set_option maxHeartbeats 1000000
theorem F17.ag2 : tagg Try.prog 2 = some false := by kernel_rfl
theorem F17.ag22 : tagg Try.prog 22 = some false := by kernel_rfl
theorem F17.ag27 : tagg Try.prog 27 = some true := by kernel_rfl
theorem F17.ag9 : tagg Try.prog 9 = some false := by kernel_rfl
theorem F17.fd24_0 : tfield Try.prog 24 0 = some (0, 1, false) := by kernel_rfl
theorem F17.fd24_1 : tfield Try.prog 24 1 = some (1, 1, false) := by kernel_rfl
theorem F17.fd24_2 : tfield Try.prog 24 2 = some (2, 1, false) := by kernel_rfl
theorem F17.fd27_0 : tfield Try.prog 27 0 = some (0, 1, false) := by kernel_rfl
theorem F17.fd27_1 : tfield Try.prog 27 1 = some (1, 1, false) := by kernel_rfl
theorem F17.fd27_2 : tfield Try.prog 27 2 = some (2, 1, false) := by kernel_rfl
theorem F17.inf24 : (Try.prog.info? 24).isSome = true := by kernel_rfl
theorem F17.sz2 : tsz Try.prog 2 = some 1 := by kernel_rfl
theorem F17.sz22 : tsz Try.prog 22 = some 1 := by kernel_rfl
theorem F17.sz27 : tsz Try.prog 27 = some 3 := by kernel_rfl
theorem F17.sz9 : tsz Try.prog 9 = some 1 := by kernel_rfl
theorem F17.ze27 : tzero Try.prog 27 = some [(.str (pk ([] : List UInt8))), (.int .i64 (0 : Int)), .nilsl] := by kernel_rfl
theorem laws_toTake_ok {fr : List Pc} {H : Heap} (a0 : List UInt8) (a1 : Int) (v2 : AV) (l2 : List (Nat)) (hs : Sep H (fr)) (g2 : ∀ H, Sep H fr → Shows H v2 1 (enc (eFlt .f32) l2)) (K : (List UInt8) → Int → (List (Nat)) → Prop) (h : laws_toTake.wp a0 a1 l2 K) : OkQ Try.prog 17 [(.g [(.str (pk a0)), (.int .i64 a1), v2])] H (fun r H2 => ∃ (y0 : List UInt8) (y1 : Int) (y2 : List (Nat)), K y0 y1 y2 ∧ ∃ (w0_ : AV), r = (.g [(.str (pk y0)), (.int .i64 y1), w0_]) ∧ Sep H2 (Pc.osl w0_ 1 (enc (eFlt .f32) y2) :: fr)) := by
  unfold laws_toTake.wp at h
  refine of_body Try.f17 F.hm Try.func17 rfl Try.call17 (by kernel_rfl) (by simp) ?_
  refine fi_seq ?_
  refine fi_region ?_
  refine sv_box hs rfl (c := [(.str (pk a0)), (.int .i64 a1), v2]) rfl F17.inf24 (stc rfl (stc rfl (stc (g2 _ hs).stor stn))) nofun (fun id101 H102 hs => ?_)
  refine sv_alloc hs F17.ze27 rfl nofun (fun id104 H105 hs => ?_)
  refine so_nil ?_
  refine fi_seq ?_
  refine fi_region ?_
  refine sv_alloc hs F17.ze27 rfl nofun (fun id107 H108 hs => ?_)
  refine so_nil ?_
  refine fi_seq ?_
  refine fi_region ?_
  refine so_fieldAddr rfl F17.fd24_0 ?_
  refine sv_ld hs 2 rfl rfl rfl F17.ag9 ?_
  refine so_fieldAddr rfl F17.fd27_0 ?_
  refine sv_st hs 0 rfl rfl rfl (c := [(.str (pk a0))]) rfl F17.sz9 rfl (stc rfl stn) (leb rfl) (cs' := [(.str (pk a0)), (.int .i64 (0 : Int)), .nilsl]) rfl nofun (fun H110 hs => ?_)
  refine so_nil ?_
  refine fi_seq ?_
  refine fi_region ?_
  refine so_fieldAddr rfl F17.fd24_1 ?_
  refine sv_ld hs 2 rfl rfl rfl F17.ag2 ?_
  refine so_fieldAddr rfl F17.fd27_1 ?_
  refine sv_st hs 0 rfl rfl rfl (c := [(.int .i64 a1)]) rfl F17.sz2 rfl (stc rfl stn) (leb rfl) (cs' := [(.str (pk a0)), (.int .i64 a1), .nilsl]) rfl nofun (fun H111 hs => ?_)
  refine so_nil ?_
  refine fi_seq ?_
  refine fi_region ?_
  refine so_fieldAddr rfl F17.fd24_2 ?_
  refine sv_ld hs 2 rfl rfl rfl F17.ag22 ?_
  refine sv_call (laws_toFloat32S_ok v2 l2 hs (fun _ hs => (g2 _ hs.tl.tl.tl)) _ h) rfl rfl nofun ?_
  clear h hs
  rintro _ H115 ⟨y112, h, v113, rfl, hs⟩
  refine so_fieldAddr rfl F17.fd27_2 ?_
  refine sv_st hs 1 rfl rfl rfl (c := [v113]) rfl F17.sz22 rfl (stc (hs.shows 0 rfl).stor stn) (leb rfl) (cs' := [(.str (pk a0)), (.int .i64 a1), v113]) rfl nofun (fun H116 hs => ?_)
  refine so_nil ?_
  refine fi_seq ?_
  refine fi_region ?_
  refine sv_lds hs 1 rfl rfl (leb rfl) rfl F17.ag27 F17.sz27 ?_
  refine sv_st hs 2 rfl rfl rfl (c := [(.str (pk a0)), (.int .i64 a1), v113]) rfl F17.sz27 rfl (stc rfl (stc rfl (stc (hs.shows 0 rfl).stor stn))) (leb rfl) (cs' := [(.str (pk a0)), (.int .i64 a1), v113]) rfl nofun (fun H117 hs => ?_)
  refine so_nil ?_
  exact by_ret (res_mk (ar_cells rfl F17.ag27 F17.sz27 (hs.lds 2 rfl (leb rfl) rfl) ar_nil) rfl) ⟨_, _, _, h, _, rfl, (Sep.del 1 (Sep.del 1 (Sep.del 1 hs)))⟩

end Go.Proofs.Ytfieljajhmpbiaa.G

namespace Go.Proofs.Ytfieljajhmpbiaa.G
open Go Go.Ab Go.Proofs Go.Proofs.Ytfieljajhmpbiaa
set_option maxRecDepth 100000
set_option linter.unusedVariables false
set_option linter.unusedSimpArgs false
set_option maxHeartbeats 1000000
theorem F46.ag24 : tagg Try.prog 24 = some true := by kernel_rfl
theorem F46.by27 : tbytes Try.prog 27 = some 48 := by kernel_rfl
theorem F46.sz24 : tsz Try.prog 24 = some 3 := by kernel_rfl
theorem F46.sz27 : tsz Try.prog 27 = some 3 := by kernel_rfl
theorem F46.te62 : telem Try.prog 62 = some 27 := by kernel_rfl
theorem F46.ti59 : (telem Try.prog 59).isSome = true := by kernel_rfl
theorem F46.tl59 : (telem Try.prog 59).bind (tsz Try.prog) = some 3 := by kernel_rfl
theorem F46.tl62 : (telem Try.prog 62).bind (tsz Try.prog) = some 3 := by kernel_rfl
theorem F46.ze27 : tzero Try.prog 27 = some [(.str (pk ([] : List UInt8))), (.int .i64 (0 : Int)), .nilsl] := by kernel_rfl
theorem laws_toTakeS_ok {fr : List Pc} {H : Heap} (v0 : AV) (w0 : List (List AV)) (l0 : List ((List UInt8) × (Int) × (List (Nat)))) (hs : Sep H (fr)) (g0 : ∀ H, Sep H fr → DSh H v0 3 R_s_ii64_LeFlt_f32_poooq l0 w0) (K : (List ((List UInt8) × (Int) × (List (Nat)))) → Prop) (h : laws_toTakeS.wp l0 K) : OkQ Try.prog 46 [(.v v0)] H (fun r H2 => ∃ (y0 : List ((List UInt8) × (Int) × (List (Nat)))), K y0 ∧ ∃ (w0_ : AV) (wsw0_ : List (List AV)) (Sw0_ : Nat → Prop), r = (.v w0_) ∧ Sep H2 (dpc w0_ 3 R_s_ii64_LeFlt_f32_poooq y0 wsw0_ Sw0_ :: fr)) := by
  unfold laws_toTakeS.wp at h
  refine of_body Try.f46 F.hm Try.func46 rfl Try.call46 (by kernel_rfl) (by simp) ?_
  refine fi_seq ?_
  refine fi_region ?_
  refine so_assign rfl ?_
  refine so_nil ?_
  refine fi_seq ?_
  refine fi_region ?_
  refine so_move rfl ?_
  refine sd_len ((g0 _ hs) : DSh _ _ 3 R_s_ii64_LeFlt_f32_poooq l0 w0) (by decide) rfl F46.ti59 ?_
  obtain ⟨c101, h⟩ := h
  refine sk_make hs (([] : List UInt8), (0 : Int), ([] : List (Nat))) [(.str (pk ([] : List UInt8))), (.int .i64 (0 : Int)), .nilsl] R_s_ii64_LeFlt_f32_poooq c101 (fun _ => ⟨rfl, .inl ⟨rfl, rfl⟩⟩) rfl rfl F46.te62 F46.sz27 F46.by27 F46.ze27 rfl rfl nofun (fun v102 ws104 S105 H103 _ hs => ?_)
  refine so_assign rfl ?_
  refine so_nil ?_
  refine fi_seq ?_
  refine fi_seq ?_
  refine fi_region ?_
  refine so_assign rfl ?_
  refine so_nil ?_
  refine fi_block ?_
  refine fi_loop ?_
  refine fi_at [(0, (.v v0)), (3, (.v v102)), (4, (.v (.int .i64 (0 : Int))))] ⟨rfl, rfl, rfl, trivial⟩ ?_
  refine h (fun (out122 : List ((List UInt8) × (Int) × (List (Nat)))) (i125 : Int) => ∀ (s : Nat → TV) (H : Heap) (ws123 : List (List AV)) (S124 : Nat → Prop), Sep H (dpc v102 3 R_s_ii64_LeFlt_f32_poooq out122 ws123 S124 :: fr) → Fin _ _ (updL s [(0, (.v v0)), (3, (.v v102)), (4, (.v (.int .i64 i125)))]) H _) ?_ _ _ _ _ hs
  intro out122 i125 h s138 H139 ws123 S124 hs
  refine fi_inLoop ?_
  refine fi_seq ?_
  refine fi_seq ?_
  refine fi_region ?_
  refine so_move rfl ?_
  refine so_move rfl ?_
  refine sd_len ((g0 _ hs.tl) : DSh _ _ 3 R_s_ii64_LeFlt_f32_poooq l0 w0) (by decide) rfl F46.ti59 ?_
  refine so_bin rfl rfl ab_lss ?_
  refine so_nil ?_
  replace h := ofP h; rcases h with ⟨c126, h⟩ | ⟨c126, h⟩
  · refine fi_true rfl (decide_eq_true c126) ?_
    refine fi_skip ?_
    refine fi_seq ?_
    refine fi_block ?_
    refine fi_region ?_
    refine so_move rfl ?_
    refine so_move rfl ?_
    refine so_move rfl ?_
    refine so_move rfl ?_
    obtain ⟨c127, h⟩ := h
    refine sd_idx ((g0 _ hs.tl) : DSh _ _ 3 R_s_ii64_LeFlt_f32_poooq l0 w0) c127 (([] : List UInt8), (0 : Int), ([] : List (Nat))) (by decide) rfl rfl F46.tl59 ?_
    refine su_lds ((((g0 _ hs.tl) : DSh _ _ 3 R_s_ii64_LeFlt_f32_poooq l0 w0)).at (by decide) c127 (([] : List UInt8), (0 : Int), ([] : List (Nat)))).2.2 0 3 (lenc ((((g0 _ hs.tl) : DSh _ _ 3 R_s_ii64_LeFlt_f32_poooq l0 w0)).at (by decide) c127 (([] : List UInt8), (0 : Int), ([] : List (Nat)))).2.1.1 (by simp)) (by decide) (whole ((((g0 _ hs.tl) : DSh _ _ 3 R_s_ii64_LeFlt_f32_poooq l0 w0)).at (by decide) c127 (([] : List UInt8), (0 : Int), ([] : List (Nat)))).2.1.1 (by rfl)) rfl F46.ag24 F46.sz24 ?_
    refine sv_call (laws_toTake_ok (l0.getD (i125).toNat (([] : List UInt8), (0 : Int), ([] : List (Nat)))).1 (l0.getD (i125).toNat (([] : List UInt8), (0 : Int), ([] : List (Nat)))).2.1 ((w0.getD (i125).toNat []).getD 2 .und) (l0.getD (i125).toNat (([] : List UInt8), (0 : Int), ([] : List (Nat)))).2.2 hs (fun _ hs => ((((g0 _ hs.tl) : DSh _ _ 3 R_s_ii64_LeFlt_f32_poooq l0 w0)).at (by decide) c127 (([] : List UInt8), (0 : Int), ([] : List (Nat)))).2.1.2) _ h) rfl rfl nofun ?_
    clear h hs
    rintro _ H133 ⟨y128, y129, y130, h, v131, rfl, hs⟩
    obtain ⟨c134, h⟩ := h
    refine sd_idx ((hs.dshows 1 rfl) : DSh _ _ 3 R_s_ii64_LeFlt_f32_poooq out122 ws123) c134 (([] : List UInt8), (0 : Int), ([] : List (Nat))) (by decide) rfl rfl F46.tl62 ?_
    have so_ : ([(.str (pk y128)), (.int .i64 y129), v131] : List AV).all AV.stor = true := (stc rfl (stc rfl (stc (hs.shows 0 rfl).stor stn)))
    refine sk_set hs 0 rfl c134 (y128, y129, y130) [(.str (pk y128)), (.int .i64 y129), v131] (fun _ hh => ⟨rfl, hh⟩) rfl (by decide) so_ rfl rfl rfl F46.sz27 nofun (fun ws136 S137 H135 hs => ?_)
    refine so_nil ?_
    refine fi_inBlock ?_
    refine fi_region ?_
    refine so_move rfl ?_
    refine so_bin rfl rfl ab_add ?_
    refine so_assign rfl ?_
    refine so_nil ?_
    exact fi_at [(0, (.v v0)), (3, (.v v102)), (4, (.v (.int .i64 (IntKind.i64.wrap (i125 + (1 : Int))))))] ⟨rfl, rfl, rfl, trivial⟩ (h _ _ _ _ hs)
  · refine fi_false rfl (decide_eq_false c126) ?_
    refine fi_exit rfl ?_
    refine fi_seq ?_
    refine fi_region ?_
    refine so_move rfl ?_
    refine so_assign rfl ?_
    refine so_nil ?_
    exact by_ret rfl ⟨_, h, _, _, _, rfl, hs⟩

end Go.Proofs.Ytfieljajhmpbiaa.G

namespace Go.Proofs.Ytfieljajhmpbiaa.G
open Go Go.Ab Go.Proofs Go.Proofs.Ytfieljajhmpbiaa
set_option maxRecDepth 100000
set_option linter.unusedVariables false
set_option linter.unusedSimpArgs false
set_option maxHeartbeats 1000000
theorem F67.tb4 : tbool Try.prog 4 = true := by kernel_rfl
theorem laws_sameFloat_ok {fr : List Pc} {H : Heap} (a0 : Nat) (a1 : Nat) (hs : Sep H (fr))  (K : Bool → Prop) (h : laws_sameFloat.wp a0 a1 K) : OkQ Try.prog 67 [(.v (.flt .f64 a0)), (.v (.flt .f64 a1))] H (fun r H2 => ∃ (y0 : Bool), K y0 ∧ r = (.v (.bool y0)) ∧ Sep H2 (fr)) := by
  unfold laws_sameFloat.wp at h
  refine of_body Try.f67 F.hm Try.func67 rfl Try.call67 (by kernel_rfl) (by simp) ?_
  refine fi_seq ?_
  refine fi_region ?_
  refine so_assign rfl ?_
  refine so_nil ?_
  refine fi_seq ?_
  refine fi_seq ?_
  refine fi_region ?_
  refine so_move rfl ?_
  refine so_move rfl ?_
  refine so_bin rfl rfl ab_fneq ?_
  refine so_move rfl ?_
  replace h := ofT h; rcases h with ⟨c101, h⟩ | ⟨c101, h⟩
  · refine so_gno rfl c101 ?_
    refine so_gno rfl c101 ?_
    refine so_gno rfl c101 ?_
    refine so_pick_t rfl c101 rfl ?_
    refine so_nil ?_
    refine fi_true rfl rfl ?_
    refine fi_seq ?_
    refine fi_region ?_
    refine so_move rfl ?_
    refine so_move rfl ?_
    refine so_bin rfl rfl ab_fneq ?_
    refine so_move rfl ?_
    refine so_gyes rfl c101 ?_
    refine so_move rfl ?_
    refine so_gyes rfl c101 ?_
    refine so_move rfl ?_
    refine so_gyes rfl c101 ?_
    refine so_bin rfl rfl ab_fneq ?_
    refine so_pick_t rfl c101 rfl ?_
    refine so_assign rfl ?_
    refine so_nil ?_
    exact by_ret rfl ⟨_, h, rfl, hs⟩
  · refine so_gyes rfl c101 ?_
    refine so_move rfl ?_
    refine so_gyes rfl c101 ?_
    refine so_move rfl ?_
    refine so_gyes rfl c101 ?_
    refine so_bin rfl rfl ab_fneq ?_
    refine so_pick_f rfl c101 rfl ?_
    refine so_nil ?_
    replace h := ofT h; rcases h with ⟨c102, h⟩ | ⟨c102, h⟩
    · refine fi_true rfl c102 ?_
      refine fi_seq ?_
      refine fi_region ?_
      refine so_move rfl ?_
      refine so_move rfl ?_
      refine so_bin rfl rfl ab_fneq ?_
      refine so_move rfl ?_
      refine so_gno rfl c101 ?_
      refine so_gno rfl c101 ?_
      refine so_gno rfl c101 ?_
      refine so_pick_f rfl c101 rfl ?_
      refine so_assign rfl ?_
      refine so_nil ?_
      exact by_ret rfl ⟨_, h, rfl, hs⟩
    · refine fi_false rfl c102 ?_
      refine fi_skip ?_
      refine fi_seq ?_
      refine fi_seq ?_
      refine fi_region ?_
      refine so_move rfl ?_
      refine so_bin rfl rfl ab_feql ?_
      refine so_move rfl ?_
      replace h := ofT h; rcases h with ⟨c103, h⟩ | ⟨c103, h⟩
      · refine so_gyes rfl c103 ?_
        refine so_move rfl ?_
        refine so_gyes rfl c103 ?_
        refine so_bin rfl rfl ab_feql ?_
        refine so_pick_t rfl c103 rfl ?_
        refine so_nil ?_
        replace h := ofT h; rcases h with ⟨c104, h⟩ | ⟨c104, h⟩
        · refine fi_true rfl c104 ?_
          refine fi_seq ?_
          refine fi_region ?_
          refine so_move rfl ?_
          refine so_bin rfl rfl ab_fquo ?_
          refine so_bin rfl rfl ab_fgtr ?_
          refine so_move rfl ?_
          refine so_bin rfl rfl ab_fquo ?_
          refine so_bin rfl rfl ab_fgtr ?_
          refine so_bin rfl rfl (ab_beql F67.tb4) ?_
          refine so_assign rfl ?_
          refine so_nil ?_
          exact by_ret rfl ⟨_, h, rfl, hs⟩
        · refine fi_false rfl c104 ?_
          refine fi_skip ?_
          refine fi_seq ?_
          refine fi_region ?_
          refine so_move rfl ?_
          refine so_move rfl ?_
          refine so_bin rfl rfl ab_feql ?_
          refine so_assign rfl ?_
          refine so_nil ?_
          exact by_ret rfl ⟨_, h, rfl, hs⟩
      · refine so_gno rfl c103 ?_
        refine so_gno rfl c103 ?_
        refine so_pick_f rfl c103 rfl ?_
        refine so_nil ?_
        refine fi_false rfl rfl ?_
        refine fi_skip ?_
        refine fi_seq ?_
        refine fi_region ?_
        refine so_move rfl ?_
        refine so_move rfl ?_
        refine so_bin rfl rfl ab_feql ?_
        refine so_assign rfl ?_
        refine so_nil ?_
        exact by_ret rfl ⟨_, h, rfl, hs⟩

end Go.Proofs.Ytfieljajhmpbiaa.G

namespace Go.Proofs.Ytfieljajhmpbiaa.G
open Go Go.Ab Go.Proofs Go.Proofs.Ytfieljajhmpbiaa
set_option maxRecDepth 100000
set_option linter.unusedVariables false
set_option linter.unusedSimpArgs false
set_option maxHeartbeats 1000000
theorem F23.ag36 : tagg Try.prog 36 = some false := by kernel_rfl
theorem F23.fl94 : tflt Try.prog 94 = some .f64 := by kernel_rfl
theorem F23.in94 : tint Try.prog 94 = none := by kernel_rfl
theorem F23.ti22 : (telem Try.prog 22).isSome = true := by kernel_rfl
theorem F23.tl22 : (telem Try.prog 22).bind (tsz Try.prog) = some 1 := by kernel_rfl
theorem F23.us36 : (Try.prog.underlying 36).isSome = true := by kernel_rfl
theorem laws_eqFloat32S_ok {fr : List Pc} {H : Heap} (v0 : AV) (l0 : List (Nat)) (v1 : AV) (l1 : List (Nat)) (hs : Sep H (fr)) (g0 : ∀ H, Sep H fr → Shows H v0 1 (enc (eFlt .f32) l0)) (g1 : ∀ H, Sep H fr → Shows H v1 1 (enc (eFlt .f32) l1)) (K : Bool → Prop) (h : laws_eqFloat32S.wp l0 l1 K) : OkQ Try.prog 23 [(.v v0), (.v v1)] H (fun r H2 => ∃ (y0 : Bool), K y0 ∧ r = (.v (.bool y0)) ∧ Sep H2 (fr)) := by
  unfold laws_eqFloat32S.wp at h
  refine of_body Try.f23 F.hm Try.func23 rfl Try.call23 (by kernel_rfl) (by simp) ?_
  refine fi_seq ?_
  refine fi_region ?_
  refine so_assign rfl ?_
  refine so_nil ?_
  refine fi_seq ?_
  refine fi_seq ?_
  refine fi_region ?_
  refine so_move rfl ?_
  refine sv_len (g0 _ hs) (fun _ => rfl) (by decide) rfl F23.ti22 ?_
  refine so_move rfl ?_
  refine sv_len (g1 _ hs) (fun _ => rfl) (by decide) rfl F23.ti22 ?_
  refine so_bin rfl rfl ab_neq ?_
  refine so_nil ?_
  replace h := ofP h; rcases h with ⟨c101, h⟩ | ⟨c101, h⟩
  · refine fi_false rfl (not_f (decide_eq_true c101)) ?_
    refine fi_skip ?_
    refine fi_seq ?_
    refine fi_seq ?_
    refine fi_region ?_
    refine so_assign rfl ?_
    refine so_nil ?_
    refine fi_block ?_
    refine fi_loop ?_
    refine fi_at [(0, (.v v0)), (1, (.v v1)), (5, (.v (.int .i64 (0 : Int))))] ⟨rfl, rfl, rfl, trivial⟩ ?_
    refine h (fun (i103 : Int) => ∀ (s : Nat → TV) (H : Heap), Sep H (fr) → Fin _ _ (updL s [(0, (.v v0)), (1, (.v v1)), (5, (.v (.int .i64 i103)))]) H _) ?_ _ _ hs
    intro i103 h s110 H111 hs
    refine fi_inLoop ?_
    refine fi_seq ?_
    refine fi_seq ?_
    refine fi_region ?_
    refine so_move rfl ?_
    refine so_move rfl ?_
    refine sv_len (g0 _ hs) (fun _ => rfl) (by decide) rfl F23.ti22 ?_
    refine so_bin rfl rfl ab_lss ?_
    refine so_nil ?_
    replace h := ofP h; rcases h with ⟨c104, h⟩ | ⟨c104, h⟩
    · refine fi_true rfl (decide_eq_true c104) ?_
      refine fi_skip ?_
      refine fi_seq ?_
      refine fi_block ?_
      refine fi_seq ?_
      refine fi_region ?_
      refine so_move rfl ?_
      refine so_move rfl ?_
      obtain ⟨c105, h⟩ := h
      refine sv_idx (g0 _ hs) c105 (fun _ => rfl) (by decide) rfl rfl F23.tl22 ?_
      refine sv_cell (g0 _ hs) c105 (0 : Nat) 0 (fun x => (AV.flt .f32 x)) (fun _ => rfl) (fun _ => rfl) rfl F23.ag36 ?_
      refine sv_ffw rfl F23.us36 F23.in94 F23.fl94 ?_
      refine so_move rfl ?_
      refine so_move rfl ?_
      obtain ⟨c106, h⟩ := h
      refine sv_idx (g1 _ hs) c106 (fun _ => rfl) (by decide) rfl rfl F23.tl22 ?_
      refine sv_cell (g1 _ hs) c106 (0 : Nat) 0 (fun x => (AV.flt .f32 x)) (fun _ => rfl) (fun _ => rfl) rfl F23.ag36 ?_
      refine sv_ffw rfl F23.us36 F23.in94 F23.fl94 ?_
      refine sv_call (laws_sameFloat_ok (widen (l0.getD (i103).toNat (0 : Nat))) (widen (l1.getD (i103).toNat (0 : Nat))) hs  _ h) rfl rfl (fun _ => by kernel_rfl) ?_
      clear h hs
      rintro _ H108 ⟨y107, h, rfl, hs⟩
      refine so_un rfl au_not ?_
      refine so_nil ?_
      replace h := ofT h; rcases h with ⟨c109, h⟩ | ⟨c109, h⟩
      · refine fi_false rfl (not_f c109) ?_
        refine fi_skip ?_
        refine fi_inBlock ?_
        refine fi_region ?_
        refine so_move rfl ?_
        refine so_bin rfl rfl ab_add ?_
        refine so_assign rfl ?_
        refine so_nil ?_
        exact fi_at [(0, (.v v0)), (1, (.v v1)), (5, (.v (.int .i64 (IntKind.i64.wrap (i103 + (1 : Int))))))] ⟨rfl, rfl, rfl, trivial⟩ (h _ _  hs)
      · refine fi_true rfl (not_t c109) ?_
        refine fi_seq ?_
        refine fi_region ?_
        refine so_assign rfl ?_
        refine so_nil ?_
        exact by_ret rfl ⟨_, h, rfl, hs⟩
    · refine fi_false rfl (decide_eq_false c104) ?_
      refine fi_exit rfl ?_
      refine fi_seq ?_
      refine fi_region ?_
      refine so_assign rfl ?_
      refine so_nil ?_
      exact by_ret rfl ⟨_, h, rfl, hs⟩
  · refine fi_true rfl (not_t (decide_eq_false c101)) ?_
    refine fi_seq ?_
    refine fi_region ?_
    refine so_assign rfl ?_
    refine so_nil ?_
    exact by_ret rfl ⟨_, h, rfl, hs⟩

end Go.Proofs.Ytfieljajhmpbiaa.G

namespace Go.Proofs.Ytfieljajhmpbiaa.G
open Go Go.Ab Go.Proofs Go.Proofs.Ytfieljajhmpbiaa
set_option maxRecDepth 100000
set_option linter.unusedVariables false
set_option linter.unusedSimpArgs false
set_option maxHeartbeats 1000000
theorem F19.ag2 : tagg Try.prog 2 = some false := by kernel_rfl
theorem F19.ag22 : tagg Try.prog 22 = some false := by kernel_rfl
theorem F19.ag9 : tagg Try.prog 9 = some false := by kernel_rfl
theorem F19.fd27_0 : tfield Try.prog 27 0 = some (0, 1, false) := by kernel_rfl
theorem F19.fd27_1 : tfield Try.prog 27 1 = some (1, 1, false) := by kernel_rfl
theorem F19.fd27_2 : tfield Try.prog 27 2 = some (2, 1, false) := by kernel_rfl
theorem F19.inf27 : (Try.prog.info? 27).isSome = true := by kernel_rfl
theorem laws_eqTake_ok {fr : List Pc} {H : Heap} (a0 : List UInt8) (a1 : Int) (v2 : AV) (l2 : List (Nat)) (a3 : List UInt8) (a4 : Int) (v5 : AV) (l5 : List (Nat)) (hs : Sep H (fr)) (g2 : ∀ H, Sep H fr → Shows H v2 1 (enc (eFlt .f32) l2)) (g5 : ∀ H, Sep H fr → Shows H v5 1 (enc (eFlt .f32) l5)) (K : Bool → Prop) (h : laws_eqTake.wp a0 a1 l2 a3 a4 l5 K) : OkQ Try.prog 19 [(.g [(.str (pk a0)), (.int .i64 a1), v2]), (.g [(.str (pk a3)), (.int .i64 a4), v5])] H (fun r H2 => ∃ (y0 : Bool), K y0 ∧ r = (.v (.bool y0)) ∧ Sep H2 (fr)) := by
  unfold laws_eqTake.wp at h
  refine of_body Try.f19 F.hm Try.func19 rfl Try.call19 (by kernel_rfl) (by simp) ?_
  refine fi_seq ?_
  refine fi_region ?_
  refine sv_box hs rfl (c := [(.str (pk a0)), (.int .i64 a1), v2]) rfl F19.inf27 (stc rfl (stc rfl (stc (g2 _ hs).stor stn))) nofun (fun id101 H102 hs => ?_)
  refine sv_box hs rfl (c := [(.str (pk a3)), (.int .i64 a4), v5]) rfl F19.inf27 (stc rfl (stc rfl (stc (g5 _ hs.tl).stor stn))) nofun (fun id104 H105 hs => ?_)
  refine so_assign rfl ?_
  refine so_nil ?_
  refine fi_seq ?_
  refine fi_seq ?_
  refine fi_region ?_
  refine so_fieldAddr rfl F19.fd27_0 ?_
  refine sv_ld hs 1 rfl rfl rfl F19.ag9 ?_
  refine so_fieldAddr rfl F19.fd27_0 ?_
  refine sv_ld hs 0 rfl rfl rfl F19.ag9 ?_
  refine so_bin rfl rfl ab_sneq ?_
  refine so_nil ?_
  replace h := ofP h; rcases h with ⟨c107, h⟩ | ⟨c107, h⟩
  · refine fi_false rfl (not_f (decide_eq_true c107)) ?_
    refine fi_skip ?_
    refine fi_seq ?_
    refine fi_seq ?_
    refine fi_region ?_
    refine so_fieldAddr rfl F19.fd27_1 ?_
    refine sv_ld hs 1 rfl rfl rfl F19.ag2 ?_
    refine so_fieldAddr rfl F19.fd27_1 ?_
    refine sv_ld hs 0 rfl rfl rfl F19.ag2 ?_
    refine so_bin rfl rfl ab_neq ?_
    refine so_nil ?_
    replace h := ofP h; rcases h with ⟨c108, h⟩ | ⟨c108, h⟩
    · refine fi_false rfl (not_f (decide_eq_true c108)) ?_
      refine fi_skip ?_
      refine fi_seq ?_
      refine fi_seq ?_
      refine fi_region ?_
      refine so_fieldAddr rfl F19.fd27_2 ?_
      refine sv_ld hs 1 rfl rfl rfl F19.ag22 ?_
      refine so_fieldAddr rfl F19.fd27_2 ?_
      refine sv_ld hs 0 rfl rfl rfl F19.ag22 ?_
      refine sv_call (laws_eqFloat32S_ok v2 l2 v5 l5 hs (fun _ hs => (g2 _ hs.tl.tl)) (fun _ hs => (g5 _ hs.tl.tl)) _ h) rfl rfl nofun ?_
      clear h hs
      rintro _ H110 ⟨y109, h, rfl, hs⟩
      refine so_un rfl au_not ?_
      refine so_nil ?_
      replace h := ofT h; rcases h with ⟨c111, h⟩ | ⟨c111, h⟩
      · refine fi_false rfl (not_f c111) ?_
        refine fi_skip ?_
        refine fi_seq ?_
        refine fi_region ?_
        refine so_assign rfl ?_
        refine so_nil ?_
        exact by_ret rfl ⟨_, h, rfl, (Sep.del 0 (Sep.del 0 hs))⟩
      · refine fi_true rfl (not_t c111) ?_
        refine fi_seq ?_
        refine fi_region ?_
        refine so_assign rfl ?_
        refine so_nil ?_
        exact by_ret rfl ⟨_, h, rfl, (Sep.del 0 (Sep.del 0 hs))⟩
    · refine fi_true rfl (not_t (decide_eq_false c108)) ?_
      refine fi_seq ?_
      refine fi_region ?_
      refine so_assign rfl ?_
      refine so_nil ?_
      exact by_ret rfl ⟨_, h, rfl, (Sep.del 0 (Sep.del 0 hs))⟩
  · refine fi_true rfl (not_t (decide_eq_false c107)) ?_
    refine fi_seq ?_
    refine fi_region ?_
    refine so_assign rfl ?_
    refine so_nil ?_
    exact by_ret rfl ⟨_, h, rfl, (Sep.del 0 (Sep.del 0 hs))⟩

end Go.Proofs.Ytfieljajhmpbiaa.G

namespace Go.Proofs.Ytfieljajhmpbiaa.G
open Go Go.Ab Go.Proofs Go.Proofs.Ytfieljajhmpbiaa
set_option maxRecDepth 100000
set_option linter.unusedVariables false
set_option linter.unusedSimpArgs false
set_option maxHeartbeats 1000000
theorem F48.ag27 : tagg Try.prog 27 = some true := by kernel_rfl
theorem F48.sz27 : tsz Try.prog 27 = some 3 := by kernel_rfl
theorem F48.ti62 : (telem Try.prog 62).isSome = true := by kernel_rfl
theorem F48.tl62 : (telem Try.prog 62).bind (tsz Try.prog) = some 3 := by kernel_rfl
theorem laws_eqTakeS_ok {fr : List Pc} {H : Heap} (v0 : AV) (w0 : List (List AV)) (l0 : List ((List UInt8) × (Int) × (List (Nat)))) (v1 : AV) (w1 : List (List AV)) (l1 : List ((List UInt8) × (Int) × (List (Nat)))) (hs : Sep H (fr)) (g0 : ∀ H, Sep H fr → DSh H v0 3 R_s_ii64_LeFlt_f32_poooq l0 w0) (g1 : ∀ H, Sep H fr → DSh H v1 3 R_s_ii64_LeFlt_f32_poooq l1 w1) (K : Bool → Prop) (h : laws_eqTakeS.wp l0 l1 K) : OkQ Try.prog 48 [(.v v0), (.v v1)] H (fun r H2 => ∃ (y0 : Bool), K y0 ∧ r = (.v (.bool y0)) ∧ Sep H2 (fr)) := by
  unfold laws_eqTakeS.wp at h
  refine of_body Try.f48 F.hm Try.func48 rfl Try.call48 (by kernel_rfl) (by simp) ?_
  refine fi_seq ?_
  refine fi_region ?_
  refine so_assign rfl ?_
  refine so_nil ?_
  refine fi_seq ?_
  refine fi_seq ?_
  refine fi_region ?_
  refine so_move rfl ?_
  refine sd_len ((g0 _ hs) : DSh _ _ 3 R_s_ii64_LeFlt_f32_poooq l0 w0) (by decide) rfl F48.ti62 ?_
  refine so_move rfl ?_
  refine sd_len ((g1 _ hs) : DSh _ _ 3 R_s_ii64_LeFlt_f32_poooq l1 w1) (by decide) rfl F48.ti62 ?_
  refine so_bin rfl rfl ab_neq ?_
  refine so_nil ?_
  replace h := ofP h; rcases h with ⟨c101, h⟩ | ⟨c101, h⟩
  · refine fi_false rfl (not_f (decide_eq_true c101)) ?_
    refine fi_skip ?_
    refine fi_seq ?_
    refine fi_seq ?_
    refine fi_region ?_
    refine so_assign rfl ?_
    refine so_nil ?_
    refine fi_block ?_
    refine fi_loop ?_
    refine fi_at [(0, (.v v0)), (1, (.v v1)), (5, (.v (.int .i64 (0 : Int))))] ⟨rfl, rfl, rfl, trivial⟩ ?_
    refine h (fun (i103 : Int) => ∀ (s : Nat → TV) (H : Heap), Sep H (fr) → Fin _ _ (updL s [(0, (.v v0)), (1, (.v v1)), (5, (.v (.int .i64 i103)))]) H _) ?_ _ _ hs
    intro i103 h s110 H111 hs
    refine fi_inLoop ?_
    refine fi_seq ?_
    refine fi_seq ?_
    refine fi_region ?_
    refine so_move rfl ?_
    refine so_move rfl ?_
    refine sd_len ((g0 _ hs) : DSh _ _ 3 R_s_ii64_LeFlt_f32_poooq l0 w0) (by decide) rfl F48.ti62 ?_
    refine so_bin rfl rfl ab_lss ?_
    refine so_nil ?_
    replace h := ofP h; rcases h with ⟨c104, h⟩ | ⟨c104, h⟩
    · refine fi_true rfl (decide_eq_true c104) ?_
      refine fi_skip ?_
      refine fi_seq ?_
      refine fi_block ?_
      refine fi_seq ?_
      refine fi_region ?_
      refine so_move rfl ?_
      refine so_move rfl ?_
      obtain ⟨c105, h⟩ := h
      refine sd_idx ((g0 _ hs) : DSh _ _ 3 R_s_ii64_LeFlt_f32_poooq l0 w0) c105 (([] : List UInt8), (0 : Int), ([] : List (Nat))) (by decide) rfl rfl F48.tl62 ?_
      refine su_lds ((((g0 _ hs) : DSh _ _ 3 R_s_ii64_LeFlt_f32_poooq l0 w0)).at (by decide) c105 (([] : List UInt8), (0 : Int), ([] : List (Nat)))).2.2 0 3 (lenc ((((g0 _ hs) : DSh _ _ 3 R_s_ii64_LeFlt_f32_poooq l0 w0)).at (by decide) c105 (([] : List UInt8), (0 : Int), ([] : List (Nat)))).2.1.1 (by simp)) (by decide) (whole ((((g0 _ hs) : DSh _ _ 3 R_s_ii64_LeFlt_f32_poooq l0 w0)).at (by decide) c105 (([] : List UInt8), (0 : Int), ([] : List (Nat)))).2.1.1 (by rfl)) rfl F48.ag27 F48.sz27 ?_
      refine so_move rfl ?_
      refine so_move rfl ?_
      obtain ⟨c106, h⟩ := h
      refine sd_idx ((g1 _ hs) : DSh _ _ 3 R_s_ii64_LeFlt_f32_poooq l1 w1) c106 (([] : List UInt8), (0 : Int), ([] : List (Nat))) (by decide) rfl rfl F48.tl62 ?_
      refine su_lds ((((g1 _ hs) : DSh _ _ 3 R_s_ii64_LeFlt_f32_poooq l1 w1)).at (by decide) c106 (([] : List UInt8), (0 : Int), ([] : List (Nat)))).2.2 0 3 (lenc ((((g1 _ hs) : DSh _ _ 3 R_s_ii64_LeFlt_f32_poooq l1 w1)).at (by decide) c106 (([] : List UInt8), (0 : Int), ([] : List (Nat)))).2.1.1 (by simp)) (by decide) (whole ((((g1 _ hs) : DSh _ _ 3 R_s_ii64_LeFlt_f32_poooq l1 w1)).at (by decide) c106 (([] : List UInt8), (0 : Int), ([] : List (Nat)))).2.1.1 (by rfl)) rfl F48.ag27 F48.sz27 ?_
      refine sv_call (laws_eqTake_ok (l0.getD (i103).toNat (([] : List UInt8), (0 : Int), ([] : List (Nat)))).1 (l0.getD (i103).toNat (([] : List UInt8), (0 : Int), ([] : List (Nat)))).2.1 ((w0.getD (i103).toNat []).getD 2 .und) (l0.getD (i103).toNat (([] : List UInt8), (0 : Int), ([] : List (Nat)))).2.2 (l1.getD (i103).toNat (([] : List UInt8), (0 : Int), ([] : List (Nat)))).1 (l1.getD (i103).toNat (([] : List UInt8), (0 : Int), ([] : List (Nat)))).2.1 ((w1.getD (i103).toNat []).getD 2 .und) (l1.getD (i103).toNat (([] : List UInt8), (0 : Int), ([] : List (Nat)))).2.2 hs (fun _ hs => ((((g0 _ hs) : DSh _ _ 3 R_s_ii64_LeFlt_f32_poooq l0 w0)).at (by decide) c105 (([] : List UInt8), (0 : Int), ([] : List (Nat)))).2.1.2) (fun _ hs => ((((g1 _ hs) : DSh _ _ 3 R_s_ii64_LeFlt_f32_poooq l1 w1)).at (by decide) c106 (([] : List UInt8), (0 : Int), ([] : List (Nat)))).2.1.2) _ h) rfl rfl (fun _ => by kernel_rfl) ?_
      clear h hs
      rintro _ H108 ⟨y107, h, rfl, hs⟩
      refine so_un rfl au_not ?_
      refine so_nil ?_
      replace h := ofT h; rcases h with ⟨c109, h⟩ | ⟨c109, h⟩
      · refine fi_false rfl (not_f c109) ?_
        refine fi_skip ?_
        refine fi_inBlock ?_
        refine fi_region ?_
        refine so_move rfl ?_
        refine so_bin rfl rfl ab_add ?_
        refine so_assign rfl ?_
        refine so_nil ?_
        exact fi_at [(0, (.v v0)), (1, (.v v1)), (5, (.v (.int .i64 (IntKind.i64.wrap (i103 + (1 : Int))))))] ⟨rfl, rfl, rfl, trivial⟩ (h _ _  hs)
      · refine fi_true rfl (not_t c109) ?_
        refine fi_seq ?_
        refine fi_region ?_
        refine so_assign rfl ?_
        refine so_nil ?_
        exact by_ret rfl ⟨_, h, rfl, hs⟩
    · refine fi_false rfl (decide_eq_false c104) ?_
      refine fi_exit rfl ?_
      refine fi_seq ?_
      refine fi_region ?_
      refine so_assign rfl ?_
      refine so_nil ?_
      exact by_ret rfl ⟨_, h, rfl, hs⟩
  · refine fi_true rfl (not_t (decide_eq_false c101)) ?_
    refine fi_seq ?_
    refine fi_region ?_
    refine so_assign rfl ?_
    refine so_nil ?_
    exact by_ret rfl ⟨_, h, rfl, hs⟩

end Go.Proofs.Ytfieljajhmpbiaa.G

namespace Go.Proofs.Ytfieljajhmpbiaa.G
open Go Go.Ab Go.Proofs Go.Proofs.Ytfieljajhmpbiaa
set_option maxRecDepth 100000
set_option linter.unusedVariables false
set_option linter.unusedSimpArgs false
set_option maxHeartbeats 1000000
theorem F117.sr9 : tstr Try.prog 9 = true := by kernel_rfl
theorem spec_l07Name_ok {fr : List Pc} {H : Heap} (a0 : List UInt8) (hs : Sep H (fr))  (K : Bool → Prop) (h : spec_l07Name.wp a0 K) : OkQ Try.prog 117 [(.v (.str (pk a0)))] H (fun r H2 => ∃ (y0 : Bool), K y0 ∧ r = (.v (.bool y0)) ∧ Sep H2 (fr)) := by
  unfold spec_l07Name.wp at h
  refine of_body Try.f117 F.hm Try.func117 rfl Try.call117 (by kernel_rfl) (by simp) ?_
  refine fi_seq ?_
  refine fi_region ?_
  refine so_assign rfl ?_
  refine so_nil ?_
  refine fi_seq ?_
  refine fi_seq ?_
  refine fi_region ?_
  refine so_assign rfl ?_
  refine so_nil ?_
  refine fi_block ?_
  refine fi_loop ?_
  refine fi_at [(0, (.v (.str (pk a0)))), (3, (.v (.int .i64 (0 : Int))))] ⟨rfl, rfl, trivial⟩ ?_
  refine h (fun (i102 : Int) => ∀ (s : Nat → TV) (H : Heap), Sep H (fr) → Fin _ _ (updL s [(0, (.v (.str (pk a0)))), (3, (.v (.int .i64 i102)))]) H _) ?_ _ _ hs
  intro i102 h s108 H109 hs
  refine fi_inLoop ?_
  refine fi_seq ?_
  refine fi_seq ?_
  refine fi_region ?_
  refine so_move rfl ?_
  refine so_move rfl ?_
  refine so_slen rfl F117.sr9 ?_
  refine so_bin rfl rfl ab_lss ?_
  refine so_nil ?_
  replace h := ofP h; rcases h with ⟨c103, h⟩ | ⟨c103, h⟩
  · refine fi_true rfl (decide_eq_true c103) ?_
    refine fi_skip ?_
    refine fi_seq ?_
    refine fi_block ?_
    refine fi_seq ?_
    refine fi_region ?_
    refine so_move rfl ?_
    refine so_move rfl ?_
    obtain ⟨c104, h⟩ := h
    refine so_index rfl rfl F117.sr9 c104 ?_
    refine so_bin rfl rfl ab_lss ?_
    refine so_move rfl ?_
    replace h := ofP h; rcases h with ⟨c105, h⟩ | ⟨c105, h⟩
    · refine so_gno rfl (decide_eq_true c105) ?_
      refine so_gno rfl (decide_eq_true c105) ?_
      refine so_gno rfl (decide_eq_true c105) ?_
      refine so_gno rfl (decide_eq_true c105) ?_
      refine so_pick_t rfl (decide_eq_true c105) rfl ?_
      refine so_nil ?_
      refine fi_true rfl rfl ?_
      refine fi_seq ?_
      refine fi_region ?_
      refine so_assign rfl ?_
      refine so_nil ?_
      exact by_ret rfl ⟨_, h, rfl, hs⟩
    · refine so_gyes rfl (decide_eq_false c105) ?_
      refine so_move rfl ?_
      refine so_gyes rfl (decide_eq_false c105) ?_
      refine so_move rfl ?_
      refine so_gyes rfl (decide_eq_false c105) ?_
      refine so_index rfl rfl F117.sr9 c104 ?_
      refine so_gyes rfl (decide_eq_false c105) ?_
      refine so_bin rfl rfl ab_gtr ?_
      refine so_pick_f rfl (decide_eq_false c105) rfl ?_
      refine so_nil ?_
      replace h := ofP h; rcases h with ⟨c106, h⟩ | ⟨c106, h⟩
      · refine fi_true rfl (decide_eq_true c106) ?_
        refine fi_seq ?_
        refine fi_region ?_
        refine so_assign rfl ?_
        refine so_nil ?_
        exact by_ret rfl ⟨_, h, rfl, hs⟩
      · refine fi_false rfl (decide_eq_false c106) ?_
        refine fi_skip ?_
        refine fi_inBlock ?_
        refine fi_region ?_
        refine so_move rfl ?_
        refine so_bin rfl rfl ab_add ?_
        refine so_assign rfl ?_
        refine so_nil ?_
        exact fi_at [(0, (.v (.str (pk a0)))), (3, (.v (.int .i64 (IntKind.i64.wrap (i102 + (1 : Int))))))] ⟨rfl, rfl, trivial⟩ (h _ _  hs)
  · refine fi_false rfl (decide_eq_false c103) ?_
    refine fi_exit rfl ?_
    refine fi_seq ?_
    refine fi_region ?_
    refine so_move rfl ?_
    refine so_slen rfl F117.sr9 ?_
    refine so_bin rfl rfl ab_geq ?_
    refine so_move rfl ?_
    replace h := ofP h; rcases h with ⟨c107, h⟩ | ⟨c107, h⟩
    · refine so_gyes rfl (decide_eq_true c107) ?_
      refine so_move rfl ?_
      refine so_gyes rfl (decide_eq_true c107) ?_
      refine so_slen rfl F117.sr9 ?_
      refine so_gyes rfl (decide_eq_true c107) ?_
      refine so_bin rfl rfl ab_leq ?_
      refine so_pick_t rfl (decide_eq_true c107) rfl ?_
      refine so_assign rfl ?_
      refine so_nil ?_
      exact by_ret rfl ⟨_, h, rfl, hs⟩
    · refine so_gno rfl (decide_eq_false c107) ?_
      refine so_gno rfl (decide_eq_false c107) ?_
      refine so_gno rfl (decide_eq_false c107) ?_
      refine so_pick_f rfl (decide_eq_false c107) rfl ?_
      refine so_assign rfl ?_
      refine so_nil ?_
      exact by_ret rfl ⟨_, h, rfl, hs⟩

end Go.Proofs.Ytfieljajhmpbiaa.G

namespace Go.Proofs.Ytfieljajhmpbiaa.G
open Go Go.Ab Go.Proofs Go.Proofs.Ytfieljajhmpbiaa
set_option maxRecDepth 100000
set_option linter.unusedVariables false
set_option linter.unusedSimpArgs false
set_option maxHeartbeats 1000000
theorem spec_l00In_ok {fr : List Pc} {H : Heap} (a0 : Int) (a1 : Int) (a2 : Int) (hs : Sep H (fr))  (K : Bool → Prop) (h : spec_l00In.wp a0 a1 a2 K) : OkQ Try.prog 118 [(.v (.int .i64 a0)), (.v (.int .i64 a1)), (.v (.int .i64 a2))] H (fun r H2 => ∃ (y0 : Bool), K y0 ∧ r = (.v (.bool y0)) ∧ Sep H2 (fr)) := by
  unfold spec_l00In.wp at h
  refine of_body Try.f118 F.hm Try.func118 rfl Try.call118 (by kernel_rfl) (by simp) ?_
  refine fi_seq ?_
  refine fi_region ?_
  refine so_assign rfl ?_
  refine so_nil ?_
  refine fi_seq ?_
  refine fi_region ?_
  refine so_move rfl ?_
  refine so_move rfl ?_
  refine so_bin rfl rfl ab_geq ?_
  refine so_move rfl ?_
  replace h := ofP h; rcases h with ⟨c101, h⟩ | ⟨c101, h⟩
  · refine so_gyes rfl (decide_eq_true c101) ?_
    refine so_move rfl ?_
    refine so_gyes rfl (decide_eq_true c101) ?_
    refine so_move rfl ?_
    refine so_gyes rfl (decide_eq_true c101) ?_
    refine so_bin rfl rfl ab_leq ?_
    refine so_pick_t rfl (decide_eq_true c101) rfl ?_
    refine so_assign rfl ?_
    refine so_nil ?_
    exact by_ret rfl ⟨_, h, rfl, hs⟩
  · refine so_gno rfl (decide_eq_false c101) ?_
    refine so_gno rfl (decide_eq_false c101) ?_
    refine so_gno rfl (decide_eq_false c101) ?_
    refine so_pick_f rfl (decide_eq_false c101) rfl ?_
    refine so_assign rfl ?_
    refine so_nil ?_
    exact by_ret rfl ⟨_, h, rfl, hs⟩

end Go.Proofs.Ytfieljajhmpbiaa.G

namespace Go.Proofs.Ytfieljajhmpbiaa.G
open Go Go.Ab Go.Proofs Go.Proofs.Ytfieljajhmpbiaa
set_option maxRecDepth 100000
set_option linter.unusedVariables false
set_option linter.unusedSimpArgs false
set_option maxHeartbeats 1000000
theorem F64.ti22 : (telem Try.prog 22).isSome = true := by kernel_rfl
theorem spec_l07Values_ok {fr : List Pc} {H : Heap} (v0 : AV) (l0 : List (Nat)) (hs : Sep H (fr)) (g0 : ∀ H, Sep H fr → Shows H v0 1 (enc (eFlt .f32) l0)) (K : Bool → Prop) (h : spec_l07Values.wp l0 K) : OkQ Try.prog 64 [(.v v0)] H (fun r H2 => ∃ (y0 : Bool), K y0 ∧ r = (.v (.bool y0)) ∧ Sep H2 (fr)) := by
  unfold spec_l07Values.wp at h
  refine of_body Try.f64 F.hm Try.func64 rfl Try.call64 (by kernel_rfl) (by simp) ?_
  refine fi_seq ?_
  refine fi_region ?_
  refine so_assign rfl ?_
  refine so_nil ?_
  refine fi_seq ?_
  refine fi_region ?_
  refine so_move rfl ?_
  refine sv_len (g0 _ hs) (fun _ => rfl) (by decide) rfl F64.ti22 ?_
  refine so_bin rfl rfl ab_geq ?_
  refine so_move rfl ?_
  replace h := ofP h; rcases h with ⟨c101, h⟩ | ⟨c101, h⟩
  · refine so_gyes rfl (decide_eq_true c101) ?_
    refine so_move rfl ?_
    refine so_gyes rfl (decide_eq_true c101) ?_
    refine sv_len (g0 _ hs) (fun _ => rfl) (by decide) rfl F64.ti22 ?_
    refine so_gyes rfl (decide_eq_true c101) ?_
    refine so_bin rfl rfl ab_leq ?_
    refine so_pick_t rfl (decide_eq_true c101) rfl ?_
    refine so_assign rfl ?_
    refine so_nil ?_
    exact by_ret rfl ⟨_, h, rfl, hs⟩
  · refine so_gno rfl (decide_eq_false c101) ?_
    refine so_gno rfl (decide_eq_false c101) ?_
    refine so_gno rfl (decide_eq_false c101) ?_
    refine so_pick_f rfl (decide_eq_false c101) rfl ?_
    refine so_assign rfl ?_
    refine so_nil ?_
    exact by_ret rfl ⟨_, h, rfl, hs⟩

end Go.Proofs.Ytfieljajhmpbiaa.G

namespace Go.Proofs.Ytfieljajhmpbiaa.G
open Go Go.Ab Go.Proofs Go.Proofs.Ytfieljajhmpbiaa
set_option maxRecDepth 100000
set_option linter.unusedVariables false
set_option linter.unusedSimpArgs false
set_option maxHeartbeats 1000000
theorem F61.ag2 : tagg Try.prog 2 = some false := by kernel_rfl
theorem F61.ag22 : tagg Try.prog 22 = some false := by kernel_rfl
theorem F61.ag9 : tagg Try.prog 9 = some false := by kernel_rfl
theorem F61.fd27_0 : tfield Try.prog 27 0 = some (0, 1, false) := by kernel_rfl
theorem F61.fd27_1 : tfield Try.prog 27 1 = some (1, 1, false) := by kernel_rfl
theorem F61.fd27_2 : tfield Try.prog 27 2 = some (2, 1, false) := by kernel_rfl
theorem spec_l07Take_ok {fr : List Pc} {H : Heap} (i0 o0 : Nat) (a0 : List UInt8) (a1 : Int) (v2 : AV) (l2 : List (Nat)) (hs : Sep H (fr)) (g2 : ∀ H, Sep H fr → Shows H v2 1 (enc (eFlt .f32) l2)) (q0 : ∀ H, Sep H fr → PtAt H i0 o0 [(.str (pk a0)), (.int .i64 a1), v2]) (K : Bool → Prop) (h : spec_l07Take.wp a0 a1 l2 K) : OkQ Try.prog 61 [(.v (.ptr i0 o0))] H (fun r H2 => ∃ (y0 : Bool), K y0 ∧ r = (.v (.bool y0)) ∧ Sep H2 (fr)) := by
  unfold spec_l07Take.wp at h
  refine of_body Try.f61 F.hm Try.func61 rfl Try.call61 (by kernel_rfl) (by simp) ?_
  refine fi_seq ?_
  refine fi_region ?_
  refine so_assign rfl ?_
  refine so_nil ?_
  refine fi_seq ?_
  refine fi_region ?_
  refine so_move rfl ?_
  refine so_nilCheck rfl ?_
  refine so_fieldAddr rfl F61.fd27_0 ?_
  refine su_ld (q0 _ hs) 0 rfl rfl F61.ag9 ?_
  refine sv_call (spec_l07Name_ok a0 hs  _ h) rfl rfl nofun ?_
  clear h hs
  rintro _ H102 ⟨y101, h, rfl, hs⟩
  refine so_move rfl ?_
  replace h := ofT h; rcases h with ⟨c103, h⟩ | ⟨c103, h⟩
  · refine so_gyes rfl c103 ?_
    refine so_move rfl ?_
    refine so_gyes rfl c103 ?_
    refine so_nilCheck rfl ?_
    refine so_gyes rfl c103 ?_
    refine so_fieldAddr rfl F61.fd27_1 ?_
    refine so_gyes rfl c103 ?_
    refine su_ld (q0 _ hs) 1 rfl rfl F61.ag2 ?_
    refine so_gyes rfl c103 ?_
    refine sv_call (spec_l00In_ok a1 (1 : Int) (65535 : Int) hs  _ h) rfl rfl nofun ?_
    clear h hs
    rintro _ H105 ⟨y104, h, rfl, hs⟩
    refine so_pick_t rfl c103 rfl ?_
    refine so_move rfl ?_
    replace h := ofT h; rcases h with ⟨c106, h⟩ | ⟨c106, h⟩
    · refine so_gyes rfl c106 ?_
      refine so_move rfl ?_
      refine so_gyes rfl c106 ?_
      refine so_nilCheck rfl ?_
      refine so_gyes rfl c106 ?_
      refine so_fieldAddr rfl F61.fd27_2 ?_
      refine so_gyes rfl c106 ?_
      refine su_ld (q0 _ hs) 2 rfl rfl F61.ag22 ?_
      refine so_gyes rfl c106 ?_
      refine sv_call (spec_l07Values_ok v2 l2 hs (fun _ hs => (g2 _ hs)) _ h) rfl rfl nofun ?_
      clear h hs
      rintro _ H108 ⟨y107, h, rfl, hs⟩
      refine so_pick_t rfl c106 rfl ?_
      refine so_assign rfl ?_
      refine so_nil ?_
      exact by_ret rfl ⟨_, h, rfl, hs⟩
    · refine so_gno rfl c106 ?_
      refine so_gno rfl c106 ?_
      refine so_gno rfl c106 ?_
      refine so_gno rfl c106 ?_
      refine so_gno rfl c106 ?_
      refine so_pick_f rfl c106 rfl ?_
      refine so_assign rfl ?_
      refine so_nil ?_
      exact by_ret rfl ⟨_, h, rfl, hs⟩
  · refine so_gno rfl c103 ?_
    refine so_gno rfl c103 ?_
    refine so_gno rfl c103 ?_
    refine so_gno rfl c103 ?_
    refine so_gno rfl c103 ?_
    refine so_pick_f rfl c103 rfl ?_
    refine so_move rfl ?_
    refine so_gno rfl rfl ?_
    refine so_gno rfl rfl ?_
    refine so_gno rfl rfl ?_
    refine so_gno rfl rfl ?_
    refine so_gno rfl rfl ?_
    refine so_pick_f rfl rfl rfl ?_
    refine so_assign rfl ?_
    refine so_nil ?_
    exact by_ret rfl ⟨_, h, rfl, hs⟩

end Go.Proofs.Ytfieljajhmpbiaa.G

namespace Go.Proofs.Ytfieljajhmpbiaa.G
open Go Go.Ab Go.Proofs Go.Proofs.Ytfieljajhmpbiaa
set_option maxRecDepth 100000
set_option linter.unusedVariables false
set_option linter.unusedSimpArgs false
set_option maxHeartbeats 1000000
theorem F130.it2 : tint Try.prog 2 = some .i64 := by kernel_rfl
theorem F130.sr9 : tstr Try.prog 9 = true := by kernel_rfl
theorem F130.us5 : (Try.prog.underlying 5).isSome = true := by kernel_rfl
theorem spec_l01Check_ok {fr : List Pc} {H : Heap} (a0 : Int) (a1 : List UInt8) (hs : Sep H (fr))  (K : Int → Prop) (h : spec_l01Check.wp a0 a1 K) : OkQ Try.prog 130 [(.v (.int .i64 a0)), (.v (.str (pk a1)))] H (fun r H2 => ∃ (y0 : Int), K y0 ∧ r = (.v (.int .i64 y0)) ∧ Sep H2 (fr)) := by
  unfold spec_l01Check.wp at h
  refine of_body Try.f130 F.hm Try.func130 rfl Try.call130 (by kernel_rfl) (by simp) ?_
  refine fi_seq ?_
  refine fi_region ?_
  refine so_assign rfl ?_
  refine so_nil ?_
  refine fi_seq ?_
  refine fi_seq ?_
  refine fi_region ?_
  refine so_assign rfl ?_
  refine so_nil ?_
  refine fi_block ?_
  refine fi_loop ?_
  refine fi_at [(0, (.v (.int .i64 a0))), (1, (.v (.str (pk a1)))), (5, (.v (.int .i64 (0 : Int))))] ⟨rfl, rfl, rfl, trivial⟩ ?_
  refine h (fun (n102 : Int) (i103 : Int) => ∀ (s : Nat → TV) (H : Heap), Sep H (fr) → Fin _ _ (updL s [(0, (.v (.int .i64 n102))), (1, (.v (.str (pk a1)))), (5, (.v (.int .i64 i103)))]) H _) ?_ _ _ hs
  intro n102 i103 h s106 H107 hs
  refine fi_inLoop ?_
  refine fi_seq ?_
  refine fi_seq ?_
  refine fi_region ?_
  refine so_move rfl ?_
  refine so_move rfl ?_
  refine so_slen rfl F130.sr9 ?_
  refine so_bin rfl rfl ab_lss ?_
  refine so_nil ?_
  replace h := ofP h; rcases h with ⟨c104, h⟩ | ⟨c104, h⟩
  · refine fi_true rfl (decide_eq_true c104) ?_
    refine fi_skip ?_
    refine fi_seq ?_
    refine fi_block ?_
    refine fi_region ?_
    refine so_move rfl ?_
    refine so_bin rfl rfl ab_mul ?_
    refine so_move rfl ?_
    refine so_move rfl ?_
    obtain ⟨c105, h⟩ := h
    refine so_index rfl rfl F130.sr9 c105 ?_
    refine sv_ii rfl F130.us5 F130.it2 ?_
    refine so_bin rfl rfl ab_add ?_
    refine so_bin rfl rfl ab_add ?_
    refine so_bin rfl rfl (ab_rem (by decide)) ?_
    refine so_assign rfl ?_
    refine so_nil ?_
    refine fi_inBlock ?_
    refine fi_region ?_
    refine so_move rfl ?_
    refine so_bin rfl rfl ab_add ?_
    refine so_assign rfl ?_
    refine so_nil ?_
    exact fi_at [(0, (.v (.int .i64 (Int.tmod (IntKind.i64.wrap ((IntKind.i64.wrap ((IntKind.i64.wrap ((853 : Int) * n102)) + (IntKind.i64.wrap (bt a1 i103)))) + (139 : Int))) (65003 : Int))))), (1, (.v (.str (pk a1)))), (5, (.v (.int .i64 (IntKind.i64.wrap (i103 + (1 : Int))))))] ⟨rfl, rfl, rfl, trivial⟩ (h _ _  hs)
  · refine fi_false rfl (decide_eq_false c104) ?_
    refine fi_exit rfl ?_
    refine fi_seq ?_
    refine fi_region ?_
    refine so_move rfl ?_
    refine so_assign rfl ?_
    refine so_nil ?_
    exact by_ret rfl ⟨_, h, rfl, hs⟩

end Go.Proofs.Ytfieljajhmpbiaa.G

namespace Go.Proofs.Ytfieljajhmpbiaa.G
open Go Go.Ab Go.Proofs Go.Proofs.Ytfieljajhmpbiaa
set_option maxRecDepth 100000
set_option linter.unusedVariables false
set_option linter.unusedSimpArgs false
set_option maxHeartbeats 1000000
theorem F141.xb141 : Try.f141.body = none := rfl
theorem F141.xe141 : Extern.find Try.f141 = some Extern.MathFloatBits.float32bits := by rfl
theorem F141.xf141 : (Extern.findNext Try.f141).isNone = true := by kernel_rfl
theorem F141.xn141 : (Try.f141.name == "runtime.NumGoroutine") = false := by kernel_rfl
theorem math_Float32bits_ok {fr : List Pc} {H : Heap} (x : Nat) (hs : Sep H fr) (K : Int → Prop) (h : math_Float32bits.wp x K) : OkQ Try.prog 141 [(.v (.flt .f32 x))] H (fun r H2 => ∃ y0 : Int, K y0 ∧ r = (.v (.int .u32 y0)) ∧ Sep H2 fr) := ⟨_, _, f32bits_ok Try.func141 F141.xn141 F141.xb141 F141.xf141 F141.xe141 x h.1, _, h.2, rfl, hs⟩

end Go.Proofs.Ytfieljajhmpbiaa.G

namespace Go.Proofs.Ytfieljajhmpbiaa.G
open Go Go.Ab Go.Proofs Go.Proofs.Ytfieljajhmpbiaa
set_option maxRecDepth 100000
set_option linter.unusedVariables false
set_option linter.unusedSimpArgs false
set_option maxHeartbeats 1000000
theorem F119.it2 : tint Try.prog 2 = some .i64 := by kernel_rfl
theorem F119.us135 : (Try.prog.underlying 135).isSome = true := by kernel_rfl
theorem spec_l01Bits_ok {fr : List Pc} {H : Heap} (a0 : Nat) (hs : Sep H (fr))  (K : Int → Prop) (h : spec_l01Bits.wp a0 K) : OkQ Try.prog 119 [(.v (.flt .f32 a0))] H (fun r H2 => ∃ (y0 : Int), K y0 ∧ r = (.v (.int .i64 y0)) ∧ Sep H2 (fr)) := by
  unfold spec_l01Bits.wp at h
  refine of_body Try.f119 F.hm Try.func119 rfl Try.call119 (by kernel_rfl) (by simp) ?_
  refine fi_seq ?_
  refine fi_region ?_
  refine so_assign rfl ?_
  refine so_nil ?_
  refine fi_seq ?_
  refine fi_seq ?_
  refine fi_region ?_
  refine so_move rfl ?_
  refine so_move rfl ?_
  refine so_bin rfl rfl ab_fneq ?_
  refine so_nil ?_
  replace h := ofT h; rcases h with ⟨c101, h⟩ | ⟨c101, h⟩
  · refine fi_true rfl c101 ?_
    refine fi_seq ?_
    refine fi_region ?_
    refine so_assign rfl ?_
    refine so_nil ?_
    exact by_ret rfl ⟨_, h, rfl, hs⟩
  · refine fi_false rfl c101 ?_
    refine fi_skip ?_
    refine fi_seq ?_
    refine fi_region ?_
    refine so_move rfl ?_
    refine sv_call (math_Float32bits_ok a0 hs  _ h) rfl rfl nofun ?_
    clear h hs
    rintro _ H103 ⟨y102, h, rfl, hs⟩
    refine sv_ii rfl F119.us135 F119.it2 ?_
    refine so_assign rfl ?_
    refine so_nil ?_
    exact by_ret rfl ⟨_, h, rfl, hs⟩

end Go.Proofs.Ytfieljajhmpbiaa.G

namespace Go.Proofs.Ytfieljajhmpbiaa.G
open Go Go.Ab Go.Proofs Go.Proofs.Ytfieljajhmpbiaa
set_option maxRecDepth 100000
set_option linter.unusedVariables false
set_option linter.unusedSimpArgs false
set_option maxHeartbeats 1000000
theorem F65.ag36 : tagg Try.prog 36 = some false := by kernel_rfl
theorem F65.it5 : tint Try.prog 5 = some .u8 := by kernel_rfl
theorem F65.sr9 : tstr Try.prog 9 = true := by kernel_rfl
theorem F65.sz5 : tsz Try.prog 5 = some 1 := by kernel_rfl
theorem F65.ta112_112 : tapp Try.prog 112 112 = some (1, 1) := by kernel_rfl
theorem F65.te112 : telem Try.prog 112 = some 5 := by kernel_rfl
theorem F65.ti22 : (telem Try.prog 22).isSome = true := by kernel_rfl
theorem F65.tl22 : (telem Try.prog 22).bind (tsz Try.prog) = some 1 := by kernel_rfl
theorem F65.us112 : (Try.prog.underlying 112).isSome = true := by kernel_rfl
theorem F65.us2 : (Try.prog.underlying 2).isSome = true := by kernel_rfl
theorem F65.ze5 : tzero Try.prog 5 = some [(.int .u8 (0 : Int))] := by kernel_rfl
theorem spec_l07Pack_ok {fr : List Pc} {H : Heap} (v0 : AV) (l0 : List (Nat)) (hs : Sep H (fr)) (g0 : ∀ H, Sep H fr → Shows H v0 1 (enc (eFlt .f32) l0)) (K : (List UInt8) → Prop) (h : spec_l07Pack.wp l0 K) : OkQ Try.prog 65 [(.v v0)] H (fun r H2 => ∃ (y0 : List UInt8), K y0 ∧ r = (.v (.str (pk y0))) ∧ Sep H2 (fr)) := by
  unfold spec_l07Pack.wp at h
  refine of_body Try.f65 F.hm Try.func65 rfl Try.call65 (by kernel_rfl) (by simp) ?_
  refine fi_seq ?_
  refine fi_region ?_
  refine so_assign rfl ?_
  refine so_nil ?_
  refine fi_seq ?_
  refine fi_region ?_
  refine sv_bslice hs (eInt .u8) ([] : List (Int)) [] F65.te112 F65.sz5 F65.ze5 rfl rfl rfl rfl (fun _ => rfl) rfl (by decide) nofun (fun v101 H102 nv101 hs => ?_)
  refine so_assign rfl ?_
  refine so_nil ?_
  refine fi_seq ?_
  refine fi_region ?_
  refine so_assign rfl ?_
  refine so_nil ?_
  refine fi_seq ?_
  refine fi_seq ?_
  refine fi_region ?_
  refine so_move rfl ?_
  refine sv_len (g0 _ hs.tl) (fun _ => rfl) (by decide) rfl F65.ti22 ?_
  refine so_move rfl ?_
  refine so_nil ?_
  refine fi_block ?_
  refine fi_loop ?_
  refine fi_at [(0, (.v v0)), (3, (.v v101)), (4, (.v (.int .i64 (0 : Int)))), (13, (.v (.int .i64 (l0.length : Int)))), (14, (.v (.int .i64 (0 : Int))))] ⟨rfl, rfl, rfl, rfl, rfl, trivial⟩ ?_
  refine h (fun (out219 : List (Int)) (before221 : Int) (x222 : Int) => ∀ (s : Nat → TV) (H : Heap) (v220 : AV) (nv220 : v220 ≠ .nilsl), Sep H (Pc.osl v220 1 (enc (eInt .u8) out219) :: fr) → Fin _ _ (updL s [(0, (.v v0)), (3, (.v v220)), (4, (.v (.int .i64 before221))), (13, (.v (.int .i64 (l0.length : Int)))), (14, (.v (.int .i64 x222)))]) H _) ?_ _ _ _ nv101 hs
  intro out219 before221 x222 h s332 H333 v220 nv220 hs
  refine fi_inLoop ?_
  refine fi_seq ?_
  refine fi_region ?_
  refine so_bin rfl rfl ab_lss ?_
  refine so_nil ?_
  refine fi_seq ?_
  replace h := ofP h; rcases h with ⟨c223, h⟩ | ⟨c223, h⟩
  · refine fi_true rfl (decide_eq_true c223) ?_
    refine fi_skip ?_
    refine fi_seq ?_
    refine fi_block ?_
    refine fi_seq ?_
    refine fi_region ?_
    refine so_move rfl ?_
    refine so_assign rfl ?_
    refine so_nil ?_
    refine fi_seq ?_
    refine fi_region ?_
    refine so_move rfl ?_
    refine so_move rfl ?_
    obtain ⟨c224, h⟩ := h
    refine sv_idx (g0 _ hs.tl) c224 (fun _ => rfl) (by decide) rfl rfl F65.tl22 ?_
    refine sv_cell (g0 _ hs.tl) c224 (0 : Nat) 0 (fun x => (AV.flt .f32 x)) (fun _ => rfl) (fun _ => rfl) rfl F65.ag36 ?_
    refine sv_call (spec_l01Bits_ok (l0.getD (x222).toNat (0 : Nat)) hs  _ h) rfl rfl nofun ?_
    clear h hs
    rintro _ H226 ⟨y225, h, rfl, hs⟩
    refine so_assign rfl ?_
    refine so_nil ?_
    refine fi_seq ?_
    refine fi_region ?_
    refine so_move rfl ?_
    refine so_move rfl ?_
    refine so_bin rfl rfl ab_xor ?_
    refine so_assign rfl ?_
    refine so_nil ?_
    refine fi_seq ?_
    refine fi_region ?_
    refine so_move rfl ?_
    refine so_assign rfl ?_
    refine so_nil ?_
    refine fi_seq ?_
    refine fi_region ?_
    refine so_assign rfl ?_
    refine so_nil ?_
    refine fi_seq ?_
    refine fi_seq ?_
    refine fi_region ?_
    refine so_assign rfl ?_
    refine so_nil ?_
    refine fi_block ?_
    refine fi_loop ?_
    refine fi_at [(0, (.v v0)), (3, (.v v220)), (4, (.v (.int .i64 y225))), (7, (.v (.int .i64 (ibits .xor .i64 y225 before221)))), (8, (.v (.int .i64 (0 : Int)))), (9, (.v (.int .i64 (16777216 : Int)))), (13, (.v (.int .i64 (l0.length : Int)))), (14, (.v (.int .i64 x222)))] ⟨rfl, rfl, rfl, rfl, rfl, rfl, rfl, rfl, trivial⟩ ?_
    refine h (fun (z228 : Int) (scale229 : Int) => ∀ (s : Nat → TV) (H : Heap), Sep H (Pc.osl v220 1 (enc (eInt .u8) out219) :: fr) → Fin _ _ (updL s [(0, (.v v0)), (3, (.v v220)), (4, (.v (.int .i64 y225))), (7, (.v (.int .i64 (ibits .xor .i64 y225 before221)))), (8, (.v (.int .i64 z228))), (9, (.v (.int .i64 scale229))), (13, (.v (.int .i64 (l0.length : Int)))), (14, (.v (.int .i64 x222)))]) H _) ?_ _ _ hs
    intro z228 scale229 h s330 H331 hs
    refine fi_inLoop ?_
    refine fi_seq ?_
    refine fi_seq ?_
    refine fi_region ?_
    refine so_move rfl ?_
    refine so_bin rfl rfl ab_lss ?_
    refine so_move rfl ?_
    replace h := ofP h; rcases h with ⟨c230, h⟩ | ⟨c230, h⟩
    · refine so_gyes rfl (decide_eq_true c230) ?_
      refine so_move rfl ?_
      refine so_gyes rfl (decide_eq_true c230) ?_
      refine so_move rfl ?_
      refine so_gyes rfl (decide_eq_true c230) ?_
      obtain ⟨c231, h⟩ := h
      refine so_bin rfl rfl (ab_quo c231) ?_
      refine so_gyes rfl (decide_eq_true c230) ?_
      refine so_bin rfl rfl ab_eql ?_
      refine so_pick_t rfl (decide_eq_true c230) rfl ?_
      refine so_nil ?_
      replace h := ofP h; rcases h with ⟨c232, h⟩ | ⟨c232, h⟩
      · refine fi_true rfl (decide_eq_true c232) ?_
        refine fi_skip ?_
        refine fi_seq ?_
        refine fi_block ?_
        refine fi_seq ?_
        refine fi_region ?_
        refine so_move rfl ?_
        refine so_bin rfl rfl ab_add ?_
        refine so_assign rfl ?_
        refine so_nil ?_
        refine fi_seq ?_
        refine fi_region ?_
        refine so_move rfl ?_
        refine so_bin rfl rfl ab_eql ?_
        refine so_nil ?_
        replace h := ofP h; rcases h with ⟨c233, h⟩ | ⟨c233, h⟩
        · refine fi_true rfl (decide_eq_true c233) ?_
          refine fi_exit rfl ?_
          refine fi_seq ?_
          refine fi_region ?_
          refine so_move rfl ?_
          refine so_move rfl ?_
          refine sv_ii rfl F65.us2 F65.it5 ?_
          refine sv_bslice hs (eInt .u8) ([(IntKind.u8.wrap (IntKind.i64.wrap (z228 + (1 : Int))))] : List (Int)) [[(.int .u8 (IntKind.u8.wrap (IntKind.i64.wrap (z228 + (1 : Int)))))]] F65.te112 F65.sz5 F65.ze5 rfl rfl rfl rfl (fun _ => rfl) rfl (by decide) nofun (fun v234 H235 nv234 hs => ?_)
          obtain ⟨c239, h⟩ := h
          refine sv_app hs 1 rfl (hs.shows 0 rfl) (fun _ => rfl) (by decide) F65.ta112_112 (by decide) c239 rfl rfl nofun (fun v237 H238 kv237 hs => ?_)
          replace hs := hs.del 0
          have nv237 := kv237 nv220
          refine so_assign rfl ?_
          refine so_nil ?_
          refine fi_seq ?_
          refine fi_region ?_
          refine so_move rfl ?_
          refine so_assign rfl ?_
          refine so_nil ?_
          refine fi_block ?_
          refine fi_loop ?_
          refine fi_at [(0, (.v v0)), (3, (.v v237)), (4, (.v (.int .i64 y225))), (7, (.v (.int .i64 (ibits .xor .i64 y225 before221)))), (10, (.v (.int .i64 (IntKind.i64.wrap (z228 + (1 : Int)))))), (13, (.v (.int .i64 (l0.length : Int)))), (14, (.v (.int .i64 x222)))] ⟨rfl, rfl, rfl, rfl, rfl, rfl, rfl, trivial⟩ ?_
          refine h (fun (out253 : List (Int)) (x255 : Int) (k256 : Int) => ∀ (s : Nat → TV) (H : Heap) (v254 : AV) (nv254 : v254 ≠ .nilsl), Sep H (Pc.osl v254 1 (enc (eInt .u8) out253) :: fr) → Fin _ _ (updL s [(0, (.v v0)), (3, (.v v254)), (4, (.v (.int .i64 y225))), (7, (.v (.int .i64 x255))), (10, (.v (.int .i64 k256))), (13, (.v (.int .i64 (l0.length : Int)))), (14, (.v (.int .i64 x222)))]) H _) ?_ _ _ _ nv237 hs
          intro out253 x255 k256 h s264 H265 v254 nv254 hs
          refine fi_inLoop ?_
          refine fi_seq ?_
          refine fi_seq ?_
          refine fi_region ?_
          refine so_move rfl ?_
          refine so_bin rfl rfl ab_lss ?_
          refine so_nil ?_
          replace h := ofP h; rcases h with ⟨c257, h⟩ | ⟨c257, h⟩
          · refine fi_true rfl (decide_eq_true c257) ?_
            refine fi_skip ?_
            refine fi_seq ?_
            refine fi_block ?_
            refine fi_seq ?_
            refine fi_region ?_
            refine so_move rfl ?_
            refine so_move rfl ?_
            refine so_bin rfl rfl (ab_rem (by decide)) ?_
            refine sv_ii rfl F65.us2 F65.it5 ?_
            refine sv_bslice hs (eInt .u8) ([(IntKind.u8.wrap (Int.tmod x255 (256 : Int)))] : List (Int)) [[(.int .u8 (IntKind.u8.wrap (Int.tmod x255 (256 : Int))))]] F65.te112 F65.sz5 F65.ze5 rfl rfl rfl rfl (fun _ => rfl) rfl (by decide) nofun (fun v258 H259 nv258 hs => ?_)
            obtain ⟨c263, h⟩ := h
            refine sv_app hs 1 rfl (hs.shows 0 rfl) (fun _ => rfl) (by decide) F65.ta112_112 (by decide) c263 rfl rfl nofun (fun v261 H262 kv261 hs => ?_)
            replace hs := hs.del 0
            have nv261 := kv261 nv254
            refine so_assign rfl ?_
            refine so_nil ?_
            refine fi_region ?_
            refine so_move rfl ?_
            refine so_bin rfl rfl (ab_quo (by decide)) ?_
            refine so_assign rfl ?_
            refine so_nil ?_
            refine fi_inBlock ?_
            refine fi_region ?_
            refine so_move rfl ?_
            refine so_bin rfl rfl ab_add ?_
            refine so_assign rfl ?_
            refine so_nil ?_
            exact fi_at [(0, (.v v0)), (3, (.v v261)), (4, (.v (.int .i64 y225))), (7, (.v (.int .i64 (IntKind.i64.wrap (Int.tdiv x255 (256 : Int)))))), (10, (.v (.int .i64 (IntKind.i64.wrap (k256 + (1 : Int)))))), (13, (.v (.int .i64 (l0.length : Int)))), (14, (.v (.int .i64 x222)))] ⟨rfl, rfl, rfl, rfl, rfl, rfl, rfl, trivial⟩ (h _ _ _ nv261 hs)
          · refine fi_false rfl (decide_eq_false c257) ?_
            refine fi_exit rfl ?_
            refine fi_inBlock ?_
            refine fi_region ?_
            refine so_bin rfl rfl ab_add ?_
            refine so_move rfl ?_
            refine so_nil ?_
            exact fi_at [(0, (.v v0)), (3, (.v v254)), (4, (.v (.int .i64 y225))), (13, (.v (.int .i64 (l0.length : Int)))), (14, (.v (.int .i64 (IntKind.i64.wrap (x222 + (1 : Int))))))] ⟨rfl, rfl, rfl, rfl, rfl, trivial⟩ (h _ _ _ nv254 hs)
        · refine fi_false rfl (decide_eq_false c233) ?_
          refine fi_skip ?_
          refine fi_inBlock ?_
          refine fi_region ?_
          refine so_move rfl ?_
          refine so_bin rfl rfl (ab_quo (by decide)) ?_
          refine so_assign rfl ?_
          refine so_nil ?_
          exact fi_at [(0, (.v v0)), (3, (.v v220)), (4, (.v (.int .i64 y225))), (7, (.v (.int .i64 (ibits .xor .i64 y225 before221)))), (8, (.v (.int .i64 (IntKind.i64.wrap (z228 + (1 : Int)))))), (9, (.v (.int .i64 (IntKind.i64.wrap (Int.tdiv scale229 (256 : Int)))))), (13, (.v (.int .i64 (l0.length : Int)))), (14, (.v (.int .i64 x222)))] ⟨rfl, rfl, rfl, rfl, rfl, rfl, rfl, rfl, trivial⟩ (h _ _  hs)
      · refine fi_false rfl (decide_eq_false c232) ?_
        refine fi_exit rfl ?_
        refine fi_seq ?_
        refine fi_region ?_
        refine so_move rfl ?_
        refine so_move rfl ?_
        refine sv_ii rfl F65.us2 F65.it5 ?_
        refine sv_bslice hs (eInt .u8) ([(IntKind.u8.wrap z228)] : List (Int)) [[(.int .u8 (IntKind.u8.wrap z228))]] F65.te112 F65.sz5 F65.ze5 rfl rfl rfl rfl (fun _ => rfl) rfl (by decide) nofun (fun v266 H267 nv266 hs => ?_)
        obtain ⟨c271, h⟩ := h
        refine sv_app hs 1 rfl (hs.shows 0 rfl) (fun _ => rfl) (by decide) F65.ta112_112 (by decide) c271 rfl rfl nofun (fun v269 H270 kv269 hs => ?_)
        replace hs := hs.del 0
        have nv269 := kv269 nv220
        refine so_assign rfl ?_
        refine so_nil ?_
        refine fi_seq ?_
        refine fi_region ?_
        refine so_move rfl ?_
        refine so_assign rfl ?_
        refine so_nil ?_
        refine fi_block ?_
        refine fi_loop ?_
        refine fi_at [(0, (.v v0)), (3, (.v v269)), (4, (.v (.int .i64 y225))), (7, (.v (.int .i64 (ibits .xor .i64 y225 before221)))), (10, (.v (.int .i64 z228))), (13, (.v (.int .i64 (l0.length : Int)))), (14, (.v (.int .i64 x222)))] ⟨rfl, rfl, rfl, rfl, rfl, rfl, rfl, trivial⟩ ?_
        refine h (fun (out285 : List (Int)) (x287 : Int) (k288 : Int) => ∀ (s : Nat → TV) (H : Heap) (v286 : AV) (nv286 : v286 ≠ .nilsl), Sep H (Pc.osl v286 1 (enc (eInt .u8) out285) :: fr) → Fin _ _ (updL s [(0, (.v v0)), (3, (.v v286)), (4, (.v (.int .i64 y225))), (7, (.v (.int .i64 x287))), (10, (.v (.int .i64 k288))), (13, (.v (.int .i64 (l0.length : Int)))), (14, (.v (.int .i64 x222)))]) H _) ?_ _ _ _ nv269 hs
        intro out285 x287 k288 h s296 H297 v286 nv286 hs
        refine fi_inLoop ?_
        refine fi_seq ?_
        refine fi_seq ?_
        refine fi_region ?_
        refine so_move rfl ?_
        refine so_bin rfl rfl ab_lss ?_
        refine so_nil ?_
        replace h := ofP h; rcases h with ⟨c289, h⟩ | ⟨c289, h⟩
        · refine fi_true rfl (decide_eq_true c289) ?_
          refine fi_skip ?_
          refine fi_seq ?_
          refine fi_block ?_
          refine fi_seq ?_
          refine fi_region ?_
          refine so_move rfl ?_
          refine so_move rfl ?_
          refine so_bin rfl rfl (ab_rem (by decide)) ?_
          refine sv_ii rfl F65.us2 F65.it5 ?_
          refine sv_bslice hs (eInt .u8) ([(IntKind.u8.wrap (Int.tmod x287 (256 : Int)))] : List (Int)) [[(.int .u8 (IntKind.u8.wrap (Int.tmod x287 (256 : Int))))]] F65.te112 F65.sz5 F65.ze5 rfl rfl rfl rfl (fun _ => rfl) rfl (by decide) nofun (fun v290 H291 nv290 hs => ?_)
          obtain ⟨c295, h⟩ := h
          refine sv_app hs 1 rfl (hs.shows 0 rfl) (fun _ => rfl) (by decide) F65.ta112_112 (by decide) c295 rfl rfl nofun (fun v293 H294 kv293 hs => ?_)
          replace hs := hs.del 0
          have nv293 := kv293 nv286
          refine so_assign rfl ?_
          refine so_nil ?_
          refine fi_region ?_
          refine so_move rfl ?_
          refine so_bin rfl rfl (ab_quo (by decide)) ?_
          refine so_assign rfl ?_
          refine so_nil ?_
          refine fi_inBlock ?_
          refine fi_region ?_
          refine so_move rfl ?_
          refine so_bin rfl rfl ab_add ?_
          refine so_assign rfl ?_
          refine so_nil ?_
          exact fi_at [(0, (.v v0)), (3, (.v v293)), (4, (.v (.int .i64 y225))), (7, (.v (.int .i64 (IntKind.i64.wrap (Int.tdiv x287 (256 : Int)))))), (10, (.v (.int .i64 (IntKind.i64.wrap (k288 + (1 : Int)))))), (13, (.v (.int .i64 (l0.length : Int)))), (14, (.v (.int .i64 x222)))] ⟨rfl, rfl, rfl, rfl, rfl, rfl, rfl, trivial⟩ (h _ _ _ nv293 hs)
        · refine fi_false rfl (decide_eq_false c289) ?_
          refine fi_exit rfl ?_
          refine fi_inBlock ?_
          refine fi_region ?_
          refine so_bin rfl rfl ab_add ?_
          refine so_move rfl ?_
          refine so_nil ?_
          exact fi_at [(0, (.v v0)), (3, (.v v286)), (4, (.v (.int .i64 y225))), (13, (.v (.int .i64 (l0.length : Int)))), (14, (.v (.int .i64 (IntKind.i64.wrap (x222 + (1 : Int))))))] ⟨rfl, rfl, rfl, rfl, rfl, trivial⟩ (h _ _ _ nv286 hs)
    · refine so_gno rfl (decide_eq_false c230) ?_
      refine so_gno rfl (decide_eq_false c230) ?_
      refine so_gno rfl (decide_eq_false c230) ?_
      refine so_gno rfl (decide_eq_false c230) ?_
      refine so_pick_f rfl (decide_eq_false c230) rfl ?_
      refine so_nil ?_
      refine fi_false rfl rfl ?_
      refine fi_exit rfl ?_
      refine fi_seq ?_
      refine fi_region ?_
      refine so_move rfl ?_
      refine so_move rfl ?_
      refine sv_ii rfl F65.us2 F65.it5 ?_
      refine sv_bslice hs (eInt .u8) ([(IntKind.u8.wrap z228)] : List (Int)) [[(.int .u8 (IntKind.u8.wrap z228))]] F65.te112 F65.sz5 F65.ze5 rfl rfl rfl rfl (fun _ => rfl) rfl (by decide) nofun (fun v298 H299 nv298 hs => ?_)
      obtain ⟨c303, h⟩ := h
      refine sv_app hs 1 rfl (hs.shows 0 rfl) (fun _ => rfl) (by decide) F65.ta112_112 (by decide) c303 rfl rfl nofun (fun v301 H302 kv301 hs => ?_)
      replace hs := hs.del 0
      have nv301 := kv301 nv220
      refine so_assign rfl ?_
      refine so_nil ?_
      refine fi_seq ?_
      refine fi_region ?_
      refine so_move rfl ?_
      refine so_assign rfl ?_
      refine so_nil ?_
      refine fi_block ?_
      refine fi_loop ?_
      refine fi_at [(0, (.v v0)), (3, (.v v301)), (4, (.v (.int .i64 y225))), (7, (.v (.int .i64 (ibits .xor .i64 y225 before221)))), (10, (.v (.int .i64 z228))), (13, (.v (.int .i64 (l0.length : Int)))), (14, (.v (.int .i64 x222)))] ⟨rfl, rfl, rfl, rfl, rfl, rfl, rfl, trivial⟩ ?_
      refine h (fun (out317 : List (Int)) (x319 : Int) (k320 : Int) => ∀ (s : Nat → TV) (H : Heap) (v318 : AV) (nv318 : v318 ≠ .nilsl), Sep H (Pc.osl v318 1 (enc (eInt .u8) out317) :: fr) → Fin _ _ (updL s [(0, (.v v0)), (3, (.v v318)), (4, (.v (.int .i64 y225))), (7, (.v (.int .i64 x319))), (10, (.v (.int .i64 k320))), (13, (.v (.int .i64 (l0.length : Int)))), (14, (.v (.int .i64 x222)))]) H _) ?_ _ _ _ nv301 hs
      intro out317 x319 k320 h s328 H329 v318 nv318 hs
      refine fi_inLoop ?_
      refine fi_seq ?_
      refine fi_seq ?_
      refine fi_region ?_
      refine so_move rfl ?_
      refine so_bin rfl rfl ab_lss ?_
      refine so_nil ?_
      replace h := ofP h; rcases h with ⟨c321, h⟩ | ⟨c321, h⟩
      · refine fi_true rfl (decide_eq_true c321) ?_
        refine fi_skip ?_
        refine fi_seq ?_
        refine fi_block ?_
        refine fi_seq ?_
        refine fi_region ?_
        refine so_move rfl ?_
        refine so_move rfl ?_
        refine so_bin rfl rfl (ab_rem (by decide)) ?_
        refine sv_ii rfl F65.us2 F65.it5 ?_
        refine sv_bslice hs (eInt .u8) ([(IntKind.u8.wrap (Int.tmod x319 (256 : Int)))] : List (Int)) [[(.int .u8 (IntKind.u8.wrap (Int.tmod x319 (256 : Int))))]] F65.te112 F65.sz5 F65.ze5 rfl rfl rfl rfl (fun _ => rfl) rfl (by decide) nofun (fun v322 H323 nv322 hs => ?_)
        obtain ⟨c327, h⟩ := h
        refine sv_app hs 1 rfl (hs.shows 0 rfl) (fun _ => rfl) (by decide) F65.ta112_112 (by decide) c327 rfl rfl nofun (fun v325 H326 kv325 hs => ?_)
        replace hs := hs.del 0
        have nv325 := kv325 nv318
        refine so_assign rfl ?_
        refine so_nil ?_
        refine fi_region ?_
        refine so_move rfl ?_
        refine so_bin rfl rfl (ab_quo (by decide)) ?_
        refine so_assign rfl ?_
        refine so_nil ?_
        refine fi_inBlock ?_
        refine fi_region ?_
        refine so_move rfl ?_
        refine so_bin rfl rfl ab_add ?_
        refine so_assign rfl ?_
        refine so_nil ?_
        exact fi_at [(0, (.v v0)), (3, (.v v325)), (4, (.v (.int .i64 y225))), (7, (.v (.int .i64 (IntKind.i64.wrap (Int.tdiv x319 (256 : Int)))))), (10, (.v (.int .i64 (IntKind.i64.wrap (k320 + (1 : Int)))))), (13, (.v (.int .i64 (l0.length : Int)))), (14, (.v (.int .i64 x222)))] ⟨rfl, rfl, rfl, rfl, rfl, rfl, rfl, trivial⟩ (h _ _ _ nv325 hs)
      · refine fi_false rfl (decide_eq_false c321) ?_
        refine fi_exit rfl ?_
        refine fi_inBlock ?_
        refine fi_region ?_
        refine so_bin rfl rfl ab_add ?_
        refine so_move rfl ?_
        refine so_nil ?_
        exact fi_at [(0, (.v v0)), (3, (.v v318)), (4, (.v (.int .i64 y225))), (13, (.v (.int .i64 (l0.length : Int)))), (14, (.v (.int .i64 (IntKind.i64.wrap (x222 + (1 : Int))))))] ⟨rfl, rfl, rfl, rfl, rfl, trivial⟩ (h _ _ _ nv318 hs)
  · refine fi_false rfl (decide_eq_false c223) ?_
    refine fi_exit rfl ?_
    refine fi_seq ?_
    refine fi_region ?_
    refine so_move rfl ?_
    refine sv_bs (hs.shows 0 rfl) nv220 rfl F65.te112 F65.it5 F65.sr9 ?_
    refine so_assign rfl ?_
    refine so_nil ?_
    exact by_ret rfl ⟨_, h, rfl, (Sep.del 0 hs)⟩

end Go.Proofs.Ytfieljajhmpbiaa.G

namespace Go.Proofs.Ytfieljajhmpbiaa.G
open Go Go.Ab Go.Proofs Go.Proofs.Ytfieljajhmpbiaa
set_option maxRecDepth 100000
set_option linter.unusedVariables false
set_option linter.unusedSimpArgs false
set_option maxHeartbeats 1000000
theorem F94.ag2 : tagg Try.prog 2 = some false := by kernel_rfl
theorem F94.ag22 : tagg Try.prog 22 = some false := by kernel_rfl
theorem F94.ag9 : tagg Try.prog 9 = some false := by kernel_rfl
theorem F94.fd27_0 : tfield Try.prog 27 0 = some (0, 1, false) := by kernel_rfl
theorem F94.fd27_1 : tfield Try.prog 27 1 = some (1, 1, false) := by kernel_rfl
theorem F94.fd27_2 : tfield Try.prog 27 2 = some (2, 1, false) := by kernel_rfl
theorem F94.it5 : tint Try.prog 5 = some .u8 := by kernel_rfl
theorem F94.ns112 : tstr Try.prog 112 = false := by kernel_rfl
theorem F94.sr9 : tstr Try.prog 9 = true := by kernel_rfl
theorem F94.sz5 : tsz Try.prog 5 = some 1 := by kernel_rfl
theorem F94.ta112_112 : tapp Try.prog 112 112 = some (1, 1) := by kernel_rfl
theorem F94.te112 : telem Try.prog 112 = some 5 := by kernel_rfl
theorem F94.us112 : (Try.prog.underlying 112).isSome = true := by kernel_rfl
theorem F94.us2 : (Try.prog.underlying 2).isSome = true := by kernel_rfl
theorem F94.us3 : (Try.prog.underlying 3).isSome = true := by kernel_rfl
theorem F94.us9 : (Try.prog.underlying 9).isSome = true := by kernel_rfl
theorem F94.ze5 : tzero Try.prog 5 = some [(.int .u8 (0 : Int))] := by kernel_rfl
theorem spec_l07Store_ok {fr : List Pc} {H : Heap} (i0 o0 : Nat) (a0 : List UInt8) (a1 : Int) (v2 : AV) (l2 : List (Nat)) (hs : Sep H (fr)) (g2 : ∀ H, Sep H fr → Shows H v2 1 (enc (eFlt .f32) l2)) (q0 : ∀ H, Sep H fr → PtAt H i0 o0 [(.str (pk a0)), (.int .i64 a1), v2]) (K : (List UInt8) → Prop) (h : spec_l07Store.wp a0 a1 l2 K) : OkQ Try.prog 94 [(.v (.ptr i0 o0))] H (fun r H2 => ∃ (y0 : List UInt8), K y0 ∧ r = (.v (.str (pk y0))) ∧ Sep H2 (fr)) := by
  unfold spec_l07Store.wp at h
  refine of_body Try.f94 F.hm Try.func94 rfl Try.call94 (by kernel_rfl) (by simp) ?_
  refine fi_seq ?_
  refine fi_region ?_
  refine so_assign rfl ?_
  refine so_nil ?_
  refine fi_seq ?_
  refine fi_region ?_
  refine sv_bslice hs (eInt .u8) ([(84 : Int), (65 : Int), (75 : Int), (49 : Int)] : List (Int)) [[(.int .u8 (84 : Int))], [(.int .u8 (65 : Int))], [(.int .u8 (75 : Int))], [(.int .u8 (49 : Int))]] F94.te112 F94.sz5 F94.ze5 rfl rfl rfl rfl (fun _ => rfl) rfl (by decide) nofun (fun v101 H102 nv101 hs => ?_)
  obtain ⟨c104, h⟩ := h
  refine sv_bb hs 0 rfl c104 rfl F94.te112 F94.it5 F94.ns112 ?_
  refine so_move rfl ?_
  refine so_nilCheck rfl ?_
  refine so_fieldAddr rfl F94.fd27_0 ?_
  refine su_ld (q0 _ hs.tl) 0 rfl rfl F94.ag9 ?_
  refine so_slen rfl F94.sr9 ?_
  refine sv_ii rfl F94.us3 F94.it5 ?_
  refine sv_bslice hs (eInt .u8) ([(IntKind.u8.wrap (a0.length : Int))] : List (Int)) [[(.int .u8 (IntKind.u8.wrap (a0.length : Int)))]] F94.te112 F94.sz5 F94.ze5 rfl rfl rfl rfl (fun _ => rfl) rfl (by decide) nofun (fun v105 H106 nv105 hs => ?_)
  obtain ⟨c110, h⟩ := h
  refine sv_app hs 1 rfl (hs.shows 0 rfl) (fun _ => rfl) (by decide) F94.ta112_112 (by decide) c110 rfl rfl nofun (fun v108 H109 kv108 hs => ?_)
  replace hs := hs.del 0
  have nv108 := kv108 nv101
  refine so_assign rfl ?_
  refine so_nil ?_
  refine fi_seq ?_
  refine fi_region ?_
  refine so_move rfl ?_
  refine so_move rfl ?_
  refine so_nilCheck rfl ?_
  refine so_fieldAddr rfl F94.fd27_0 ?_
  refine su_ld (q0 _ hs.tl) 0 rfl rfl F94.ag9 ?_
  refine sv_sb hs rfl F94.us9 F94.ns112 F94.te112 F94.it5 nofun (fun v111 H112 nv111 hs => ?_)
  obtain ⟨c116, h⟩ := h
  refine sv_app hs 1 rfl (hs.shows 0 rfl) (fun _ => rfl) (by decide) F94.ta112_112 (by decide) c116 rfl rfl nofun (fun v114 H115 kv114 hs => ?_)
  have nv114 := kv114 nv108
  refine so_assign rfl ?_
  refine so_nil ?_
  refine fi_seq ?_
  refine fi_region ?_
  refine so_move rfl ?_
  refine so_nilCheck rfl ?_
  refine so_fieldAddr rfl F94.fd27_2 ?_
  refine su_ld (q0 _ hs.tl.tl) 2 rfl rfl F94.ag22 ?_
  refine sv_call (spec_l07Pack_ok v2 l2 hs (fun _ hs => (g2 _ hs.tl.tl)) _ h) rfl rfl nofun ?_
  clear h hs
  rintro _ H118 ⟨y117, h, rfl, hs⟩
  refine so_assign rfl ?_
  refine so_nil ?_
  refine fi_seq ?_
  refine fi_region ?_
  refine so_move rfl ?_
  refine so_move rfl ?_
  refine so_nilCheck rfl ?_
  refine so_fieldAddr rfl F94.fd27_1 ?_
  refine su_ld (q0 _ hs.tl.tl) 1 rfl rfl F94.ag2 ?_
  refine so_bin rfl rfl (ab_rem (by decide)) ?_
  refine sv_ii rfl F94.us2 F94.it5 ?_
  refine so_move rfl ?_
  refine so_nilCheck rfl ?_
  refine so_fieldAddr rfl F94.fd27_1 ?_
  refine su_ld (q0 _ hs.tl.tl) 1 rfl rfl F94.ag2 ?_
  refine so_bin rfl rfl (ab_quo (by decide)) ?_
  refine sv_ii rfl F94.us2 F94.it5 ?_
  refine so_move rfl ?_
  refine so_slen rfl F94.sr9 ?_
  refine so_bin rfl rfl (ab_rem (by decide)) ?_
  refine sv_ii rfl F94.us3 F94.it5 ?_
  refine so_move rfl ?_
  refine so_slen rfl F94.sr9 ?_
  refine so_bin rfl rfl (ab_quo (by decide)) ?_
  refine sv_ii rfl F94.us3 F94.it5 ?_
  refine sv_bslice hs (eInt .u8) ([(IntKind.u8.wrap (Int.tmod a1 (256 : Int))), (IntKind.u8.wrap (IntKind.i64.wrap (Int.tdiv a1 (256 : Int)))), (IntKind.u8.wrap (Int.tmod (y117.length : Int) (256 : Int))), (IntKind.u8.wrap (IntKind.i64.wrap (Int.tdiv (y117.length : Int) (256 : Int))))] : List (Int)) [[(.int .u8 (IntKind.u8.wrap (Int.tmod a1 (256 : Int))))], [(.int .u8 (IntKind.u8.wrap (IntKind.i64.wrap (Int.tdiv a1 (256 : Int)))))], [(.int .u8 (IntKind.u8.wrap (Int.tmod (y117.length : Int) (256 : Int))))], [(.int .u8 (IntKind.u8.wrap (IntKind.i64.wrap (Int.tdiv (y117.length : Int) (256 : Int)))))]] F94.te112 F94.sz5 F94.ze5 rfl rfl rfl rfl (fun _ => rfl) rfl (by decide) (fun _ => by kernel_rfl) (fun v119 H120 nv119 hs => ?_)
  obtain ⟨c124, h⟩ := h
  refine sv_app hs 2 rfl (hs.shows 0 rfl) (fun _ => rfl) (by decide) F94.ta112_112 (by decide) c124 rfl rfl (fun _ => by kernel_rfl) (fun v122 H123 kv122 hs => ?_)
  replace hs := hs.del 0
  have nv122 := kv122 nv114
  refine so_assign rfl ?_
  refine so_nil ?_
  refine fi_seq ?_
  refine fi_region ?_
  refine so_move rfl ?_
  refine so_move rfl ?_
  refine sv_sb hs rfl F94.us9 F94.ns112 F94.te112 F94.it5 nofun (fun v125 H126 nv125 hs => ?_)
  obtain ⟨c130, h⟩ := h
  refine sv_app hs 2 rfl (hs.shows 0 rfl) (fun _ => rfl) (by decide) F94.ta112_112 (by decide) c130 rfl rfl nofun (fun v128 H129 kv128 hs => ?_)
  have nv128 := kv128 nv122
  refine so_assign rfl ?_
  refine so_nil ?_
  refine fi_seq ?_
  refine fi_region ?_
  refine so_move rfl ?_
  refine sv_bs (hs.shows 2 rfl) nv128 rfl F94.te112 F94.it5 F94.sr9 ?_
  refine sv_call (spec_l01Check_ok (0 : Int) (byts ((((([(84 : Int), (65 : Int), (75 : Int), (49 : Int)] : List (Int)) ++ ([(IntKind.u8.wrap (a0.length : Int))] : List (Int))) ++ (nums a0)) ++ ([(IntKind.u8.wrap (Int.tmod a1 (256 : Int))), (IntKind.u8.wrap (IntKind.i64.wrap (Int.tdiv a1 (256 : Int)))), (IntKind.u8.wrap (Int.tmod (y117.length : Int) (256 : Int))), (IntKind.u8.wrap (IntKind.i64.wrap (Int.tdiv (y117.length : Int) (256 : Int))))] : List (Int))) ++ (nums y117))) hs  _ h) rfl rfl nofun ?_
  clear h hs
  rintro _ H132 ⟨y131, h, rfl, hs⟩
  refine so_assign rfl ?_
  refine so_nil ?_
  refine fi_seq ?_
  refine fi_region ?_
  refine so_move rfl ?_
  refine so_move rfl ?_
  refine so_bin rfl rfl (ab_rem (by decide)) ?_
  refine sv_ii rfl F94.us2 F94.it5 ?_
  refine so_move rfl ?_
  refine so_bin rfl rfl (ab_quo (by decide)) ?_
  refine sv_ii rfl F94.us2 F94.it5 ?_
  refine sv_bslice hs (eInt .u8) ([(IntKind.u8.wrap (Int.tmod y131 (256 : Int))), (IntKind.u8.wrap (IntKind.i64.wrap (Int.tdiv y131 (256 : Int))))] : List (Int)) [[(.int .u8 (IntKind.u8.wrap (Int.tmod y131 (256 : Int))))], [(.int .u8 (IntKind.u8.wrap (IntKind.i64.wrap (Int.tdiv y131 (256 : Int)))))]] F94.te112 F94.sz5 F94.ze5 rfl rfl rfl rfl (fun _ => rfl) rfl (by decide) nofun (fun v133 H134 nv133 hs => ?_)
  obtain ⟨c138, h⟩ := h
  refine sv_app hs 3 rfl (hs.shows 0 rfl) (fun _ => rfl) (by decide) F94.ta112_112 (by decide) c138 rfl rfl nofun (fun v136 H137 kv136 hs => ?_)
  replace hs := hs.del 0
  have nv136 := kv136 nv128
  refine sv_bs (hs.shows 2 rfl) nv136 rfl F94.te112 F94.it5 F94.sr9 ?_
  refine so_assign rfl ?_
  refine so_nil ?_
  exact by_ret rfl ⟨_, h, rfl, (Sep.del 0 (Sep.del 0 (Sep.del 0 hs)))⟩

end Go.Proofs.Ytfieljajhmpbiaa.G

namespace Go.Proofs.Ytfieljajhmpbiaa.G
open Go Go.Ab Go.Proofs Go.Proofs.Ytfieljajhmpbiaa
set_option maxRecDepth 100000
set_option linter.unusedVariables false
set_option linter.unusedSimpArgs false
set_option maxHeartbeats 1000000
theorem F58.ti62 : (telem Try.prog 62).isSome = true := by kernel_rfl
theorem F58.tl62 : (telem Try.prog 62).bind (tsz Try.prog) = some 3 := by kernel_rfl
theorem spec_StoreTakes_ok {fr : List Pc} {H : Heap} (v0 : AV) (w0 : List (List AV)) (l0 : List ((List UInt8) × (Int) × (List (Nat)))) (hs : Sep H (fr)) (g0 : ∀ H, Sep H fr → DSh H v0 3 R_s_ii64_LeFlt_f32_poooq l0 w0) (K : (List UInt8) → Bool → Prop) (h : spec_StoreTakes.wp l0 K) : OkQ Try.prog 58 [(.v v0)] H (fun r H2 => ∃ (y0 : List UInt8) (y1 : Bool), K y0 y1 ∧ r = (.t [(.v (.str (pk y0))), (.v (.bool y1))]) ∧ Sep H2 (fr)) := by
  unfold spec_StoreTakes.wp at h
  refine of_body Try.f58 F.hm Try.func58 rfl Try.call58 (by kernel_rfl) (by simp) ?_
  refine fi_seq ?_
  refine fi_region ?_
  refine so_assign rfl ?_
  refine so_assign rfl ?_
  refine so_nil ?_
  refine fi_seq ?_
  refine fi_seq ?_
  refine fi_region ?_
  refine so_move rfl ?_
  refine sd_len ((g0 _ hs) : DSh _ _ 3 R_s_ii64_LeFlt_f32_poooq l0 w0) (by decide) rfl F58.ti62 ?_
  refine so_bin rfl rfl ab_gtr ?_
  refine so_nil ?_
  replace h := ofP h; rcases h with ⟨c101, h⟩ | ⟨c101, h⟩
  · refine fi_true rfl (decide_eq_true c101) ?_
    refine fi_seq ?_
    refine fi_region ?_
    refine so_assign rfl ?_
    refine so_assign rfl ?_
    refine so_nil ?_
    exact by_ret rfl ⟨_, _, h, rfl, hs⟩
  · refine fi_false rfl (decide_eq_false c101) ?_
    refine fi_skip ?_
    refine fi_seq ?_
    refine fi_region ?_
    refine so_assign rfl ?_
    refine so_nil ?_
    refine fi_seq ?_
    refine fi_seq ?_
    refine fi_region ?_
    refine so_move rfl ?_
    refine sd_len ((g0 _ hs) : DSh _ _ 3 R_s_ii64_LeFlt_f32_poooq l0 w0) (by decide) rfl F58.ti62 ?_
    refine so_move rfl ?_
    refine so_nil ?_
    refine fi_block ?_
    refine fi_loop ?_
    refine fi_at [(0, (.v v0)), (4, (.v (.str (pk ([] : List UInt8))))), (10, (.v (.int .i64 (l0.length : Int)))), (11, (.v (.int .i64 (0 : Int))))] ⟨rfl, rfl, rfl, rfl, trivial⟩ ?_
    refine h (fun (out103 : List UInt8) (x104 : Int) => ∀ (s : Nat → TV) (H : Heap), Sep H (fr) → Fin _ _ (updL s [(0, (.v v0)), (4, (.v (.str (pk out103)))), (10, (.v (.int .i64 (l0.length : Int)))), (11, (.v (.int .i64 x104)))]) H _) ?_ _ _ hs
    intro out103 x104 h s113 H114 hs
    refine fi_inLoop ?_
    refine fi_seq ?_
    refine fi_region ?_
    refine so_bin rfl rfl ab_lss ?_
    refine so_nil ?_
    refine fi_seq ?_
    replace h := ofP h; rcases h with ⟨c105, h⟩ | ⟨c105, h⟩
    · refine fi_true rfl (decide_eq_true c105) ?_
      refine fi_skip ?_
      refine fi_seq ?_
      refine fi_block ?_
      refine fi_seq ?_
      refine fi_region ?_
      refine so_move rfl ?_
      refine so_assign rfl ?_
      refine so_nil ?_
      refine fi_seq ?_
      refine fi_seq ?_
      refine fi_region ?_
      refine so_move rfl ?_
      refine so_move rfl ?_
      obtain ⟨c106, h⟩ := h
      refine sd_idx ((g0 _ hs) : DSh _ _ 3 R_s_ii64_LeFlt_f32_poooq l0 w0) c106 (([] : List UInt8), (0 : Int), ([] : List (Nat))) (by decide) rfl rfl F58.tl62 ?_
      refine sv_call (spec_l07Take_ok _ _ (l0.getD (x104).toNat (([] : List UInt8), (0 : Int), ([] : List (Nat)))).1 (l0.getD (x104).toNat (([] : List UInt8), (0 : Int), ([] : List (Nat)))).2.1 ((w0.getD (x104).toNat []).getD 2 .und) (l0.getD (x104).toNat (([] : List UInt8), (0 : Int), ([] : List (Nat)))).2.2 hs (fun _ hs => ((((g0 _ hs) : DSh _ _ 3 R_s_ii64_LeFlt_f32_poooq l0 w0)).at (by decide) c106 (([] : List UInt8), (0 : Int), ([] : List (Nat)))).2.1.2) (fun _ hs => (ptre ((((g0 _ hs) : DSh _ _ 3 R_s_ii64_LeFlt_f32_poooq l0 w0)).at (by decide) c106 (([] : List UInt8), (0 : Int), ([] : List (Nat)))).2.1.1 ((((g0 _ hs) : DSh _ _ 3 R_s_ii64_LeFlt_f32_poooq l0 w0)).at (by decide) c106 (([] : List UInt8), (0 : Int), ([] : List (Nat)))).2.2)) _ h) rfl rfl nofun ?_
      clear h hs
      rintro _ H108 ⟨y107, h, rfl, hs⟩
      refine so_un rfl au_not ?_
      refine so_nil ?_
      replace h := ofT h; rcases h with ⟨c109, h⟩ | ⟨c109, h⟩
      · refine fi_false rfl (not_f c109) ?_
        refine fi_skip ?_
        refine fi_region ?_
        refine so_move rfl ?_
        refine so_move rfl ?_
        refine so_move rfl ?_
        refine sd_idx ((g0 _ hs) : DSh _ _ 3 R_s_ii64_LeFlt_f32_poooq l0 w0) c106 (([] : List UInt8), (0 : Int), ([] : List (Nat))) (by decide) rfl rfl F58.tl62 ?_
        refine sv_call (spec_l07Store_ok _ _ (l0.getD (x104).toNat (([] : List UInt8), (0 : Int), ([] : List (Nat)))).1 (l0.getD (x104).toNat (([] : List UInt8), (0 : Int), ([] : List (Nat)))).2.1 ((w0.getD (x104).toNat []).getD 2 .und) (l0.getD (x104).toNat (([] : List UInt8), (0 : Int), ([] : List (Nat)))).2.2 hs (fun _ hs => ((((g0 _ hs) : DSh _ _ 3 R_s_ii64_LeFlt_f32_poooq l0 w0)).at (by decide) c106 (([] : List UInt8), (0 : Int), ([] : List (Nat)))).2.1.2) (fun _ hs => (ptre ((((g0 _ hs) : DSh _ _ 3 R_s_ii64_LeFlt_f32_poooq l0 w0)).at (by decide) c106 (([] : List UInt8), (0 : Int), ([] : List (Nat)))).2.1.1 ((((g0 _ hs) : DSh _ _ 3 R_s_ii64_LeFlt_f32_poooq l0 w0)).at (by decide) c106 (([] : List UInt8), (0 : Int), ([] : List (Nat)))).2.2)) _ h) rfl rfl nofun ?_
        clear h hs
        rintro _ H111 ⟨y110, h, rfl, hs⟩
        obtain ⟨c112, h⟩ := h
        refine so_bin rfl rfl (ab_sadd c112) ?_
        refine so_assign rfl ?_
        refine so_nil ?_
        refine fi_inBlock ?_
        refine fi_region ?_
        refine so_bin rfl rfl ab_add ?_
        refine so_move rfl ?_
        refine so_nil ?_
        exact fi_at [(0, (.v v0)), (4, (.v (.str (pk (out103 ++ y110))))), (10, (.v (.int .i64 (l0.length : Int)))), (11, (.v (.int .i64 (IntKind.i64.wrap (x104 + (1 : Int))))))] ⟨rfl, rfl, rfl, rfl, trivial⟩ (h _ _  hs)
      · refine fi_true rfl (not_t c109) ?_
        refine fi_seq ?_
        refine fi_region ?_
        refine so_assign rfl ?_
        refine so_assign rfl ?_
        refine so_nil ?_
        exact by_ret rfl ⟨_, _, h, rfl, hs⟩
    · refine fi_false rfl (decide_eq_false c105) ?_
      refine fi_exit rfl ?_
      refine fi_seq ?_
      refine fi_region ?_
      refine so_move rfl ?_
      refine so_assign rfl ?_
      refine so_assign rfl ?_
      refine so_nil ?_
      exact by_ret rfl ⟨_, _, h, rfl, hs⟩

end Go.Proofs.Ytfieljajhmpbiaa.G

namespace Go.Proofs.Ytfieljajhmpbiaa.G
open Go Go.Ab Go.Proofs Go.Proofs.Ytfieljajhmpbiaa
set_option maxRecDepth 100000
set_option linter.unusedVariables false
set_option linter.unusedSimpArgs false
set_option maxHeartbeats 1000000
theorem F62.sr9 : tstr Try.prog 9 = true := by kernel_rfl
theorem impl_IsName_ok {fr : List Pc} {H : Heap} (a0 : List UInt8) (hs : Sep H (fr))  (K : Bool → Prop) (h : impl_IsName.wp a0 K) : OkQ Try.prog 62 [(.v (.str (pk a0)))] H (fun r H2 => ∃ (y0 : Bool), K y0 ∧ r = (.v (.bool y0)) ∧ Sep H2 (fr)) := by
  unfold impl_IsName.wp at h
  refine of_body Try.f62 F.hm Try.func62 rfl Try.call62 (by kernel_rfl) (by simp) ?_
  refine fi_seq ?_
  refine fi_region ?_
  refine so_assign rfl ?_
  refine so_nil ?_
  refine fi_seq ?_
  refine fi_seq ?_
  refine fi_region ?_
  refine so_move rfl ?_
  refine so_slen rfl F62.sr9 ?_
  refine so_move rfl ?_
  refine so_nil ?_
  refine fi_block ?_
  refine fi_loop ?_
  refine fi_at [(0, (.v (.str (pk a0)))), (5, (.v (.int .i64 (a0.length : Int)))), (6, (.v (.int .i64 (0 : Int))))] ⟨rfl, rfl, rfl, trivial⟩ ?_
  refine h (fun (x102 : Int) => ∀ (s : Nat → TV) (H : Heap), Sep H (fr) → Fin _ _ (updL s [(0, (.v (.str (pk a0)))), (5, (.v (.int .i64 (a0.length : Int)))), (6, (.v (.int .i64 x102)))]) H _) ?_ _ _ hs
  intro x102 h s108 H109 hs
  refine fi_inLoop ?_
  refine fi_seq ?_
  refine fi_region ?_
  refine so_bin rfl rfl ab_lss ?_
  refine so_nil ?_
  refine fi_seq ?_
  replace h := ofP h; rcases h with ⟨c103, h⟩ | ⟨c103, h⟩
  · refine fi_true rfl (decide_eq_true c103) ?_
    refine fi_skip ?_
    refine fi_seq ?_
    refine fi_block ?_
    refine fi_seq ?_
    refine fi_region ?_
    refine so_move rfl ?_
    refine so_assign rfl ?_
    refine so_nil ?_
    refine fi_seq ?_
    refine fi_region ?_
    refine so_move rfl ?_
    refine so_move rfl ?_
    obtain ⟨c104, h⟩ := h
    refine so_index rfl rfl F62.sr9 c104 ?_
    refine so_bin rfl rfl ab_lss ?_
    refine so_move rfl ?_
    replace h := ofP h; rcases h with ⟨c105, h⟩ | ⟨c105, h⟩
    · refine so_gno rfl (decide_eq_true c105) ?_
      refine so_gno rfl (decide_eq_true c105) ?_
      refine so_gno rfl (decide_eq_true c105) ?_
      refine so_gno rfl (decide_eq_true c105) ?_
      refine so_pick_t rfl (decide_eq_true c105) rfl ?_
      refine so_nil ?_
      refine fi_true rfl rfl ?_
      refine fi_seq ?_
      refine fi_region ?_
      refine so_assign rfl ?_
      refine so_nil ?_
      exact by_ret rfl ⟨_, h, rfl, hs⟩
    · refine so_gyes rfl (decide_eq_false c105) ?_
      refine so_move rfl ?_
      refine so_gyes rfl (decide_eq_false c105) ?_
      refine so_move rfl ?_
      refine so_gyes rfl (decide_eq_false c105) ?_
      refine so_index rfl rfl F62.sr9 c104 ?_
      refine so_gyes rfl (decide_eq_false c105) ?_
      refine so_bin rfl rfl ab_gtr ?_
      refine so_pick_f rfl (decide_eq_false c105) rfl ?_
      refine so_nil ?_
      replace h := ofP h; rcases h with ⟨c106, h⟩ | ⟨c106, h⟩
      · refine fi_true rfl (decide_eq_true c106) ?_
        refine fi_seq ?_
        refine fi_region ?_
        refine so_assign rfl ?_
        refine so_nil ?_
        exact by_ret rfl ⟨_, h, rfl, hs⟩
      · refine fi_false rfl (decide_eq_false c106) ?_
        refine fi_skip ?_
        refine fi_inBlock ?_
        refine fi_region ?_
        refine so_bin rfl rfl ab_add ?_
        refine so_move rfl ?_
        refine so_nil ?_
        exact fi_at [(0, (.v (.str (pk a0)))), (5, (.v (.int .i64 (a0.length : Int)))), (6, (.v (.int .i64 (IntKind.i64.wrap (x102 + (1 : Int))))))] ⟨rfl, rfl, rfl, trivial⟩ (h _ _  hs)
  · refine fi_false rfl (decide_eq_false c103) ?_
    refine fi_exit rfl ?_
    refine fi_seq ?_
    refine fi_region ?_
    refine so_move rfl ?_
    refine so_slen rfl F62.sr9 ?_
    refine so_bin rfl rfl ab_geq ?_
    refine so_move rfl ?_
    replace h := ofP h; rcases h with ⟨c107, h⟩ | ⟨c107, h⟩
    · refine so_gyes rfl (decide_eq_true c107) ?_
      refine so_move rfl ?_
      refine so_gyes rfl (decide_eq_true c107) ?_
      refine so_slen rfl F62.sr9 ?_
      refine so_gyes rfl (decide_eq_true c107) ?_
      refine so_bin rfl rfl ab_leq ?_
      refine so_pick_t rfl (decide_eq_true c107) rfl ?_
      refine so_assign rfl ?_
      refine so_nil ?_
      exact by_ret rfl ⟨_, h, rfl, hs⟩
    · refine so_gno rfl (decide_eq_false c107) ?_
      refine so_gno rfl (decide_eq_false c107) ?_
      refine so_gno rfl (decide_eq_false c107) ?_
      refine so_pick_f rfl (decide_eq_false c107) rfl ?_
      refine so_assign rfl ?_
      refine so_nil ?_
      exact by_ret rfl ⟨_, h, rfl, hs⟩

end Go.Proofs.Ytfieljajhmpbiaa.G

namespace Go.Proofs.Ytfieljajhmpbiaa.G
open Go Go.Ab Go.Proofs Go.Proofs.Ytfieljajhmpbiaa
set_option maxRecDepth 100000
set_option linter.unusedVariables false
set_option linter.unusedSimpArgs false
set_option maxHeartbeats 1000000
theorem impl_within_ok {fr : List Pc} {H : Heap} (a0 : Int) (a1 : Int) (a2 : Int) (hs : Sep H (fr))  (K : Bool → Prop) (h : impl_within.wp a0 a1 a2 K) : OkQ Try.prog 63 [(.v (.int .i64 a0)), (.v (.int .i64 a1)), (.v (.int .i64 a2))] H (fun r H2 => ∃ (y0 : Bool), K y0 ∧ r = (.v (.bool y0)) ∧ Sep H2 (fr)) := by
  unfold impl_within.wp at h
  refine of_body Try.f63 F.hm Try.func63 rfl Try.call63 (by kernel_rfl) (by simp) ?_
  refine fi_seq ?_
  refine fi_region ?_
  refine so_assign rfl ?_
  refine so_nil ?_
  refine fi_seq ?_
  refine fi_region ?_
  refine so_move rfl ?_
  refine so_move rfl ?_
  refine so_bin rfl rfl ab_geq ?_
  refine so_move rfl ?_
  replace h := ofP h; rcases h with ⟨c101, h⟩ | ⟨c101, h⟩
  · refine so_gyes rfl (decide_eq_true c101) ?_
    refine so_move rfl ?_
    refine so_gyes rfl (decide_eq_true c101) ?_
    refine so_move rfl ?_
    refine so_gyes rfl (decide_eq_true c101) ?_
    refine so_bin rfl rfl ab_leq ?_
    refine so_pick_t rfl (decide_eq_true c101) rfl ?_
    refine so_assign rfl ?_
    refine so_nil ?_
    exact by_ret rfl ⟨_, h, rfl, hs⟩
  · refine so_gno rfl (decide_eq_false c101) ?_
    refine so_gno rfl (decide_eq_false c101) ?_
    refine so_gno rfl (decide_eq_false c101) ?_
    refine so_pick_f rfl (decide_eq_false c101) rfl ?_
    refine so_assign rfl ?_
    refine so_nil ?_
    exact by_ret rfl ⟨_, h, rfl, hs⟩

end Go.Proofs.Ytfieljajhmpbiaa.G

namespace Go.Proofs.Ytfieljajhmpbiaa.G
open Go Go.Ab Go.Proofs Go.Proofs.Ytfieljajhmpbiaa
set_option maxRecDepth 100000
set_option linter.unusedVariables false
set_option linter.unusedSimpArgs false
set_option maxHeartbeats 1000000
theorem F18.ag2 : tagg Try.prog 2 = some false := by kernel_rfl
theorem F18.ag22 : tagg Try.prog 22 = some false := by kernel_rfl
theorem F18.ag9 : tagg Try.prog 9 = some false := by kernel_rfl
theorem F18.fd27_0 : tfield Try.prog 27 0 = some (0, 1, false) := by kernel_rfl
theorem F18.fd27_1 : tfield Try.prog 27 1 = some (1, 1, false) := by kernel_rfl
theorem F18.fd27_2 : tfield Try.prog 27 2 = some (2, 1, false) := by kernel_rfl
theorem F18.inf27 : (Try.prog.info? 27).isSome = true := by kernel_rfl
theorem F18.ti22 : (telem Try.prog 22).isSome = true := by kernel_rfl
theorem impl_ValidTake_ok {fr : List Pc} {H : Heap} (a0 : List UInt8) (a1 : Int) (v2 : AV) (l2 : List (Nat)) (hs : Sep H (fr)) (g2 : ∀ H, Sep H fr → Shows H v2 1 (enc (eFlt .f32) l2)) (K : Bool → Prop) (h : impl_ValidTake.wp a0 a1 l2 K) : OkQ Try.prog 18 [(.g [(.str (pk a0)), (.int .i64 a1), v2])] H (fun r H2 => ∃ (y0 : Bool), K y0 ∧ r = (.v (.bool y0)) ∧ Sep H2 (fr)) := by
  unfold impl_ValidTake.wp at h
  refine of_body Try.f18 F.hm Try.func18 rfl Try.call18 (by kernel_rfl) (by simp) ?_
  refine fi_seq ?_
  refine fi_region ?_
  refine sv_box hs rfl (c := [(.str (pk a0)), (.int .i64 a1), v2]) rfl F18.inf27 (stc rfl (stc rfl (stc (g2 _ hs).stor stn))) nofun (fun id101 H102 hs => ?_)
  refine so_assign rfl ?_
  refine so_nil ?_
  refine fi_seq ?_
  refine fi_region ?_
  refine so_fieldAddr rfl F18.fd27_0 ?_
  refine sv_ld hs 0 rfl rfl rfl F18.ag9 ?_
  refine sv_call (impl_IsName_ok a0 hs  _ h) rfl rfl nofun ?_
  clear h hs
  rintro _ H105 ⟨y104, h, rfl, hs⟩
  refine so_move rfl ?_
  replace h := ofT h; rcases h with ⟨c106, h⟩ | ⟨c106, h⟩
  · refine so_gyes rfl c106 ?_
    refine so_fieldAddr rfl F18.fd27_1 ?_
    refine so_gyes rfl c106 ?_
    refine sv_ld hs 0 rfl rfl rfl F18.ag2 ?_
    refine so_gyes rfl c106 ?_
    refine sv_call (impl_within_ok a1 (1 : Int) (65535 : Int) hs  _ h) rfl rfl nofun ?_
    clear h hs
    rintro _ H108 ⟨y107, h, rfl, hs⟩
    refine so_pick_t rfl c106 rfl ?_
    refine so_move rfl ?_
    replace h := ofT h; rcases h with ⟨c109, h⟩ | ⟨c109, h⟩
    · refine so_gyes rfl c109 ?_
      refine so_fieldAddr rfl F18.fd27_2 ?_
      refine so_gyes rfl c109 ?_
      refine sv_ld hs 0 rfl rfl rfl F18.ag22 ?_
      refine so_gyes rfl c109 ?_
      refine sv_len (g2 _ hs.tl) (fun _ => rfl) (by decide) rfl F18.ti22 ?_
      refine so_gyes rfl c109 ?_
      refine sv_call (impl_within_ok (l2.length : Int) (1 : Int) (128 : Int) hs  _ h) rfl rfl nofun ?_
      clear h hs
      rintro _ H111 ⟨y110, h, rfl, hs⟩
      refine so_pick_t rfl c109 rfl ?_
      refine so_assign rfl ?_
      refine so_nil ?_
      exact by_ret rfl ⟨_, h, rfl, (Sep.del 0 hs)⟩
    · refine so_gno rfl c109 ?_
      refine so_gno rfl c109 ?_
      refine so_gno rfl c109 ?_
      refine so_gno rfl c109 ?_
      refine so_pick_f rfl c109 rfl ?_
      refine so_assign rfl ?_
      refine so_nil ?_
      exact by_ret rfl ⟨_, h, rfl, (Sep.del 0 hs)⟩
  · refine so_gno rfl c106 ?_
    refine so_gno rfl c106 ?_
    refine so_gno rfl c106 ?_
    refine so_pick_f rfl c106 rfl ?_
    refine so_move rfl ?_
    refine so_gno rfl rfl ?_
    refine so_gno rfl rfl ?_
    refine so_gno rfl rfl ?_
    refine so_gno rfl rfl ?_
    refine so_pick_f rfl rfl rfl ?_
    refine so_assign rfl ?_
    refine so_nil ?_
    exact by_ret rfl ⟨_, h, rfl, (Sep.del 0 hs)⟩

end Go.Proofs.Ytfieljajhmpbiaa.G

namespace Go.Proofs.Ytfieljajhmpbiaa.G
open Go Go.Ab Go.Proofs Go.Proofs.Ytfieljajhmpbiaa
set_option maxRecDepth 100000
set_option linter.unusedVariables false
set_option linter.unusedSimpArgs false
set_option maxHeartbeats 1000000
theorem F120.it2 : tint Try.prog 2 = some .i64 := by kernel_rfl
theorem F120.us135 : (Try.prog.underlying 135).isSome = true := by kernel_rfl
theorem impl_BitsOf_ok {fr : List Pc} {H : Heap} (a0 : Nat) (hs : Sep H (fr))  (K : Int → Prop) (h : impl_BitsOf.wp a0 K) : OkQ Try.prog 120 [(.v (.flt .f32 a0))] H (fun r H2 => ∃ (y0 : Int), K y0 ∧ r = (.v (.int .i64 y0)) ∧ Sep H2 (fr)) := by
  unfold impl_BitsOf.wp at h
  refine of_body Try.f120 F.hm Try.func120 rfl Try.call120 (by kernel_rfl) (by simp) ?_
  refine fi_seq ?_
  refine fi_region ?_
  refine so_assign rfl ?_
  refine so_nil ?_
  refine fi_seq ?_
  refine fi_seq ?_
  refine fi_region ?_
  refine so_move rfl ?_
  refine so_move rfl ?_
  refine so_bin rfl rfl ab_fneq ?_
  refine so_nil ?_
  replace h := ofT h; rcases h with ⟨c101, h⟩ | ⟨c101, h⟩
  · refine fi_true rfl c101 ?_
    refine fi_seq ?_
    refine fi_region ?_
    refine so_assign rfl ?_
    refine so_nil ?_
    exact by_ret rfl ⟨_, h, rfl, hs⟩
  · refine fi_false rfl c101 ?_
    refine fi_skip ?_
    refine fi_seq ?_
    refine fi_region ?_
    refine so_move rfl ?_
    refine sv_call (math_Float32bits_ok a0 hs  _ h) rfl rfl nofun ?_
    clear h hs
    rintro _ H103 ⟨y102, h, rfl, hs⟩
    refine sv_ii rfl F120.us135 F120.it2 ?_
    refine so_assign rfl ?_
    refine so_nil ?_
    exact by_ret rfl ⟨_, h, rfl, hs⟩

end Go.Proofs.Ytfieljajhmpbiaa.G

namespace Go.Proofs.Ytfieljajhmpbiaa.G
open Go Go.Ab Go.Proofs Go.Proofs.Ytfieljajhmpbiaa
set_option maxRecDepth 100000
set_option linter.unusedVariables false
set_option linter.unusedSimpArgs false
set_option maxHeartbeats 1000000
theorem F66.ag36 : tagg Try.prog 36 = some false := by kernel_rfl
theorem F66.it5 : tint Try.prog 5 = some .u8 := by kernel_rfl
theorem F66.sr9 : tstr Try.prog 9 = true := by kernel_rfl
theorem F66.sz5 : tsz Try.prog 5 = some 1 := by kernel_rfl
theorem F66.ta112_112 : tapp Try.prog 112 112 = some (1, 1) := by kernel_rfl
theorem F66.te112 : telem Try.prog 112 = some 5 := by kernel_rfl
theorem F66.ti22 : (telem Try.prog 22).isSome = true := by kernel_rfl
theorem F66.tl22 : (telem Try.prog 22).bind (tsz Try.prog) = some 1 := by kernel_rfl
theorem F66.us112 : (Try.prog.underlying 112).isSome = true := by kernel_rfl
theorem F66.us2 : (Try.prog.underlying 2).isSome = true := by kernel_rfl
theorem F66.us3 : (Try.prog.underlying 3).isSome = true := by kernel_rfl
theorem F66.ze5 : tzero Try.prog 5 = some [(.int .u8 (0 : Int))] := by kernel_rfl
theorem impl_packed_ok {fr : List Pc} {H : Heap} (v0 : AV) (l0 : List (Nat)) (hs : Sep H (fr)) (g0 : ∀ H, Sep H fr → Shows H v0 1 (enc (eFlt .f32) l0)) (K : (List UInt8) → Prop) (h : impl_packed.wp l0 K) : OkQ Try.prog 66 [(.v v0)] H (fun r H2 => ∃ (y0 : List UInt8), K y0 ∧ r = (.v (.str (pk y0))) ∧ Sep H2 (fr)) := by
  unfold impl_packed.wp at h
  refine of_body Try.f66 F.hm Try.func66 rfl Try.call66 (by kernel_rfl) (by simp) ?_
  refine fi_seq ?_
  refine fi_region ?_
  refine so_assign rfl ?_
  refine so_nil ?_
  refine fi_seq ?_
  refine fi_region ?_
  refine sv_bslice hs (eInt .u8) ([] : List (Int)) [] F66.te112 F66.sz5 F66.ze5 rfl rfl rfl rfl (fun _ => rfl) rfl (by decide) nofun (fun v101 H102 nv101 hs => ?_)
  refine so_assign rfl ?_
  refine so_assign rfl ?_
  refine so_nil ?_
  refine fi_seq ?_
  refine fi_seq ?_
  refine fi_region ?_
  refine so_move rfl ?_
  refine sv_len (g0 _ hs.tl) (fun _ => rfl) (by decide) rfl F66.ti22 ?_
  refine so_move rfl ?_
  refine so_nil ?_
  refine fi_block ?_
  refine fi_loop ?_
  refine fi_at [(3, (.v v101)), (4, (.v (.int .i64 (0 : Int)))), (12, (.v v0)), (13, (.v (.int .i64 (l0.length : Int)))), (14, (.v (.int .i64 (0 : Int))))] ⟨rfl, rfl, rfl, rfl, rfl, trivial⟩ ?_
  refine h (fun (out152 : List (Int)) (last154 : Int) (x155 : Int) => ∀ (s : Nat → TV) (H : Heap) (v153 : AV) (nv153 : v153 ≠ .nilsl), Sep H (Pc.osl v153 1 (enc (eInt .u8) out152) :: fr) → Fin _ _ (updL s [(3, (.v v153)), (4, (.v (.int .i64 last154))), (12, (.v v0)), (13, (.v (.int .i64 (l0.length : Int)))), (14, (.v (.int .i64 x155)))]) H _) ?_ _ _ _ nv101 hs
  intro out152 last154 x155 h s198 H199 v153 nv153 hs
  refine fi_inLoop ?_
  refine fi_seq ?_
  refine fi_region ?_
  refine so_bin rfl rfl ab_lss ?_
  refine so_nil ?_
  refine fi_seq ?_
  replace h := ofP h; rcases h with ⟨c156, h⟩ | ⟨c156, h⟩
  · refine fi_true rfl (decide_eq_true c156) ?_
    refine fi_skip ?_
    refine fi_seq ?_
    refine fi_block ?_
    refine fi_seq ?_
    refine fi_region ?_
    obtain ⟨c157, h⟩ := h
    refine sv_idx (g0 _ hs.tl) c157 (fun _ => rfl) (by decide) rfl rfl F66.tl22 ?_
    refine sv_cell (g0 _ hs.tl) c157 (0 : Nat) 0 (fun x => (AV.flt .f32 x)) (fun _ => rfl) (fun _ => rfl) rfl F66.ag36 ?_
    refine so_assign rfl ?_
    refine so_nil ?_
    refine fi_seq ?_
    refine fi_region ?_
    refine so_move rfl ?_
    refine sv_call (impl_BitsOf_ok (l0.getD (x155).toNat (0 : Nat)) hs  _ h) rfl rfl nofun ?_
    clear h hs
    rintro _ H159 ⟨y158, h, rfl, hs⟩
    refine so_assign rfl ?_
    refine so_nil ?_
    refine fi_seq ?_
    refine fi_region ?_
    refine so_move rfl ?_
    refine so_move rfl ?_
    refine so_bin rfl rfl ab_xor ?_
    refine so_assign rfl ?_
    refine so_nil ?_
    refine fi_seq ?_
    refine fi_region ?_
    refine so_move rfl ?_
    refine so_assign rfl ?_
    refine so_nil ?_
    refine fi_seq ?_
    refine fi_region ?_
    refine so_assign rfl ?_
    refine so_nil ?_
    refine fi_seq ?_
    refine fi_seq ?_
    refine fi_region ?_
    refine so_move rfl ?_
    refine so_assign rfl ?_
    refine so_nil ?_
    refine fi_block ?_
    refine fi_loop ?_
    refine fi_at [(3, (.v v153)), (4, (.v (.int .i64 y158))), (8, (.v (.int .i64 (ibits .xor .i64 y158 last154)))), (9, (.v (.int .i64 (4 : Int)))), (10, (.v (.int .i64 (ibits .xor .i64 y158 last154)))), (12, (.v v0)), (13, (.v (.int .i64 (l0.length : Int)))), (14, (.v (.int .i64 x155)))] ⟨rfl, rfl, rfl, rfl, rfl, rfl, rfl, rfl, trivial⟩ ?_
    refine h (fun (z161 : Int) (m162 : Int) => ∀ (s : Nat → TV) (H : Heap), Sep H (Pc.osl v153 1 (enc (eInt .u8) out152) :: fr) → Fin _ _ (updL s [(3, (.v v153)), (4, (.v (.int .i64 y158))), (8, (.v (.int .i64 (ibits .xor .i64 y158 last154)))), (9, (.v (.int .i64 z161))), (10, (.v (.int .i64 m162))), (12, (.v v0)), (13, (.v (.int .i64 (l0.length : Int)))), (14, (.v (.int .i64 x155)))]) H _) ?_ _ _ hs
    intro z161 m162 h s196 H197 hs
    refine fi_inLoop ?_
    refine fi_seq ?_
    refine fi_seq ?_
    refine fi_region ?_
    refine so_move rfl ?_
    refine so_bin rfl rfl ab_gtr ?_
    refine so_nil ?_
    replace h := ofP h; rcases h with ⟨c163, h⟩ | ⟨c163, h⟩
    · refine fi_true rfl (decide_eq_true c163) ?_
      refine fi_skip ?_
      refine fi_seq ?_
      refine fi_block ?_
      refine fi_region ?_
      refine so_move rfl ?_
      refine so_bin rfl rfl ab_sub ?_
      refine so_assign rfl ?_
      refine so_nil ?_
      refine fi_inBlock ?_
      refine fi_region ?_
      refine so_move rfl ?_
      refine so_bin rfl rfl (ab_shr (by decide)) ?_
      refine so_assign rfl ?_
      refine so_nil ?_
      exact fi_at [(3, (.v v153)), (4, (.v (.int .i64 y158))), (8, (.v (.int .i64 (ibits .xor .i64 y158 last154)))), (9, (.v (.int .i64 (IntKind.i64.wrap (z161 - (1 : Int)))))), (10, (.v (.int .i64 (Int.fdiv m162 (2 ^ (min ((8 : Int)).toNat IntKind.i64.bits)))))), (12, (.v v0)), (13, (.v (.int .i64 (l0.length : Int)))), (14, (.v (.int .i64 x155)))] ⟨rfl, rfl, rfl, rfl, rfl, rfl, rfl, rfl, trivial⟩ (h _ _  hs)
    · refine fi_false rfl (decide_eq_false c163) ?_
      refine fi_exit rfl ?_
      refine fi_seq ?_
      refine fi_region ?_
      refine so_move rfl ?_
      refine so_move rfl ?_
      refine sv_ii rfl F66.us3 F66.it5 ?_
      refine sv_bslice hs (eInt .u8) ([(IntKind.u8.wrap z161)] : List (Int)) [[(.int .u8 (IntKind.u8.wrap z161))]] F66.te112 F66.sz5 F66.ze5 rfl rfl rfl rfl (fun _ => rfl) rfl (by decide) nofun (fun v164 H165 nv164 hs => ?_)
      obtain ⟨c169, h⟩ := h
      refine sv_app hs 1 rfl (hs.shows 0 rfl) (fun _ => rfl) (by decide) F66.ta112_112 (by decide) c169 rfl rfl nofun (fun v167 H168 kv167 hs => ?_)
      replace hs := hs.del 0
      have nv167 := kv167 nv153
      refine so_assign rfl ?_
      refine so_nil ?_
      refine fi_seq ?_
      refine fi_region ?_
      refine so_move rfl ?_
      refine so_bin rfl rfl ab_sub ?_
      refine so_move rfl ?_
      refine so_nil ?_
      refine fi_block ?_
      refine fi_loop ?_
      refine fi_at [(3, (.v v167)), (4, (.v (.int .i64 y158))), (8, (.v (.int .i64 (ibits .xor .i64 y158 last154)))), (12, (.v v0)), (13, (.v (.int .i64 (l0.length : Int)))), (14, (.v (.int .i64 x155))), (37, (.v (.int .i64 (IntKind.i64.wrap ((4 : Int) - z161))))), (38, (.v (.int .i64 (0 : Int))))] ⟨rfl, rfl, rfl, rfl, rfl, rfl, rfl, rfl, trivial⟩ ?_
      refine h (fun (out183 : List (Int)) (more185 : Int) (x186 : Int) => ∀ (s : Nat → TV) (H : Heap) (v184 : AV) (nv184 : v184 ≠ .nilsl), Sep H (Pc.osl v184 1 (enc (eInt .u8) out183) :: fr) → Fin _ _ (updL s [(3, (.v v184)), (4, (.v (.int .i64 y158))), (8, (.v (.int .i64 more185))), (12, (.v v0)), (13, (.v (.int .i64 (l0.length : Int)))), (14, (.v (.int .i64 x155))), (37, (.v (.int .i64 (IntKind.i64.wrap ((4 : Int) - z161))))), (38, (.v (.int .i64 x186)))]) H _) ?_ _ _ _ nv167 hs
      intro out183 more185 x186 h s194 H195 v184 nv184 hs
      refine fi_inLoop ?_
      refine fi_seq ?_
      refine fi_region ?_
      refine so_bin rfl rfl ab_lss ?_
      refine so_nil ?_
      refine fi_seq ?_
      replace h := ofP h; rcases h with ⟨c187, h⟩ | ⟨c187, h⟩
      · refine fi_true rfl (decide_eq_true c187) ?_
        refine fi_skip ?_
        refine fi_seq ?_
        refine fi_block ?_
        refine fi_seq ?_
        refine fi_region ?_
        refine so_move rfl ?_
        refine so_move rfl ?_
        refine sv_ii rfl F66.us2 F66.it5 ?_
        refine sv_bslice hs (eInt .u8) ([(IntKind.u8.wrap more185)] : List (Int)) [[(.int .u8 (IntKind.u8.wrap more185))]] F66.te112 F66.sz5 F66.ze5 rfl rfl rfl rfl (fun _ => rfl) rfl (by decide) nofun (fun v188 H189 nv188 hs => ?_)
        obtain ⟨c193, h⟩ := h
        refine sv_app hs 1 rfl (hs.shows 0 rfl) (fun _ => rfl) (by decide) F66.ta112_112 (by decide) c193 rfl rfl nofun (fun v191 H192 kv191 hs => ?_)
        replace hs := hs.del 0
        have nv191 := kv191 nv184
        refine so_assign rfl ?_
        refine so_nil ?_
        refine fi_region ?_
        refine so_move rfl ?_
        refine so_bin rfl rfl (ab_shr (by decide)) ?_
        refine so_assign rfl ?_
        refine so_nil ?_
        refine fi_inBlock ?_
        refine fi_region ?_
        refine so_bin rfl rfl ab_add ?_
        refine so_move rfl ?_
        refine so_nil ?_
        exact fi_at [(3, (.v v191)), (4, (.v (.int .i64 y158))), (8, (.v (.int .i64 (Int.fdiv more185 (2 ^ (min ((8 : Int)).toNat IntKind.i64.bits)))))), (12, (.v v0)), (13, (.v (.int .i64 (l0.length : Int)))), (14, (.v (.int .i64 x155))), (37, (.v (.int .i64 (IntKind.i64.wrap ((4 : Int) - z161))))), (38, (.v (.int .i64 (IntKind.i64.wrap (x186 + (1 : Int))))))] ⟨rfl, rfl, rfl, rfl, rfl, rfl, rfl, rfl, trivial⟩ (h _ _ _ nv191 hs)
      · refine fi_false rfl (decide_eq_false c187) ?_
        refine fi_exit rfl ?_
        refine fi_inBlock ?_
        refine fi_region ?_
        refine so_bin rfl rfl ab_add ?_
        refine so_move rfl ?_
        refine so_nil ?_
        exact fi_at [(3, (.v v184)), (4, (.v (.int .i64 y158))), (12, (.v v0)), (13, (.v (.int .i64 (l0.length : Int)))), (14, (.v (.int .i64 (IntKind.i64.wrap (x155 + (1 : Int))))))] ⟨rfl, rfl, rfl, rfl, rfl, trivial⟩ (h _ _ _ nv184 hs)
  · refine fi_false rfl (decide_eq_false c156) ?_
    refine fi_exit rfl ?_
    refine fi_seq ?_
    refine fi_region ?_
    refine so_move rfl ?_
    refine sv_bs (hs.shows 0 rfl) nv153 rfl F66.te112 F66.it5 F66.sr9 ?_
    refine so_assign rfl ?_
    refine so_nil ?_
    exact by_ret rfl ⟨_, h, rfl, (Sep.del 0 hs)⟩

end Go.Proofs.Ytfieljajhmpbiaa.G

namespace Go.Proofs.Ytfieljajhmpbiaa.G
open Go Go.Ab Go.Proofs Go.Proofs.Ytfieljajhmpbiaa
set_option maxRecDepth 100000
set_option linter.unusedVariables false
set_option linter.unusedSimpArgs false
set_option maxHeartbeats 1000000
theorem F95.it5 : tint Try.prog 5 = some .u8 := by kernel_rfl
theorem F95.sz5 : tsz Try.prog 5 = some 1 := by kernel_rfl
theorem F95.te112 : telem Try.prog 112 = some 5 := by kernel_rfl
theorem F95.us2 : (Try.prog.underlying 2).isSome = true := by kernel_rfl
theorem F95.ze5 : tzero Try.prog 5 = some [(.int .u8 (0 : Int))] := by kernel_rfl
theorem impl_lowBytes_ok {fr : List Pc} {H : Heap} (a0 : Int) (hs : Sep H (fr))  (K : (List (Int)) → Prop) (h : impl_lowBytes.wp a0 K) : OkQ Try.prog 95 [(.v (.int .i64 a0))] H (fun r H2 => ∃ (y0 : List (Int)), K y0 ∧ ∃ (w0_ : AV), r = (.v w0_) ∧ Sep H2 (Pc.osl w0_ 1 (enc (eInt .u8) y0) :: fr)) := by
  unfold impl_lowBytes.wp at h
  refine of_body Try.f95 F.hm Try.func95 rfl Try.call95 (by kernel_rfl) (by simp) ?_
  refine fi_seq ?_
  refine fi_region ?_
  refine so_assign rfl ?_
  refine so_nil ?_
  refine fi_seq ?_
  refine fi_region ?_
  refine so_move rfl ?_
  refine sv_ii rfl F95.us2 F95.it5 ?_
  refine so_move rfl ?_
  refine so_bin rfl rfl (ab_shr (by decide)) ?_
  refine sv_ii rfl F95.us2 F95.it5 ?_
  refine sv_bslice hs (eInt .u8) ([(IntKind.u8.wrap a0), (IntKind.u8.wrap (Int.fdiv a0 (2 ^ (min ((8 : Int)).toNat IntKind.i64.bits))))] : List (Int)) [[(.int .u8 (IntKind.u8.wrap a0))], [(.int .u8 (IntKind.u8.wrap (Int.fdiv a0 (2 ^ (min ((8 : Int)).toNat IntKind.i64.bits)))))]] F95.te112 F95.sz5 F95.ze5 rfl rfl rfl rfl (fun _ => rfl) rfl (by decide) nofun (fun v101 H102 nv101 hs => ?_)
  refine so_assign rfl ?_
  refine so_nil ?_
  exact by_ret rfl ⟨_, h, _, rfl, hs⟩

end Go.Proofs.Ytfieljajhmpbiaa.G

namespace Go.Proofs.Ytfieljajhmpbiaa.G
open Go Go.Ab Go.Proofs Go.Proofs.Ytfieljajhmpbiaa
set_option maxRecDepth 100000
set_option linter.unusedVariables false
set_option linter.unusedSimpArgs false
set_option maxHeartbeats 1000000
theorem F96.it2 : tint Try.prog 2 = some .i64 := by kernel_rfl
theorem F96.sr9 : tstr Try.prog 9 = true := by kernel_rfl
theorem F96.us5 : (Try.prog.underlying 5).isSome = true := by kernel_rfl
theorem impl_CheckOf_ok {fr : List Pc} {H : Heap} (a0 : Int) (a1 : List UInt8) (hs : Sep H (fr))  (K : Int → Bool → Prop) (h : impl_CheckOf.wp a0 a1 K) : OkQ Try.prog 96 [(.v (.int .i64 a0)), (.v (.str (pk a1)))] H (fun r H2 => ∃ (y0 : Int) (y1 : Bool), K y0 y1 ∧ r = (.t [(.v (.int .i64 y0)), (.v (.bool y1))]) ∧ Sep H2 (fr)) := by
  unfold impl_CheckOf.wp at h
  refine of_body Try.f96 F.hm Try.func96 rfl Try.call96 (by kernel_rfl) (by simp) ?_
  refine fi_seq ?_
  refine fi_region ?_
  refine so_assign rfl ?_
  refine so_assign rfl ?_
  refine so_nil ?_
  refine fi_seq ?_
  refine fi_seq ?_
  refine fi_region ?_
  refine so_move rfl ?_
  refine sv_call (impl_within_ok a0 (0 : Int) (65002 : Int) hs  _ h) rfl rfl nofun ?_
  clear h hs
  rintro _ H102 ⟨y101, h, rfl, hs⟩
  refine so_un rfl au_not ?_
  refine so_nil ?_
  replace h := ofT h; rcases h with ⟨c103, h⟩ | ⟨c103, h⟩
  · refine fi_false rfl (not_f c103) ?_
    refine fi_skip ?_
    refine fi_seq ?_
    refine fi_seq ?_
    refine fi_region ?_
    refine so_move rfl ?_
    refine so_slen rfl F96.sr9 ?_
    refine so_move rfl ?_
    refine so_nil ?_
    refine fi_block ?_
    refine fi_loop ?_
    refine fi_at [(0, (.v (.int .i64 a0))), (1, (.v (.str (pk a1)))), (11, (.v (.int .i64 (a1.length : Int)))), (12, (.v (.int .i64 (0 : Int))))] ⟨rfl, rfl, rfl, rfl, trivial⟩ ?_
    refine h (fun (start105 : Int) (x106 : Int) => ∀ (s : Nat → TV) (H : Heap), Sep H (fr) → Fin _ _ (updL s [(0, (.v (.int .i64 start105))), (1, (.v (.str (pk a1)))), (11, (.v (.int .i64 (a1.length : Int)))), (12, (.v (.int .i64 x106)))]) H _) ?_ _ _ hs
    intro start105 x106 h s109 H110 hs
    refine fi_inLoop ?_
    refine fi_seq ?_
    refine fi_region ?_
    refine so_bin rfl rfl ab_lss ?_
    refine so_nil ?_
    refine fi_seq ?_
    replace h := ofP h; rcases h with ⟨c107, h⟩ | ⟨c107, h⟩
    · refine fi_true rfl (decide_eq_true c107) ?_
      refine fi_skip ?_
      refine fi_seq ?_
      refine fi_block ?_
      refine fi_seq ?_
      refine fi_region ?_
      refine so_move rfl ?_
      refine so_assign rfl ?_
      refine so_nil ?_
      refine fi_region ?_
      refine so_move rfl ?_
      refine so_bin rfl rfl ab_mul ?_
      refine so_move rfl ?_
      refine so_move rfl ?_
      obtain ⟨c108, h⟩ := h
      refine so_index rfl rfl F96.sr9 c108 ?_
      refine sv_ii rfl F96.us5 F96.it2 ?_
      refine so_bin rfl rfl ab_add ?_
      refine so_bin rfl rfl ab_add ?_
      refine so_bin rfl rfl (ab_rem (by decide)) ?_
      refine so_assign rfl ?_
      refine so_nil ?_
      refine fi_inBlock ?_
      refine fi_region ?_
      refine so_bin rfl rfl ab_add ?_
      refine so_move rfl ?_
      refine so_nil ?_
      exact fi_at [(0, (.v (.int .i64 (Int.tmod (IntKind.i64.wrap ((IntKind.i64.wrap ((IntKind.i64.wrap ((853 : Int) * start105)) + (IntKind.i64.wrap (bt a1 x106)))) + (139 : Int))) (65003 : Int))))), (1, (.v (.str (pk a1)))), (11, (.v (.int .i64 (a1.length : Int)))), (12, (.v (.int .i64 (IntKind.i64.wrap (x106 + (1 : Int))))))] ⟨rfl, rfl, rfl, rfl, trivial⟩ (h _ _  hs)
    · refine fi_false rfl (decide_eq_false c107) ?_
      refine fi_exit rfl ?_
      refine fi_seq ?_
      refine fi_region ?_
      refine so_move rfl ?_
      refine so_assign rfl ?_
      refine so_assign rfl ?_
      refine so_nil ?_
      exact by_ret rfl ⟨_, _, h, rfl, hs⟩
  · refine fi_true rfl (not_t c103) ?_
    refine fi_seq ?_
    refine fi_region ?_
    refine so_assign rfl ?_
    refine so_assign rfl ?_
    refine so_nil ?_
    exact by_ret rfl ⟨_, _, h, rfl, hs⟩

end Go.Proofs.Ytfieljajhmpbiaa.G

namespace Go.Proofs.Ytfieljajhmpbiaa.G
open Go Go.Ab Go.Proofs Go.Proofs.Ytfieljajhmpbiaa
set_option maxRecDepth 100000
set_option linter.unusedVariables false
set_option linter.unusedSimpArgs false
set_option maxHeartbeats 1000000
theorem F50.ag2 : tagg Try.prog 2 = some false := by kernel_rfl
theorem F50.ag22 : tagg Try.prog 22 = some false := by kernel_rfl
theorem F50.ag27 : tagg Try.prog 27 = some true := by kernel_rfl
theorem F50.ag9 : tagg Try.prog 9 = some false := by kernel_rfl
theorem F50.fd27_0 : tfield Try.prog 27 0 = some (0, 1, false) := by kernel_rfl
theorem F50.fd27_1 : tfield Try.prog 27 1 = some (1, 1, false) := by kernel_rfl
theorem F50.fd27_2 : tfield Try.prog 27 2 = some (2, 1, false) := by kernel_rfl
theorem F50.inf27 : (Try.prog.info? 27).isSome = true := by kernel_rfl
theorem F50.it5 : tint Try.prog 5 = some .u8 := by kernel_rfl
theorem F50.ns112 : tstr Try.prog 112 = false := by kernel_rfl
theorem F50.sr9 : tstr Try.prog 9 = true := by kernel_rfl
theorem F50.sz27 : tsz Try.prog 27 = some 3 := by kernel_rfl
theorem F50.sz5 : tsz Try.prog 5 = some 1 := by kernel_rfl
theorem F50.ta112_112 : tapp Try.prog 112 112 = some (1, 1) := by kernel_rfl
theorem F50.ta112_9 : tapp Try.prog 112 9 = some (1, 1) := by kernel_rfl
theorem F50.te112 : telem Try.prog 112 = some 5 := by kernel_rfl
theorem F50.us112 : (Try.prog.underlying 112).isSome = true := by kernel_rfl
theorem F50.us3 : (Try.prog.underlying 3).isSome = true := by kernel_rfl
theorem F50.ze5 : tzero Try.prog 5 = some [(.int .u8 (0 : Int))] := by kernel_rfl
theorem impl_StoreTake_ok {fr : List Pc} {H : Heap} (a0 : List UInt8) (a1 : Int) (v2 : AV) (l2 : List (Nat)) (hs : Sep H (fr)) (g2 : ∀ H, Sep H fr → Shows H v2 1 (enc (eFlt .f32) l2)) (K : (List UInt8) → Bool → Prop) (h : impl_StoreTake.wp a0 a1 l2 K) : OkQ Try.prog 50 [(.g [(.str (pk a0)), (.int .i64 a1), v2])] H (fun r H2 => ∃ (y0 : List UInt8) (y1 : Bool), K y0 y1 ∧ r = (.t [(.v (.str (pk y0))), (.v (.bool y1))]) ∧ Sep H2 (fr)) := by
  unfold impl_StoreTake.wp at h
  refine of_body Try.f50 F.hm Try.func50 rfl Try.call50 (by kernel_rfl) (by simp) ?_
  refine fi_seq ?_
  refine fi_region ?_
  refine sv_box hs rfl (c := [(.str (pk a0)), (.int .i64 a1), v2]) rfl F50.inf27 (stc rfl (stc rfl (stc (g2 _ hs).stor stn))) nofun (fun id101 H102 hs => ?_)
  refine so_assign rfl ?_
  refine so_assign rfl ?_
  refine so_nil ?_
  refine fi_seq ?_
  refine fi_seq ?_
  refine fi_region ?_
  refine sv_lds hs 0 rfl rfl (leb rfl) rfl F50.ag27 F50.sz27 ?_
  refine sv_call (impl_ValidTake_ok a0 a1 v2 l2 hs (fun _ hs => (g2 _ hs.tl)) _ h) rfl rfl nofun ?_
  clear h hs
  rintro _ H105 ⟨y104, h, rfl, hs⟩
  refine so_un rfl au_not ?_
  refine so_nil ?_
  replace h := ofT h; rcases h with ⟨c106, h⟩ | ⟨c106, h⟩
  · refine fi_false rfl (not_f c106) ?_
    refine fi_skip ?_
    refine fi_seq ?_
    refine fi_region ?_
    refine so_fieldAddr rfl F50.fd27_2 ?_
    refine sv_ld hs 0 rfl rfl rfl F50.ag22 ?_
    refine sv_call (impl_packed_ok v2 l2 hs (fun _ hs => (g2 _ hs.tl)) _ h) rfl rfl nofun ?_
    clear h hs
    rintro _ H108 ⟨y107, h, rfl, hs⟩
    refine so_assign rfl ?_
    refine so_nil ?_
    refine fi_seq ?_
    refine fi_region ?_
    refine sv_bslice hs (eInt .u8) ([(84 : Int), (65 : Int), (75 : Int), (49 : Int)] : List (Int)) [[(.int .u8 (84 : Int))], [(.int .u8 (65 : Int))], [(.int .u8 (75 : Int))], [(.int .u8 (49 : Int))]] F50.te112 F50.sz5 F50.ze5 rfl rfl rfl rfl (fun _ => rfl) rfl (by decide) nofun (fun v109 H110 nv109 hs => ?_)
    obtain ⟨c112, h⟩ := h
    refine sv_bb hs 0 rfl c112 rfl F50.te112 F50.it5 F50.ns112 ?_
    refine so_fieldAddr rfl F50.fd27_0 ?_
    refine sv_ld hs 1 rfl rfl rfl F50.ag9 ?_
    refine so_slen rfl F50.sr9 ?_
    refine sv_ii rfl F50.us3 F50.it5 ?_
    refine sv_bslice hs (eInt .u8) ([(IntKind.u8.wrap (a0.length : Int))] : List (Int)) [[(.int .u8 (IntKind.u8.wrap (a0.length : Int)))]] F50.te112 F50.sz5 F50.ze5 rfl rfl rfl rfl (fun _ => rfl) rfl (by decide) nofun (fun v113 H114 nv113 hs => ?_)
    obtain ⟨c118, h⟩ := h
    refine sv_app hs 1 rfl (hs.shows 0 rfl) (fun _ => rfl) (by decide) F50.ta112_112 (by decide) c118 rfl rfl nofun (fun v116 H117 kv116 hs => ?_)
    replace hs := hs.del 0
    have nv116 := kv116 nv109
    refine so_assign rfl ?_
    refine so_nil ?_
    refine fi_seq ?_
    refine fi_free [5] ?_
    refine wf_pure rfl ?_
    refine so_move rfl ?_
    refine so_end ?_
    refine wf_pure rfl ?_
    refine so_fieldAddr rfl F50.fd27_0 ?_
    refine so_end ?_
    refine wf_same (by decide +kernel) ?_
    refine sv_ld hs 1 rfl rfl rfl F50.ag9 ?_
    refine so_end ⟨rfl, ?_⟩
    have hs0_ := hs
    refine wf_chg (by kernel_rfl) ?_
    obtain ⟨c121, h⟩ := h
    refine sv_apps hs 0 rfl F50.ta112_9 (by decide) c121 rfl rfl nofun (fun v119 H120 kv119 hs => ?_)
    have nv119 := kv119 nv116
    refine so_end ⟨fan, ?_⟩
    refine wf_pure rfl ?_
    refine so_fieldAddr rfl F50.fd27_1 ?_
    refine so_end ?_
    refine wf_free (.v (.int .i64 a1)) rfl (fac (stepr (i := 0) rfl (by refine sv_ld hs 1 rfl rfl rfl F50.ag2 ?_; exact so_end ⟨rfl, rfl⟩)) (fac (stepr (i := 0) rfl (by refine sv_ld hs0_ 1 rfl rfl rfl F50.ag2 ?_; exact so_end ⟨rfl, rfl⟩)) fan)) ?_
    have hs1_ := hs
    refine wf_chg (by kernel_rfl) ?_
    refine sv_call (impl_lowBytes_ok a1 hs  _ h) rfl rfl nofun ?_
    clear h
    rintro _ H125 ⟨y122, h, v123, rfl, hs⟩
    refine so_end ⟨(fac (stepr (i := 0) rfl (by refine sv_ld hs 2 rfl rfl rfl F50.ag2 ?_; exact so_end ⟨rfl, rfl⟩)) fan), ?_⟩
    have hs2_ := hs
    refine wf_chg (by kernel_rfl) ?_
    obtain ⟨c128, h⟩ := h
    refine sv_app hs 1 rfl (hs.shows 0 rfl) (fun _ => rfl) (by decide) F50.ta112_112 (by decide) c128 rfl rfl nofun (fun v126 H127 kv126 hs => ?_)
    have nv126 := kv126 nv119
    refine so_end ⟨(fac (stepr (i := 0) rfl (by refine sv_ld hs 2 rfl rfl rfl F50.ag2 ?_; exact so_end ⟨rfl, rfl⟩)) fan), ?_⟩
    refine wf_pure rfl ?_
    refine so_assign rfl ?_
    refine so_end ?_
    refine wf_nil ?_
    refine fi_seq ?_
    refine fi_region ?_
    refine so_move rfl ?_
    refine so_move rfl ?_
    refine so_slen rfl F50.sr9 ?_
    refine sv_call (impl_lowBytes_ok (y107.length : Int) hs  _ h) rfl rfl nofun ?_
    clear h hs
    rintro _ H132 ⟨y129, h, v130, rfl, hs⟩
    obtain ⟨c135, h⟩ := h
    refine sv_app hs 2 rfl (hs.shows 0 rfl) (fun _ => rfl) (by decide) F50.ta112_112 (by decide) c135 rfl rfl nofun (fun v133 H134 kv133 hs => ?_)
    have nv133 := kv133 nv126
    refine so_move rfl ?_
    obtain ⟨c138, h⟩ := h
    refine sv_apps hs 2 rfl F50.ta112_9 (by decide) c138 rfl rfl nofun (fun v136 H137 kv136 hs => ?_)
    have nv136 := kv136 nv133
    refine so_assign rfl ?_
    refine so_nil ?_
    refine fi_seq ?_
    refine fi_region ?_
    refine so_move rfl ?_
    refine sv_bs (hs.shows 2 rfl) nv136 rfl F50.te112 F50.it5 F50.sr9 ?_
    refine sv_call (impl_CheckOf_ok (0 : Int) (byts (((((([(84 : Int), (65 : Int), (75 : Int), (49 : Int)] : List (Int)) ++ ([(IntKind.u8.wrap (a0.length : Int))] : List (Int))) ++ nums a0) ++ y122) ++ y129) ++ nums y107)) hs  _ h) rfl rfl nofun ?_
    clear h hs
    rintro _ H141 ⟨y139, y140, h, rfl, hs⟩
    refine so_move rfl ?_
    refine so_extract rfl rfl rfl ?_
    refine so_extract rfl rfl rfl ?_
    refine so_assign rfl ?_
    refine so_assign rfl ?_
    refine so_nil ?_
    refine fi_seq ?_
    refine fi_region ?_
    refine so_move rfl ?_
    refine so_move rfl ?_
    refine sv_call (impl_lowBytes_ok y139 hs  _ h) rfl rfl nofun ?_
    clear h hs
    rintro _ H145 ⟨y142, h, v143, rfl, hs⟩
    obtain ⟨c148, h⟩ := h
    refine sv_app hs 3 rfl (hs.shows 0 rfl) (fun _ => rfl) (by decide) F50.ta112_112 (by decide) c148 rfl rfl nofun (fun v146 H147 kv146 hs => ?_)
    have nv146 := kv146 nv136
    refine sv_bs (hs.shows 3 rfl) nv146 rfl F50.te112 F50.it5 F50.sr9 ?_
    refine so_assign rfl ?_
    refine so_assign rfl ?_
    refine so_nil ?_
    exact by_ret rfl ⟨_, _, h, rfl, (Sep.del 0 (Sep.del 0 (Sep.del 0 (Sep.del 0 (Sep.del 0 hs)))))⟩
  · refine fi_true rfl (not_t c106) ?_
    refine fi_seq ?_
    refine fi_region ?_
    refine so_assign rfl ?_
    refine so_assign rfl ?_
    refine so_nil ?_
    exact by_ret rfl ⟨_, _, h, rfl, (Sep.del 0 hs)⟩

end Go.Proofs.Ytfieljajhmpbiaa.G

namespace Go.Proofs.Ytfieljajhmpbiaa.G
open Go Go.Ab Go.Proofs Go.Proofs.Ytfieljajhmpbiaa
set_option maxRecDepth 100000
set_option linter.unusedVariables false
set_option linter.unusedSimpArgs false
set_option maxHeartbeats 1000000
theorem F59.ag27 : tagg Try.prog 27 = some true := by kernel_rfl
theorem F59.sz27 : tsz Try.prog 27 = some 3 := by kernel_rfl
theorem F59.ti62 : (telem Try.prog 62).isSome = true := by kernel_rfl
theorem F59.tl62 : (telem Try.prog 62).bind (tsz Try.prog) = some 3 := by kernel_rfl
theorem F59.ze27 : tzero Try.prog 27 = some [(.str (pk ([] : List UInt8))), (.int .i64 (0 : Int)), .nilsl] := by kernel_rfl
theorem impl_StoreTakes_ok {fr : List Pc} {H : Heap} (v0 : AV) (w0 : List (List AV)) (l0 : List ((List UInt8) × (Int) × (List (Nat)))) (hs : Sep H (fr)) (g0 : ∀ H, Sep H fr → DSh H v0 3 R_s_ii64_LeFlt_f32_poooq l0 w0) (K : (List UInt8) → Bool → Prop) (h : impl_StoreTakes.wp l0 K) : OkQ Try.prog 59 [(.v v0)] H (fun r H2 => ∃ (y0 : List UInt8) (y1 : Bool), K y0 y1 ∧ r = (.t [(.v (.str (pk y0))), (.v (.bool y1))]) ∧ Sep H2 (fr)) := by
  unfold impl_StoreTakes.wp at h
  refine of_body Try.f59 F.hm Try.func59 rfl Try.call59 (by kernel_rfl) (by simp) ?_
  refine fi_seq ?_
  refine fi_region ?_
  refine so_assign rfl ?_
  refine so_assign rfl ?_
  refine so_nil ?_
  refine fi_seq ?_
  refine fi_seq ?_
  refine fi_region ?_
  refine so_move rfl ?_
  refine sd_len ((g0 _ hs) : DSh _ _ 3 R_s_ii64_LeFlt_f32_poooq l0 w0) (by decide) rfl F59.ti62 ?_
  refine so_bin rfl rfl ab_gtr ?_
  refine so_nil ?_
  replace h := ofP h; rcases h with ⟨c101, h⟩ | ⟨c101, h⟩
  · refine fi_true rfl (decide_eq_true c101) ?_
    refine fi_seq ?_
    refine fi_region ?_
    refine so_assign rfl ?_
    refine so_assign rfl ?_
    refine so_nil ?_
    exact by_ret rfl ⟨_, _, h, rfl, hs⟩
  · refine fi_false rfl (decide_eq_false c101) ?_
    refine fi_skip ?_
    refine fi_seq ?_
    refine fi_region ?_
    refine so_assign rfl ?_
    refine so_nil ?_
    refine fi_seq ?_
    refine fi_seq ?_
    refine fi_region ?_
    refine so_move rfl ?_
    refine sd_len ((g0 _ hs) : DSh _ _ 3 R_s_ii64_LeFlt_f32_poooq l0 w0) (by decide) rfl F59.ti62 ?_
    refine so_move rfl ?_
    refine so_nil ?_
    refine fi_block ?_
    refine fi_loop ?_
    refine fi_at [(4, (.v (.str (pk ([] : List UInt8))))), (12, (.v v0)), (13, (.v (.int .i64 (l0.length : Int)))), (14, (.v (.int .i64 (0 : Int))))] ⟨rfl, rfl, rfl, rfl, trivial⟩ ?_
    refine h (fun (out103 : List UInt8) (x104 : Int) => ∀ (s : Nat → TV) (H : Heap), Sep H (fr) → Fin _ _ (updL s [(4, (.v (.str (pk out103)))), (12, (.v v0)), (13, (.v (.int .i64 (l0.length : Int)))), (14, (.v (.int .i64 x104)))]) H _) ?_ _ _ hs
    intro out103 x104 h s116 H117 hs
    refine fi_inLoop ?_
    refine fi_seq ?_
    refine fi_region ?_
    refine so_bin rfl rfl ab_lss ?_
    refine so_nil ?_
    refine fi_seq ?_
    replace h := ofP h; rcases h with ⟨c105, h⟩ | ⟨c105, h⟩
    · refine fi_true rfl (decide_eq_true c105) ?_
      refine fi_skip ?_
      refine fi_seq ?_
      refine fi_block ?_
      refine fi_seq ?_
      refine fi_region ?_
      obtain ⟨c106, h⟩ := h
      refine sd_idx ((g0 _ hs) : DSh _ _ 3 R_s_ii64_LeFlt_f32_poooq l0 w0) c106 (([] : List UInt8), (0 : Int), ([] : List (Nat))) (by decide) rfl rfl F59.tl62 ?_
      refine su_lds ((((g0 _ hs) : DSh _ _ 3 R_s_ii64_LeFlt_f32_poooq l0 w0)).at (by decide) c106 (([] : List UInt8), (0 : Int), ([] : List (Nat)))).2.2 0 3 (lenc ((((g0 _ hs) : DSh _ _ 3 R_s_ii64_LeFlt_f32_poooq l0 w0)).at (by decide) c106 (([] : List UInt8), (0 : Int), ([] : List (Nat)))).2.1.1 (by simp)) (by decide) (whole ((((g0 _ hs) : DSh _ _ 3 R_s_ii64_LeFlt_f32_poooq l0 w0)).at (by decide) c106 (([] : List UInt8), (0 : Int), ([] : List (Nat)))).2.1.1 (by rfl)) rfl F59.ag27 F59.sz27 ?_
      refine sv_alloc hs F59.ze27 rfl nofun (fun id107 H108 hs => ?_)
      refine sv_st hs 0 rfl rfl rfl (c := [(.str (pk (l0.getD (x104).toNat (([] : List UInt8), (0 : Int), ([] : List (Nat)))).1)), (.int .i64 (l0.getD (x104).toNat (([] : List UInt8), (0 : Int), ([] : List (Nat)))).2.1), ((w0.getD (x104).toNat []).getD 2 .und)]) rfl F59.sz27 rfl (stc rfl (stc rfl (stc ((((g0 _ hs.tl) : DSh _ _ 3 R_s_ii64_LeFlt_f32_poooq l0 w0)).at (by decide) c106 (([] : List UInt8), (0 : Int), ([] : List (Nat)))).2.1.2.stor stn))) (leb rfl) (cs' := [(.str (pk (l0.getD (x104).toNat (([] : List UInt8), (0 : Int), ([] : List (Nat)))).1)), (.int .i64 (l0.getD (x104).toNat (([] : List UInt8), (0 : Int), ([] : List (Nat)))).2.1), ((w0.getD (x104).toNat []).getD 2 .und)]) rfl nofun (fun H110 hs => ?_)
      refine so_nil ?_
      refine fi_seq ?_
      refine fi_region ?_
      refine sv_lds hs 0 rfl rfl (leb rfl) rfl F59.ag27 F59.sz27 ?_
      refine sv_call (impl_StoreTake_ok (l0.getD (x104).toNat (([] : List UInt8), (0 : Int), ([] : List (Nat)))).1 (l0.getD (x104).toNat (([] : List UInt8), (0 : Int), ([] : List (Nat)))).2.1 ((w0.getD (x104).toNat []).getD 2 .und) (l0.getD (x104).toNat (([] : List UInt8), (0 : Int), ([] : List (Nat)))).2.2 hs (fun _ hs => ((((g0 _ hs.tl) : DSh _ _ 3 R_s_ii64_LeFlt_f32_poooq l0 w0)).at (by decide) c106 (([] : List UInt8), (0 : Int), ([] : List (Nat)))).2.1.2) _ h) rfl rfl nofun ?_
      clear h hs
      rintro _ H113 ⟨y111, y112, h, rfl, hs⟩
      refine so_move rfl ?_
      refine so_extract rfl rfl rfl ?_
      refine so_extract rfl rfl rfl ?_
      refine so_assign rfl ?_
      refine so_assign rfl ?_
      refine so_nil ?_
      refine fi_seq ?_
      refine fi_seq ?_
      refine fi_region ?_
      refine so_move rfl ?_
      refine so_un rfl au_not ?_
      refine so_nil ?_
      replace h := ofT h; rcases h with ⟨c114, h⟩ | ⟨c114, h⟩
      · refine fi_false rfl (not_f c114) ?_
        refine fi_skip ?_
        refine fi_region ?_
        refine so_move rfl ?_
        refine so_move rfl ?_
        obtain ⟨c115, h⟩ := h
        refine so_bin rfl rfl (ab_sadd c115) ?_
        refine so_assign rfl ?_
        refine so_nil ?_
        refine fi_inBlock ?_
        refine fi_region ?_
        refine so_bin rfl rfl ab_add ?_
        refine so_move rfl ?_
        refine so_nil ?_
        exact fi_at [(4, (.v (.str (pk (out103 ++ y111))))), (12, (.v v0)), (13, (.v (.int .i64 (l0.length : Int)))), (14, (.v (.int .i64 (IntKind.i64.wrap (x104 + (1 : Int))))))] ⟨rfl, rfl, rfl, rfl, trivial⟩ (h _ _  (Sep.del 0 hs))
      · refine fi_true rfl (not_t c114) ?_
        refine fi_seq ?_
        refine fi_region ?_
        refine so_assign rfl ?_
        refine so_assign rfl ?_
        refine so_nil ?_
        exact by_ret rfl ⟨_, _, h, rfl, (Sep.del 0 hs)⟩
    · refine fi_false rfl (decide_eq_false c105) ?_
      refine fi_exit rfl ?_
      refine fi_seq ?_
      refine fi_region ?_
      refine so_move rfl ?_
      refine so_assign rfl ?_
      refine so_assign rfl ?_
      refine so_nil ?_
      exact by_ret rfl ⟨_, _, h, rfl, hs⟩

end Go.Proofs.Ytfieljajhmpbiaa.G

namespace Go.Proofs.Ytfieljajhmpbiaa.G
open Go Go.Ab Go.Proofs Go.Proofs.Ytfieljajhmpbiaa
set_option maxRecDepth 100000
set_option linter.unusedVariables false
set_option linter.unusedSimpArgs false
set_option maxHeartbeats 1000000
theorem F14.tb4 : tbool Try.prog 4 = true := by kernel_rfl
theorem laws_FnExactStoreTakes_ok {fr : List Pc} {H : Heap} (v0 : AV) (w0 : List (List AV)) (l0 : List ((List UInt8) × (Int) × (List (Nat)))) (hs : Sep H (fr)) (g0 : ∀ H, Sep H fr → DSh H v0 3 R_s_ii64_LeFlt_f32_poooq l0 w0) (K : Bool → Prop) (h : laws_FnExactStoreTakes.wp l0 K) : OkQ Try.prog 14 [(.v v0)] H (fun r H2 => ∃ (y0 : Bool), K y0 ∧ r = (.v (.bool y0)) ∧ Sep H2 (fr)) := by
  unfold laws_FnExactStoreTakes.wp at h
  refine of_body Try.f14 F.hm Try.func14 rfl Try.call14 (by kernel_rfl) (by simp) ?_
  refine fi_seq ?_
  refine fi_region ?_
  refine so_assign rfl ?_
  refine so_nil ?_
  refine fi_seq ?_
  refine fi_region ?_
  refine so_assign rfl ?_
  refine so_nil ?_
  refine fi_seq ?_
  refine fi_region ?_
  refine so_move rfl ?_
  refine so_move rfl ?_
  refine sv_call (laws_szTakeS_ok v0 w0 l0 (1048576 : Int) hs (fun _ hs => (g0 _ hs)) _ h) rfl rfl nofun ?_
  clear h hs
  rintro _ H102 ⟨y101, h, rfl, hs⟩
  refine so_assign rfl ?_
  refine so_nil ?_
  refine fi_seq ?_
  refine fi_seq ?_
  refine fi_region ?_
  refine so_move rfl ?_
  refine so_bin rfl rfl ab_lss ?_
  refine so_nil ?_
  replace h := ofP h; rcases h with ⟨c103, h⟩ | ⟨c103, h⟩
  · refine fi_true rfl (decide_eq_true c103) ?_
    refine fi_seq ?_
    refine fi_region ?_
    refine so_assign rfl ?_
    refine so_nil ?_
    exact by_ret rfl ⟨_, h, rfl, hs⟩
  · refine fi_false rfl (decide_eq_false c103) ?_
    refine fi_skip ?_
    refine fi_seq ?_
    refine fi_region ?_
    refine so_move rfl ?_
    refine sv_call (laws_toTakeS_ok v0 w0 l0 hs (fun _ hs => (g0 _ hs)) _ h) rfl rfl nofun ?_
    clear h hs
    rintro _ H109 ⟨y104, h, v105, ws107, S108, rfl, hs⟩
    refine sv_call (spec_StoreTakes_ok v105 ws107 y104 hs (fun _ hs => (hs.dshows 0 rfl)) _ h) rfl rfl nofun ?_
    clear h hs
    rintro _ H112 ⟨y110, y111, h, rfl, hs⟩
    refine so_move rfl ?_
    refine so_extract rfl rfl rfl ?_
    refine so_extract rfl rfl rfl ?_
    refine so_assign rfl ?_
    refine so_assign rfl ?_
    refine so_nil ?_
    refine fi_seq ?_
    refine fi_region ?_
    refine so_move rfl ?_
    refine sv_call (laws_toTakeS_ok v0 w0 l0 hs (fun _ hs => (g0 _ hs.tl)) _ h) rfl rfl nofun ?_
    clear h hs
    rintro _ H118 ⟨y113, h, v114, ws116, S117, rfl, hs⟩
    refine so_assign rfl ?_
    refine so_nil ?_
    refine fi_seq ?_
    refine fi_region ?_
    refine so_move rfl ?_
    refine sv_call (impl_StoreTakes_ok v114 ws116 y113 hs (fun _ hs => (hs.dshows 0 rfl)) _ h) rfl rfl nofun ?_
    clear h hs
    rintro _ H121 ⟨y119, y120, h, rfl, hs⟩
    refine so_move rfl ?_
    refine so_extract rfl rfl rfl ?_
    refine so_extract rfl rfl rfl ?_
    refine so_assign rfl ?_
    refine so_assign rfl ?_
    refine so_nil ?_
    refine fi_seq ?_
    refine fi_seq ?_
    refine fi_region ?_
    refine so_move rfl ?_
    refine so_move rfl ?_
    refine so_bin rfl rfl ab_sneq ?_
    refine so_move rfl ?_
    replace h := ofP h; rcases h with ⟨c122, h⟩ | ⟨c122, h⟩
    · refine so_gyes rfl (not_f (decide_eq_true c122)) ?_
      refine so_move rfl ?_
      refine so_gyes rfl (not_f (decide_eq_true c122)) ?_
      refine so_move rfl ?_
      refine so_gyes rfl (not_f (decide_eq_true c122)) ?_
      refine so_bin rfl rfl (ab_bneq F14.tb4) ?_
      refine so_pick_f rfl (not_f (decide_eq_true c122)) rfl ?_
      refine so_nil ?_
      replace h := ofT h; rcases h with ⟨c123, h⟩ | ⟨c123, h⟩
      · refine fi_false rfl (not_f c123) ?_
        refine fi_skip ?_
        refine fi_seq ?_
        refine fi_seq ?_
        refine fi_region ?_
        refine so_move rfl ?_
        refine so_move rfl ?_
        refine sv_call (laws_toTakeS_ok v0 w0 l0 hs (fun _ hs => (g0 _ hs.tl.tl)) _ h) rfl rfl nofun ?_
        clear h hs
        rintro _ H129 ⟨y124, h, v125, ws127, S128, rfl, hs⟩
        refine sv_call (laws_eqTakeS_ok v114 ws116 y113 v125 ws127 y124 hs (fun _ hs => (hs.dshows 1 rfl)) (fun _ hs => (hs.dshows 0 rfl)) _ h) rfl rfl nofun ?_
        clear h hs
        rintro _ H131 ⟨y130, h, rfl, hs⟩
        refine so_un rfl au_not ?_
        refine so_nil ?_
        replace h := ofT h; rcases h with ⟨c132, h⟩ | ⟨c132, h⟩
        · refine fi_false rfl (not_f c132) ?_
          refine fi_skip ?_
          refine fi_seq ?_
          refine fi_region ?_
          refine so_assign rfl ?_
          refine so_nil ?_
          exact by_ret rfl ⟨_, h, rfl, (Sep.del 0 (Sep.del 0 (Sep.del 0 hs)))⟩
        · refine fi_true rfl (not_t c132) ?_
          refine fi_seq ?_
          refine fi_region ?_
          refine so_assign rfl ?_
          refine so_nil ?_
          exact by_ret rfl ⟨_, h, rfl, (Sep.del 0 (Sep.del 0 (Sep.del 0 hs)))⟩
      · refine fi_true rfl (not_t c123) ?_
        refine fi_seq ?_
        refine fi_region ?_
        refine so_assign rfl ?_
        refine so_nil ?_
        exact by_ret rfl ⟨_, h, rfl, (Sep.del 0 (Sep.del 0 hs))⟩
    · refine so_gno rfl (not_t (decide_eq_false c122)) ?_
      refine so_gno rfl (not_t (decide_eq_false c122)) ?_
      refine so_gno rfl (not_t (decide_eq_false c122)) ?_
      refine so_pick_t rfl (not_t (decide_eq_false c122)) rfl ?_
      refine so_nil ?_
      refine fi_true rfl rfl ?_
      refine fi_seq ?_
      refine fi_region ?_
      refine so_assign rfl ?_
      refine so_nil ?_
      exact by_ret rfl ⟨_, h, rfl, (Sep.del 0 (Sep.del 0 hs))⟩

end Go.Proofs.Ytfieljajhmpbiaa.G

