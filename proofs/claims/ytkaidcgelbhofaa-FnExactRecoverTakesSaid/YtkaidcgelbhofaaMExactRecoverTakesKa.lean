/-
  The model ends so. Printed by a program of the session; nothing here is trusted.
-/
import Derived.Test.YtkaidcgelbhofaaProg
import Derived.KernelRfl
import Derived.Test.YtkaidcgelbhofaaMExactRecoverTakesWa
namespace Go.Proofs.Ytkaidcgelbhofaa.F
open Go Go.Ab Go.Proofs
set_option maxRecDepth 100000
set_option linter.unusedVariables false
set_option linter.unusedSimpArgs false
set_option maxHeartbeats 1000000
theorem hm : Try.prog.follows .mixedOrders = true := by kernel_rfl
end Go.Proofs.Ytkaidcgelbhofaa.F

namespace Go.Proofs.Ytkaidcgelbhofaa.G
open Go Go.Ab Go.Proofs Go.Proofs.Ytkaidcgelbhofaa
set_option maxRecDepth 100000
set_option linter.unusedVariables false
set_option linter.unusedSimpArgs false
set_option maxHeartbeats 1000000
attribute [local irreducible] wops wopf Go.Ab.Fin
theorem F110.it3 : tint Try.prog 3 = some .i64 := by kernel_rfl
theorem F110.sr9 : tstr Try.prog 9 = true := by kernel_rfl
theorem F110.us5 : (Try.prog.underlying 5).isSome = true := by kernel_rfl
theorem spec_l07Long_ok {fr : List Pc} {H : Heap} (a0 : List UInt8) (hs : Sep H (fr))  (K : Int → Prop) (h : spec_l07Long.wp a0 K) : OkQ Try.prog 110 [(.v (.str (pk a0)))] H (fun r H2 => ∃ (y0 : Int), K y0 ∧ r = (.v (.int .i64 y0)) ∧ H = H2) := by
  unfold spec_l07Long.wp at h
  refine of_body Try.f110 F.hm Try.func110 rfl Try.call110 (by kernel_rfl) (by simp) ?_
  refine fi_seq ?_
  refine fi_region ?_
  refine so_assign (v := (.v (.int .i64 (0 : Int)))) rfl ?_
  refine so_nil ?_
  refine fi_seq ?_
  refine fi_seq ?_
  refine fi_region ?_
  refine so_move (v := (.v (.str (pk a0)))) rfl ?_
  refine so_slen rfl F110.sr9 ?_
  refine so_bin rfl rfl ab_lss ?_
  refine so_nil ?_
  replace h := ofP h; rcases h with ⟨c101, h⟩ | ⟨c101, h⟩
  · refine fi_true rfl (decide_eq_true c101) ?_
    refine fi_seq ?_
    refine fi_region ?_
    refine so_assign (v := (.v (.int .i64 (0 : Int)))) rfl ?_
    refine so_nil ?_
    exact by_ret rfl ⟨_, h, rfl, rfl⟩
  · refine fi_false rfl (decide_eq_false c101) ?_
    refine fi_skip ?_
    refine fi_seq ?_
    refine fi_region ?_
    refine so_move (v := (.v (.str (pk a0)))) rfl ?_
    obtain ⟨c102, h⟩ := h
    refine so_index rfl rfl F110.sr9 c102 ?_
    refine sv_ii rfl F110.us5 F110.it3 ?_
    refine so_bin rfl rfl ab_add ?_
    refine so_assign (v := (.v (.int .i64 (IntKind.i64.wrap ((5 : Int) + (IntKind.i64.wrap (bt a0 (4 : Int)))))))) rfl ?_
    refine so_nil ?_
    refine fi_seq ?_
    refine fi_seq ?_
    refine fi_region ?_
    refine so_move (v := (.v (.int .i64 (IntKind.i64.wrap ((5 : Int) + (IntKind.i64.wrap (bt a0 (4 : Int)))))))) rfl ?_
    refine so_bin rfl rfl ab_add ?_
    refine so_move (v := (.v (.str (pk a0)))) rfl ?_
    refine so_slen rfl F110.sr9 ?_
    refine so_bin rfl rfl ab_gtr ?_
    refine so_nil ?_
    replace h := ofP h; rcases h with ⟨c103, h⟩ | ⟨c103, h⟩
    · refine fi_true rfl (decide_eq_true c103) ?_
      refine fi_seq ?_
      refine fi_region ?_
      refine so_assign (v := (.v (.int .i64 (0 : Int)))) rfl ?_
      refine so_nil ?_
      exact by_ret rfl ⟨_, h, rfl, rfl⟩
    · refine fi_false rfl (decide_eq_false c103) ?_
      refine fi_skip ?_
      refine fi_seq ?_
      refine fi_region ?_
      refine so_move (v := (.v (.int .i64 (IntKind.i64.wrap ((5 : Int) + (IntKind.i64.wrap (bt a0 (4 : Int)))))))) rfl ?_
      refine so_bin rfl rfl ab_add ?_
      refine so_move (v := (.v (.str (pk a0)))) rfl ?_
      refine so_move (v := (.v (.int .i64 (IntKind.i64.wrap ((5 : Int) + (IntKind.i64.wrap (bt a0 (4 : Int)))))))) rfl ?_
      refine so_bin rfl rfl ab_add ?_
      obtain ⟨c104, h⟩ := h
      refine so_index rfl rfl F110.sr9 c104 ?_
      refine sv_ii rfl F110.us5 F110.it3 ?_
      refine so_bin rfl rfl ab_add ?_
      refine so_move (v := (.v (.str (pk a0)))) rfl ?_
      refine so_move (v := (.v (.int .i64 (IntKind.i64.wrap ((5 : Int) + (IntKind.i64.wrap (bt a0 (4 : Int)))))))) rfl ?_
      refine so_bin rfl rfl ab_add ?_
      obtain ⟨c105, h⟩ := h
      refine so_index rfl rfl F110.sr9 c105 ?_
      refine sv_ii rfl F110.us5 F110.it3 ?_
      refine so_bin rfl rfl ab_mul ?_
      refine so_bin rfl rfl ab_add ?_
      refine so_assign (v := (.v (.int .i64 (IntKind.i64.wrap ((IntKind.i64.wrap ((IntKind.i64.wrap ((IntKind.i64.wrap ((5 : Int) + (IntKind.i64.wrap (bt a0 (4 : Int))))) + (6 : Int))) + (IntKind.i64.wrap (bt a0 (IntKind.i64.wrap ((IntKind.i64.wrap ((5 : Int) + (IntKind.i64.wrap (bt a0 (4 : Int))))) + (2 : Int))))))) + (IntKind.i64.wrap ((256 : Int) * (IntKind.i64.wrap (bt a0 (IntKind.i64.wrap ((IntKind.i64.wrap ((5 : Int) + (IntKind.i64.wrap (bt a0 (4 : Int))))) + (3 : Int)))))))))))) rfl ?_
      refine so_nil ?_
      refine fi_seq ?_
      refine fi_seq ?_
      refine fi_region ?_
      refine so_move (v := (.v (.int .i64 (IntKind.i64.wrap ((IntKind.i64.wrap ((IntKind.i64.wrap ((IntKind.i64.wrap ((5 : Int) + (IntKind.i64.wrap (bt a0 (4 : Int))))) + (6 : Int))) + (IntKind.i64.wrap (bt a0 (IntKind.i64.wrap ((IntKind.i64.wrap ((5 : Int) + (IntKind.i64.wrap (bt a0 (4 : Int))))) + (2 : Int))))))) + (IntKind.i64.wrap ((256 : Int) * (IntKind.i64.wrap (bt a0 (IntKind.i64.wrap ((IntKind.i64.wrap ((5 : Int) + (IntKind.i64.wrap (bt a0 (4 : Int))))) + (3 : Int)))))))))))) rfl ?_
      refine so_move (v := (.v (.str (pk a0)))) rfl ?_
      refine so_slen rfl F110.sr9 ?_
      refine so_bin rfl rfl ab_gtr ?_
      refine so_nil ?_
      replace h := ofP h; rcases h with ⟨c106, h⟩ | ⟨c106, h⟩
      · refine fi_true rfl (decide_eq_true c106) ?_
        refine fi_seq ?_
        refine fi_region ?_
        refine so_assign (v := (.v (.int .i64 (0 : Int)))) rfl ?_
        refine so_nil ?_
        exact by_ret rfl ⟨_, h, rfl, rfl⟩
      · refine fi_false rfl (decide_eq_false c106) ?_
        refine fi_skip ?_
        refine fi_seq ?_
        refine fi_region ?_
        refine so_move (v := (.v (.int .i64 (IntKind.i64.wrap ((IntKind.i64.wrap ((IntKind.i64.wrap ((IntKind.i64.wrap ((5 : Int) + (IntKind.i64.wrap (bt a0 (4 : Int))))) + (6 : Int))) + (IntKind.i64.wrap (bt a0 (IntKind.i64.wrap ((IntKind.i64.wrap ((5 : Int) + (IntKind.i64.wrap (bt a0 (4 : Int))))) + (2 : Int))))))) + (IntKind.i64.wrap ((256 : Int) * (IntKind.i64.wrap (bt a0 (IntKind.i64.wrap ((IntKind.i64.wrap ((5 : Int) + (IntKind.i64.wrap (bt a0 (4 : Int))))) + (3 : Int)))))))))))) rfl ?_
        refine so_assign (v := (.v (.int .i64 (IntKind.i64.wrap ((IntKind.i64.wrap ((IntKind.i64.wrap ((IntKind.i64.wrap ((5 : Int) + (IntKind.i64.wrap (bt a0 (4 : Int))))) + (6 : Int))) + (IntKind.i64.wrap (bt a0 (IntKind.i64.wrap ((IntKind.i64.wrap ((5 : Int) + (IntKind.i64.wrap (bt a0 (4 : Int))))) + (2 : Int))))))) + (IntKind.i64.wrap ((256 : Int) * (IntKind.i64.wrap (bt a0 (IntKind.i64.wrap ((IntKind.i64.wrap ((5 : Int) + (IntKind.i64.wrap (bt a0 (4 : Int))))) + (3 : Int)))))))))))) rfl ?_
        refine so_nil ?_
        exact by_ret rfl ⟨_, h, rfl, rfl⟩

end Go.Proofs.Ytkaidcgelbhofaa.G

namespace Go.Proofs.Ytkaidcgelbhofaa.G
open Go Go.Ab Go.Proofs Go.Proofs.Ytkaidcgelbhofaa
set_option maxRecDepth 100000
set_option linter.unusedVariables false
set_option linter.unusedSimpArgs false
set_option maxHeartbeats 1000000
attribute [local irreducible] wops wopf Go.Ab.Fin
theorem F270.xb270 : Try.f270.body = none := rfl
theorem F270.xe270 : Extern.find Try.f270 = some Extern.MathFloatBits.float32frombits := by rfl
theorem F270.xf270 : (Extern.findNext Try.f270).isNone = true := by kernel_rfl
theorem F270.xn270 : (Try.f270.name == "runtime.NumGoroutine") = false := by kernel_rfl
theorem math_Float32frombits_ok {fr : List Pc} {H : Heap} (x : Int) (hs : Sep H fr) (K : Nat → Prop) (h : math_Float32frombits.wp x K) : OkQ Try.prog 270 [(.v (.int .u32 x))] H (fun r H2 => ∃ y0 : Nat, K y0 ∧ r = (.v (.flt .f32 y0)) ∧ H = H2) := ⟨_, _, f32from_ok Try.func270 F270.xn270 F270.xb270 F270.xf270 F270.xe270 x, _, h, rfl, rfl⟩

end Go.Proofs.Ytkaidcgelbhofaa.G

namespace Go.Proofs.Ytkaidcgelbhofaa.G
open Go Go.Ab Go.Proofs Go.Proofs.Ytkaidcgelbhofaa
set_option maxRecDepth 100000
set_option linter.unusedVariables false
set_option linter.unusedSimpArgs false
set_option maxHeartbeats 1000000
attribute [local irreducible] wops wopf Go.Ab.Fin
theorem F228.it163 : tint Try.prog 163 = some .u32 := by kernel_rfl
theorem F228.us2 : (Try.prog.underlying 2).isSome = true := by kernel_rfl
theorem spec_l01From_ok {fr : List Pc} {H : Heap} (a0 : Int) (hs : Sep H (fr))  (K : Nat → Prop) (h : spec_l01From.wp a0 K) : OkQ Try.prog 228 [(.v (.int .i64 a0))] H (fun r H2 => ∃ (y0 : Nat), K y0 ∧ r = (.v (.flt .f32 y0)) ∧ H = H2) := by
  unfold spec_l01From.wp at h
  refine of_body Try.f228 F.hm Try.func228 rfl Try.call228 (by kernel_rfl) (by simp) ?_
  refine fi_seq ?_
  refine fi_region ?_
  refine so_assign (v := (.v (.flt .f32 (cz .f32 0)))) rfl ?_
  refine so_nil ?_
  refine fi_seq ?_
  refine fi_region ?_
  refine so_move (v := (.v (.int .i64 a0))) rfl ?_
  refine sv_ii rfl F228.us2 F228.it163 ?_
  refine sv_callS (math_Float32frombits_ok (IntKind.u32.wrap a0) hs  _ h) (fun _ _ ⟨_, _, _, e⟩ => e) rfl rfl ?_
  clear h
  rintro _ _ ⟨y101, h, rfl, rfl⟩
  refine so_assign (v := (.v (.flt .f32 y101))) rfl ?_
  refine so_nil ?_
  exact by_ret rfl ⟨_, h, rfl, rfl⟩

end Go.Proofs.Ytkaidcgelbhofaa.G

namespace Go.Proofs.Ytkaidcgelbhofaa.G
open Go Go.Ab Go.Proofs Go.Proofs.Ytkaidcgelbhofaa
set_option maxRecDepth 100000
set_option linter.unusedVariables false
set_option linter.unusedSimpArgs false
set_option maxHeartbeats 1000000
attribute [local irreducible] wops wopf Go.Ab.Fin
theorem F229.ti36 : (telem Try.prog 36).isSome = true := by kernel_rfl
theorem spec_l07Values_ok {fr : List Pc} {H : Heap} (v0 : AV) (l0 : List (Nat)) (hs : Sep H (fr)) (g0 : ∀ H, Sep H fr → Shows H v0 1 (enc (eFlt .f32) l0)) (K : Bool → Prop) (h : spec_l07Values.wp l0 K) : OkQ Try.prog 229 [(.v v0)] H (fun r H2 => ∃ (y0 : Bool), K y0 ∧ r = (.v (.bool y0)) ∧ H = H2) := by
  unfold spec_l07Values.wp at h
  refine of_body Try.f229 F.hm Try.func229 rfl Try.call229 (by kernel_rfl) (by simp) ?_
  refine fi_seq ?_
  refine fi_region ?_
  refine so_assign (v := (.v (.bool false))) rfl ?_
  refine so_nil ?_
  refine fi_seq ?_
  refine fi_region ?_
  refine so_move (v := (.v v0)) rfl ?_
  refine sv_len (g0 _ hs) (fun _ => rfl) (by decide) rfl F229.ti36 ?_
  refine so_bin rfl rfl ab_geq ?_
  refine so_move (v := (.v (.bool (decide ((1 : Int) ≤ (l0.length : Int)))))) rfl ?_
  replace h := ofP h; rcases h with ⟨c101, h⟩ | ⟨c101, h⟩
  · refine so_gyes rfl (decide_eq_true c101) ?_
    refine so_move (v := (.v v0)) rfl ?_
    refine so_gyes rfl (decide_eq_true c101) ?_
    refine sv_len (g0 _ hs) (fun _ => rfl) (by decide) rfl F229.ti36 ?_
    refine so_gyes rfl (decide_eq_true c101) ?_
    refine so_bin rfl rfl ab_leq ?_
    refine so_pick_t (v := (.v (.bool (decide ((l0.length : Int) ≤ (128 : Int)))))) rfl (decide_eq_true c101) rfl ?_
    refine so_assign (v := (.v (.bool (decide ((l0.length : Int) ≤ (128 : Int)))))) rfl ?_
    refine so_nil ?_
    exact by_ret rfl ⟨_, h, rfl, rfl⟩
  · refine so_gno rfl (decide_eq_false c101) ?_
    refine so_gno rfl (decide_eq_false c101) ?_
    refine so_gno rfl (decide_eq_false c101) ?_
    refine so_pick_f (v := (.v (.bool false))) rfl (decide_eq_false c101) rfl ?_
    refine so_assign (v := (.v (.bool false))) rfl ?_
    refine so_nil ?_
    exact by_ret rfl ⟨_, h, rfl, rfl⟩

end Go.Proofs.Ytkaidcgelbhofaa.G

namespace Go.Proofs.Ytkaidcgelbhofaa.G
open Go Go.Ab Go.Proofs Go.Proofs.Ytkaidcgelbhofaa
set_option maxRecDepth 100000
set_option linter.unusedVariables false
set_option linter.unusedSimpArgs false
set_option maxHeartbeats 1000000
attribute [local irreducible] wops wopf Go.Ab.Fin
theorem F260.xb260 : Try.f260.body = none := rfl
theorem F260.xe260 : Extern.find Try.f260 = some Extern.MathFloatBits.float32bits := by rfl
theorem F260.xf260 : (Extern.findNext Try.f260).isNone = true := by kernel_rfl
theorem F260.xn260 : (Try.f260.name == "runtime.NumGoroutine") = false := by kernel_rfl
theorem math_Float32bits_ok {fr : List Pc} {H : Heap} (x : Nat) (hs : Sep H fr) (K : Int → Prop) (h : math_Float32bits.wp x K) : OkQ Try.prog 260 [(.v (.flt .f32 x))] H (fun r H2 => ∃ y0 : Int, K y0 ∧ r = (.v (.int .u32 y0)) ∧ H = H2) := ⟨_, _, f32bits_ok Try.func260 F260.xn260 F260.xb260 F260.xf260 F260.xe260 x h.1, _, h.2, rfl, rfl⟩

end Go.Proofs.Ytkaidcgelbhofaa.G

namespace Go.Proofs.Ytkaidcgelbhofaa.G
open Go Go.Ab Go.Proofs Go.Proofs.Ytkaidcgelbhofaa
set_option maxRecDepth 100000
set_option linter.unusedVariables false
set_option linter.unusedSimpArgs false
set_option maxHeartbeats 1000000
attribute [local irreducible] wops wopf Go.Ab.Fin
theorem F216.it2 : tint Try.prog 2 = some .i64 := by kernel_rfl
theorem F216.us163 : (Try.prog.underlying 163).isSome = true := by kernel_rfl
theorem spec_l01Bits_ok {fr : List Pc} {H : Heap} (a0 : Nat) (hs : Sep H (fr))  (K : Int → Prop) (h : spec_l01Bits.wp a0 K) : OkQ Try.prog 216 [(.v (.flt .f32 a0))] H (fun r H2 => ∃ (y0 : Int), K y0 ∧ r = (.v (.int .i64 y0)) ∧ H = H2) := by
  unfold spec_l01Bits.wp at h
  refine of_body Try.f216 F.hm Try.func216 rfl Try.call216 (by kernel_rfl) (by simp) ?_
  refine fi_seq ?_
  refine fi_region ?_
  refine so_assign (v := (.v (.int .i64 (0 : Int)))) rfl ?_
  refine so_nil ?_
  refine fi_seq ?_
  refine fi_seq ?_
  refine fi_region ?_
  refine so_move (v := (.v (.flt .f32 a0))) rfl ?_
  refine so_move (v := (.v (.flt .f32 a0))) rfl ?_
  refine so_bin rfl rfl ab_fneq ?_
  refine so_nil ?_
  replace h := ofT h; rcases h with ⟨c101, h⟩ | ⟨c101, h⟩
  · refine fi_true rfl c101 ?_
    refine fi_seq ?_
    refine fi_region ?_
    refine so_assign (v := (.v (.int .i64 (2143289344 : Int)))) rfl ?_
    refine so_nil ?_
    exact by_ret rfl ⟨_, h, rfl, rfl⟩
  · refine fi_false rfl c101 ?_
    refine fi_skip ?_
    refine fi_seq ?_
    refine fi_region ?_
    refine so_move (v := (.v (.flt .f32 a0))) rfl ?_
    refine sv_callS (math_Float32bits_ok a0 hs  _ h) (fun _ _ ⟨_, _, _, e⟩ => e) rfl rfl ?_
    clear h
    rintro _ _ ⟨y102, h, rfl, rfl⟩
    refine sv_ii rfl F216.us163 F216.it2 ?_
    refine so_assign (v := (.v (.int .i64 (IntKind.i64.wrap y102)))) rfl ?_
    refine so_nil ?_
    exact by_ret rfl ⟨_, h, rfl, rfl⟩

end Go.Proofs.Ytkaidcgelbhofaa.G

namespace Go.Proofs.Ytkaidcgelbhofaa.G
open Go Go.Ab Go.Proofs Go.Proofs.Ytkaidcgelbhofaa
set_option maxRecDepth 100000
set_option linter.unusedVariables false
set_option linter.unusedSimpArgs false
set_option maxHeartbeats 1000000
attribute [local irreducible] wops wopf Go.Ab.Fin
theorem F230.ag37 : tagg Try.prog 37 = some false := by kernel_rfl
theorem F230.it5 : tint Try.prog 5 = some .u8 := by kernel_rfl
theorem F230.sr9 : tstr Try.prog 9 = true := by kernel_rfl
theorem F230.sz5 : tsz Try.prog 5 = some 1 := by kernel_rfl
theorem F230.ta82_82 : tapp Try.prog 82 82 = some (1, 1) := by kernel_rfl
theorem F230.te82 : telem Try.prog 82 = some 5 := by kernel_rfl
theorem F230.ti36 : (telem Try.prog 36).isSome = true := by kernel_rfl
theorem F230.tl36 : (telem Try.prog 36).bind (tsz Try.prog) = some 1 := by kernel_rfl
theorem F230.us2 : (Try.prog.underlying 2).isSome = true := by kernel_rfl
theorem F230.us82 : (Try.prog.underlying 82).isSome = true := by kernel_rfl
theorem F230.ze5 : tzero Try.prog 5 = some [(.int .u8 (0 : Int))] := by kernel_rfl
theorem spec_l07Pack_ok {fr : List Pc} {H : Heap} (v0 : AV) (l0 : List (Nat)) (hs : Sep H (fr)) (g0 : ∀ H, Sep H fr → Shows H v0 1 (enc (eFlt .f32) l0)) (K : (List UInt8) → Prop) (h : spec_l07Pack.wp l0 K) : OkQ Try.prog 230 [(.v v0)] H (fun r H2 => ∃ (y0 : List UInt8), K y0 ∧ r = (.v (.str (pk y0))) ∧ Sep H2 (fr)) := by
  unfold spec_l07Pack.wp at h
  refine of_body Try.f230 F.hm Try.func230 rfl Try.call230 (by kernel_rfl) (by simp) ?_
  refine fi_seq ?_
  refine fi_region ?_
  refine so_assign (v := (.v (.str (pk ([] : List UInt8))))) rfl ?_
  refine so_nil ?_
  refine fi_seq ?_
  refine fi_region ?_
  refine sv_bslice hs (eInt .u8) ([] : List (Int)) [] F230.te82 F230.sz5 F230.ze5 rfl rfl rfl rfl (fun _ => rfl) rfl (by decide) nofun (fun v101 H102 nv101 hs => ?_)
  refine so_assign (v := (.v v101)) rfl ?_
  refine so_nil ?_
  refine fi_seq ?_
  refine fi_region ?_
  refine so_assign (v := (.v (.int .i64 (0 : Int)))) rfl ?_
  refine so_nil ?_
  refine fi_seq ?_
  refine fi_seq ?_
  refine fi_region ?_
  refine so_move (v := (.v v0)) rfl ?_
  refine sv_len (g0 _ hs.tl) (fun _ => rfl) (by decide) rfl F230.ti36 ?_
  refine so_move (v := (.v (.int .i64 (0 : Int)))) rfl ?_
  refine so_nil ?_
  refine fi_block ?_
  refine fi_loop ?_
  refine fi_at [(0, (.v v0)), (3, (.v v101)), (4, (.v (.int .i64 (0 : Int)))), (13, (.v (.int .i64 (l0.length : Int)))), (14, (.v (.int .i64 (0 : Int))))] ⟨rfl, rfl, rfl, rfl, rfl, trivial⟩ ?_
  refine h (fun (out219 : List (Int)) (before221 : Int) (x222 : Int) => ∀ (s : Nat → TV) (H : Heap) (v220 : AV) (nv220 : v220 ≠ .nilsl), Sep H (Pc.osl v220 1 (enc (eInt .u8) out219) :: fr) → Fin _ _ (updL s [(0, (.v v0)), (3, (.v v220)), (4, (.v (.int .i64 before221))), (13, (.v (.int .i64 (l0.length : Int)))), (14, (.v (.int .i64 x222)))]) H _) ?_ _ _ _ nv101 hs
  intro out219 before221 x222 h s332 H333 v220 nv220 hs
  refine fi_inLoop ?_
  refine fi_seq ?_
  refine fi_region ?_
  refine so_bin rfl rfl ab_lss ?_
  refine so_nil ?_
  refine fi_seq ?_
  replace h := ofP h; rcases h with ⟨c223, h⟩ | ⟨c223, h⟩
  · refine fi_true rfl (decide_eq_true c223) ?_
    refine fi_skip ?_
    refine fi_seq ?_
    refine fi_block ?_
    refine fi_seq ?_
    refine fi_region ?_
    refine so_move (v := (.v (.int .i64 x222))) rfl ?_
    refine so_assign (v := (.v (.int .i64 x222))) rfl ?_
    refine so_nil ?_
    refine fi_seq ?_
    refine fi_region ?_
    refine so_move (v := (.v v0)) rfl ?_
    refine so_move (v := (.v (.int .i64 x222))) rfl ?_
    obtain ⟨c224, h⟩ := h
    refine sv_idx (g0 _ hs.tl) c224 (fun _ => rfl) (by decide) rfl rfl F230.tl36 ?_
    refine sv_cell (g0 _ hs.tl) c224 (0 : Nat) 0 (fun x => (AV.flt .f32 x)) (fun _ => rfl) (fun _ => rfl) rfl F230.ag37 ?_
    refine sv_callS (spec_l01Bits_ok (l0.getD (x222).toNat (0 : Nat)) hs  _ h) (fun _ _ ⟨_, _, _, e⟩ => e) rfl rfl ?_
    clear h
    rintro _ _ ⟨y225, h, rfl, rfl⟩
    refine so_assign (v := (.v (.int .i64 y225))) rfl ?_
    refine so_nil ?_
    refine fi_seq ?_
    refine fi_region ?_
    refine so_move (v := (.v (.int .i64 y225))) rfl ?_
    refine so_move (v := (.v (.int .i64 before221))) rfl ?_
    refine so_bin rfl rfl ab_xor ?_
    refine so_assign (v := (.v (.int .i64 (ibits .xor .i64 y225 before221)))) rfl ?_
    refine so_nil ?_
    refine fi_seq ?_
    refine fi_region ?_
    refine so_move (v := (.v (.int .i64 y225))) rfl ?_
    refine so_assign (v := (.v (.int .i64 y225))) rfl ?_
    refine so_nil ?_
    refine fi_seq ?_
    refine fi_region ?_
    refine so_assign (v := (.v (.int .i64 (0 : Int)))) rfl ?_
    refine so_nil ?_
    refine fi_seq ?_
    refine fi_seq ?_
    refine fi_region ?_
    refine so_assign (v := (.v (.int .i64 (16777216 : Int)))) rfl ?_
    refine so_nil ?_
    refine fi_block ?_
    refine fi_loop ?_
    refine fi_at [(0, (.v v0)), (3, (.v v220)), (4, (.v (.int .i64 y225))), (7, (.v (.int .i64 (ibits .xor .i64 y225 before221)))), (8, (.v (.int .i64 (0 : Int)))), (9, (.v (.int .i64 (16777216 : Int)))), (13, (.v (.int .i64 (l0.length : Int)))), (14, (.v (.int .i64 x222)))] ⟨rfl, rfl, rfl, rfl, rfl, rfl, rfl, rfl, trivial⟩ ?_
    refine h (fun (z228 : Int) (scale229 : Int) => ∀ (s : Nat → TV) (H : Heap), Sep H (Pc.osl v220 1 (enc (eInt .u8) out219) :: fr) → Fin _ _ (updL s [(0, (.v v0)), (3, (.v v220)), (4, (.v (.int .i64 y225))), (7, (.v (.int .i64 (ibits .xor .i64 y225 before221)))), (8, (.v (.int .i64 z228))), (9, (.v (.int .i64 scale229))), (13, (.v (.int .i64 (l0.length : Int)))), (14, (.v (.int .i64 x222)))]) H _) ?_ _ _ hs
    intro z228 scale229 h s330 H331 hs
    refine fi_inLoop ?_
    refine fi_seq ?_
    refine fi_seq ?_
    refine fi_region ?_
    refine so_move (v := (.v (.int .i64 z228))) rfl ?_
    refine so_bin rfl rfl ab_lss ?_
    refine so_move (v := (.v (.bool (decide (z228 < (4 : Int)))))) rfl ?_
    replace h := ofP h; rcases h with ⟨c230, h⟩ | ⟨c230, h⟩
    · refine so_gyes rfl (decide_eq_true c230) ?_
      refine so_move (v := (.v (.int .i64 (ibits .xor .i64 y225 before221)))) rfl ?_
      refine so_gyes rfl (decide_eq_true c230) ?_
      refine so_move (v := (.v (.int .i64 scale229))) rfl ?_
      refine so_gyes rfl (decide_eq_true c230) ?_
      obtain ⟨c231, h⟩ := h
      refine so_bin rfl rfl (ab_quo c231) ?_
      refine so_gyes rfl (decide_eq_true c230) ?_
      refine so_bin rfl rfl ab_eql ?_
      refine so_pick_t (v := (.v (.bool (decide ((IntKind.i64.wrap (Int.tdiv (ibits .xor .i64 y225 before221) scale229)) = (0 : Int)))))) rfl (decide_eq_true c230) rfl ?_
      refine so_nil ?_
      replace h := ofP h; rcases h with ⟨c232, h⟩ | ⟨c232, h⟩
      · refine fi_true rfl (decide_eq_true c232) ?_
        refine fi_skip ?_
        refine fi_seq ?_
        refine fi_block ?_
        refine fi_seq ?_
        refine fi_region ?_
        refine so_move (v := (.v (.int .i64 z228))) rfl ?_
        refine so_bin rfl rfl ab_add ?_
        refine so_assign (v := (.v (.int .i64 (IntKind.i64.wrap (z228 + (1 : Int)))))) rfl ?_
        refine so_nil ?_
        refine fi_seq ?_
        refine fi_region ?_
        refine so_move (v := (.v (.int .i64 scale229))) rfl ?_
        refine so_bin rfl rfl ab_eql ?_
        refine so_nil ?_
        replace h := ofP h; rcases h with ⟨c233, h⟩ | ⟨c233, h⟩
        · refine fi_true rfl (decide_eq_true c233) ?_
          refine fi_exit rfl ?_
          refine fi_seq ?_
          refine fi_region ?_
          refine so_move (v := (.v v220)) rfl ?_
          refine so_move (v := (.v (.int .i64 (IntKind.i64.wrap (z228 + (1 : Int)))))) rfl ?_
          refine sv_ii rfl F230.us2 F230.it5 ?_
          refine sv_bslice hs (eInt .u8) ([(IntKind.u8.wrap (IntKind.i64.wrap (z228 + (1 : Int))))] : List (Int)) [[(.int .u8 (IntKind.u8.wrap (IntKind.i64.wrap (z228 + (1 : Int)))))]] F230.te82 F230.sz5 F230.ze5 rfl rfl rfl rfl (fun _ => rfl) rfl (by decide) nofun (fun v234 H235 nv234 hs => ?_)
          obtain ⟨c239, h⟩ := h
          refine sv_app hs 1 rfl (hs.shows 0 rfl) (fun _ => rfl) (by decide) F230.ta82_82 (by decide) c239 rfl rfl nofun (fun v237 H238 kv237 hs => ?_)
          replace hs := hs.del 0
          have nv237 := kv237 nv220
          refine so_assign (v := (.v v237)) rfl ?_
          refine so_nil ?_
          refine fi_seq ?_
          refine fi_region ?_
          refine so_move (v := (.v (.int .i64 (IntKind.i64.wrap (z228 + (1 : Int)))))) rfl ?_
          refine so_assign (v := (.v (.int .i64 (IntKind.i64.wrap (z228 + (1 : Int)))))) rfl ?_
          refine so_nil ?_
          refine fi_block ?_
          refine fi_loop ?_
          refine fi_at [(0, (.v v0)), (3, (.v v237)), (4, (.v (.int .i64 y225))), (7, (.v (.int .i64 (ibits .xor .i64 y225 before221)))), (10, (.v (.int .i64 (IntKind.i64.wrap (z228 + (1 : Int)))))), (13, (.v (.int .i64 (l0.length : Int)))), (14, (.v (.int .i64 x222)))] ⟨rfl, rfl, rfl, rfl, rfl, rfl, rfl, trivial⟩ ?_
          refine h (fun (out253 : List (Int)) (x255 : Int) (k256 : Int) => ∀ (s : Nat → TV) (H : Heap) (v254 : AV) (nv254 : v254 ≠ .nilsl), Sep H (Pc.osl v254 1 (enc (eInt .u8) out253) :: fr) → Fin _ _ (updL s [(0, (.v v0)), (3, (.v v254)), (4, (.v (.int .i64 y225))), (7, (.v (.int .i64 x255))), (10, (.v (.int .i64 k256))), (13, (.v (.int .i64 (l0.length : Int)))), (14, (.v (.int .i64 x222)))]) H _) ?_ _ _ _ nv237 hs
          intro out253 x255 k256 h s264 H265 v254 nv254 hs
          refine fi_inLoop ?_
          refine fi_seq ?_
          refine fi_seq ?_
          refine fi_region ?_
          refine so_move (v := (.v (.int .i64 k256))) rfl ?_
          refine so_bin rfl rfl ab_lss ?_
          refine so_nil ?_
          replace h := ofP h; rcases h with ⟨c257, h⟩ | ⟨c257, h⟩
          · refine fi_true rfl (decide_eq_true c257) ?_
            refine fi_skip ?_
            refine fi_seq ?_
            refine fi_block ?_
            refine fi_seq ?_
            refine fi_region ?_
            refine so_move (v := (.v v254)) rfl ?_
            refine so_move (v := (.v (.int .i64 x255))) rfl ?_
            refine so_bin rfl rfl (ab_rem (by decide)) ?_
            refine sv_ii rfl F230.us2 F230.it5 ?_
            refine sv_bslice hs (eInt .u8) ([(IntKind.u8.wrap (Int.tmod x255 (256 : Int)))] : List (Int)) [[(.int .u8 (IntKind.u8.wrap (Int.tmod x255 (256 : Int))))]] F230.te82 F230.sz5 F230.ze5 rfl rfl rfl rfl (fun _ => rfl) rfl (by decide) nofun (fun v258 H259 nv258 hs => ?_)
            obtain ⟨c263, h⟩ := h
            refine sv_app hs 1 rfl (hs.shows 0 rfl) (fun _ => rfl) (by decide) F230.ta82_82 (by decide) c263 rfl rfl nofun (fun v261 H262 kv261 hs => ?_)
            replace hs := hs.del 0
            have nv261 := kv261 nv254
            refine so_assign (v := (.v v261)) rfl ?_
            refine so_nil ?_
            refine fi_region ?_
            refine so_move (v := (.v (.int .i64 x255))) rfl ?_
            refine so_bin rfl rfl (ab_quo (by decide)) ?_
            refine so_assign (v := (.v (.int .i64 (IntKind.i64.wrap (Int.tdiv x255 (256 : Int)))))) rfl ?_
            refine so_nil ?_
            refine fi_inBlock ?_
            refine fi_region ?_
            refine so_move (v := (.v (.int .i64 k256))) rfl ?_
            refine so_bin rfl rfl ab_add ?_
            refine so_assign (v := (.v (.int .i64 (IntKind.i64.wrap (k256 + (1 : Int)))))) rfl ?_
            refine so_nil ?_
            exact fi_at [(0, (.v v0)), (3, (.v v261)), (4, (.v (.int .i64 y225))), (7, (.v (.int .i64 (IntKind.i64.wrap (Int.tdiv x255 (256 : Int)))))), (10, (.v (.int .i64 (IntKind.i64.wrap (k256 + (1 : Int)))))), (13, (.v (.int .i64 (l0.length : Int)))), (14, (.v (.int .i64 x222)))] ⟨rfl, rfl, rfl, rfl, rfl, rfl, rfl, trivial⟩ (h _ _ _ nv261 hs)
          · refine fi_false rfl (decide_eq_false c257) ?_
            refine fi_exit rfl ?_
            refine fi_inBlock ?_
            refine fi_region ?_
            refine so_bin rfl rfl ab_add ?_
            refine so_move (v := (.v (.int .i64 (IntKind.i64.wrap (x222 + (1 : Int)))))) rfl ?_
            refine so_nil ?_
            exact fi_at [(0, (.v v0)), (3, (.v v254)), (4, (.v (.int .i64 y225))), (13, (.v (.int .i64 (l0.length : Int)))), (14, (.v (.int .i64 (IntKind.i64.wrap (x222 + (1 : Int))))))] ⟨rfl, rfl, rfl, rfl, rfl, trivial⟩ (h _ _ _ nv254 hs)
        · refine fi_false rfl (decide_eq_false c233) ?_
          refine fi_skip ?_
          refine fi_inBlock ?_
          refine fi_region ?_
          refine so_move (v := (.v (.int .i64 scale229))) rfl ?_
          refine so_bin rfl rfl (ab_quo (by decide)) ?_
          refine so_assign (v := (.v (.int .i64 (IntKind.i64.wrap (Int.tdiv scale229 (256 : Int)))))) rfl ?_
          refine so_nil ?_
          exact fi_at [(0, (.v v0)), (3, (.v v220)), (4, (.v (.int .i64 y225))), (7, (.v (.int .i64 (ibits .xor .i64 y225 before221)))), (8, (.v (.int .i64 (IntKind.i64.wrap (z228 + (1 : Int)))))), (9, (.v (.int .i64 (IntKind.i64.wrap (Int.tdiv scale229 (256 : Int)))))), (13, (.v (.int .i64 (l0.length : Int)))), (14, (.v (.int .i64 x222)))] ⟨rfl, rfl, rfl, rfl, rfl, rfl, rfl, rfl, trivial⟩ (h _ _  hs)
      · refine fi_false rfl (decide_eq_false c232) ?_
        refine fi_exit rfl ?_
        refine fi_seq ?_
        refine fi_region ?_
        refine so_move (v := (.v v220)) rfl ?_
        refine so_move (v := (.v (.int .i64 z228))) rfl ?_
        refine sv_ii rfl F230.us2 F230.it5 ?_
        refine sv_bslice hs (eInt .u8) ([(IntKind.u8.wrap z228)] : List (Int)) [[(.int .u8 (IntKind.u8.wrap z228))]] F230.te82 F230.sz5 F230.ze5 rfl rfl rfl rfl (fun _ => rfl) rfl (by decide) nofun (fun v266 H267 nv266 hs => ?_)
        obtain ⟨c271, h⟩ := h
        refine sv_app hs 1 rfl (hs.shows 0 rfl) (fun _ => rfl) (by decide) F230.ta82_82 (by decide) c271 rfl rfl nofun (fun v269 H270 kv269 hs => ?_)
        replace hs := hs.del 0
        have nv269 := kv269 nv220
        refine so_assign (v := (.v v269)) rfl ?_
        refine so_nil ?_
        refine fi_seq ?_
        refine fi_region ?_
        refine so_move (v := (.v (.int .i64 z228))) rfl ?_
        refine so_assign (v := (.v (.int .i64 z228))) rfl ?_
        refine so_nil ?_
        refine fi_block ?_
        refine fi_loop ?_
        refine fi_at [(0, (.v v0)), (3, (.v v269)), (4, (.v (.int .i64 y225))), (7, (.v (.int .i64 (ibits .xor .i64 y225 before221)))), (10, (.v (.int .i64 z228))), (13, (.v (.int .i64 (l0.length : Int)))), (14, (.v (.int .i64 x222)))] ⟨rfl, rfl, rfl, rfl, rfl, rfl, rfl, trivial⟩ ?_
        refine h (fun (out285 : List (Int)) (x287 : Int) (k288 : Int) => ∀ (s : Nat → TV) (H : Heap) (v286 : AV) (nv286 : v286 ≠ .nilsl), Sep H (Pc.osl v286 1 (enc (eInt .u8) out285) :: fr) → Fin _ _ (updL s [(0, (.v v0)), (3, (.v v286)), (4, (.v (.int .i64 y225))), (7, (.v (.int .i64 x287))), (10, (.v (.int .i64 k288))), (13, (.v (.int .i64 (l0.length : Int)))), (14, (.v (.int .i64 x222)))]) H _) ?_ _ _ _ nv269 hs
        intro out285 x287 k288 h s296 H297 v286 nv286 hs
        refine fi_inLoop ?_
        refine fi_seq ?_
        refine fi_seq ?_
        refine fi_region ?_
        refine so_move (v := (.v (.int .i64 k288))) rfl ?_
        refine so_bin rfl rfl ab_lss ?_
        refine so_nil ?_
        replace h := ofP h; rcases h with ⟨c289, h⟩ | ⟨c289, h⟩
        · refine fi_true rfl (decide_eq_true c289) ?_
          refine fi_skip ?_
          refine fi_seq ?_
          refine fi_block ?_
          refine fi_seq ?_
          refine fi_region ?_
          refine so_move (v := (.v v286)) rfl ?_
          refine so_move (v := (.v (.int .i64 x287))) rfl ?_
          refine so_bin rfl rfl (ab_rem (by decide)) ?_
          refine sv_ii rfl F230.us2 F230.it5 ?_
          refine sv_bslice hs (eInt .u8) ([(IntKind.u8.wrap (Int.tmod x287 (256 : Int)))] : List (Int)) [[(.int .u8 (IntKind.u8.wrap (Int.tmod x287 (256 : Int))))]] F230.te82 F230.sz5 F230.ze5 rfl rfl rfl rfl (fun _ => rfl) rfl (by decide) nofun (fun v290 H291 nv290 hs => ?_)
          obtain ⟨c295, h⟩ := h
          refine sv_app hs 1 rfl (hs.shows 0 rfl) (fun _ => rfl) (by decide) F230.ta82_82 (by decide) c295 rfl rfl nofun (fun v293 H294 kv293 hs => ?_)
          replace hs := hs.del 0
          have nv293 := kv293 nv286
          refine so_assign (v := (.v v293)) rfl ?_
          refine so_nil ?_
          refine fi_region ?_
          refine so_move (v := (.v (.int .i64 x287))) rfl ?_
          refine so_bin rfl rfl (ab_quo (by decide)) ?_
          refine so_assign (v := (.v (.int .i64 (IntKind.i64.wrap (Int.tdiv x287 (256 : Int)))))) rfl ?_
          refine so_nil ?_
          refine fi_inBlock ?_
          refine fi_region ?_
          refine so_move (v := (.v (.int .i64 k288))) rfl ?_
          refine so_bin rfl rfl ab_add ?_
          refine so_assign (v := (.v (.int .i64 (IntKind.i64.wrap (k288 + (1 : Int)))))) rfl ?_
          refine so_nil ?_
          exact fi_at [(0, (.v v0)), (3, (.v v293)), (4, (.v (.int .i64 y225))), (7, (.v (.int .i64 (IntKind.i64.wrap (Int.tdiv x287 (256 : Int)))))), (10, (.v (.int .i64 (IntKind.i64.wrap (k288 + (1 : Int)))))), (13, (.v (.int .i64 (l0.length : Int)))), (14, (.v (.int .i64 x222)))] ⟨rfl, rfl, rfl, rfl, rfl, rfl, rfl, trivial⟩ (h _ _ _ nv293 hs)
        · refine fi_false rfl (decide_eq_false c289) ?_
          refine fi_exit rfl ?_
          refine fi_inBlock ?_
          refine fi_region ?_
          refine so_bin rfl rfl ab_add ?_
          refine so_move (v := (.v (.int .i64 (IntKind.i64.wrap (x222 + (1 : Int)))))) rfl ?_
          refine so_nil ?_
          exact fi_at [(0, (.v v0)), (3, (.v v286)), (4, (.v (.int .i64 y225))), (13, (.v (.int .i64 (l0.length : Int)))), (14, (.v (.int .i64 (IntKind.i64.wrap (x222 + (1 : Int))))))] ⟨rfl, rfl, rfl, rfl, rfl, trivial⟩ (h _ _ _ nv286 hs)
    · refine so_gno rfl (decide_eq_false c230) ?_
      refine so_gno rfl (decide_eq_false c230) ?_
      refine so_gno rfl (decide_eq_false c230) ?_
      refine so_gno rfl (decide_eq_false c230) ?_
      refine so_pick_f (v := (.v (.bool false))) rfl (decide_eq_false c230) rfl ?_
      refine so_nil ?_
      refine fi_false rfl rfl ?_
      refine fi_exit rfl ?_
      refine fi_seq ?_
      refine fi_region ?_
      refine so_move (v := (.v v220)) rfl ?_
      refine so_move (v := (.v (.int .i64 z228))) rfl ?_
      refine sv_ii rfl F230.us2 F230.it5 ?_
      refine sv_bslice hs (eInt .u8) ([(IntKind.u8.wrap z228)] : List (Int)) [[(.int .u8 (IntKind.u8.wrap z228))]] F230.te82 F230.sz5 F230.ze5 rfl rfl rfl rfl (fun _ => rfl) rfl (by decide) nofun (fun v298 H299 nv298 hs => ?_)
      obtain ⟨c303, h⟩ := h
      refine sv_app hs 1 rfl (hs.shows 0 rfl) (fun _ => rfl) (by decide) F230.ta82_82 (by decide) c303 rfl rfl nofun (fun v301 H302 kv301 hs => ?_)
      replace hs := hs.del 0
      have nv301 := kv301 nv220
      refine so_assign (v := (.v v301)) rfl ?_
      refine so_nil ?_
      refine fi_seq ?_
      refine fi_region ?_
      refine so_move (v := (.v (.int .i64 z228))) rfl ?_
      refine so_assign (v := (.v (.int .i64 z228))) rfl ?_
      refine so_nil ?_
      refine fi_block ?_
      refine fi_loop ?_
      refine fi_at [(0, (.v v0)), (3, (.v v301)), (4, (.v (.int .i64 y225))), (7, (.v (.int .i64 (ibits .xor .i64 y225 before221)))), (10, (.v (.int .i64 z228))), (13, (.v (.int .i64 (l0.length : Int)))), (14, (.v (.int .i64 x222)))] ⟨rfl, rfl, rfl, rfl, rfl, rfl, rfl, trivial⟩ ?_
      refine h (fun (out317 : List (Int)) (x319 : Int) (k320 : Int) => ∀ (s : Nat → TV) (H : Heap) (v318 : AV) (nv318 : v318 ≠ .nilsl), Sep H (Pc.osl v318 1 (enc (eInt .u8) out317) :: fr) → Fin _ _ (updL s [(0, (.v v0)), (3, (.v v318)), (4, (.v (.int .i64 y225))), (7, (.v (.int .i64 x319))), (10, (.v (.int .i64 k320))), (13, (.v (.int .i64 (l0.length : Int)))), (14, (.v (.int .i64 x222)))]) H _) ?_ _ _ _ nv301 hs
      intro out317 x319 k320 h s328 H329 v318 nv318 hs
      refine fi_inLoop ?_
      refine fi_seq ?_
      refine fi_seq ?_
      refine fi_region ?_
      refine so_move (v := (.v (.int .i64 k320))) rfl ?_
      refine so_bin rfl rfl ab_lss ?_
      refine so_nil ?_
      replace h := ofP h; rcases h with ⟨c321, h⟩ | ⟨c321, h⟩
      · refine fi_true rfl (decide_eq_true c321) ?_
        refine fi_skip ?_
        refine fi_seq ?_
        refine fi_block ?_
        refine fi_seq ?_
        refine fi_region ?_
        refine so_move (v := (.v v318)) rfl ?_
        refine so_move (v := (.v (.int .i64 x319))) rfl ?_
        refine so_bin rfl rfl (ab_rem (by decide)) ?_
        refine sv_ii rfl F230.us2 F230.it5 ?_
        refine sv_bslice hs (eInt .u8) ([(IntKind.u8.wrap (Int.tmod x319 (256 : Int)))] : List (Int)) [[(.int .u8 (IntKind.u8.wrap (Int.tmod x319 (256 : Int))))]] F230.te82 F230.sz5 F230.ze5 rfl rfl rfl rfl (fun _ => rfl) rfl (by decide) nofun (fun v322 H323 nv322 hs => ?_)
        obtain ⟨c327, h⟩ := h
        refine sv_app hs 1 rfl (hs.shows 0 rfl) (fun _ => rfl) (by decide) F230.ta82_82 (by decide) c327 rfl rfl nofun (fun v325 H326 kv325 hs => ?_)
        replace hs := hs.del 0
        have nv325 := kv325 nv318
        refine so_assign (v := (.v v325)) rfl ?_
        refine so_nil ?_
        refine fi_region ?_
        refine so_move (v := (.v (.int .i64 x319))) rfl ?_
        refine so_bin rfl rfl (ab_quo (by decide)) ?_
        refine so_assign (v := (.v (.int .i64 (IntKind.i64.wrap (Int.tdiv x319 (256 : Int)))))) rfl ?_
        refine so_nil ?_
        refine fi_inBlock ?_
        refine fi_region ?_
        refine so_move (v := (.v (.int .i64 k320))) rfl ?_
        refine so_bin rfl rfl ab_add ?_
        refine so_assign (v := (.v (.int .i64 (IntKind.i64.wrap (k320 + (1 : Int)))))) rfl ?_
        refine so_nil ?_
        exact fi_at [(0, (.v v0)), (3, (.v v325)), (4, (.v (.int .i64 y225))), (7, (.v (.int .i64 (IntKind.i64.wrap (Int.tdiv x319 (256 : Int)))))), (10, (.v (.int .i64 (IntKind.i64.wrap (k320 + (1 : Int)))))), (13, (.v (.int .i64 (l0.length : Int)))), (14, (.v (.int .i64 x222)))] ⟨rfl, rfl, rfl, rfl, rfl, rfl, rfl, trivial⟩ (h _ _ _ nv325 hs)
      · refine fi_false rfl (decide_eq_false c321) ?_
        refine fi_exit rfl ?_
        refine fi_inBlock ?_
        refine fi_region ?_
        refine so_bin rfl rfl ab_add ?_
        refine so_move (v := (.v (.int .i64 (IntKind.i64.wrap (x222 + (1 : Int)))))) rfl ?_
        refine so_nil ?_
        exact fi_at [(0, (.v v0)), (3, (.v v318)), (4, (.v (.int .i64 y225))), (13, (.v (.int .i64 (l0.length : Int)))), (14, (.v (.int .i64 (IntKind.i64.wrap (x222 + (1 : Int))))))] ⟨rfl, rfl, rfl, rfl, rfl, trivial⟩ (h _ _ _ nv318 hs)
  · refine fi_false rfl (decide_eq_false c223) ?_
    refine fi_exit rfl ?_
    refine fi_seq ?_
    refine fi_region ?_
    refine so_move (v := (.v v220)) rfl ?_
    refine sv_bs (hs.shows 0 rfl) nv220 rfl F230.te82 F230.it5 F230.sr9 ?_
    refine so_assign (v := (.v (.str (pk (byts out219))))) rfl ?_
    refine so_nil ?_
    exact by_ret rfl ⟨_, h, rfl, (Sep.del 0 hs)⟩
theorem spec_l07Pack_okS {fr : List Pc} {H : Heap} (v0 : AV) (l0 : List (Nat)) (hs : Sep H fr) (g0 : ∀ H, Sep H fr → Shows H v0 1 (enc (eFlt .f32) l0)) (K : (List UInt8) → Prop) (h : spec_l07Pack.wp l0 K) : OkQ Try.prog 230 [(.v v0)] H (fun r H2 => ∃ (y0 : List UInt8), K y0 ∧ r = (.v (.str (pk y0))) ∧ H = H2) := by
  obtain ⟨r, H2, h1, y0, hK, hr, hsep⟩ := spec_l07Pack_ok (fr := came H) (H := H) v0 l0 (came_sep H) (came_shows (g0 H hs)) K h
  have hk : H.n ≤ H2.n ∧ ∀ i, i < H.n → H2.f i = H.f i := hsep.1.2.1
  exact ⟨r, H, h1.forget hk.1 hk.2 (by subst hr; rfl), y0, hK, hr, rfl⟩

end Go.Proofs.Ytkaidcgelbhofaa.G

namespace Go.Proofs.Ytkaidcgelbhofaa.G
open Go Go.Ab Go.Proofs Go.Proofs.Ytkaidcgelbhofaa
set_option maxRecDepth 100000
set_option linter.unusedVariables false
set_option linter.unusedSimpArgs false
set_option maxHeartbeats 1000000
attribute [local irreducible] wops wopf Go.Ab.Fin
theorem F170.it2 : tint Try.prog 2 = some .i64 := by kernel_rfl
theorem F170.it3 : tint Try.prog 3 = some .i64 := by kernel_rfl
theorem F170.sr9 : tstr Try.prog 9 = true := by kernel_rfl
theorem F170.sz37 : tsz Try.prog 37 = some 1 := by kernel_rfl
theorem F170.ta36_36 : tapp Try.prog 36 36 = some (1, 4) := by kernel_rfl
theorem F170.te36 : telem Try.prog 36 = some 37 := by kernel_rfl
theorem F170.ti36 : (telem Try.prog 36).isSome = true := by kernel_rfl
theorem F170.us5 : (Try.prog.underlying 5).isSome = true := by kernel_rfl
theorem F170.ze37 : tzero Try.prog 37 = some [(.flt .f32 (0 : Nat))] := by kernel_rfl
theorem spec_l07Unpack_ok {fr : List Pc} {H : Heap} (a0 : List UInt8) (hs : Sep H (fr))  (K : (List (Nat)) → Bool → Prop) (h : spec_l07Unpack.wp a0 K) : OkQ Try.prog 170 [(.v (.str (pk a0)))] H (fun r H2 => ∃ (y0 : List (Nat)) (y1 : Bool), K y0 y1 ∧ ∃ (w0_ : AV), r = (.t [(.v w0_), (.v (.bool y1))]) ∧ Sep H2 (Pc.osl w0_ 1 (enc (eFlt .f32) y0) :: fr)) := by
  unfold spec_l07Unpack.wp at h
  refine of_body Try.f170 F.hm Try.func170 rfl Try.call170 (by kernel_rfl) (by simp) ?_
  refine fi_seq ?_
  refine fi_region ?_
  refine so_assign (v := (.v .nilsl)) rfl ?_
  refine so_assign (v := (.v (.bool false))) rfl ?_
  refine so_nil ?_
  refine fi_seq ?_
  refine fi_region ?_
  refine sv_bslice hs (eFlt .f32) ([] : List (Nat)) [] F170.te36 F170.sz37 F170.ze37 rfl rfl rfl rfl (fun _ => rfl) rfl (by decide) nofun (fun v101 H102 nv101 hs => ?_)
  refine so_assign (v := (.v v101)) rfl ?_
  refine so_nil ?_
  refine fi_seq ?_
  refine fi_region ?_
  refine so_assign (v := (.v (.int .i64 (0 : Int)))) rfl ?_
  refine so_nil ?_
  refine fi_seq ?_
  refine fi_region ?_
  refine so_assign (v := (.v (.int .i64 (0 : Int)))) rfl ?_
  refine so_nil ?_
  refine fi_seq ?_
  refine fi_block ?_
  refine fi_loop ?_
  refine fi_at [(0, (.v (.str (pk a0)))), (4, (.v v101)), (5, (.v (.int .i64 (0 : Int)))), (6, (.v (.int .i64 (0 : Int))))] ⟨rfl, rfl, rfl, rfl, trivial⟩ ?_
  refine h (fun (out144 : List (Nat)) (before146 : Int) (atq147 : Int) => ∀ (s : Nat → TV) (H : Heap) (v145 : AV) (nv145 : v145 ≠ .nilsl), Sep H (Pc.osl v145 1 (enc (eFlt .f32) out144) :: fr) → Fin _ _ (updL s [(0, (.v (.str (pk a0)))), (4, (.v v145)), (5, (.v (.int .i64 before146))), (6, (.v (.int .i64 atq147)))]) H _) ?_ _ _ _ nv101 hs
  intro out144 before146 atq147 h s182 H183 v145 nv145 hs
  refine fi_inLoop ?_
  refine fi_seq ?_
  refine fi_seq ?_
  refine fi_region ?_
  refine so_move (v := (.v (.int .i64 atq147))) rfl ?_
  refine so_move (v := (.v (.str (pk a0)))) rfl ?_
  refine so_slen rfl F170.sr9 ?_
  refine so_bin rfl rfl ab_lss ?_
  refine so_move (v := (.v (.bool (decide (atq147 < (a0.length : Int)))))) rfl ?_
  replace h := ofP h; rcases h with ⟨c148, h⟩ | ⟨c148, h⟩
  · refine so_gyes rfl (decide_eq_true c148) ?_
    refine so_move (v := (.v v145)) rfl ?_
    refine so_gyes rfl (decide_eq_true c148) ?_
    refine sv_len (hs.shows 0 rfl) (fun _ => rfl) (by decide) rfl F170.ti36 ?_
    refine so_gyes rfl (decide_eq_true c148) ?_
    refine so_bin rfl rfl ab_leq ?_
    refine so_pick_t (v := (.v (.bool (decide ((out144.length : Int) ≤ (128 : Int)))))) rfl (decide_eq_true c148) rfl ?_
    refine so_nil ?_
    replace h := ofP h; rcases h with ⟨c149, h⟩ | ⟨c149, h⟩
    · refine fi_true rfl (decide_eq_true c149) ?_
      refine fi_skip ?_
      refine fi_block ?_
      refine fi_seq ?_
      refine fi_region ?_
      refine so_move (v := (.v (.str (pk a0)))) rfl ?_
      refine so_move (v := (.v (.int .i64 atq147))) rfl ?_
      obtain ⟨c150, h⟩ := h
      refine so_index rfl rfl F170.sr9 c150 ?_
      refine sv_ii rfl F170.us5 F170.it3 ?_
      refine so_assign (v := (.v (.int .i64 (IntKind.i64.wrap (bt a0 atq147))))) rfl ?_
      refine so_nil ?_
      refine fi_seq ?_
      refine fi_region ?_
      refine so_move (v := (.v (.int .i64 atq147))) rfl ?_
      refine so_bin rfl rfl ab_add ?_
      refine so_assign (v := (.v (.int .i64 (IntKind.i64.wrap (atq147 + (1 : Int)))))) rfl ?_
      refine so_nil ?_
      refine fi_seq ?_
      refine fi_seq ?_
      refine fi_region ?_
      refine so_move (v := (.v (.int .i64 (IntKind.i64.wrap (bt a0 atq147))))) rfl ?_
      refine so_bin rfl rfl ab_gtr ?_
      refine so_move (v := (.v (.bool (decide ((4 : Int) < (IntKind.i64.wrap (bt a0 atq147))))))) rfl ?_
      replace h := ofP h; rcases h with ⟨c151, h⟩ | ⟨c151, h⟩
      · refine so_gno rfl (decide_eq_true c151) ?_
        refine so_gno rfl (decide_eq_true c151) ?_
        refine so_gno rfl (decide_eq_true c151) ?_
        refine so_gno rfl (decide_eq_true c151) ?_
        refine so_gno rfl (decide_eq_true c151) ?_
        refine so_gno rfl (decide_eq_true c151) ?_
        refine so_gno rfl (decide_eq_true c151) ?_
        refine so_pick_t (v := (.v (.bool true))) rfl (decide_eq_true c151) rfl ?_
        refine so_nil ?_
        refine fi_true rfl rfl ?_
        refine fi_seq ?_
        refine fi_region ?_
        refine so_assign (v := (.v .nilsl)) rfl ?_
        refine so_assign (v := (.v (.bool false))) rfl ?_
        refine so_nil ?_
        exact by_ret rfl ⟨_, _, h, _, rfl, (Sep.nil (Sep.del 0 hs) 1)⟩
      · refine so_gyes rfl (decide_eq_false c151) ?_
        refine so_move (v := (.v (.int .i64 (IntKind.i64.wrap (atq147 + (1 : Int)))))) rfl ?_
        refine so_gyes rfl (decide_eq_false c151) ?_
        refine so_bin rfl rfl ab_add ?_
        refine so_gyes rfl (decide_eq_false c151) ?_
        refine so_move (v := (.v (.int .i64 (IntKind.i64.wrap (bt a0 atq147))))) rfl ?_
        refine so_gyes rfl (decide_eq_false c151) ?_
        refine so_bin rfl rfl ab_sub ?_
        refine so_gyes rfl (decide_eq_false c151) ?_
        refine so_move (v := (.v (.str (pk a0)))) rfl ?_
        refine so_gyes rfl (decide_eq_false c151) ?_
        refine so_slen rfl F170.sr9 ?_
        refine so_gyes rfl (decide_eq_false c151) ?_
        refine so_bin rfl rfl ab_gtr ?_
        refine so_pick_f (v := (.v (.bool (decide ((a0.length : Int) < (IntKind.i64.wrap ((IntKind.i64.wrap ((IntKind.i64.wrap (atq147 + (1 : Int))) + (4 : Int))) - (IntKind.i64.wrap (bt a0 atq147))))))))) rfl (decide_eq_false c151) rfl ?_
        refine so_nil ?_
        replace h := ofP h; rcases h with ⟨c152, h⟩ | ⟨c152, h⟩
        · refine fi_true rfl (decide_eq_true c152) ?_
          refine fi_seq ?_
          refine fi_region ?_
          refine so_assign (v := (.v .nilsl)) rfl ?_
          refine so_assign (v := (.v (.bool false))) rfl ?_
          refine so_nil ?_
          exact by_ret rfl ⟨_, _, h, _, rfl, (Sep.nil (Sep.del 0 hs) 1)⟩
        · refine fi_false rfl (decide_eq_false c152) ?_
          refine fi_skip ?_
          refine fi_seq ?_
          refine fi_region ?_
          refine so_assign (v := (.v (.int .i64 (0 : Int)))) rfl ?_
          refine so_nil ?_
          refine fi_seq ?_
          refine fi_region ?_
          refine so_assign (v := (.v (.int .i64 (1 : Int)))) rfl ?_
          refine so_nil ?_
          refine fi_seq ?_
          refine fi_seq ?_
          refine fi_region ?_
          refine so_move (v := (.v (.int .i64 (IntKind.i64.wrap (bt a0 atq147))))) rfl ?_
          refine so_assign (v := (.v (.int .i64 (IntKind.i64.wrap (bt a0 atq147))))) rfl ?_
          refine so_nil ?_
          refine fi_block ?_
          refine fi_loop ?_
          refine fi_at [(0, (.v (.str (pk a0)))), (4, (.v v145)), (5, (.v (.int .i64 before146))), (6, (.v (.int .i64 (IntKind.i64.wrap (atq147 + (1 : Int)))))), (8, (.v (.int .i64 (0 : Int)))), (9, (.v (.int .i64 (1 : Int)))), (10, (.v (.int .i64 (IntKind.i64.wrap (bt a0 atq147)))))] ⟨rfl, rfl, rfl, rfl, rfl, rfl, rfl, trivial⟩ ?_
          refine h (fun (atq154 : Int) (x155 : Int) (scale156 : Int) (k157 : Int) => ∀ (s : Nat → TV) (H : Heap), Sep H (Pc.osl v145 1 (enc (eFlt .f32) out144) :: fr) → Fin _ _ (updL s [(0, (.v (.str (pk a0)))), (4, (.v v145)), (5, (.v (.int .i64 before146))), (6, (.v (.int .i64 atq154))), (8, (.v (.int .i64 x155))), (9, (.v (.int .i64 scale156))), (10, (.v (.int .i64 k157)))]) H _) ?_ _ _ hs
          intro atq154 x155 scale156 k157 h s168 H169 hs
          refine fi_inLoop ?_
          refine fi_seq ?_
          refine fi_seq ?_
          refine fi_region ?_
          refine so_move (v := (.v (.int .i64 k157))) rfl ?_
          refine so_bin rfl rfl ab_lss ?_
          refine so_nil ?_
          replace h := ofP h; rcases h with ⟨c158, h⟩ | ⟨c158, h⟩
          · refine fi_true rfl (decide_eq_true c158) ?_
            refine fi_skip ?_
            refine fi_seq ?_
            refine fi_block ?_
            refine fi_seq ?_
            refine fi_region ?_
            refine so_move (v := (.v (.int .i64 x155))) rfl ?_
            refine so_move (v := (.v (.str (pk a0)))) rfl ?_
            refine so_move (v := (.v (.int .i64 atq154))) rfl ?_
            obtain ⟨c159, h⟩ := h
            refine so_index rfl rfl F170.sr9 c159 ?_
            refine sv_ii rfl F170.us5 F170.it2 ?_
            refine so_move (v := (.v (.int .i64 scale156))) rfl ?_
            refine so_bin rfl rfl ab_mul ?_
            refine so_bin rfl rfl ab_add ?_
            refine so_assign (v := (.v (.int .i64 (IntKind.i64.wrap (x155 + (IntKind.i64.wrap ((IntKind.i64.wrap (bt a0 atq154)) * scale156))))))) rfl ?_
            refine so_nil ?_
            refine fi_seq ?_
            refine fi_region ?_
            refine so_move (v := (.v (.int .i64 scale156))) rfl ?_
            refine so_bin rfl rfl ab_mul ?_
            refine so_assign (v := (.v (.int .i64 (IntKind.i64.wrap (scale156 * (256 : Int)))))) rfl ?_
            refine so_nil ?_
            refine fi_region ?_
            refine so_move (v := (.v (.int .i64 atq154))) rfl ?_
            refine so_bin rfl rfl ab_add ?_
            refine so_assign (v := (.v (.int .i64 (IntKind.i64.wrap (atq154 + (1 : Int)))))) rfl ?_
            refine so_nil ?_
            refine fi_inBlock ?_
            refine fi_region ?_
            refine so_move (v := (.v (.int .i64 k157))) rfl ?_
            refine so_bin rfl rfl ab_add ?_
            refine so_assign (v := (.v (.int .i64 (IntKind.i64.wrap (k157 + (1 : Int)))))) rfl ?_
            refine so_nil ?_
            exact fi_at [(0, (.v (.str (pk a0)))), (4, (.v v145)), (5, (.v (.int .i64 before146))), (6, (.v (.int .i64 (IntKind.i64.wrap (atq154 + (1 : Int)))))), (8, (.v (.int .i64 (IntKind.i64.wrap (x155 + (IntKind.i64.wrap ((IntKind.i64.wrap (bt a0 atq154)) * scale156))))))), (9, (.v (.int .i64 (IntKind.i64.wrap (scale156 * (256 : Int)))))), (10, (.v (.int .i64 (IntKind.i64.wrap (k157 + (1 : Int))))))] ⟨rfl, rfl, rfl, rfl, rfl, rfl, rfl, trivial⟩ (h _ _  hs)
          · refine fi_false rfl (decide_eq_false c158) ?_
            refine fi_exit rfl ?_
            refine fi_seq ?_
            refine fi_region ?_
            refine so_move (v := (.v (.int .i64 before146))) rfl ?_
            refine so_move (v := (.v (.int .i64 x155))) rfl ?_
            refine so_bin rfl rfl ab_xor ?_
            refine so_assign (v := (.v (.int .i64 (ibits .xor .i64 before146 x155)))) rfl ?_
            refine so_nil ?_
            refine fi_region ?_
            refine so_move (v := (.v v145)) rfl ?_
            refine so_move (v := (.v (.int .i64 (ibits .xor .i64 before146 x155)))) rfl ?_
            refine sv_callS (spec_l01From_ok (ibits .xor .i64 before146 x155) hs  _ h) (fun _ _ ⟨_, _, _, e⟩ => e) rfl rfl ?_
            clear h
            rintro _ _ ⟨y160, h, rfl, rfl⟩
            refine sv_bslice hs (eFlt .f32) ([y160] : List (Nat)) [[(.flt .f32 y160)]] F170.te36 F170.sz37 F170.ze37 rfl rfl rfl rfl (fun _ => rfl) rfl (by decide) nofun (fun v162 H163 nv162 hs => ?_)
            obtain ⟨c167, h⟩ := h
            refine sv_app hs 1 rfl (hs.shows 0 rfl) (fun _ => rfl) (by decide) F170.ta36_36 (by decide) c167 rfl rfl nofun (fun v165 H166 kv165 hs => ?_)
            replace hs := hs.del 0
            have nv165 := kv165 nv145
            refine so_assign (v := (.v v165)) rfl ?_
            refine so_nil ?_
            refine fi_inBlock ?_
            exact fi_at [(0, (.v (.str (pk a0)))), (4, (.v v165)), (5, (.v (.int .i64 (ibits .xor .i64 before146 x155)))), (6, (.v (.int .i64 atq154)))] ⟨rfl, rfl, rfl, rfl, trivial⟩ (h _ _ _ nv165 hs)
    · refine fi_false rfl (decide_eq_false c149) ?_
      refine fi_exit rfl ?_
      refine fi_seq ?_
      refine fi_seq ?_
      refine fi_region ?_
      refine so_move (v := (.v v145)) rfl ?_
      refine sv_callS (spec_l07Values_ok v145 out144 hs (fun _ hs => (hs.shows 0 rfl)) _ h) (fun _ _ ⟨_, _, _, e⟩ => e) rfl rfl ?_
      clear h
      rintro _ _ ⟨y170, h, rfl, rfl⟩
      refine so_un rfl au_not ?_
      refine so_move (v := (.v (.bool (!y170)))) rfl ?_
      replace h := ofT h; rcases h with ⟨c172, h⟩ | ⟨c172, h⟩
      · refine so_gyes rfl (not_f c172) ?_
        refine so_move (v := (.v v145)) rfl ?_
        refine so_gyes rfl (not_f c172) ?_
        refine sv_callS (spec_l07Pack_okS v145 out144 hs (fun _ hs => (hs.shows 0 rfl)) _ h) (fun _ _ ⟨_, _, _, e⟩ => e) rfl rfl ?_
        clear h
        rintro _ _ ⟨y173, h, rfl, rfl⟩
        refine so_gyes rfl (not_f c172) ?_
        refine so_move (v := (.v (.str (pk a0)))) rfl ?_
        refine so_gyes rfl (not_f c172) ?_
        refine so_bin rfl rfl ab_sneq ?_
        refine so_pick_f (v := (.v (.bool (!(decide (y173 = a0)))))) rfl (not_f c172) rfl ?_
        refine so_nil ?_
        replace h := ofP h; rcases h with ⟨c175, h⟩ | ⟨c175, h⟩
        · refine fi_false rfl (not_f (decide_eq_true c175)) ?_
          refine fi_skip ?_
          refine fi_seq ?_
          refine fi_region ?_
          refine so_move (v := (.v v145)) rfl ?_
          refine so_assign (v := (.v v145)) rfl ?_
          refine so_assign (v := (.v (.bool true))) rfl ?_
          refine so_nil ?_
          exact by_ret rfl ⟨_, _, h, _, rfl, hs⟩
        · refine fi_true rfl (not_t (decide_eq_false c175)) ?_
          refine fi_seq ?_
          refine fi_region ?_
          refine so_assign (v := (.v .nilsl)) rfl ?_
          refine so_assign (v := (.v (.bool false))) rfl ?_
          refine so_nil ?_
          exact by_ret rfl ⟨_, _, h, _, rfl, (Sep.nil (Sep.del 0 hs) 1)⟩
      · refine so_gno rfl (not_t c172) ?_
        refine so_gno rfl (not_t c172) ?_
        refine so_gno rfl (not_t c172) ?_
        refine so_gno rfl (not_t c172) ?_
        refine so_pick_t (v := (.v (.bool true))) rfl (not_t c172) rfl ?_
        refine so_nil ?_
        refine fi_true rfl rfl ?_
        refine fi_seq ?_
        refine fi_region ?_
        refine so_assign (v := (.v .nilsl)) rfl ?_
        refine so_assign (v := (.v (.bool false))) rfl ?_
        refine so_nil ?_
        exact by_ret rfl ⟨_, _, h, _, rfl, (Sep.nil (Sep.del 0 hs) 1)⟩
  · refine so_gno rfl (decide_eq_false c148) ?_
    refine so_gno rfl (decide_eq_false c148) ?_
    refine so_gno rfl (decide_eq_false c148) ?_
    refine so_pick_f (v := (.v (.bool false))) rfl (decide_eq_false c148) rfl ?_
    refine so_nil ?_
    refine fi_false rfl rfl ?_
    refine fi_exit rfl ?_
    refine fi_seq ?_
    refine fi_seq ?_
    refine fi_region ?_
    refine so_move (v := (.v v145)) rfl ?_
    refine sv_callS (spec_l07Values_ok v145 out144 hs (fun _ hs => (hs.shows 0 rfl)) _ h) (fun _ _ ⟨_, _, _, e⟩ => e) rfl rfl ?_
    clear h
    rintro _ _ ⟨y176, h, rfl, rfl⟩
    refine so_un rfl au_not ?_
    refine so_move (v := (.v (.bool (!y176)))) rfl ?_
    replace h := ofT h; rcases h with ⟨c178, h⟩ | ⟨c178, h⟩
    · refine so_gyes rfl (not_f c178) ?_
      refine so_move (v := (.v v145)) rfl ?_
      refine so_gyes rfl (not_f c178) ?_
      refine sv_callS (spec_l07Pack_okS v145 out144 hs (fun _ hs => (hs.shows 0 rfl)) _ h) (fun _ _ ⟨_, _, _, e⟩ => e) rfl rfl ?_
      clear h
      rintro _ _ ⟨y179, h, rfl, rfl⟩
      refine so_gyes rfl (not_f c178) ?_
      refine so_move (v := (.v (.str (pk a0)))) rfl ?_
      refine so_gyes rfl (not_f c178) ?_
      refine so_bin rfl rfl ab_sneq ?_
      refine so_pick_f (v := (.v (.bool (!(decide (y179 = a0)))))) rfl (not_f c178) rfl ?_
      refine so_nil ?_
      replace h := ofP h; rcases h with ⟨c181, h⟩ | ⟨c181, h⟩
      · refine fi_false rfl (not_f (decide_eq_true c181)) ?_
        refine fi_skip ?_
        refine fi_seq ?_
        refine fi_region ?_
        refine so_move (v := (.v v145)) rfl ?_
        refine so_assign (v := (.v v145)) rfl ?_
        refine so_assign (v := (.v (.bool true))) rfl ?_
        refine so_nil ?_
        exact by_ret rfl ⟨_, _, h, _, rfl, hs⟩
      · refine fi_true rfl (not_t (decide_eq_false c181)) ?_
        refine fi_seq ?_
        refine fi_region ?_
        refine so_assign (v := (.v .nilsl)) rfl ?_
        refine so_assign (v := (.v (.bool false))) rfl ?_
        refine so_nil ?_
        exact by_ret rfl ⟨_, _, h, _, rfl, (Sep.nil (Sep.del 0 hs) 1)⟩
    · refine so_gno rfl (not_t c178) ?_
      refine so_gno rfl (not_t c178) ?_
      refine so_gno rfl (not_t c178) ?_
      refine so_gno rfl (not_t c178) ?_
      refine so_pick_t (v := (.v (.bool true))) rfl (not_t c178) rfl ?_
      refine so_nil ?_
      refine fi_true rfl rfl ?_
      refine fi_seq ?_
      refine fi_region ?_
      refine so_assign (v := (.v .nilsl)) rfl ?_
      refine so_assign (v := (.v (.bool false))) rfl ?_
      refine so_nil ?_
      exact by_ret rfl ⟨_, _, h, _, rfl, (Sep.nil (Sep.del 0 hs) 1)⟩

end Go.Proofs.Ytkaidcgelbhofaa.G

namespace Go.Proofs.Ytkaidcgelbhofaa.G
open Go Go.Ab Go.Proofs Go.Proofs.Ytkaidcgelbhofaa
set_option maxRecDepth 100000
set_option linter.unusedVariables false
set_option linter.unusedSimpArgs false
set_option maxHeartbeats 1000000
attribute [local irreducible] wops wopf Go.Ab.Fin
theorem spec_l00In_ok {fr : List Pc} {H : Heap} (a0 : Int) (a1 : Int) (a2 : Int) (hs : Sep H (fr))  (K : Bool → Prop) (h : spec_l00In.wp a0 a1 a2 K) : OkQ Try.prog 102 [(.v (.int .i64 a0)), (.v (.int .i64 a1)), (.v (.int .i64 a2))] H (fun r H2 => ∃ (y0 : Bool), K y0 ∧ r = (.v (.bool y0)) ∧ H = H2) := by
  unfold spec_l00In.wp at h
  refine of_body Try.f102 F.hm Try.func102 rfl Try.call102 (by kernel_rfl) (by simp) ?_
  refine fi_seq ?_
  refine fi_region ?_
  refine so_assign (v := (.v (.bool false))) rfl ?_
  refine so_nil ?_
  refine fi_seq ?_
  refine fi_region ?_
  refine so_move (v := (.v (.int .i64 a0))) rfl ?_
  refine so_move (v := (.v (.int .i64 a1))) rfl ?_
  refine so_bin rfl rfl ab_geq ?_
  refine so_move (v := (.v (.bool (decide (a1 ≤ a0))))) rfl ?_
  replace h := ofP h; rcases h with ⟨c101, h⟩ | ⟨c101, h⟩
  · refine so_gyes rfl (decide_eq_true c101) ?_
    refine so_move (v := (.v (.int .i64 a0))) rfl ?_
    refine so_gyes rfl (decide_eq_true c101) ?_
    refine so_move (v := (.v (.int .i64 a2))) rfl ?_
    refine so_gyes rfl (decide_eq_true c101) ?_
    refine so_bin rfl rfl ab_leq ?_
    refine so_pick_t (v := (.v (.bool (decide (a0 ≤ a2))))) rfl (decide_eq_true c101) rfl ?_
    refine so_assign (v := (.v (.bool (decide (a0 ≤ a2))))) rfl ?_
    refine so_nil ?_
    exact by_ret rfl ⟨_, h, rfl, rfl⟩
  · refine so_gno rfl (decide_eq_false c101) ?_
    refine so_gno rfl (decide_eq_false c101) ?_
    refine so_gno rfl (decide_eq_false c101) ?_
    refine so_pick_f (v := (.v (.bool false))) rfl (decide_eq_false c101) rfl ?_
    refine so_assign (v := (.v (.bool false))) rfl ?_
    refine so_nil ?_
    exact by_ret rfl ⟨_, h, rfl, rfl⟩

end Go.Proofs.Ytkaidcgelbhofaa.G

namespace Go.Proofs.Ytkaidcgelbhofaa.G
open Go Go.Ab Go.Proofs Go.Proofs.Ytkaidcgelbhofaa
set_option maxRecDepth 100000
set_option linter.unusedVariables false
set_option linter.unusedSimpArgs false
set_option maxHeartbeats 1000000
attribute [local irreducible] wops wopf Go.Ab.Fin
theorem F231.sr9 : tstr Try.prog 9 = true := by kernel_rfl
theorem spec_l07Name_ok {fr : List Pc} {H : Heap} (a0 : List UInt8) (hs : Sep H (fr))  (K : Bool → Prop) (h : spec_l07Name.wp a0 K) : OkQ Try.prog 231 [(.v (.str (pk a0)))] H (fun r H2 => ∃ (y0 : Bool), K y0 ∧ r = (.v (.bool y0)) ∧ H = H2) := by
  unfold spec_l07Name.wp at h
  refine of_body Try.f231 F.hm Try.func231 rfl Try.call231 (by kernel_rfl) (by simp) ?_
  refine fi_seq ?_
  refine fi_region ?_
  refine so_assign (v := (.v (.bool false))) rfl ?_
  refine so_nil ?_
  refine fi_seq ?_
  refine fi_seq ?_
  refine fi_region ?_
  refine so_assign (v := (.v (.int .i64 (0 : Int)))) rfl ?_
  refine so_nil ?_
  refine fi_block ?_
  refine fi_loop ?_
  refine fi_at [(0, (.v (.str (pk a0)))), (3, (.v (.int .i64 (0 : Int))))] ⟨rfl, rfl, trivial⟩ ?_
  refine h (fun (i102 : Int) => ∀ (s : Nat → TV), Fin _ _ (updL s [(0, (.v (.str (pk a0)))), (3, (.v (.int .i64 i102)))]) _ _) ?_ _
  intro i102 h s108
  refine fi_inLoop ?_
  refine fi_seq ?_
  refine fi_seq ?_
  refine fi_region ?_
  refine so_move (v := (.v (.int .i64 i102))) rfl ?_
  refine so_move (v := (.v (.str (pk a0)))) rfl ?_
  refine so_slen rfl F231.sr9 ?_
  refine so_bin rfl rfl ab_lss ?_
  refine so_nil ?_
  replace h := ofP h; rcases h with ⟨c103, h⟩ | ⟨c103, h⟩
  · refine fi_true rfl (decide_eq_true c103) ?_
    refine fi_skip ?_
    refine fi_seq ?_
    refine fi_block ?_
    refine fi_seq ?_
    refine fi_region ?_
    refine so_move (v := (.v (.str (pk a0)))) rfl ?_
    refine so_move (v := (.v (.int .i64 i102))) rfl ?_
    obtain ⟨c104, h⟩ := h
    refine so_index rfl rfl F231.sr9 c104 ?_
    refine so_bin rfl rfl ab_lss ?_
    refine so_move (v := (.v (.bool (decide ((bt a0 i102) < (97 : Int)))))) rfl ?_
    replace h := ofP h; rcases h with ⟨c105, h⟩ | ⟨c105, h⟩
    · refine so_gno rfl (decide_eq_true c105) ?_
      refine so_gno rfl (decide_eq_true c105) ?_
      refine so_gno rfl (decide_eq_true c105) ?_
      refine so_gno rfl (decide_eq_true c105) ?_
      refine so_pick_t (v := (.v (.bool true))) rfl (decide_eq_true c105) rfl ?_
      refine so_nil ?_
      refine fi_true rfl rfl ?_
      refine fi_seq ?_
      refine fi_region ?_
      refine so_assign (v := (.v (.bool false))) rfl ?_
      refine so_nil ?_
      exact by_ret rfl ⟨_, h, rfl, rfl⟩
    · refine so_gyes rfl (decide_eq_false c105) ?_
      refine so_move (v := (.v (.str (pk a0)))) rfl ?_
      refine so_gyes rfl (decide_eq_false c105) ?_
      refine so_move (v := (.v (.int .i64 i102))) rfl ?_
      refine so_gyes rfl (decide_eq_false c105) ?_
      refine so_index rfl rfl F231.sr9 c104 ?_
      refine so_gyes rfl (decide_eq_false c105) ?_
      refine so_bin rfl rfl ab_gtr ?_
      refine so_pick_f (v := (.v (.bool (decide ((122 : Int) < (bt a0 i102)))))) rfl (decide_eq_false c105) rfl ?_
      refine so_nil ?_
      replace h := ofP h; rcases h with ⟨c106, h⟩ | ⟨c106, h⟩
      · refine fi_true rfl (decide_eq_true c106) ?_
        refine fi_seq ?_
        refine fi_region ?_
        refine so_assign (v := (.v (.bool false))) rfl ?_
        refine so_nil ?_
        exact by_ret rfl ⟨_, h, rfl, rfl⟩
      · refine fi_false rfl (decide_eq_false c106) ?_
        refine fi_skip ?_
        refine fi_inBlock ?_
        refine fi_region ?_
        refine so_move (v := (.v (.int .i64 i102))) rfl ?_
        refine so_bin rfl rfl ab_add ?_
        refine so_assign (v := (.v (.int .i64 (IntKind.i64.wrap (i102 + (1 : Int)))))) rfl ?_
        refine so_nil ?_
        exact fi_at [(0, (.v (.str (pk a0)))), (3, (.v (.int .i64 (IntKind.i64.wrap (i102 + (1 : Int))))))] ⟨rfl, rfl, trivial⟩ (h _)
  · refine fi_false rfl (decide_eq_false c103) ?_
    refine fi_exit rfl ?_
    refine fi_seq ?_
    refine fi_region ?_
    refine so_move (v := (.v (.str (pk a0)))) rfl ?_
    refine so_slen rfl F231.sr9 ?_
    refine so_bin rfl rfl ab_geq ?_
    refine so_move (v := (.v (.bool (decide ((1 : Int) ≤ (a0.length : Int)))))) rfl ?_
    replace h := ofP h; rcases h with ⟨c107, h⟩ | ⟨c107, h⟩
    · refine so_gyes rfl (decide_eq_true c107) ?_
      refine so_move (v := (.v (.str (pk a0)))) rfl ?_
      refine so_gyes rfl (decide_eq_true c107) ?_
      refine so_slen rfl F231.sr9 ?_
      refine so_gyes rfl (decide_eq_true c107) ?_
      refine so_bin rfl rfl ab_leq ?_
      refine so_pick_t (v := (.v (.bool (decide ((a0.length : Int) ≤ (8 : Int)))))) rfl (decide_eq_true c107) rfl ?_
      refine so_assign (v := (.v (.bool (decide ((a0.length : Int) ≤ (8 : Int)))))) rfl ?_
      refine so_nil ?_
      exact by_ret rfl ⟨_, h, rfl, rfl⟩
    · refine so_gno rfl (decide_eq_false c107) ?_
      refine so_gno rfl (decide_eq_false c107) ?_
      refine so_gno rfl (decide_eq_false c107) ?_
      refine so_pick_f (v := (.v (.bool false))) rfl (decide_eq_false c107) rfl ?_
      refine so_assign (v := (.v (.bool false))) rfl ?_
      refine so_nil ?_
      exact by_ret rfl ⟨_, h, rfl, rfl⟩

end Go.Proofs.Ytkaidcgelbhofaa.G

namespace Go.Proofs.Ytkaidcgelbhofaa.G
open Go Go.Ab Go.Proofs Go.Proofs.Ytkaidcgelbhofaa
set_option maxRecDepth 100000
set_option linter.unusedVariables false
set_option linter.unusedSimpArgs false
set_option maxHeartbeats 1000000
attribute [local irreducible] wops wopf Go.Ab.Fin
theorem F171.ag2 : tagg Try.prog 2 = some false := by kernel_rfl
theorem F171.ag36 : tagg Try.prog 36 = some false := by kernel_rfl
theorem F171.ag9 : tagg Try.prog 9 = some false := by kernel_rfl
theorem F171.fd138_0 : tfield Try.prog 138 0 = some (0, 1, false) := by kernel_rfl
theorem F171.fd138_1 : tfield Try.prog 138 1 = some (1, 1, false) := by kernel_rfl
theorem F171.fd138_2 : tfield Try.prog 138 2 = some (2, 1, false) := by kernel_rfl
theorem spec_l07Take_ok {fr : List Pc} {H : Heap} (i0 o0 : Nat) (a0 : List UInt8) (a1 : Int) (v2 : AV) (l2 : List (Nat)) (hs : Sep H (fr)) (g2 : ∀ H, Sep H fr → Shows H v2 1 (enc (eFlt .f32) l2)) (q0 : ∀ H, Sep H fr → PtAt H i0 o0 [(.str (pk a0)), (.int .i64 a1), v2]) (K : Bool → Prop) (h : spec_l07Take.wp a0 a1 l2 K) : OkQ Try.prog 171 [(.v (.ptr i0 o0))] H (fun r H2 => ∃ (y0 : Bool), K y0 ∧ r = (.v (.bool y0)) ∧ H = H2) := by
  unfold spec_l07Take.wp at h
  refine of_body Try.f171 F.hm Try.func171 rfl Try.call171 (by kernel_rfl) (by simp) ?_
  refine fi_seq ?_
  refine fi_region ?_
  refine so_assign (v := (.v (.bool false))) rfl ?_
  refine so_nil ?_
  refine fi_seq ?_
  refine fi_region ?_
  refine so_move (v := (.v (.ptr i0 o0))) rfl ?_
  refine so_nilCheck rfl ?_
  refine so_fieldAddr rfl F171.fd138_0 ?_
  refine su_ld (q0 _ hs) 0 rfl rfl F171.ag9 ?_
  refine sv_callS (spec_l07Name_ok a0 hs  _ h) (fun _ _ ⟨_, _, _, e⟩ => e) rfl rfl ?_
  clear h
  rintro _ _ ⟨y101, h, rfl, rfl⟩
  refine so_move (v := (.v (.bool y101))) rfl ?_
  replace h := ofT h; rcases h with ⟨c103, h⟩ | ⟨c103, h⟩
  · refine so_gyes rfl c103 ?_
    refine so_move (v := (.v (.ptr i0 o0))) rfl ?_
    refine so_gyes rfl c103 ?_
    refine so_nilCheck rfl ?_
    refine so_gyes rfl c103 ?_
    refine so_fieldAddr rfl F171.fd138_1 ?_
    refine so_gyes rfl c103 ?_
    refine su_ld (q0 _ hs) 1 rfl rfl F171.ag2 ?_
    refine so_gyes rfl c103 ?_
    refine sv_callS (spec_l00In_ok a1 (1 : Int) (65535 : Int) hs  _ h) (fun _ _ ⟨_, _, _, e⟩ => e) rfl rfl ?_
    clear h
    rintro _ _ ⟨y104, h, rfl, rfl⟩
    refine so_pick_t (v := (.v (.bool y104))) rfl c103 rfl ?_
    refine so_move (v := (.v (.bool y104))) rfl ?_
    replace h := ofT h; rcases h with ⟨c106, h⟩ | ⟨c106, h⟩
    · refine so_gyes rfl c106 ?_
      refine so_move (v := (.v (.ptr i0 o0))) rfl ?_
      refine so_gyes rfl c106 ?_
      refine so_nilCheck rfl ?_
      refine so_gyes rfl c106 ?_
      refine so_fieldAddr rfl F171.fd138_2 ?_
      refine so_gyes rfl c106 ?_
      refine su_ld (q0 _ hs) 2 rfl rfl F171.ag36 ?_
      refine so_gyes rfl c106 ?_
      refine sv_callS (spec_l07Values_ok v2 l2 hs (fun _ hs => (g2 _ hs)) _ h) (fun _ _ ⟨_, _, _, e⟩ => e) rfl rfl ?_
      clear h
      rintro _ _ ⟨y107, h, rfl, rfl⟩
      refine so_pick_t (v := (.v (.bool y107))) rfl c106 rfl ?_
      refine so_assign (v := (.v (.bool y107))) rfl ?_
      refine so_nil ?_
      exact by_ret rfl ⟨_, h, rfl, rfl⟩
    · refine so_gno rfl c106 ?_
      refine so_gno rfl c106 ?_
      refine so_gno rfl c106 ?_
      refine so_gno rfl c106 ?_
      refine so_gno rfl c106 ?_
      refine so_pick_f (v := (.v (.bool false))) rfl c106 rfl ?_
      refine so_assign (v := (.v (.bool false))) rfl ?_
      refine so_nil ?_
      exact by_ret rfl ⟨_, h, rfl, rfl⟩
  · refine so_gno rfl c103 ?_
    refine so_gno rfl c103 ?_
    refine so_gno rfl c103 ?_
    refine so_gno rfl c103 ?_
    refine so_gno rfl c103 ?_
    refine so_pick_f (v := (.v (.bool false))) rfl c103 rfl ?_
    refine so_move (v := (.v (.bool false))) rfl ?_
    refine so_gno rfl rfl ?_
    refine so_gno rfl rfl ?_
    refine so_gno rfl rfl ?_
    refine so_gno rfl rfl ?_
    refine so_gno rfl rfl ?_
    refine so_pick_f (v := (.v (.bool false))) rfl rfl rfl ?_
    refine so_assign (v := (.v (.bool false))) rfl ?_
    refine so_nil ?_
    exact by_ret rfl ⟨_, h, rfl, rfl⟩

end Go.Proofs.Ytkaidcgelbhofaa.G

namespace Go.Proofs.Ytkaidcgelbhofaa.G
open Go Go.Ab Go.Proofs Go.Proofs.Ytkaidcgelbhofaa
set_option maxRecDepth 100000
set_option linter.unusedVariables false
set_option linter.unusedSimpArgs false
set_option maxHeartbeats 1000000
attribute [local irreducible] wops wopf Go.Ab.Fin
theorem F232.it2 : tint Try.prog 2 = some .i64 := by kernel_rfl
theorem F232.sr9 : tstr Try.prog 9 = true := by kernel_rfl
theorem F232.us5 : (Try.prog.underlying 5).isSome = true := by kernel_rfl
theorem spec_l01Check_ok {fr : List Pc} {H : Heap} (a0 : Int) (a1 : List UInt8) (hs : Sep H (fr))  (K : Int → Prop) (h : spec_l01Check.wp a0 a1 K) : OkQ Try.prog 232 [(.v (.int .i64 a0)), (.v (.str (pk a1)))] H (fun r H2 => ∃ (y0 : Int), K y0 ∧ r = (.v (.int .i64 y0)) ∧ H = H2) := by
  unfold spec_l01Check.wp at h
  refine of_body Try.f232 F.hm Try.func232 rfl Try.call232 (by kernel_rfl) (by simp) ?_
  refine fi_seq ?_
  refine fi_region ?_
  refine so_assign (v := (.v (.int .i64 (0 : Int)))) rfl ?_
  refine so_nil ?_
  refine fi_seq ?_
  refine fi_seq ?_
  refine fi_region ?_
  refine so_assign (v := (.v (.int .i64 (0 : Int)))) rfl ?_
  refine so_nil ?_
  refine fi_block ?_
  refine fi_loop ?_
  refine fi_at [(0, (.v (.int .i64 a0))), (1, (.v (.str (pk a1)))), (5, (.v (.int .i64 (0 : Int))))] ⟨rfl, rfl, rfl, trivial⟩ ?_
  refine h (fun (n102 : Int) (i103 : Int) => ∀ (s : Nat → TV), Fin _ _ (updL s [(0, (.v (.int .i64 n102))), (1, (.v (.str (pk a1)))), (5, (.v (.int .i64 i103)))]) _ _) ?_ _
  intro n102 i103 h s106
  refine fi_inLoop ?_
  refine fi_seq ?_
  refine fi_seq ?_
  refine fi_region ?_
  refine so_move (v := (.v (.int .i64 i103))) rfl ?_
  refine so_move (v := (.v (.str (pk a1)))) rfl ?_
  refine so_slen rfl F232.sr9 ?_
  refine so_bin rfl rfl ab_lss ?_
  refine so_nil ?_
  replace h := ofP h; rcases h with ⟨c104, h⟩ | ⟨c104, h⟩
  · refine fi_true rfl (decide_eq_true c104) ?_
    refine fi_skip ?_
    refine fi_seq ?_
    refine fi_block ?_
    refine fi_region ?_
    refine so_move (v := (.v (.int .i64 n102))) rfl ?_
    refine so_bin rfl rfl ab_mul ?_
    refine so_move (v := (.v (.str (pk a1)))) rfl ?_
    refine so_move (v := (.v (.int .i64 i103))) rfl ?_
    obtain ⟨c105, h⟩ := h
    refine so_index rfl rfl F232.sr9 c105 ?_
    refine sv_ii rfl F232.us5 F232.it2 ?_
    refine so_bin rfl rfl ab_add ?_
    refine so_bin rfl rfl ab_add ?_
    refine so_bin rfl rfl (ab_rem (by decide)) ?_
    refine so_assign (v := (.v (.int .i64 (Int.tmod (IntKind.i64.wrap ((IntKind.i64.wrap ((IntKind.i64.wrap ((853 : Int) * n102)) + (IntKind.i64.wrap (bt a1 i103)))) + (139 : Int))) (65003 : Int))))) rfl ?_
    refine so_nil ?_
    refine fi_inBlock ?_
    refine fi_region ?_
    refine so_move (v := (.v (.int .i64 i103))) rfl ?_
    refine so_bin rfl rfl ab_add ?_
    refine so_assign (v := (.v (.int .i64 (IntKind.i64.wrap (i103 + (1 : Int)))))) rfl ?_
    refine so_nil ?_
    exact fi_at [(0, (.v (.int .i64 (Int.tmod (IntKind.i64.wrap ((IntKind.i64.wrap ((IntKind.i64.wrap ((853 : Int) * n102)) + (IntKind.i64.wrap (bt a1 i103)))) + (139 : Int))) (65003 : Int))))), (1, (.v (.str (pk a1)))), (5, (.v (.int .i64 (IntKind.i64.wrap (i103 + (1 : Int))))))] ⟨rfl, rfl, rfl, trivial⟩ (h _)
  · refine fi_false rfl (decide_eq_false c104) ?_
    refine fi_exit rfl ?_
    refine fi_seq ?_
    refine fi_region ?_
    refine so_move (v := (.v (.int .i64 n102))) rfl ?_
    refine so_assign (v := (.v (.int .i64 n102))) rfl ?_
    refine so_nil ?_
    exact by_ret rfl ⟨_, h, rfl, rfl⟩

end Go.Proofs.Ytkaidcgelbhofaa.G

namespace Go.Proofs.Ytkaidcgelbhofaa.G
open Go Go.Ab Go.Proofs Go.Proofs.Ytkaidcgelbhofaa
set_option maxRecDepth 100000
set_option linter.unusedVariables false
set_option linter.unusedSimpArgs false
set_option maxHeartbeats 1000000
attribute [local irreducible] wops wopf Go.Ab.Fin
theorem F172.ag2 : tagg Try.prog 2 = some false := by kernel_rfl
theorem F172.ag36 : tagg Try.prog 36 = some false := by kernel_rfl
theorem F172.ag9 : tagg Try.prog 9 = some false := by kernel_rfl
theorem F172.fd138_0 : tfield Try.prog 138 0 = some (0, 1, false) := by kernel_rfl
theorem F172.fd138_1 : tfield Try.prog 138 1 = some (1, 1, false) := by kernel_rfl
theorem F172.fd138_2 : tfield Try.prog 138 2 = some (2, 1, false) := by kernel_rfl
theorem F172.it5 : tint Try.prog 5 = some .u8 := by kernel_rfl
theorem F172.ns82 : tstr Try.prog 82 = false := by kernel_rfl
theorem F172.sr9 : tstr Try.prog 9 = true := by kernel_rfl
theorem F172.sz5 : tsz Try.prog 5 = some 1 := by kernel_rfl
theorem F172.ta82_82 : tapp Try.prog 82 82 = some (1, 1) := by kernel_rfl
theorem F172.te82 : telem Try.prog 82 = some 5 := by kernel_rfl
theorem F172.us2 : (Try.prog.underlying 2).isSome = true := by kernel_rfl
theorem F172.us3 : (Try.prog.underlying 3).isSome = true := by kernel_rfl
theorem F172.us82 : (Try.prog.underlying 82).isSome = true := by kernel_rfl
theorem F172.us9 : (Try.prog.underlying 9).isSome = true := by kernel_rfl
theorem F172.ze5 : tzero Try.prog 5 = some [(.int .u8 (0 : Int))] := by kernel_rfl
theorem spec_l07Store_ok {fr : List Pc} {H : Heap} (i0 o0 : Nat) (a0 : List UInt8) (a1 : Int) (v2 : AV) (l2 : List (Nat)) (hs : Sep H (fr)) (g2 : ∀ H, Sep H fr → Shows H v2 1 (enc (eFlt .f32) l2)) (q0 : ∀ H, Sep H fr → PtAt H i0 o0 [(.str (pk a0)), (.int .i64 a1), v2]) (K : (List UInt8) → Prop) (h : spec_l07Store.wp a0 a1 l2 K) : OkQ Try.prog 172 [(.v (.ptr i0 o0))] H (fun r H2 => ∃ (y0 : List UInt8), K y0 ∧ r = (.v (.str (pk y0))) ∧ Sep H2 (fr)) := by
  unfold spec_l07Store.wp at h
  refine of_body Try.f172 F.hm Try.func172 rfl Try.call172 (by kernel_rfl) (by simp) ?_
  refine fi_seq ?_
  refine fi_region ?_
  refine so_assign (v := (.v (.str (pk ([] : List UInt8))))) rfl ?_
  refine so_nil ?_
  refine fi_seq ?_
  refine fi_region ?_
  refine sv_bslice hs (eInt .u8) ([(84 : Int), (65 : Int), (75 : Int), (49 : Int)] : List (Int)) [[(.int .u8 (84 : Int))], [(.int .u8 (65 : Int))], [(.int .u8 (75 : Int))], [(.int .u8 (49 : Int))]] F172.te82 F172.sz5 F172.ze5 rfl rfl rfl rfl (fun _ => rfl) rfl (by decide) nofun (fun v101 H102 nv101 hs => ?_)
  obtain ⟨c104, h⟩ := h
  refine sv_bb hs 0 rfl c104 rfl F172.te82 F172.it5 F172.ns82 ?_
  refine so_move (v := (.v (.ptr i0 o0))) rfl ?_
  refine so_nilCheck rfl ?_
  refine so_fieldAddr rfl F172.fd138_0 ?_
  refine su_ld (q0 _ hs.tl) 0 rfl rfl F172.ag9 ?_
  refine so_slen rfl F172.sr9 ?_
  refine sv_ii rfl F172.us3 F172.it5 ?_
  refine sv_bslice hs (eInt .u8) ([(IntKind.u8.wrap (a0.length : Int))] : List (Int)) [[(.int .u8 (IntKind.u8.wrap (a0.length : Int)))]] F172.te82 F172.sz5 F172.ze5 rfl rfl rfl rfl (fun _ => rfl) rfl (by decide) nofun (fun v105 H106 nv105 hs => ?_)
  obtain ⟨c110, h⟩ := h
  refine sv_app hs 1 rfl (hs.shows 0 rfl) (fun _ => rfl) (by decide) F172.ta82_82 (by decide) c110 rfl rfl nofun (fun v108 H109 kv108 hs => ?_)
  replace hs := hs.del 0
  have nv108 := kv108 nv101
  refine so_assign (v := (.v v108)) rfl ?_
  refine so_nil ?_
  refine fi_seq ?_
  refine fi_region ?_
  refine so_move (v := (.v v108)) rfl ?_
  refine so_move (v := (.v (.ptr i0 o0))) rfl ?_
  refine so_nilCheck rfl ?_
  refine so_fieldAddr rfl F172.fd138_0 ?_
  refine su_ld (q0 _ hs.tl) 0 rfl rfl F172.ag9 ?_
  refine sv_sb hs rfl F172.us9 F172.ns82 F172.te82 F172.it5 nofun (fun v111 H112 nv111 hs => ?_)
  obtain ⟨c116, h⟩ := h
  refine sv_app hs 1 rfl (hs.shows 0 rfl) (fun _ => rfl) (by decide) F172.ta82_82 (by decide) c116 rfl rfl nofun (fun v114 H115 kv114 hs => ?_)
  have nv114 := kv114 nv108
  refine so_assign (v := (.v v114)) rfl ?_
  refine so_nil ?_
  refine fi_seq ?_
  refine fi_region ?_
  refine so_move (v := (.v (.ptr i0 o0))) rfl ?_
  refine so_nilCheck rfl ?_
  refine so_fieldAddr rfl F172.fd138_2 ?_
  refine su_ld (q0 _ hs.tl.tl) 2 rfl rfl F172.ag36 ?_
  refine sv_callS (spec_l07Pack_okS v2 l2 hs (fun _ hs => (g2 _ hs.tl.tl)) _ h) (fun _ _ ⟨_, _, _, e⟩ => e) rfl rfl ?_
  clear h
  rintro _ _ ⟨y117, h, rfl, rfl⟩
  refine so_assign (v := (.v (.str (pk y117)))) rfl ?_
  refine so_nil ?_
  refine fi_seq ?_
  refine fi_region ?_
  refine so_move (v := (.v v114)) rfl ?_
  refine so_move (v := (.v (.ptr i0 o0))) rfl ?_
  refine so_nilCheck rfl ?_
  refine so_fieldAddr rfl F172.fd138_1 ?_
  refine su_ld (q0 _ hs.tl.tl) 1 rfl rfl F172.ag2 ?_
  refine so_bin rfl rfl (ab_rem (by decide)) ?_
  refine sv_ii rfl F172.us2 F172.it5 ?_
  refine so_move (v := (.v (.ptr i0 o0))) rfl ?_
  refine so_nilCheck rfl ?_
  refine so_fieldAddr rfl F172.fd138_1 ?_
  refine su_ld (q0 _ hs.tl.tl) 1 rfl rfl F172.ag2 ?_
  refine so_bin rfl rfl (ab_quo (by decide)) ?_
  refine sv_ii rfl F172.us2 F172.it5 ?_
  refine so_move (v := (.v (.str (pk y117)))) rfl ?_
  refine so_slen rfl F172.sr9 ?_
  refine so_bin rfl rfl (ab_rem (by decide)) ?_
  refine sv_ii rfl F172.us3 F172.it5 ?_
  refine so_move (v := (.v (.str (pk y117)))) rfl ?_
  refine so_slen rfl F172.sr9 ?_
  refine so_bin rfl rfl (ab_quo (by decide)) ?_
  refine sv_ii rfl F172.us3 F172.it5 ?_
  refine sv_bslice hs (eInt .u8) ([(IntKind.u8.wrap (Int.tmod a1 (256 : Int))), (IntKind.u8.wrap (IntKind.i64.wrap (Int.tdiv a1 (256 : Int)))), (IntKind.u8.wrap (Int.tmod (y117.length : Int) (256 : Int))), (IntKind.u8.wrap (IntKind.i64.wrap (Int.tdiv (y117.length : Int) (256 : Int))))] : List (Int)) [[(.int .u8 (IntKind.u8.wrap (Int.tmod a1 (256 : Int))))], [(.int .u8 (IntKind.u8.wrap (IntKind.i64.wrap (Int.tdiv a1 (256 : Int)))))], [(.int .u8 (IntKind.u8.wrap (Int.tmod (y117.length : Int) (256 : Int))))], [(.int .u8 (IntKind.u8.wrap (IntKind.i64.wrap (Int.tdiv (y117.length : Int) (256 : Int)))))]] F172.te82 F172.sz5 F172.ze5 rfl rfl rfl rfl (fun _ => rfl) rfl (by decide) (fun _ => by kernel_rfl) (fun v119 H120 nv119 hs => ?_)
  obtain ⟨c124, h⟩ := h
  refine sv_app hs 2 rfl (hs.shows 0 rfl) (fun _ => rfl) (by decide) F172.ta82_82 (by decide) c124 rfl rfl (fun _ => by kernel_rfl) (fun v122 H123 kv122 hs => ?_)
  replace hs := hs.del 0
  have nv122 := kv122 nv114
  refine so_assign (v := (.v v122)) rfl ?_
  refine so_nil ?_
  refine fi_seq ?_
  refine fi_region ?_
  refine so_move (v := (.v v122)) rfl ?_
  refine so_move (v := (.v (.str (pk y117)))) rfl ?_
  refine sv_sb hs rfl F172.us9 F172.ns82 F172.te82 F172.it5 nofun (fun v125 H126 nv125 hs => ?_)
  obtain ⟨c130, h⟩ := h
  refine sv_app hs 2 rfl (hs.shows 0 rfl) (fun _ => rfl) (by decide) F172.ta82_82 (by decide) c130 rfl rfl nofun (fun v128 H129 kv128 hs => ?_)
  have nv128 := kv128 nv122
  refine so_assign (v := (.v v128)) rfl ?_
  refine so_nil ?_
  refine fi_seq ?_
  refine fi_region ?_
  refine so_move (v := (.v v128)) rfl ?_
  refine sv_bs (hs.shows 2 rfl) nv128 rfl F172.te82 F172.it5 F172.sr9 ?_
  refine sv_callS (spec_l01Check_ok (0 : Int) (byts ((((([(84 : Int), (65 : Int), (75 : Int), (49 : Int)] : List (Int)) ++ ([(IntKind.u8.wrap (a0.length : Int))] : List (Int))) ++ (nums a0)) ++ ([(IntKind.u8.wrap (Int.tmod a1 (256 : Int))), (IntKind.u8.wrap (IntKind.i64.wrap (Int.tdiv a1 (256 : Int)))), (IntKind.u8.wrap (Int.tmod (y117.length : Int) (256 : Int))), (IntKind.u8.wrap (IntKind.i64.wrap (Int.tdiv (y117.length : Int) (256 : Int))))] : List (Int))) ++ (nums y117))) hs  _ h) (fun _ _ ⟨_, _, _, e⟩ => e) rfl rfl ?_
  clear h
  rintro _ _ ⟨y131, h, rfl, rfl⟩
  refine so_assign (v := (.v (.int .i64 y131))) rfl ?_
  refine so_nil ?_
  refine fi_seq ?_
  refine fi_region ?_
  refine so_move (v := (.v v128)) rfl ?_
  refine so_move (v := (.v (.int .i64 y131))) rfl ?_
  refine so_bin rfl rfl (ab_rem (by decide)) ?_
  refine sv_ii rfl F172.us2 F172.it5 ?_
  refine so_move (v := (.v (.int .i64 y131))) rfl ?_
  refine so_bin rfl rfl (ab_quo (by decide)) ?_
  refine sv_ii rfl F172.us2 F172.it5 ?_
  refine sv_bslice hs (eInt .u8) ([(IntKind.u8.wrap (Int.tmod y131 (256 : Int))), (IntKind.u8.wrap (IntKind.i64.wrap (Int.tdiv y131 (256 : Int))))] : List (Int)) [[(.int .u8 (IntKind.u8.wrap (Int.tmod y131 (256 : Int))))], [(.int .u8 (IntKind.u8.wrap (IntKind.i64.wrap (Int.tdiv y131 (256 : Int)))))]] F172.te82 F172.sz5 F172.ze5 rfl rfl rfl rfl (fun _ => rfl) rfl (by decide) nofun (fun v133 H134 nv133 hs => ?_)
  obtain ⟨c138, h⟩ := h
  refine sv_app hs 3 rfl (hs.shows 0 rfl) (fun _ => rfl) (by decide) F172.ta82_82 (by decide) c138 rfl rfl nofun (fun v136 H137 kv136 hs => ?_)
  replace hs := hs.del 0
  have nv136 := kv136 nv128
  refine sv_bs (hs.shows 2 rfl) nv136 rfl F172.te82 F172.it5 F172.sr9 ?_
  refine so_assign (v := (.v (.str (pk (byts (((((([(84 : Int), (65 : Int), (75 : Int), (49 : Int)] : List (Int)) ++ ([(IntKind.u8.wrap (a0.length : Int))] : List (Int))) ++ (nums a0)) ++ ([(IntKind.u8.wrap (Int.tmod a1 (256 : Int))), (IntKind.u8.wrap (IntKind.i64.wrap (Int.tdiv a1 (256 : Int)))), (IntKind.u8.wrap (Int.tmod (y117.length : Int) (256 : Int))), (IntKind.u8.wrap (IntKind.i64.wrap (Int.tdiv (y117.length : Int) (256 : Int))))] : List (Int))) ++ (nums y117)) ++ ([(IntKind.u8.wrap (Int.tmod y131 (256 : Int))), (IntKind.u8.wrap (IntKind.i64.wrap (Int.tdiv y131 (256 : Int))))] : List (Int)))))))) rfl ?_
  refine so_nil ?_
  exact by_ret rfl ⟨_, h, rfl, (Sep.del 0 (Sep.del 0 (Sep.del 0 hs)))⟩
theorem spec_l07Store_okS {fr : List Pc} {H : Heap} (i0 o0 : Nat) (a0 : List UInt8) (a1 : Int) (v2 : AV) (l2 : List (Nat)) (hs : Sep H fr) (g2 : ∀ H, Sep H fr → Shows H v2 1 (enc (eFlt .f32) l2)) (q0 : ∀ H, Sep H fr → PtAt H i0 o0 [(.str (pk a0)), (.int .i64 a1), v2]) (K : (List UInt8) → Prop) (h : spec_l07Store.wp a0 a1 l2 K) : OkQ Try.prog 172 [(.v (.ptr i0 o0))] H (fun r H2 => ∃ (y0 : List UInt8), K y0 ∧ r = (.v (.str (pk y0))) ∧ H = H2) := by
  obtain ⟨r, H2, h1, y0, hK, hr, hsep⟩ := spec_l07Store_ok (fr := came H) (H := H) i0 o0 a0 a1 v2 l2 (came_sep H) (came_shows (g2 H hs)) (came_ptat (q0 H hs)) K h
  have hk : H.n ≤ H2.n ∧ ∀ i, i < H.n → H2.f i = H.f i := hsep.1.2.1
  exact ⟨r, H, h1.forget hk.1 hk.2 (by subst hr; rfl), y0, hK, hr, rfl⟩

end Go.Proofs.Ytkaidcgelbhofaa.G

namespace Go.Proofs.Ytkaidcgelbhofaa.G
open Go Go.Ab Go.Proofs Go.Proofs.Ytkaidcgelbhofaa
set_option maxRecDepth 100000
set_option linter.unusedVariables false
set_option linter.unusedSimpArgs false
set_option maxHeartbeats 1000000
attribute [local irreducible] wops wopf Go.Ab.Fin
theorem F111.ag138 : tagg Try.prog 138 = some true := by kernel_rfl
theorem F111.bp138 : bplan Try.prog 138 = some ([(.str (pk ([] : List UInt8))), (.int .i64 (0 : Int)), .nilsl], [(0, 1), (1, 1), (2, 1)]) := by kernel_rfl
theorem F111.it2 : tint Try.prog 2 = some .i64 := by kernel_rfl
theorem F111.it3 : tint Try.prog 3 = some .i64 := by kernel_rfl
theorem F111.sr9 : tstr Try.prog 9 = true := by kernel_rfl
theorem F111.sz138 : tsz Try.prog 138 = some 3 := by kernel_rfl
theorem F111.us5 : (Try.prog.underlying 5).isSome = true := by kernel_rfl
theorem F111.ze138 : tzero Try.prog 138 = some [(.str (pk ([] : List UInt8))), (.int .i64 (0 : Int)), .nilsl] := by kernel_rfl
theorem spec_l07Load_ok {fr : List Pc} {H : Heap} (a0 : List UInt8) (hs : Sep H (fr))  (K : (List UInt8) → Int → (List (Nat)) → Bool → Prop) (h : spec_l07Load.wp a0 K) : OkQ Try.prog 111 [(.v (.str (pk a0)))] H (fun r H2 => ∃ (y0 : List UInt8) (y1 : Int) (y2 : List (Nat)) (y3 : Bool), K y0 y1 y2 y3 ∧ ∃ (w0_ : AV), r = (.t [(.g [(.str (pk y0)), (.int .i64 y1), w0_]), (.v (.bool y3))]) ∧ Sep H2 (Pc.osl w0_ 1 (enc (eFlt .f32) y2) :: fr)) := by
  unfold spec_l07Load.wp at h
  refine of_body Try.f111 F.hm Try.func111 rfl Try.call111 (by kernel_rfl) (by simp) ?_
  refine fi_seq ?_
  refine fi_region ?_
  refine sv_alloc hs F111.ze138 rfl nofun (fun id101 H102 hs => ?_)
  refine so_assign (v := (.v (.bool false))) rfl ?_
  refine so_nil ?_
  refine fi_seq ?_
  refine fi_region ?_
  refine so_move (v := (.v (.str (pk a0)))) rfl ?_
  refine sv_callS (spec_l07Long_ok a0 hs  _ h) (fun _ _ ⟨_, _, _, e⟩ => e) rfl rfl ?_
  clear h
  rintro _ _ ⟨y104, h, rfl, rfl⟩
  refine so_assign (v := (.v (.int .i64 y104))) rfl ?_
  refine so_nil ?_
  refine fi_seq ?_
  refine fi_seq ?_
  refine fi_region ?_
  refine so_move (v := (.v (.int .i64 y104))) rfl ?_
  refine so_bin rfl rfl ab_eql ?_
  refine so_move (v := (.v (.bool (decide (y104 = (0 : Int)))))) rfl ?_
  replace h := ofP h; rcases h with ⟨c106, h⟩ | ⟨c106, h⟩
  · refine so_gno rfl (decide_eq_true c106) ?_
    refine so_gno rfl (decide_eq_true c106) ?_
    refine so_gno rfl (decide_eq_true c106) ?_
    refine so_gno rfl (decide_eq_true c106) ?_
    refine so_pick_t (v := (.v (.bool true))) rfl (decide_eq_true c106) rfl ?_
    refine so_nil ?_
    refine fi_true rfl rfl ?_
    refine fi_seq ?_
    refine fi_region ?_
    refine so_build F111.bp138 (cps := []) rfl fan rfl ?_
    refine sv_st hs 0 rfl rfl rfl (c := [(.str (pk ([] : List UInt8))), (.int .i64 (0 : Int)), .nilsl]) rfl F111.sz138 rfl (stc rfl (stc rfl (stc rfl stn))) (leb rfl) (cs' := [(.str (pk ([] : List UInt8))), (.int .i64 (0 : Int)), .nilsl]) rfl nofun (fun H107 hs => ?_)
    refine so_assign (v := (.v (.bool false))) rfl ?_
    refine so_nil ?_
    exact by_ret (res_mk (ar_cells rfl F111.ag138 F111.sz138 (hs.lds 0 rfl (leb rfl) rfl) (ar_tmp rfl ar_nil)) rfl) ⟨_, _, _, _, h, _, rfl, (Sep.nil (Sep.del 0 hs) 1)⟩
  · refine so_gyes rfl (decide_eq_false c106) ?_
    refine so_move (v := (.v (.int .i64 y104))) rfl ?_
    refine so_gyes rfl (decide_eq_false c106) ?_
    refine so_move (v := (.v (.str (pk a0)))) rfl ?_
    refine so_gyes rfl (decide_eq_false c106) ?_
    refine so_slen rfl F111.sr9 ?_
    refine so_gyes rfl (decide_eq_false c106) ?_
    refine so_bin rfl rfl ab_neq ?_
    refine so_pick_f (v := (.v (.bool (!(decide (y104 = (a0.length : Int))))))) rfl (decide_eq_false c106) rfl ?_
    refine so_nil ?_
    replace h := ofP h; rcases h with ⟨c108, h⟩ | ⟨c108, h⟩
    · refine fi_false rfl (not_f (decide_eq_true c108)) ?_
      refine fi_skip ?_
      refine fi_seq ?_
      refine fi_region ?_
      refine so_move (v := (.v (.str (pk a0)))) rfl ?_
      obtain ⟨c109, h⟩ := h
      refine so_index rfl rfl F111.sr9 c109 ?_
      refine sv_ii rfl F111.us5 F111.it3 ?_
      refine so_bin rfl rfl ab_add ?_
      refine so_assign (v := (.v (.int .i64 (IntKind.i64.wrap ((5 : Int) + (IntKind.i64.wrap (bt a0 (4 : Int)))))))) rfl ?_
      refine so_nil ?_
      refine fi_seq ?_
      refine fi_region ?_
      refine so_move (v := (.v (.str (pk a0)))) rfl ?_
      refine so_move (v := (.v (.int .i64 (IntKind.i64.wrap ((5 : Int) + (IntKind.i64.wrap (bt a0 (4 : Int)))))))) rfl ?_
      refine so_bin rfl rfl ab_add ?_
      refine so_move (v := (.v (.int .i64 y104))) rfl ?_
      refine so_bin rfl rfl ab_sub ?_
      obtain ⟨c110, h⟩ := h
      refine so_sslice rfl rfl rfl F111.sr9 rfl rfl c110 ?_
      refine sv_call (spec_l07Unpack_ok ((a0.drop ((IntKind.i64.wrap ((IntKind.i64.wrap ((5 : Int) + (IntKind.i64.wrap (bt a0 (4 : Int))))) + (4 : Int)))).toNat).take (((IntKind.i64.wrap (y104 - (2 : Int)))).toNat - ((IntKind.i64.wrap ((IntKind.i64.wrap ((5 : Int) + (IntKind.i64.wrap (bt a0 (4 : Int))))) + (4 : Int)))).toNat)) hs  _ h) rfl rfl nofun ?_
      clear h hs
      rintro _ H115 ⟨y111, y114, h, v112, rfl, hs⟩
      refine so_move (v := (.t [(.v v112), (.v (.bool y114))])) rfl ?_
      refine so_extract rfl rfl rfl ?_
      refine so_extract rfl rfl rfl ?_
      refine so_assign (v := (.v v112)) rfl ?_
      refine so_assign (v := (.v (.bool y114))) rfl ?_
      refine so_nil ?_
      refine fi_seq ?_
      refine fi_free [2, 5, 6, 10, 11] ?_
      refine wf_pure rfl (by kernel_rfl) ?_
      refine so_move (v := (.v (.str (pk a0)))) rfl ?_
      refine so_end ?_
      refine wf_pure rfl (by kernel_rfl) ?_
      refine so_move (v := (.v (.int .i64 (IntKind.i64.wrap ((5 : Int) + (IntKind.i64.wrap (bt a0 (4 : Int)))))))) rfl ?_
      refine so_end ?_
      obtain ⟨c116, h⟩ := h
      refine wf_free (.v (.str (pk ((a0.drop ((5 : Int)).toNat).take (((IntKind.i64.wrap ((5 : Int) + (IntKind.i64.wrap (bt a0 (4 : Int)))))).toNat - ((5 : Int)).toNat))))) rfl (by kernel_rfl) (stepr (i := 0) rfl (by refine so_sslice rfl rfl rfl F111.sr9 rfl rfl c116 ?_; exact so_end ⟨rfl, rfl⟩)) fan ?_
      refine wf_pure rfl (by kernel_rfl) ?_
      refine so_move (v := (.v (.str (pk a0)))) rfl ?_
      refine so_end ?_
      refine wf_pure rfl (by kernel_rfl) ?_
      refine so_move (v := (.v (.int .i64 (IntKind.i64.wrap ((5 : Int) + (IntKind.i64.wrap (bt a0 (4 : Int)))))))) rfl ?_
      refine so_end ?_
      obtain ⟨c117, h⟩ := h
      refine wf_free (.v (.int .u8 (bt a0 (IntKind.i64.wrap ((5 : Int) + (IntKind.i64.wrap (bt a0 (4 : Int)))))))) rfl (by kernel_rfl) (stepr (i := 0) rfl (by refine so_index rfl rfl F111.sr9 c117 ?_; exact so_end ⟨rfl, rfl⟩)) fan ?_
      refine wf_free (.v (.int .i64 (IntKind.i64.wrap (bt a0 (IntKind.i64.wrap ((5 : Int) + (IntKind.i64.wrap (bt a0 (4 : Int))))))))) rfl (by kernel_rfl) (stepr (i := 0) rfl (by refine sv_ii rfl F111.us5 F111.it2 ?_; exact so_end ⟨rfl, rfl⟩)) fan ?_
      refine wf_pure rfl (by kernel_rfl) ?_
      refine so_move (v := (.v (.str (pk a0)))) rfl ?_
      refine so_end ?_
      refine wf_pure rfl (by kernel_rfl) ?_
      refine so_move (v := (.v (.int .i64 (IntKind.i64.wrap ((5 : Int) + (IntKind.i64.wrap (bt a0 (4 : Int)))))))) rfl ?_
      refine so_end ?_
      refine wf_pure rfl (by kernel_rfl) ?_
      refine so_bin rfl rfl ab_add ?_
      refine so_end ?_
      obtain ⟨c118, h⟩ := h
      refine wf_free (.v (.int .u8 (bt a0 (IntKind.i64.wrap ((IntKind.i64.wrap ((5 : Int) + (IntKind.i64.wrap (bt a0 (4 : Int))))) + (1 : Int)))))) rfl (by kernel_rfl) (stepr (i := 0) rfl (by refine so_index rfl rfl F111.sr9 c118 ?_; exact so_end ⟨rfl, rfl⟩)) fan ?_
      refine wf_free (.v (.int .i64 (IntKind.i64.wrap (bt a0 (IntKind.i64.wrap ((IntKind.i64.wrap ((5 : Int) + (IntKind.i64.wrap (bt a0 (4 : Int))))) + (1 : Int))))))) rfl (by kernel_rfl) (stepr (i := 0) rfl (by refine sv_ii rfl F111.us5 F111.it2 ?_; exact so_end ⟨rfl, rfl⟩)) fan ?_
      refine wf_pure rfl (by kernel_rfl) ?_
      refine so_bin rfl rfl ab_mul ?_
      refine so_end ?_
      refine wf_pure rfl (by kernel_rfl) ?_
      refine so_bin rfl rfl ab_add ?_
      refine so_end ?_
      refine wf_pure rfl (by kernel_rfl) ?_
      refine so_move (v := (.v v112)) rfl ?_
      refine so_end ?_
      refine wf_pure rfl (by kernel_rfl) ?_
      refine so_build F111.bp138 (cps := [(0, [(.str (pk ((a0.drop ((5 : Int)).toNat).take (((IntKind.i64.wrap ((5 : Int) + (IntKind.i64.wrap (bt a0 (4 : Int)))))).toNat - ((5 : Int)).toNat))))]), (1, [(.int .i64 (IntKind.i64.wrap ((IntKind.i64.wrap (bt a0 (IntKind.i64.wrap ((5 : Int) + (IntKind.i64.wrap (bt a0 (4 : Int))))))) + (IntKind.i64.wrap ((256 : Int) * (IntKind.i64.wrap (bt a0 (IntKind.i64.wrap ((IntKind.i64.wrap ((5 : Int) + (IntKind.i64.wrap (bt a0 (4 : Int))))) + (1 : Int))))))))))]), (2, [v112])]) rfl (fac (stc rfl stn) (fac (stc rfl stn) (fac (stc (hs.shows 0 rfl).stor stn) fan))) rfl ?_
      refine so_end ?_
      have hs0_ := hs
      refine wf_chg (by kernel_rfl) ?_
      refine sv_alloc hs F111.ze138 rfl nofun (fun id119 H120 hs => ?_)
      refine so_end ⟨(fac (.inr (stepr (i := 0) rfl (by refine sv_ii rfl F111.us5 F111.it2 ?_; exact so_end ⟨rfl, rfl⟩))) (fac (.inr (stepr (i := 0) rfl (by refine so_index rfl rfl F111.sr9 c118 ?_; exact so_end ⟨rfl, rfl⟩))) (fac (.inr (stepr (i := 0) rfl (by refine sv_ii rfl F111.us5 F111.it2 ?_; exact so_end ⟨rfl, rfl⟩))) (fac (.inr (stepr (i := 0) rfl (by refine so_index rfl rfl F111.sr9 c117 ?_; exact so_end ⟨rfl, rfl⟩))) (fac (.inr (stepr (i := 0) rfl (by refine so_sslice rfl rfl rfl F111.sr9 rfl rfl c116 ?_; exact so_end ⟨rfl, rfl⟩))) fan))))), ?_⟩
      have hs1_ := hs
      refine wf_chg (by kernel_rfl) ?_
      refine sv_st hs 0 rfl rfl rfl (c := [(.str (pk ((a0.drop ((5 : Int)).toNat).take (((IntKind.i64.wrap ((5 : Int) + (IntKind.i64.wrap (bt a0 (4 : Int)))))).toNat - ((5 : Int)).toNat)))), (.int .i64 (IntKind.i64.wrap ((IntKind.i64.wrap (bt a0 (IntKind.i64.wrap ((5 : Int) + (IntKind.i64.wrap (bt a0 (4 : Int))))))) + (IntKind.i64.wrap ((256 : Int) * (IntKind.i64.wrap (bt a0 (IntKind.i64.wrap ((IntKind.i64.wrap ((5 : Int) + (IntKind.i64.wrap (bt a0 (4 : Int))))) + (1 : Int)))))))))), v112]) rfl F111.sz138 rfl (stc rfl (stc rfl (stc (hs.shows 1 rfl).stor stn))) (leb rfl) (cs' := [(.str (pk ((a0.drop ((5 : Int)).toNat).take (((IntKind.i64.wrap ((5 : Int) + (IntKind.i64.wrap (bt a0 (4 : Int)))))).toNat - ((5 : Int)).toNat)))), (.int .i64 (IntKind.i64.wrap ((IntKind.i64.wrap (bt a0 (IntKind.i64.wrap ((5 : Int) + (IntKind.i64.wrap (bt a0 (4 : Int))))))) + (IntKind.i64.wrap ((256 : Int) * (IntKind.i64.wrap (bt a0 (IntKind.i64.wrap ((IntKind.i64.wrap ((5 : Int) + (IntKind.i64.wrap (bt a0 (4 : Int))))) + (1 : Int)))))))))), v112]) rfl nofun (fun H122 hs => ?_)
      refine so_end ⟨(fac (.inl ⟨17, by kernel_rfl⟩) (fac (.inl ⟨17, by kernel_rfl⟩) (fac (.inl ⟨17, by kernel_rfl⟩) (fac (.inl ⟨17, by kernel_rfl⟩) (fac (.inl ⟨17, by kernel_rfl⟩) fan))))), ?_⟩
      refine wf_nil ?_
      refine fi_seq ?_
      refine fi_seq ?_
      refine fi_region ?_
      refine so_move (v := (.v (.bool y114))) rfl ?_
      refine so_un rfl au_not ?_
      refine so_move (v := (.v (.bool (!y114)))) rfl ?_
      replace h := ofT h; rcases h with ⟨c123, h⟩ | ⟨c123, h⟩
      · refine so_gyes rfl (not_f c123) ?_
        refine sv_callS (spec_l07Take_ok id119 0 ((a0.drop ((5 : Int)).toNat).take (((IntKind.i64.wrap ((5 : Int) + (IntKind.i64.wrap (bt a0 (4 : Int)))))).toNat - ((5 : Int)).toNat)) (IntKind.i64.wrap ((IntKind.i64.wrap (bt a0 (IntKind.i64.wrap ((5 : Int) + (IntKind.i64.wrap (bt a0 (4 : Int))))))) + (IntKind.i64.wrap ((256 : Int) * (IntKind.i64.wrap (bt a0 (IntKind.i64.wrap ((IntKind.i64.wrap ((5 : Int) + (IntKind.i64.wrap (bt a0 (4 : Int))))) + (1 : Int))))))))) v112 y111 hs (fun _ hs => (hs.shows 1 rfl)) (fun _ hs => (hs.ptat 0 rfl)) _ h) (fun _ _ ⟨_, _, _, e⟩ => e) rfl rfl ?_
        clear h
        rintro _ _ ⟨y124, h, rfl, rfl⟩
        refine so_gyes rfl (not_f c123) ?_
        refine so_un rfl au_not ?_
        refine so_pick_f (v := (.v (.bool (!y124)))) rfl (not_f c123) rfl ?_
        refine so_move (v := (.v (.bool (!y124)))) rfl ?_
        replace h := ofT h; rcases h with ⟨c126, h⟩ | ⟨c126, h⟩
        · refine so_gyes rfl (not_f c126) ?_
          refine sv_callS (spec_l07Store_okS id119 0 ((a0.drop ((5 : Int)).toNat).take (((IntKind.i64.wrap ((5 : Int) + (IntKind.i64.wrap (bt a0 (4 : Int)))))).toNat - ((5 : Int)).toNat)) (IntKind.i64.wrap ((IntKind.i64.wrap (bt a0 (IntKind.i64.wrap ((5 : Int) + (IntKind.i64.wrap (bt a0 (4 : Int))))))) + (IntKind.i64.wrap ((256 : Int) * (IntKind.i64.wrap (bt a0 (IntKind.i64.wrap ((IntKind.i64.wrap ((5 : Int) + (IntKind.i64.wrap (bt a0 (4 : Int))))) + (1 : Int))))))))) v112 y111 hs (fun _ hs => (hs.shows 1 rfl)) (fun _ hs => (hs.ptat 0 rfl)) _ h) (fun _ _ ⟨_, _, _, e⟩ => e) rfl rfl ?_
          clear h
          rintro _ _ ⟨y127, h, rfl, rfl⟩
          refine so_gyes rfl (not_f c126) ?_
          refine so_move (v := (.v (.str (pk a0)))) rfl ?_
          refine so_gyes rfl (not_f c126) ?_
          refine so_bin rfl rfl ab_sneq ?_
          refine so_pick_f (v := (.v (.bool (!(decide (y127 = a0)))))) rfl (not_f c126) rfl ?_
          refine so_nil ?_
          replace h := ofP h; rcases h with ⟨c129, h⟩ | ⟨c129, h⟩
          · refine fi_false rfl (not_f (decide_eq_true c129)) ?_
            refine fi_skip ?_
            refine fi_seq ?_
            refine fi_region ?_
            refine sv_lds hs 0 rfl rfl (leb rfl) rfl F111.ag138 F111.sz138 ?_
            refine sv_st hs 2 rfl rfl rfl (c := [(.str (pk ((a0.drop ((5 : Int)).toNat).take (((IntKind.i64.wrap ((5 : Int) + (IntKind.i64.wrap (bt a0 (4 : Int)))))).toNat - ((5 : Int)).toNat)))), (.int .i64 (IntKind.i64.wrap ((IntKind.i64.wrap (bt a0 (IntKind.i64.wrap ((5 : Int) + (IntKind.i64.wrap (bt a0 (4 : Int))))))) + (IntKind.i64.wrap ((256 : Int) * (IntKind.i64.wrap (bt a0 (IntKind.i64.wrap ((IntKind.i64.wrap ((5 : Int) + (IntKind.i64.wrap (bt a0 (4 : Int))))) + (1 : Int)))))))))), v112]) rfl F111.sz138 rfl (stc rfl (stc rfl (stc (hs.shows 1 rfl).stor stn))) (leb rfl) (cs' := [(.str (pk ((a0.drop ((5 : Int)).toNat).take (((IntKind.i64.wrap ((5 : Int) + (IntKind.i64.wrap (bt a0 (4 : Int)))))).toNat - ((5 : Int)).toNat)))), (.int .i64 (IntKind.i64.wrap ((IntKind.i64.wrap (bt a0 (IntKind.i64.wrap ((5 : Int) + (IntKind.i64.wrap (bt a0 (4 : Int))))))) + (IntKind.i64.wrap ((256 : Int) * (IntKind.i64.wrap (bt a0 (IntKind.i64.wrap ((IntKind.i64.wrap ((5 : Int) + (IntKind.i64.wrap (bt a0 (4 : Int))))) + (1 : Int)))))))))), v112]) rfl nofun (fun H130 hs => ?_)
            refine so_assign (v := (.v (.bool true))) rfl ?_
            refine so_nil ?_
            exact by_ret (res_mk (ar_cells rfl F111.ag138 F111.sz138 (hs.lds 2 rfl (leb rfl) rfl) (ar_tmp rfl ar_nil)) rfl) ⟨_, _, _, _, h, _, rfl, (Sep.del 1 (Sep.del 0 hs))⟩
          · refine fi_true rfl (not_t (decide_eq_false c129)) ?_
            refine fi_seq ?_
            refine fi_region ?_
            refine so_build F111.bp138 (cps := []) rfl fan rfl ?_
            refine sv_st hs 2 rfl rfl rfl (c := [(.str (pk ([] : List UInt8))), (.int .i64 (0 : Int)), .nilsl]) rfl F111.sz138 rfl (stc rfl (stc rfl (stc rfl stn))) (leb rfl) (cs' := [(.str (pk ([] : List UInt8))), (.int .i64 (0 : Int)), .nilsl]) rfl nofun (fun H131 hs => ?_)
            refine so_assign (v := (.v (.bool false))) rfl ?_
            refine so_nil ?_
            exact by_ret (res_mk (ar_cells rfl F111.ag138 F111.sz138 (hs.lds 2 rfl (leb rfl) rfl) (ar_tmp rfl ar_nil)) rfl) ⟨_, _, _, _, h, _, rfl, (Sep.nil (Sep.del 0 (Sep.del 0 (Sep.del 0 hs))) 1)⟩
        · refine so_gno rfl (not_t c126) ?_
          refine so_gno rfl (not_t c126) ?_
          refine so_gno rfl (not_t c126) ?_
          refine so_pick_t (v := (.v (.bool true))) rfl (not_t c126) rfl ?_
          refine so_nil ?_
          refine fi_true rfl rfl ?_
          refine fi_seq ?_
          refine fi_region ?_
          refine so_build F111.bp138 (cps := []) rfl fan rfl ?_
          refine sv_st hs 2 rfl rfl rfl (c := [(.str (pk ([] : List UInt8))), (.int .i64 (0 : Int)), .nilsl]) rfl F111.sz138 rfl (stc rfl (stc rfl (stc rfl stn))) (leb rfl) (cs' := [(.str (pk ([] : List UInt8))), (.int .i64 (0 : Int)), .nilsl]) rfl nofun (fun H132 hs => ?_)
          refine so_assign (v := (.v (.bool false))) rfl ?_
          refine so_nil ?_
          exact by_ret (res_mk (ar_cells rfl F111.ag138 F111.sz138 (hs.lds 2 rfl (leb rfl) rfl) (ar_tmp rfl ar_nil)) rfl) ⟨_, _, _, _, h, _, rfl, (Sep.nil (Sep.del 0 (Sep.del 0 (Sep.del 0 hs))) 1)⟩
      · refine so_gno rfl (not_t c123) ?_
        refine so_gno rfl (not_t c123) ?_
        refine so_pick_t (v := (.v (.bool true))) rfl (not_t c123) rfl ?_
        refine so_move (v := (.v (.bool true))) rfl ?_
        refine so_gno rfl rfl ?_
        refine so_gno rfl rfl ?_
        refine so_gno rfl rfl ?_
        refine so_pick_t (v := (.v (.bool true))) rfl rfl rfl ?_
        refine so_nil ?_
        refine fi_true rfl rfl ?_
        refine fi_seq ?_
        refine fi_region ?_
        refine so_build F111.bp138 (cps := []) rfl fan rfl ?_
        refine sv_st hs 2 rfl rfl rfl (c := [(.str (pk ([] : List UInt8))), (.int .i64 (0 : Int)), .nilsl]) rfl F111.sz138 rfl (stc rfl (stc rfl (stc rfl stn))) (leb rfl) (cs' := [(.str (pk ([] : List UInt8))), (.int .i64 (0 : Int)), .nilsl]) rfl nofun (fun H133 hs => ?_)
        refine so_assign (v := (.v (.bool false))) rfl ?_
        refine so_nil ?_
        exact by_ret (res_mk (ar_cells rfl F111.ag138 F111.sz138 (hs.lds 2 rfl (leb rfl) rfl) (ar_tmp rfl ar_nil)) rfl) ⟨_, _, _, _, h, _, rfl, (Sep.nil (Sep.del 0 (Sep.del 0 (Sep.del 0 hs))) 1)⟩
    · refine fi_true rfl (not_t (decide_eq_false c108)) ?_
      refine fi_seq ?_
      refine fi_region ?_
      refine so_build F111.bp138 (cps := []) rfl fan rfl ?_
      refine sv_st hs 0 rfl rfl rfl (c := [(.str (pk ([] : List UInt8))), (.int .i64 (0 : Int)), .nilsl]) rfl F111.sz138 rfl (stc rfl (stc rfl (stc rfl stn))) (leb rfl) (cs' := [(.str (pk ([] : List UInt8))), (.int .i64 (0 : Int)), .nilsl]) rfl nofun (fun H134 hs => ?_)
      refine so_assign (v := (.v (.bool false))) rfl ?_
      refine so_nil ?_
      exact by_ret (res_mk (ar_cells rfl F111.ag138 F111.sz138 (hs.lds 0 rfl (leb rfl) rfl) (ar_tmp rfl ar_nil)) rfl) ⟨_, _, _, _, h, _, rfl, (Sep.nil (Sep.del 0 hs) 1)⟩

end Go.Proofs.Ytkaidcgelbhofaa.G

namespace Go.Proofs.Ytkaidcgelbhofaa.G
open Go Go.Ab Go.Proofs Go.Proofs.Ytkaidcgelbhofaa
set_option maxRecDepth 100000
set_option linter.unusedVariables false
set_option linter.unusedSimpArgs false
set_option maxHeartbeats 1000000
attribute [local irreducible] wops wopf Go.Ab.Fin
theorem F38.ag138 : tagg Try.prog 138 = some true := by kernel_rfl
theorem F38.sr9 : tstr Try.prog 9 = true := by kernel_rfl
theorem F38.sz138 : tsz Try.prog 138 = some 3 := by kernel_rfl
theorem F38.ta59_59 : tapp Try.prog 59 59 = some (3, 48) := by kernel_rfl
theorem F38.te59 : telem Try.prog 59 = some 138 := by kernel_rfl
theorem F38.ti59 : (telem Try.prog 59).isSome = true := by kernel_rfl
theorem F38.ze138 : tzero Try.prog 138 = some [(.str (pk ([] : List UInt8))), (.int .i64 (0 : Int)), .nilsl] := by kernel_rfl
theorem spec_RecoverTakes_ok {fr : List Pc} {H : Heap} (a0 : List UInt8) (hs : Sep H (fr))  (K : (List ((List UInt8) × (Int) × (List (Nat)))) → Int → Bool → Prop) (h : spec_RecoverTakes.wp a0 K) : OkQ Try.prog 38 [(.v (.str (pk a0)))] H (fun r H2 => ∃ (y0 : List ((List UInt8) × (Int) × (List (Nat)))) (y1 : Int) (y2 : Bool), K y0 y1 y2 ∧ ∃ (w0_ : AV) (wsw0_ : List (List AV)) (Sw0_ : Nat → Prop), r = (.t [(.v w0_), (.v (.int .i64 y1)), (.v (.bool y2))]) ∧ Sep H2 (dpc w0_ 3 R_s_ii64_LeFlt_f32_poooq IR_s_ii64_LeFlt_f32_poooq y0 wsw0_ Sw0_ :: fr)) := by
  unfold spec_RecoverTakes.wp at h
  refine of_body Try.f38 F.hm Try.func38 rfl Try.call38 (by kernel_rfl) (by simp) ?_
  refine fi_seq ?_
  refine fi_region ?_
  refine so_assign (v := (.v .nilsl)) rfl ?_
  refine so_assign (v := (.v (.int .i64 (0 : Int)))) rfl ?_
  refine so_assign (v := (.v (.bool false))) rfl ?_
  refine so_nil ?_
  refine fi_seq ?_
  refine fi_region ?_
  refine sk_empty hs R_s_ii64_LeFlt_f32_poooq IR_s_ii64_LeFlt_f32_poooq F38.te59 F38.sz138 F38.ze138 rfl nofun (fun v101 ws102 S103 H104 _ hs => ?_)
  refine so_assign (v := (.v v101)) rfl ?_
  refine so_nil ?_
  refine fi_seq ?_
  refine fi_region ?_
  refine so_assign (v := (.v (.int .i64 (0 : Int)))) rfl ?_
  refine so_nil ?_
  refine fi_seq ?_
  refine fi_block ?_
  refine fi_loop ?_
  refine fi_at [(0, (.v (.str (pk a0)))), (5, (.v v101)), (6, (.v (.int .i64 (0 : Int))))] ⟨rfl, rfl, rfl, trivial⟩ ?_
  refine h (fun (out139 : List ((List UInt8) × (Int) × (List (Nat)))) (atq143 : Int) => ∀ (s : Nat → TV) (H : Heap) (v140 : AV) (ws141 : List (List AV)) (S142 : Nat → Prop), Sep H (dpc v140 3 R_s_ii64_LeFlt_f32_poooq IR_s_ii64_LeFlt_f32_poooq out139 ws141 S142 :: fr) → Fin _ _ (updL s [(0, (.v (.str (pk a0)))), (5, (.v v140)), (6, (.v (.int .i64 atq143)))]) H _) ?_ _ _ _ _ _ hs
  intro out139 atq143 h s170 H171 v140 ws141 S142 hs
  refine fi_inLoop ?_
  refine fi_seq ?_
  refine fi_seq ?_
  refine fi_region ?_
  refine so_move (v := (.v v140)) rfl ?_
  refine sd_len ((hs.dshows 0 rfl) : DSh _ _ 3 R_s_ii64_LeFlt_f32_poooq out139 ws141) (by decide) rfl F38.ti59 ?_
  refine so_bin rfl rfl ab_lss ?_
  refine so_nil ?_
  replace h := ofP h; rcases h with ⟨c144, h⟩ | ⟨c144, h⟩
  · refine fi_true rfl (decide_eq_true c144) ?_
    refine fi_skip ?_
    refine fi_block ?_
    refine fi_seq ?_
    refine fi_region ?_
    refine so_move (v := (.v (.str (pk a0)))) rfl ?_
    refine so_move (v := (.v (.int .i64 atq143))) rfl ?_
    obtain ⟨c145, h⟩ := h
    refine so_sslice rfl rfl rfl F38.sr9 rfl rfl c145 ?_
    refine sv_callS (spec_l07Long_ok ((a0.drop (atq143).toNat).take (((a0.length : Int)).toNat - (atq143).toNat)) hs  _ h) (fun _ _ ⟨_, _, _, e⟩ => e) rfl rfl ?_
    clear h
    rintro _ _ ⟨y146, h, rfl, rfl⟩
    refine so_assign (v := (.v (.int .i64 y146))) rfl ?_
    refine so_nil ?_
    refine fi_seq ?_
    refine fi_seq ?_
    refine fi_region ?_
    refine so_move (v := (.v (.int .i64 y146))) rfl ?_
    refine so_bin rfl rfl ab_eql ?_
    refine so_nil ?_
    replace h := ofP h; rcases h with ⟨c148, h⟩ | ⟨c148, h⟩
    · refine fi_true rfl (decide_eq_true c148) ?_
      refine fi_exit rfl ?_
      refine fi_seq ?_
      refine fi_region ?_
      refine so_move (v := (.v v140)) rfl ?_
      refine so_move (v := (.v (.int .i64 atq143))) rfl ?_
      refine so_assign (v := (.v v140)) rfl ?_
      refine so_assign (v := (.v (.int .i64 atq143))) rfl ?_
      refine so_assign (v := (.v (.bool true))) rfl ?_
      refine so_nil ?_
      exact by_ret rfl ⟨_, _, _, h, _, _, _, rfl, hs⟩
    · refine fi_false rfl (decide_eq_false c148) ?_
      refine fi_skip ?_
      refine fi_seq ?_
      refine fi_region ?_
      refine so_move (v := (.v (.str (pk a0)))) rfl ?_
      refine so_move (v := (.v (.int .i64 atq143))) rfl ?_
      refine so_move (v := (.v (.int .i64 atq143))) rfl ?_
      refine so_move (v := (.v (.int .i64 y146))) rfl ?_
      refine so_bin rfl rfl ab_add ?_
      obtain ⟨c149, h⟩ := h
      refine so_sslice rfl rfl rfl F38.sr9 rfl rfl c149 ?_
      refine sv_call (spec_l07Load_ok ((a0.drop (atq143).toNat).take (((IntKind.i64.wrap (atq143 + y146))).toNat - (atq143).toNat)) hs  _ h) rfl rfl nofun ?_
      clear h hs
      rintro _ H156 ⟨y150, y151, y152, y155, h, v153, rfl, hs⟩
      refine so_move (v := (.t [(.g [(.str (pk y150)), (.int .i64 y151), v153]), (.v (.bool y155))])) rfl ?_
      refine so_extract rfl rfl rfl ?_
      refine so_extract rfl rfl rfl ?_
      refine sv_alloc hs F38.ze138 rfl nofun (fun id157 H158 hs => ?_)
      refine sv_st hs 0 rfl rfl rfl (c := [(.str (pk y150)), (.int .i64 y151), v153]) rfl F38.sz138 rfl (stc rfl (stc rfl (stc (hs.shows 1 rfl).stor stn))) (leb rfl) (cs' := [(.str (pk y150)), (.int .i64 y151), v153]) rfl nofun (fun H160 hs => ?_)
      refine so_assign (v := (.v (.bool y155))) rfl ?_
      refine so_nil ?_
      refine fi_seq ?_
      refine fi_seq ?_
      refine fi_region ?_
      refine so_move (v := (.v (.bool y155))) rfl ?_
      refine so_un rfl au_not ?_
      refine so_nil ?_
      replace h := ofT h; rcases h with ⟨c161, h⟩ | ⟨c161, h⟩
      · refine fi_false rfl (not_f c161) ?_
        refine fi_skip ?_
        refine fi_seq ?_
        refine fi_region ?_
        refine so_move (v := (.v v140)) rfl ?_
        refine sv_lds hs 0 rfl rfl (leb rfl) rfl F38.ag138 F38.sz138 ?_
        refine sd_bslice hs [[(.str (pk y150)), (.int .i64 y151), v153]] F38.te59 F38.sz138 F38.ze138 rfl rfl rfl (by simp) (fac (stc rfl (stc rfl (stc (hs.shows 1 rfl).stor stn))) fan) (by decide) rfl nofun (fun v162 H163 _ hs => ?_)
        obtain ⟨c165, h⟩ := h
        replace hs := Sep.front 2 hs rfl
        refine sk_app hs 2 rfl (y150, y151, y152) [(.str (pk y150)), (.int .i64 y151), v153] (hs.tl.shows 0 rfl) (fun _ hh => ⟨rfl, hh⟩) rfl rfl (by decide) F38.ta59_59 (by decide) c165 rfl rfl nofun (fun v166 ws167 S168 H169 hs => ?_)
        replace hs := hs.del 0
        refine so_assign (v := (.v v166)) rfl ?_
        refine so_nil ?_
        refine fi_region ?_
        refine so_move (v := (.v (.int .i64 atq143))) rfl ?_
        refine so_move (v := (.v (.int .i64 y146))) rfl ?_
        refine so_bin rfl rfl ab_add ?_
        refine so_assign (v := (.v (.int .i64 (IntKind.i64.wrap (atq143 + y146))))) rfl ?_
        refine so_nil ?_
        refine fi_inBlock ?_
        exact fi_at [(0, (.v (.str (pk a0)))), (5, (.v v166)), (6, (.v (.int .i64 (IntKind.i64.wrap (atq143 + y146)))))] ⟨rfl, rfl, rfl, trivial⟩ (h _ _ _ _ _ (Sep.del 0 hs))
      · refine fi_true rfl (not_t c161) ?_
        refine fi_exit rfl ?_
        refine fi_seq ?_
        refine fi_region ?_
        refine so_move (v := (.v v140)) rfl ?_
        refine so_move (v := (.v (.int .i64 atq143))) rfl ?_
        refine so_assign (v := (.v v140)) rfl ?_
        refine so_assign (v := (.v (.int .i64 atq143))) rfl ?_
        refine so_assign (v := (.v (.bool true))) rfl ?_
        refine so_nil ?_
        exact by_ret rfl ⟨_, _, _, h, _, _, _, rfl, (Sep.del 0 (Sep.del 0 hs))⟩
  · refine fi_false rfl (decide_eq_false c144) ?_
    refine fi_exit rfl ?_
    refine fi_seq ?_
    refine fi_region ?_
    refine so_move (v := (.v v140)) rfl ?_
    refine so_move (v := (.v (.int .i64 atq143))) rfl ?_
    refine so_assign (v := (.v v140)) rfl ?_
    refine so_assign (v := (.v (.int .i64 atq143))) rfl ?_
    refine so_assign (v := (.v (.bool true))) rfl ?_
    refine so_nil ?_
    exact by_ret rfl ⟨_, _, _, h, _, _, _, rfl, hs⟩

end Go.Proofs.Ytkaidcgelbhofaa.G

namespace Go.Proofs.Ytkaidcgelbhofaa.G
open Go Go.Ab Go.Proofs Go.Proofs.Ytkaidcgelbhofaa
set_option maxRecDepth 100000
set_option linter.unusedVariables false
set_option linter.unusedSimpArgs false
set_option maxHeartbeats 1000000
attribute [local irreducible] wops wopf Go.Ab.Fin
theorem F233.sr9 : tstr Try.prog 9 = true := by kernel_rfl
theorem internal_stringslite_HasPrefix_ok {fr : List Pc} {H : Heap} (a0 : List UInt8) (a1 : List UInt8) (hs : Sep H (fr))  (K : Bool → Prop) (h : internal_stringslite_HasPrefix.wp a0 a1 K) : OkQ Try.prog 233 [(.v (.str (pk a0))), (.v (.str (pk a1)))] H (fun r H2 => ∃ (y0 : Bool), K y0 ∧ r = (.v (.bool y0)) ∧ H = H2) := by
  unfold internal_stringslite_HasPrefix.wp at h
  refine of_body Try.f233 F.hm Try.func233 rfl Try.call233 (by kernel_rfl) (by simp) ?_
  refine fi_seq ?_
  refine fi_region ?_
  refine so_assign (v := (.v (.bool false))) rfl ?_
  refine so_nil ?_
  refine fi_seq ?_
  refine fi_region ?_
  refine so_move (v := (.v (.str (pk a0)))) rfl ?_
  refine so_slen rfl F233.sr9 ?_
  refine so_move (v := (.v (.str (pk a1)))) rfl ?_
  refine so_slen rfl F233.sr9 ?_
  refine so_bin rfl rfl ab_geq ?_
  refine so_move (v := (.v (.bool (decide ((a1.length : Int) ≤ (a0.length : Int)))))) rfl ?_
  replace h := ofP h; rcases h with ⟨c101, h⟩ | ⟨c101, h⟩
  · refine so_gyes rfl (decide_eq_true c101) ?_
    refine so_move (v := (.v (.str (pk a0)))) rfl ?_
    refine so_gyes rfl (decide_eq_true c101) ?_
    refine so_move (v := (.v (.str (pk a1)))) rfl ?_
    refine so_gyes rfl (decide_eq_true c101) ?_
    refine so_slen rfl F233.sr9 ?_
    refine so_gyes rfl (decide_eq_true c101) ?_
    obtain ⟨c102, h⟩ := h
    refine so_sslice rfl rfl rfl F233.sr9 rfl rfl c102 ?_
    refine so_gyes rfl (decide_eq_true c101) ?_
    refine so_move (v := (.v (.str (pk a1)))) rfl ?_
    refine so_gyes rfl (decide_eq_true c101) ?_
    refine so_bin rfl rfl ab_seql ?_
    refine so_pick_t (v := (.v (.bool (decide (((a0.drop ((0 : Int)).toNat).take (((a1.length : Int)).toNat - ((0 : Int)).toNat)) = a1))))) rfl (decide_eq_true c101) rfl ?_
    refine so_assign (v := (.v (.bool (decide (((a0.drop ((0 : Int)).toNat).take (((a1.length : Int)).toNat - ((0 : Int)).toNat)) = a1))))) rfl ?_
    refine so_nil ?_
    exact by_ret rfl ⟨_, h, rfl, rfl⟩
  · refine so_gno rfl (decide_eq_false c101) ?_
    refine so_gno rfl (decide_eq_false c101) ?_
    refine so_gno rfl (decide_eq_false c101) ?_
    refine so_gno rfl (decide_eq_false c101) ?_
    refine so_gno rfl (decide_eq_false c101) ?_
    refine so_gno rfl (decide_eq_false c101) ?_
    refine so_pick_f (v := (.v (.bool false))) rfl (decide_eq_false c101) rfl ?_
    refine so_assign (v := (.v (.bool false))) rfl ?_
    refine so_nil ?_
    exact by_ret rfl ⟨_, h, rfl, rfl⟩

end Go.Proofs.Ytkaidcgelbhofaa.G

namespace Go.Proofs.Ytkaidcgelbhofaa.G
open Go Go.Ab Go.Proofs Go.Proofs.Ytkaidcgelbhofaa
set_option maxRecDepth 100000
set_option linter.unusedVariables false
set_option linter.unusedSimpArgs false
set_option maxHeartbeats 1000000
attribute [local irreducible] wops wopf Go.Ab.Fin
theorem strings_HasPrefix_ok {fr : List Pc} {H : Heap} (a0 : List UInt8) (a1 : List UInt8) (hs : Sep H (fr))  (K : Bool → Prop) (h : strings_HasPrefix.wp a0 a1 K) : OkQ Try.prog 173 [(.v (.str (pk a0))), (.v (.str (pk a1)))] H (fun r H2 => ∃ (y0 : Bool), K y0 ∧ r = (.v (.bool y0)) ∧ H = H2) := by
  unfold strings_HasPrefix.wp at h
  refine of_body Try.f173 F.hm Try.func173 rfl Try.call173 (by kernel_rfl) (by simp) ?_
  refine fi_seq ?_
  refine fi_region ?_
  refine so_assign (v := (.v (.bool false))) rfl ?_
  refine so_nil ?_
  refine fi_seq ?_
  refine fi_region ?_
  refine so_move (v := (.v (.str (pk a0)))) rfl ?_
  refine so_move (v := (.v (.str (pk a1)))) rfl ?_
  refine sv_callS (internal_stringslite_HasPrefix_ok a0 a1 hs  _ h) (fun _ _ ⟨_, _, _, e⟩ => e) rfl rfl ?_
  clear h
  rintro _ _ ⟨y101, h, rfl, rfl⟩
  refine so_assign (v := (.v (.bool y101))) rfl ?_
  refine so_nil ?_
  exact by_ret rfl ⟨_, h, rfl, rfl⟩

end Go.Proofs.Ytkaidcgelbhofaa.G

namespace Go.Proofs.Ytkaidcgelbhofaa.G
open Go Go.Ab Go.Proofs Go.Proofs.Ytkaidcgelbhofaa
set_option maxRecDepth 100000
set_option linter.unusedVariables false
set_option linter.unusedSimpArgs false
set_option maxHeartbeats 1000000
attribute [local irreducible] wops wopf Go.Ab.Fin
theorem F174.it2 : tint Try.prog 2 = some .i64 := by kernel_rfl
theorem F174.sr9 : tstr Try.prog 9 = true := by kernel_rfl
theorem F174.us5 : (Try.prog.underlying 5).isSome = true := by kernel_rfl
theorem impl_lowNumber_ok {fr : List Pc} {H : Heap} (a0 : List UInt8) (hs : Sep H (fr))  (K : Int → Prop) (h : impl_lowNumber.wp a0 K) : OkQ Try.prog 174 [(.v (.str (pk a0)))] H (fun r H2 => ∃ (y0 : Int), K y0 ∧ r = (.v (.int .i64 y0)) ∧ H = H2) := by
  unfold impl_lowNumber.wp at h
  refine of_body Try.f174 F.hm Try.func174 rfl Try.call174 (by kernel_rfl) (by simp) ?_
  refine fi_seq ?_
  refine fi_region ?_
  refine so_assign (v := (.v (.int .i64 (0 : Int)))) rfl ?_
  refine so_nil ?_
  refine fi_seq ?_
  refine fi_region ?_
  refine so_assign (v := (.v (.int .i64 (0 : Int)))) rfl ?_
  refine so_nil ?_
  refine fi_seq ?_
  refine fi_seq ?_
  refine fi_region ?_
  refine so_move (v := (.v (.str (pk a0)))) rfl ?_
  refine so_slen rfl F174.sr9 ?_
  refine so_bin rfl rfl ab_sub ?_
  refine so_assign (v := (.v (.int .i64 (IntKind.i64.wrap ((a0.length : Int) - (1 : Int)))))) rfl ?_
  refine so_nil ?_
  refine fi_block ?_
  refine fi_loop ?_
  refine fi_at [(0, (.v (.str (pk a0)))), (3, (.v (.int .i64 (0 : Int)))), (4, (.v (.int .i64 (IntKind.i64.wrap ((a0.length : Int) - (1 : Int))))))] ⟨rfl, rfl, rfl, trivial⟩ ?_
  refine h (fun (n102 : Int) (i103 : Int) => ∀ (s : Nat → TV), Fin _ _ (updL s [(0, (.v (.str (pk a0)))), (3, (.v (.int .i64 n102))), (4, (.v (.int .i64 i103)))]) _ _) ?_ _
  intro n102 i103 h s106
  refine fi_inLoop ?_
  refine fi_seq ?_
  refine fi_seq ?_
  refine fi_region ?_
  refine so_move (v := (.v (.int .i64 i103))) rfl ?_
  refine so_bin rfl rfl ab_geq ?_
  refine so_nil ?_
  replace h := ofP h; rcases h with ⟨c104, h⟩ | ⟨c104, h⟩
  · refine fi_true rfl (decide_eq_true c104) ?_
    refine fi_skip ?_
    refine fi_seq ?_
    refine fi_block ?_
    refine fi_region ?_
    refine so_move (v := (.v (.int .i64 n102))) rfl ?_
    refine so_bin rfl rfl (ab_shl (by decide)) ?_
    refine so_move (v := (.v (.str (pk a0)))) rfl ?_
    refine so_move (v := (.v (.int .i64 i103))) rfl ?_
    obtain ⟨c105, h⟩ := h
    refine so_index rfl rfl F174.sr9 c105 ?_
    refine sv_ii rfl F174.us5 F174.it2 ?_
    refine so_bin rfl rfl ab_or ?_
    refine so_assign (v := (.v (.int .i64 (ibits .or .i64 (IntKind.i64.wrap (n102 * (2 ^ (min ((8 : Int)).toNat IntKind.i64.bits)))) (IntKind.i64.wrap (bt a0 i103)))))) rfl ?_
    refine so_nil ?_
    refine fi_inBlock ?_
    refine fi_region ?_
    refine so_move (v := (.v (.int .i64 i103))) rfl ?_
    refine so_bin rfl rfl ab_sub ?_
    refine so_assign (v := (.v (.int .i64 (IntKind.i64.wrap (i103 - (1 : Int)))))) rfl ?_
    refine so_nil ?_
    exact fi_at [(0, (.v (.str (pk a0)))), (3, (.v (.int .i64 (ibits .or .i64 (IntKind.i64.wrap (n102 * (2 ^ (min ((8 : Int)).toNat IntKind.i64.bits)))) (IntKind.i64.wrap (bt a0 i103)))))), (4, (.v (.int .i64 (IntKind.i64.wrap (i103 - (1 : Int))))))] ⟨rfl, rfl, rfl, trivial⟩ (h _)
  · refine fi_false rfl (decide_eq_false c104) ?_
    refine fi_exit rfl ?_
    refine fi_seq ?_
    refine fi_region ?_
    refine so_move (v := (.v (.int .i64 n102))) rfl ?_
    refine so_assign (v := (.v (.int .i64 n102))) rfl ?_
    refine so_nil ?_
    exact by_ret rfl ⟨_, h, rfl, rfl⟩

end Go.Proofs.Ytkaidcgelbhofaa.G

namespace Go.Proofs.Ytkaidcgelbhofaa.G
open Go Go.Ab Go.Proofs Go.Proofs.Ytkaidcgelbhofaa
set_option maxRecDepth 100000
set_option linter.unusedVariables false
set_option linter.unusedSimpArgs false
set_option maxHeartbeats 1000000
attribute [local irreducible] wops wopf Go.Ab.Fin
theorem impl_within_ok {fr : List Pc} {H : Heap} (a0 : Int) (a1 : Int) (a2 : Int) (hs : Sep H (fr))  (K : Bool → Prop) (h : impl_within.wp a0 a1 a2 K) : OkQ Try.prog 106 [(.v (.int .i64 a0)), (.v (.int .i64 a1)), (.v (.int .i64 a2))] H (fun r H2 => ∃ (y0 : Bool), K y0 ∧ r = (.v (.bool y0)) ∧ H = H2) := by
  unfold impl_within.wp at h
  refine of_body Try.f106 F.hm Try.func106 rfl Try.call106 (by kernel_rfl) (by simp) ?_
  refine fi_seq ?_
  refine fi_region ?_
  refine so_assign (v := (.v (.bool false))) rfl ?_
  refine so_nil ?_
  refine fi_seq ?_
  refine fi_region ?_
  refine so_move (v := (.v (.int .i64 a0))) rfl ?_
  refine so_move (v := (.v (.int .i64 a1))) rfl ?_
  refine so_bin rfl rfl ab_geq ?_
  refine so_move (v := (.v (.bool (decide (a1 ≤ a0))))) rfl ?_
  replace h := ofP h; rcases h with ⟨c101, h⟩ | ⟨c101, h⟩
  · refine so_gyes rfl (decide_eq_true c101) ?_
    refine so_move (v := (.v (.int .i64 a0))) rfl ?_
    refine so_gyes rfl (decide_eq_true c101) ?_
    refine so_move (v := (.v (.int .i64 a2))) rfl ?_
    refine so_gyes rfl (decide_eq_true c101) ?_
    refine so_bin rfl rfl ab_leq ?_
    refine so_pick_t (v := (.v (.bool (decide (a0 ≤ a2))))) rfl (decide_eq_true c101) rfl ?_
    refine so_assign (v := (.v (.bool (decide (a0 ≤ a2))))) rfl ?_
    refine so_nil ?_
    exact by_ret rfl ⟨_, h, rfl, rfl⟩
  · refine so_gno rfl (decide_eq_false c101) ?_
    refine so_gno rfl (decide_eq_false c101) ?_
    refine so_gno rfl (decide_eq_false c101) ?_
    refine so_pick_f (v := (.v (.bool false))) rfl (decide_eq_false c101) rfl ?_
    refine so_assign (v := (.v (.bool false))) rfl ?_
    refine so_nil ?_
    exact by_ret rfl ⟨_, h, rfl, rfl⟩

end Go.Proofs.Ytkaidcgelbhofaa.G

namespace Go.Proofs.Ytkaidcgelbhofaa.G
open Go Go.Ab Go.Proofs Go.Proofs.Ytkaidcgelbhofaa
set_option maxRecDepth 100000
set_option linter.unusedVariables false
set_option linter.unusedSimpArgs false
set_option maxHeartbeats 1000000
attribute [local irreducible] wops wopf Go.Ab.Fin
theorem F234.it163 : tint Try.prog 163 = some .u32 := by kernel_rfl
theorem F234.us2 : (Try.prog.underlying 2).isSome = true := by kernel_rfl
theorem impl_FromBits_ok {fr : List Pc} {H : Heap} (a0 : Int) (hs : Sep H (fr))  (K : Nat → Bool → Prop) (h : impl_FromBits.wp a0 K) : OkQ Try.prog 234 [(.v (.int .i64 a0))] H (fun r H2 => ∃ (y0 : Nat) (y1 : Bool), K y0 y1 ∧ r = (.t [(.v (.flt .f32 y0)), (.v (.bool y1))]) ∧ H = H2) := by
  unfold impl_FromBits.wp at h
  refine of_body Try.f234 F.hm Try.func234 rfl Try.call234 (by kernel_rfl) (by simp) ?_
  refine fi_seq ?_
  refine fi_region ?_
  refine so_assign (v := (.v (.flt .f32 (cz .f32 0)))) rfl ?_
  refine so_assign (v := (.v (.bool false))) rfl ?_
  refine so_nil ?_
  refine fi_seq ?_
  refine fi_seq ?_
  refine fi_region ?_
  refine so_move (v := (.v (.int .i64 a0))) rfl ?_
  refine sv_callS (impl_within_ok a0 (0 : Int) (4294967295 : Int) hs  _ h) (fun _ _ ⟨_, _, _, e⟩ => e) rfl rfl ?_
  clear h
  rintro _ _ ⟨y101, h, rfl, rfl⟩
  refine so_un rfl au_not ?_
  refine so_nil ?_
  replace h := ofT h; rcases h with ⟨c103, h⟩ | ⟨c103, h⟩
  · refine fi_false rfl (not_f c103) ?_
    refine fi_skip ?_
    refine fi_seq ?_
    refine fi_region ?_
    refine so_move (v := (.v (.int .i64 a0))) rfl ?_
    refine sv_ii rfl F234.us2 F234.it163 ?_
    refine sv_callS (math_Float32frombits_ok (IntKind.u32.wrap a0) hs  _ h) (fun _ _ ⟨_, _, _, e⟩ => e) rfl rfl ?_
    clear h
    rintro _ _ ⟨y104, h, rfl, rfl⟩
    refine so_assign (v := (.v (.flt .f32 y104))) rfl ?_
    refine so_assign (v := (.v (.bool true))) rfl ?_
    refine so_nil ?_
    exact by_ret rfl ⟨_, _, h, rfl, rfl⟩
  · refine fi_true rfl (not_t c103) ?_
    refine fi_seq ?_
    refine fi_region ?_
    refine so_assign (v := (.v (.flt .f32 (cz .f32 0)))) rfl ?_
    refine so_assign (v := (.v (.bool false))) rfl ?_
    refine so_nil ?_
    exact by_ret rfl ⟨_, _, h, rfl, rfl⟩

end Go.Proofs.Ytkaidcgelbhofaa.G

namespace Go.Proofs.Ytkaidcgelbhofaa.G
open Go Go.Ab Go.Proofs Go.Proofs.Ytkaidcgelbhofaa
set_option maxRecDepth 100000
set_option linter.unusedVariables false
set_option linter.unusedSimpArgs false
set_option maxHeartbeats 1000000
attribute [local irreducible] wops wopf Go.Ab.Fin
theorem F271.it2 : tint Try.prog 2 = some .i64 := by kernel_rfl
theorem F271.us163 : (Try.prog.underlying 163).isSome = true := by kernel_rfl
theorem impl_BitsOf_ok {fr : List Pc} {H : Heap} (a0 : Nat) (hs : Sep H (fr))  (K : Int → Prop) (h : impl_BitsOf.wp a0 K) : OkQ Try.prog 271 [(.v (.flt .f32 a0))] H (fun r H2 => ∃ (y0 : Int), K y0 ∧ r = (.v (.int .i64 y0)) ∧ H = H2) := by
  unfold impl_BitsOf.wp at h
  refine of_body Try.f271 F.hm Try.func271 rfl Try.call271 (by kernel_rfl) (by simp) ?_
  refine fi_seq ?_
  refine fi_region ?_
  refine so_assign (v := (.v (.int .i64 (0 : Int)))) rfl ?_
  refine so_nil ?_
  refine fi_seq ?_
  refine fi_seq ?_
  refine fi_region ?_
  refine so_move (v := (.v (.flt .f32 a0))) rfl ?_
  refine so_move (v := (.v (.flt .f32 a0))) rfl ?_
  refine so_bin rfl rfl ab_fneq ?_
  refine so_nil ?_
  replace h := ofT h; rcases h with ⟨c101, h⟩ | ⟨c101, h⟩
  · refine fi_true rfl c101 ?_
    refine fi_seq ?_
    refine fi_region ?_
    refine so_assign (v := (.v (.int .i64 (2143289344 : Int)))) rfl ?_
    refine so_nil ?_
    exact by_ret rfl ⟨_, h, rfl, rfl⟩
  · refine fi_false rfl c101 ?_
    refine fi_skip ?_
    refine fi_seq ?_
    refine fi_region ?_
    refine so_move (v := (.v (.flt .f32 a0))) rfl ?_
    refine sv_callS (math_Float32bits_ok a0 hs  _ h) (fun _ _ ⟨_, _, _, e⟩ => e) rfl rfl ?_
    clear h
    rintro _ _ ⟨y102, h, rfl, rfl⟩
    refine sv_ii rfl F271.us163 F271.it2 ?_
    refine so_assign (v := (.v (.int .i64 (IntKind.i64.wrap y102)))) rfl ?_
    refine so_nil ?_
    exact by_ret rfl ⟨_, h, rfl, rfl⟩

end Go.Proofs.Ytkaidcgelbhofaa.G

namespace Go.Proofs.Ytkaidcgelbhofaa.G
open Go Go.Ab Go.Proofs Go.Proofs.Ytkaidcgelbhofaa
set_option maxRecDepth 100000
set_option linter.unusedVariables false
set_option linter.unusedSimpArgs false
set_option maxHeartbeats 1000000
attribute [local irreducible] wops wopf Go.Ab.Fin
theorem F235.ag37 : tagg Try.prog 37 = some false := by kernel_rfl
theorem F235.it5 : tint Try.prog 5 = some .u8 := by kernel_rfl
theorem F235.sr9 : tstr Try.prog 9 = true := by kernel_rfl
theorem F235.sz5 : tsz Try.prog 5 = some 1 := by kernel_rfl
theorem F235.ta82_82 : tapp Try.prog 82 82 = some (1, 1) := by kernel_rfl
theorem F235.te82 : telem Try.prog 82 = some 5 := by kernel_rfl
theorem F235.ti36 : (telem Try.prog 36).isSome = true := by kernel_rfl
theorem F235.tl36 : (telem Try.prog 36).bind (tsz Try.prog) = some 1 := by kernel_rfl
theorem F235.us2 : (Try.prog.underlying 2).isSome = true := by kernel_rfl
theorem F235.us3 : (Try.prog.underlying 3).isSome = true := by kernel_rfl
theorem F235.us82 : (Try.prog.underlying 82).isSome = true := by kernel_rfl
theorem F235.ze5 : tzero Try.prog 5 = some [(.int .u8 (0 : Int))] := by kernel_rfl
theorem impl_packed_ok {fr : List Pc} {H : Heap} (v0 : AV) (l0 : List (Nat)) (hs : Sep H (fr)) (g0 : ∀ H, Sep H fr → Shows H v0 1 (enc (eFlt .f32) l0)) (K : (List UInt8) → Prop) (h : impl_packed.wp l0 K) : OkQ Try.prog 235 [(.v v0)] H (fun r H2 => ∃ (y0 : List UInt8), K y0 ∧ r = (.v (.str (pk y0))) ∧ Sep H2 (fr)) := by
  unfold impl_packed.wp at h
  refine of_body Try.f235 F.hm Try.func235 rfl Try.call235 (by kernel_rfl) (by simp) ?_
  refine fi_seq ?_
  refine fi_region ?_
  refine so_assign (v := (.v (.str (pk ([] : List UInt8))))) rfl ?_
  refine so_nil ?_
  refine fi_seq ?_
  refine fi_region ?_
  refine sv_bslice hs (eInt .u8) ([] : List (Int)) [] F235.te82 F235.sz5 F235.ze5 rfl rfl rfl rfl (fun _ => rfl) rfl (by decide) nofun (fun v101 H102 nv101 hs => ?_)
  refine so_assign (v := (.v v101)) rfl ?_
  refine so_assign (v := (.v (.int .i64 (0 : Int)))) rfl ?_
  refine so_nil ?_
  refine fi_seq ?_
  refine fi_seq ?_
  refine fi_region ?_
  refine so_move (v := (.v v0)) rfl ?_
  refine sv_len (g0 _ hs.tl) (fun _ => rfl) (by decide) rfl F235.ti36 ?_
  refine so_move (v := (.v (.int .i64 (0 : Int)))) rfl ?_
  refine so_nil ?_
  refine fi_block ?_
  refine fi_loop ?_
  refine fi_at [(3, (.v v101)), (4, (.v (.int .i64 (0 : Int)))), (12, (.v v0)), (13, (.v (.int .i64 (l0.length : Int)))), (14, (.v (.int .i64 (0 : Int))))] ⟨rfl, rfl, rfl, rfl, rfl, trivial⟩ ?_
  refine h (fun (out152 : List (Int)) (last154 : Int) (x155 : Int) => ∀ (s : Nat → TV) (H : Heap) (v153 : AV) (nv153 : v153 ≠ .nilsl), Sep H (Pc.osl v153 1 (enc (eInt .u8) out152) :: fr) → Fin _ _ (updL s [(3, (.v v153)), (4, (.v (.int .i64 last154))), (12, (.v v0)), (13, (.v (.int .i64 (l0.length : Int)))), (14, (.v (.int .i64 x155)))]) H _) ?_ _ _ _ nv101 hs
  intro out152 last154 x155 h s198 H199 v153 nv153 hs
  refine fi_inLoop ?_
  refine fi_seq ?_
  refine fi_region ?_
  refine so_bin rfl rfl ab_lss ?_
  refine so_nil ?_
  refine fi_seq ?_
  replace h := ofP h; rcases h with ⟨c156, h⟩ | ⟨c156, h⟩
  · refine fi_true rfl (decide_eq_true c156) ?_
    refine fi_skip ?_
    refine fi_seq ?_
    refine fi_block ?_
    refine fi_seq ?_
    refine fi_region ?_
    obtain ⟨c157, h⟩ := h
    refine sv_idx (g0 _ hs.tl) c157 (fun _ => rfl) (by decide) rfl rfl F235.tl36 ?_
    refine sv_cell (g0 _ hs.tl) c157 (0 : Nat) 0 (fun x => (AV.flt .f32 x)) (fun _ => rfl) (fun _ => rfl) rfl F235.ag37 ?_
    refine so_assign (v := (.v (.flt .f32 (l0.getD (x155).toNat (0 : Nat))))) rfl ?_
    refine so_nil ?_
    refine fi_seq ?_
    refine fi_region ?_
    refine so_move (v := (.v (.flt .f32 (l0.getD (x155).toNat (0 : Nat))))) rfl ?_
    refine sv_callS (impl_BitsOf_ok (l0.getD (x155).toNat (0 : Nat)) hs  _ h) (fun _ _ ⟨_, _, _, e⟩ => e) rfl rfl ?_
    clear h
    rintro _ _ ⟨y158, h, rfl, rfl⟩
    refine so_assign (v := (.v (.int .i64 y158))) rfl ?_
    refine so_nil ?_
    refine fi_seq ?_
    refine fi_region ?_
    refine so_move (v := (.v (.int .i64 y158))) rfl ?_
    refine so_move (v := (.v (.int .i64 last154))) rfl ?_
    refine so_bin rfl rfl ab_xor ?_
    refine so_assign (v := (.v (.int .i64 (ibits .xor .i64 y158 last154)))) rfl ?_
    refine so_nil ?_
    refine fi_seq ?_
    refine fi_region ?_
    refine so_move (v := (.v (.int .i64 y158))) rfl ?_
    refine so_assign (v := (.v (.int .i64 y158))) rfl ?_
    refine so_nil ?_
    refine fi_seq ?_
    refine fi_region ?_
    refine so_assign (v := (.v (.int .i64 (4 : Int)))) rfl ?_
    refine so_nil ?_
    refine fi_seq ?_
    refine fi_seq ?_
    refine fi_region ?_
    refine so_move (v := (.v (.int .i64 (ibits .xor .i64 y158 last154)))) rfl ?_
    refine so_assign (v := (.v (.int .i64 (ibits .xor .i64 y158 last154)))) rfl ?_
    refine so_nil ?_
    refine fi_block ?_
    refine fi_loop ?_
    refine fi_at [(3, (.v v153)), (4, (.v (.int .i64 y158))), (8, (.v (.int .i64 (ibits .xor .i64 y158 last154)))), (9, (.v (.int .i64 (4 : Int)))), (10, (.v (.int .i64 (ibits .xor .i64 y158 last154)))), (12, (.v v0)), (13, (.v (.int .i64 (l0.length : Int)))), (14, (.v (.int .i64 x155)))] ⟨rfl, rfl, rfl, rfl, rfl, rfl, rfl, rfl, trivial⟩ ?_
    refine h (fun (z161 : Int) (m162 : Int) => ∀ (s : Nat → TV) (H : Heap), Sep H (Pc.osl v153 1 (enc (eInt .u8) out152) :: fr) → Fin _ _ (updL s [(3, (.v v153)), (4, (.v (.int .i64 y158))), (8, (.v (.int .i64 (ibits .xor .i64 y158 last154)))), (9, (.v (.int .i64 z161))), (10, (.v (.int .i64 m162))), (12, (.v v0)), (13, (.v (.int .i64 (l0.length : Int)))), (14, (.v (.int .i64 x155)))]) H _) ?_ _ _ hs
    intro z161 m162 h s196 H197 hs
    refine fi_inLoop ?_
    refine fi_seq ?_
    refine fi_seq ?_
    refine fi_region ?_
    refine so_move (v := (.v (.int .i64 m162))) rfl ?_
    refine so_bin rfl rfl ab_gtr ?_
    refine so_nil ?_
    replace h := ofP h; rcases h with ⟨c163, h⟩ | ⟨c163, h⟩
    · refine fi_true rfl (decide_eq_true c163) ?_
      refine fi_skip ?_
      refine fi_seq ?_
      refine fi_block ?_
      refine fi_region ?_
      refine so_move (v := (.v (.int .i64 z161))) rfl ?_
      refine so_bin rfl rfl ab_sub ?_
      refine so_assign (v := (.v (.int .i64 (IntKind.i64.wrap (z161 - (1 : Int)))))) rfl ?_
      refine so_nil ?_
      refine fi_inBlock ?_
      refine fi_region ?_
      refine so_move (v := (.v (.int .i64 m162))) rfl ?_
      refine so_bin rfl rfl (ab_shr (by decide)) ?_
      refine so_assign (v := (.v (.int .i64 (Int.fdiv m162 (2 ^ (min ((8 : Int)).toNat IntKind.i64.bits)))))) rfl ?_
      refine so_nil ?_
      exact fi_at [(3, (.v v153)), (4, (.v (.int .i64 y158))), (8, (.v (.int .i64 (ibits .xor .i64 y158 last154)))), (9, (.v (.int .i64 (IntKind.i64.wrap (z161 - (1 : Int)))))), (10, (.v (.int .i64 (Int.fdiv m162 (2 ^ (min ((8 : Int)).toNat IntKind.i64.bits)))))), (12, (.v v0)), (13, (.v (.int .i64 (l0.length : Int)))), (14, (.v (.int .i64 x155)))] ⟨rfl, rfl, rfl, rfl, rfl, rfl, rfl, rfl, trivial⟩ (h _ _  hs)
    · refine fi_false rfl (decide_eq_false c163) ?_
      refine fi_exit rfl ?_
      refine fi_seq ?_
      refine fi_region ?_
      refine so_move (v := (.v v153)) rfl ?_
      refine so_move (v := (.v (.int .i64 z161))) rfl ?_
      refine sv_ii rfl F235.us3 F235.it5 ?_
      refine sv_bslice hs (eInt .u8) ([(IntKind.u8.wrap z161)] : List (Int)) [[(.int .u8 (IntKind.u8.wrap z161))]] F235.te82 F235.sz5 F235.ze5 rfl rfl rfl rfl (fun _ => rfl) rfl (by decide) nofun (fun v164 H165 nv164 hs => ?_)
      obtain ⟨c169, h⟩ := h
      refine sv_app hs 1 rfl (hs.shows 0 rfl) (fun _ => rfl) (by decide) F235.ta82_82 (by decide) c169 rfl rfl nofun (fun v167 H168 kv167 hs => ?_)
      replace hs := hs.del 0
      have nv167 := kv167 nv153
      refine so_assign (v := (.v v167)) rfl ?_
      refine so_nil ?_
      refine fi_seq ?_
      refine fi_region ?_
      refine so_move (v := (.v (.int .i64 z161))) rfl ?_
      refine so_bin rfl rfl ab_sub ?_
      refine so_move (v := (.v (.int .i64 (0 : Int)))) rfl ?_
      refine so_nil ?_
      refine fi_block ?_
      refine fi_loop ?_
      refine fi_at [(3, (.v v167)), (4, (.v (.int .i64 y158))), (8, (.v (.int .i64 (ibits .xor .i64 y158 last154)))), (12, (.v v0)), (13, (.v (.int .i64 (l0.length : Int)))), (14, (.v (.int .i64 x155))), (37, (.v (.int .i64 (IntKind.i64.wrap ((4 : Int) - z161))))), (38, (.v (.int .i64 (0 : Int))))] ⟨rfl, rfl, rfl, rfl, rfl, rfl, rfl, rfl, trivial⟩ ?_
      refine h (fun (out183 : List (Int)) (more185 : Int) (x186 : Int) => ∀ (s : Nat → TV) (H : Heap) (v184 : AV) (nv184 : v184 ≠ .nilsl), Sep H (Pc.osl v184 1 (enc (eInt .u8) out183) :: fr) → Fin _ _ (updL s [(3, (.v v184)), (4, (.v (.int .i64 y158))), (8, (.v (.int .i64 more185))), (12, (.v v0)), (13, (.v (.int .i64 (l0.length : Int)))), (14, (.v (.int .i64 x155))), (37, (.v (.int .i64 (IntKind.i64.wrap ((4 : Int) - z161))))), (38, (.v (.int .i64 x186)))]) H _) ?_ _ _ _ nv167 hs
      intro out183 more185 x186 h s194 H195 v184 nv184 hs
      refine fi_inLoop ?_
      refine fi_seq ?_
      refine fi_region ?_
      refine so_bin rfl rfl ab_lss ?_
      refine so_nil ?_
      refine fi_seq ?_
      replace h := ofP h; rcases h with ⟨c187, h⟩ | ⟨c187, h⟩
      · refine fi_true rfl (decide_eq_true c187) ?_
        refine fi_skip ?_
        refine fi_seq ?_
        refine fi_block ?_
        refine fi_seq ?_
        refine fi_region ?_
        refine so_move (v := (.v v184)) rfl ?_
        refine so_move (v := (.v (.int .i64 more185))) rfl ?_
        refine sv_ii rfl F235.us2 F235.it5 ?_
        refine sv_bslice hs (eInt .u8) ([(IntKind.u8.wrap more185)] : List (Int)) [[(.int .u8 (IntKind.u8.wrap more185))]] F235.te82 F235.sz5 F235.ze5 rfl rfl rfl rfl (fun _ => rfl) rfl (by decide) nofun (fun v188 H189 nv188 hs => ?_)
        obtain ⟨c193, h⟩ := h
        refine sv_app hs 1 rfl (hs.shows 0 rfl) (fun _ => rfl) (by decide) F235.ta82_82 (by decide) c193 rfl rfl nofun (fun v191 H192 kv191 hs => ?_)
        replace hs := hs.del 0
        have nv191 := kv191 nv184
        refine so_assign (v := (.v v191)) rfl ?_
        refine so_nil ?_
        refine fi_region ?_
        refine so_move (v := (.v (.int .i64 more185))) rfl ?_
        refine so_bin rfl rfl (ab_shr (by decide)) ?_
        refine so_assign (v := (.v (.int .i64 (Int.fdiv more185 (2 ^ (min ((8 : Int)).toNat IntKind.i64.bits)))))) rfl ?_
        refine so_nil ?_
        refine fi_inBlock ?_
        refine fi_region ?_
        refine so_bin rfl rfl ab_add ?_
        refine so_move (v := (.v (.int .i64 (IntKind.i64.wrap (x186 + (1 : Int)))))) rfl ?_
        refine so_nil ?_
        exact fi_at [(3, (.v v191)), (4, (.v (.int .i64 y158))), (8, (.v (.int .i64 (Int.fdiv more185 (2 ^ (min ((8 : Int)).toNat IntKind.i64.bits)))))), (12, (.v v0)), (13, (.v (.int .i64 (l0.length : Int)))), (14, (.v (.int .i64 x155))), (37, (.v (.int .i64 (IntKind.i64.wrap ((4 : Int) - z161))))), (38, (.v (.int .i64 (IntKind.i64.wrap (x186 + (1 : Int))))))] ⟨rfl, rfl, rfl, rfl, rfl, rfl, rfl, rfl, trivial⟩ (h _ _ _ nv191 hs)
      · refine fi_false rfl (decide_eq_false c187) ?_
        refine fi_exit rfl ?_
        refine fi_inBlock ?_
        refine fi_region ?_
        refine so_bin rfl rfl ab_add ?_
        refine so_move (v := (.v (.int .i64 (IntKind.i64.wrap (x155 + (1 : Int)))))) rfl ?_
        refine so_nil ?_
        exact fi_at [(3, (.v v184)), (4, (.v (.int .i64 y158))), (12, (.v v0)), (13, (.v (.int .i64 (l0.length : Int)))), (14, (.v (.int .i64 (IntKind.i64.wrap (x155 + (1 : Int))))))] ⟨rfl, rfl, rfl, rfl, rfl, trivial⟩ (h _ _ _ nv184 hs)
  · refine fi_false rfl (decide_eq_false c156) ?_
    refine fi_exit rfl ?_
    refine fi_seq ?_
    refine fi_region ?_
    refine so_move (v := (.v v153)) rfl ?_
    refine sv_bs (hs.shows 0 rfl) nv153 rfl F235.te82 F235.it5 F235.sr9 ?_
    refine so_assign (v := (.v (.str (pk (byts out152))))) rfl ?_
    refine so_nil ?_
    exact by_ret rfl ⟨_, h, rfl, (Sep.del 0 hs)⟩
theorem impl_packed_okS {fr : List Pc} {H : Heap} (v0 : AV) (l0 : List (Nat)) (hs : Sep H fr) (g0 : ∀ H, Sep H fr → Shows H v0 1 (enc (eFlt .f32) l0)) (K : (List UInt8) → Prop) (h : impl_packed.wp l0 K) : OkQ Try.prog 235 [(.v v0)] H (fun r H2 => ∃ (y0 : List UInt8), K y0 ∧ r = (.v (.str (pk y0))) ∧ H = H2) := by
  obtain ⟨r, H2, h1, y0, hK, hr, hsep⟩ := impl_packed_ok (fr := came H) (H := H) v0 l0 (came_sep H) (came_shows (g0 H hs)) K h
  have hk : H.n ≤ H2.n ∧ ∀ i, i < H.n → H2.f i = H.f i := hsep.1.2.1
  exact ⟨r, H, h1.forget hk.1 hk.2 (by subst hr; rfl), y0, hK, hr, rfl⟩

end Go.Proofs.Ytkaidcgelbhofaa.G

namespace Go.Proofs.Ytkaidcgelbhofaa.G
open Go Go.Ab Go.Proofs Go.Proofs.Ytkaidcgelbhofaa
set_option maxRecDepth 100000
set_option linter.unusedVariables false
set_option linter.unusedSimpArgs false
set_option maxHeartbeats 1000000
attribute [local irreducible] wops wopf Go.Ab.Fin
theorem F175.it3 : tint Try.prog 3 = some .i64 := by kernel_rfl
theorem F175.sr9 : tstr Try.prog 9 = true := by kernel_rfl
theorem F175.sz37 : tsz Try.prog 37 = some 1 := by kernel_rfl
theorem F175.ta36_36 : tapp Try.prog 36 36 = some (1, 4) := by kernel_rfl
theorem F175.te36 : telem Try.prog 36 = some 37 := by kernel_rfl
theorem F175.ti36 : (telem Try.prog 36).isSome = true := by kernel_rfl
theorem F175.us5 : (Try.prog.underlying 5).isSome = true := by kernel_rfl
theorem F175.ze37 : tzero Try.prog 37 = some [(.flt .f32 (0 : Nat))] := by kernel_rfl
theorem impl_UnpackTake_ok {fr : List Pc} {H : Heap} (a0 : List UInt8) (hs : Sep H (fr))  (K : (List (Nat)) → Bool → Prop) (h : impl_UnpackTake.wp a0 K) : OkQ Try.prog 175 [(.v (.str (pk a0)))] H (fun r H2 => ∃ (y0 : List (Nat)) (y1 : Bool), K y0 y1 ∧ ∃ (w0_ : AV), r = (.t [(.v w0_), (.v (.bool y1))]) ∧ Sep H2 (Pc.osl w0_ 1 (enc (eFlt .f32) y0) :: fr)) := by
  unfold impl_UnpackTake.wp at h
  refine of_body Try.f175 F.hm Try.func175 rfl Try.call175 (by kernel_rfl) (by simp) ?_
  refine fi_seq ?_
  refine fi_region ?_
  refine so_assign (v := (.v .nilsl)) rfl ?_
  refine so_assign (v := (.v (.bool false))) rfl ?_
  refine so_nil ?_
  refine fi_seq ?_
  refine fi_region ?_
  refine sv_bslice hs (eFlt .f32) ([] : List (Nat)) [] F175.te36 F175.sz37 F175.ze37 rfl rfl rfl rfl (fun _ => rfl) rfl (by decide) nofun (fun v101 H102 nv101 hs => ?_)
  refine so_assign (v := (.v v101)) rfl ?_
  refine so_assign (v := (.v (.int .i64 (0 : Int)))) rfl ?_
  refine so_nil ?_
  refine fi_seq ?_
  refine fi_seq ?_
  refine fi_region ?_
  refine so_assign (v := (.v (.int .i64 (0 : Int)))) rfl ?_
  refine so_nil ?_
  refine fi_block ?_
  refine fi_loop ?_
  refine fi_at [(0, (.v (.str (pk a0)))), (4, (.v v101)), (5, (.v (.int .i64 (0 : Int)))), (6, (.v (.int .i64 (0 : Int))))] ⟨rfl, rfl, rfl, rfl, trivial⟩ ?_
  refine h (fun (out131 : List (Nat)) (last133 : Int) (atq134 : Int) => ∀ (s : Nat → TV) (H : Heap) (v132 : AV) (nv132 : v132 ≠ .nilsl), Sep H (Pc.osl v132 1 (enc (eFlt .f32) out131) :: fr) → Fin _ _ (updL s [(0, (.v (.str (pk a0)))), (4, (.v v132)), (5, (.v (.int .i64 last133))), (6, (.v (.int .i64 atq134)))]) H _) ?_ _ _ _ nv101 hs
  intro out131 last133 atq134 h s156 H157 v132 nv132 hs
  refine fi_inLoop ?_
  refine fi_seq ?_
  refine fi_seq ?_
  refine fi_region ?_
  refine so_move (v := (.v (.int .i64 atq134))) rfl ?_
  refine so_move (v := (.v (.str (pk a0)))) rfl ?_
  refine so_slen rfl F175.sr9 ?_
  refine so_bin rfl rfl ab_lss ?_
  refine so_nil ?_
  replace h := ofP h; rcases h with ⟨c135, h⟩ | ⟨c135, h⟩
  · refine fi_true rfl (decide_eq_true c135) ?_
    refine fi_skip ?_
    refine fi_block ?_
    refine fi_seq ?_
    refine fi_region ?_
    refine so_move (v := (.v (.str (pk a0)))) rfl ?_
    refine so_move (v := (.v (.int .i64 atq134))) rfl ?_
    obtain ⟨c136, h⟩ := h
    refine so_index rfl rfl F175.sr9 c136 ?_
    refine sv_ii rfl F175.us5 F175.it3 ?_
    refine so_assign (v := (.v (.int .i64 (IntKind.i64.wrap (bt a0 atq134))))) rfl ?_
    refine so_nil ?_
    refine fi_seq ?_
    refine fi_region ?_
    refine so_move (v := (.v (.int .i64 atq134))) rfl ?_
    refine so_bin rfl rfl ab_add ?_
    refine so_move (v := (.v (.int .i64 (IntKind.i64.wrap (bt a0 atq134))))) rfl ?_
    refine so_bin rfl rfl ab_sub ?_
    refine so_assign (v := (.v (.int .i64 (IntKind.i64.wrap ((IntKind.i64.wrap (atq134 + (5 : Int))) - (IntKind.i64.wrap (bt a0 atq134))))))) rfl ?_
    refine so_nil ?_
    refine fi_seq ?_
    refine fi_seq ?_
    refine fi_region ?_
    refine so_move (v := (.v (.int .i64 (IntKind.i64.wrap (bt a0 atq134))))) rfl ?_
    refine so_bin rfl rfl ab_gtr ?_
    refine so_move (v := (.v (.bool (decide ((4 : Int) < (IntKind.i64.wrap (bt a0 atq134))))))) rfl ?_
    replace h := ofP h; rcases h with ⟨c137, h⟩ | ⟨c137, h⟩
    · refine so_gno rfl (decide_eq_true c137) ?_
      refine so_gno rfl (decide_eq_true c137) ?_
      refine so_gno rfl (decide_eq_true c137) ?_
      refine so_gno rfl (decide_eq_true c137) ?_
      refine so_pick_t (v := (.v (.bool true))) rfl (decide_eq_true c137) rfl ?_
      refine so_move (v := (.v (.bool true))) rfl ?_
      refine so_gno rfl rfl ?_
      refine so_gno rfl rfl ?_
      refine so_gno rfl rfl ?_
      refine so_pick_t (v := (.v (.bool true))) rfl rfl rfl ?_
      refine so_nil ?_
      refine fi_true rfl rfl ?_
      refine fi_seq ?_
      refine fi_region ?_
      refine so_assign (v := (.v .nilsl)) rfl ?_
      refine so_assign (v := (.v (.bool false))) rfl ?_
      refine so_nil ?_
      exact by_ret rfl ⟨_, _, h, _, rfl, (Sep.nil (Sep.del 0 hs) 1)⟩
    · refine so_gyes rfl (decide_eq_false c137) ?_
      refine so_move (v := (.v (.int .i64 (IntKind.i64.wrap ((IntKind.i64.wrap (atq134 + (5 : Int))) - (IntKind.i64.wrap (bt a0 atq134))))))) rfl ?_
      refine so_gyes rfl (decide_eq_false c137) ?_
      refine so_move (v := (.v (.str (pk a0)))) rfl ?_
      refine so_gyes rfl (decide_eq_false c137) ?_
      refine so_slen rfl F175.sr9 ?_
      refine so_gyes rfl (decide_eq_false c137) ?_
      refine so_bin rfl rfl ab_gtr ?_
      refine so_pick_f (v := (.v (.bool (decide ((a0.length : Int) < (IntKind.i64.wrap ((IntKind.i64.wrap (atq134 + (5 : Int))) - (IntKind.i64.wrap (bt a0 atq134))))))))) rfl (decide_eq_false c137) rfl ?_
      refine so_move (v := (.v (.bool (decide ((a0.length : Int) < (IntKind.i64.wrap ((IntKind.i64.wrap (atq134 + (5 : Int))) - (IntKind.i64.wrap (bt a0 atq134))))))))) rfl ?_
      replace h := ofP h; rcases h with ⟨c138, h⟩ | ⟨c138, h⟩
      · refine so_gno rfl (decide_eq_true c138) ?_
        refine so_gno rfl (decide_eq_true c138) ?_
        refine so_gno rfl (decide_eq_true c138) ?_
        refine so_pick_t (v := (.v (.bool true))) rfl (decide_eq_true c138) rfl ?_
        refine so_nil ?_
        refine fi_true rfl rfl ?_
        refine fi_seq ?_
        refine fi_region ?_
        refine so_assign (v := (.v .nilsl)) rfl ?_
        refine so_assign (v := (.v (.bool false))) rfl ?_
        refine so_nil ?_
        exact by_ret rfl ⟨_, _, h, _, rfl, (Sep.nil (Sep.del 0 hs) 1)⟩
      · refine so_gyes rfl (decide_eq_false c138) ?_
        refine so_move (v := (.v v132)) rfl ?_
        refine so_gyes rfl (decide_eq_false c138) ?_
        refine sv_len (hs.shows 0 rfl) (fun _ => rfl) (by decide) rfl F175.ti36 ?_
        refine so_gyes rfl (decide_eq_false c138) ?_
        refine so_bin rfl rfl ab_eql ?_
        refine so_pick_f (v := (.v (.bool (decide ((out131.length : Int) = (128 : Int)))))) rfl (decide_eq_false c138) rfl ?_
        refine so_nil ?_
        replace h := ofP h; rcases h with ⟨c139, h⟩ | ⟨c139, h⟩
        · refine fi_true rfl (decide_eq_true c139) ?_
          refine fi_seq ?_
          refine fi_region ?_
          refine so_assign (v := (.v .nilsl)) rfl ?_
          refine so_assign (v := (.v (.bool false))) rfl ?_
          refine so_nil ?_
          exact by_ret rfl ⟨_, _, h, _, rfl, (Sep.nil (Sep.del 0 hs) 1)⟩
        · refine fi_false rfl (decide_eq_false c139) ?_
          refine fi_skip ?_
          refine fi_seq ?_
          refine fi_region ?_
          refine so_move (v := (.v (.int .i64 last133))) rfl ?_
          refine so_move (v := (.v (.str (pk a0)))) rfl ?_
          refine so_move (v := (.v (.int .i64 atq134))) rfl ?_
          refine so_bin rfl rfl ab_add ?_
          refine so_move (v := (.v (.int .i64 (IntKind.i64.wrap ((IntKind.i64.wrap (atq134 + (5 : Int))) - (IntKind.i64.wrap (bt a0 atq134))))))) rfl ?_
          obtain ⟨c140, h⟩ := h
          refine so_sslice rfl rfl rfl F175.sr9 rfl rfl c140 ?_
          refine sv_callS (impl_lowNumber_ok ((a0.drop ((IntKind.i64.wrap (atq134 + (1 : Int)))).toNat).take (((IntKind.i64.wrap ((IntKind.i64.wrap (atq134 + (5 : Int))) - (IntKind.i64.wrap (bt a0 atq134))))).toNat - ((IntKind.i64.wrap (atq134 + (1 : Int)))).toNat)) hs  _ h) (fun _ _ ⟨_, _, _, e⟩ => e) rfl rfl ?_
          clear h
          rintro _ _ ⟨y141, h, rfl, rfl⟩
          refine so_bin rfl rfl ab_xor ?_
          refine so_assign (v := (.v (.int .i64 (ibits .xor .i64 last133 y141)))) rfl ?_
          refine so_nil ?_
          refine fi_seq ?_
          refine fi_region ?_
          refine so_move (v := (.v (.int .i64 (ibits .xor .i64 last133 y141)))) rfl ?_
          refine sv_callS (impl_FromBits_ok (ibits .xor .i64 last133 y141) hs  _ h) (fun _ _ ⟨_, _, _, _, e⟩ => e) rfl rfl ?_
          clear h
          rintro _ _ ⟨y143, y144, h, rfl, rfl⟩
          refine so_move (v := (.t [(.v (.flt .f32 y143)), (.v (.bool y144))])) rfl ?_
          refine so_extract rfl rfl rfl ?_
          refine so_extract rfl rfl rfl ?_
          refine so_assign (v := (.v (.flt .f32 y143))) rfl ?_
          refine so_assign (v := (.v (.bool y144))) rfl ?_
          refine so_nil ?_
          refine fi_seq ?_
          refine fi_region ?_
          refine so_move (v := (.v v132)) rfl ?_
          refine so_move (v := (.v (.flt .f32 y143))) rfl ?_
          refine sv_bslice hs (eFlt .f32) ([y143] : List (Nat)) [[(.flt .f32 y143)]] F175.te36 F175.sz37 F175.ze37 rfl rfl rfl rfl (fun _ => rfl) rfl (by decide) nofun (fun v146 H147 nv146 hs => ?_)
          obtain ⟨c151, h⟩ := h
          refine sv_app hs 1 rfl (hs.shows 0 rfl) (fun _ => rfl) (by decide) F175.ta36_36 (by decide) c151 rfl rfl nofun (fun v149 H150 kv149 hs => ?_)
          replace hs := hs.del 0
          have nv149 := kv149 nv132
          refine so_assign (v := (.v v149)) rfl ?_
          refine so_nil ?_
          refine fi_region ?_
          refine so_move (v := (.v (.int .i64 (IntKind.i64.wrap ((IntKind.i64.wrap (atq134 + (5 : Int))) - (IntKind.i64.wrap (bt a0 atq134))))))) rfl ?_
          refine so_assign (v := (.v (.int .i64 (IntKind.i64.wrap ((IntKind.i64.wrap (atq134 + (5 : Int))) - (IntKind.i64.wrap (bt a0 atq134))))))) rfl ?_
          refine so_nil ?_
          refine fi_inBlock ?_
          exact fi_at [(0, (.v (.str (pk a0)))), (4, (.v v149)), (5, (.v (.int .i64 (ibits .xor .i64 last133 y141)))), (6, (.v (.int .i64 (IntKind.i64.wrap ((IntKind.i64.wrap (atq134 + (5 : Int))) - (IntKind.i64.wrap (bt a0 atq134)))))))] ⟨rfl, rfl, rfl, rfl, trivial⟩ (h _ _ _ nv149 hs)
  · refine fi_false rfl (decide_eq_false c135) ?_
    refine fi_exit rfl ?_
    refine fi_seq ?_
    refine fi_seq ?_
    refine fi_region ?_
    refine so_move (v := (.v v132)) rfl ?_
    refine sv_len (hs.shows 0 rfl) (fun _ => rfl) (by decide) rfl F175.ti36 ?_
    refine so_bin rfl rfl ab_eql ?_
    refine so_move (v := (.v (.bool (decide ((out131.length : Int) = (0 : Int)))))) rfl ?_
    replace h := ofP h; rcases h with ⟨c152, h⟩ | ⟨c152, h⟩
    · refine so_gno rfl (decide_eq_true c152) ?_
      refine so_gno rfl (decide_eq_true c152) ?_
      refine so_gno rfl (decide_eq_true c152) ?_
      refine so_gno rfl (decide_eq_true c152) ?_
      refine so_pick_t (v := (.v (.bool true))) rfl (decide_eq_true c152) rfl ?_
      refine so_nil ?_
      refine fi_true rfl rfl ?_
      refine fi_seq ?_
      refine fi_region ?_
      refine so_assign (v := (.v .nilsl)) rfl ?_
      refine so_assign (v := (.v (.bool false))) rfl ?_
      refine so_nil ?_
      exact by_ret rfl ⟨_, _, h, _, rfl, (Sep.nil (Sep.del 0 hs) 1)⟩
    · refine so_gyes rfl (decide_eq_false c152) ?_
      refine so_move (v := (.v v132)) rfl ?_
      refine so_gyes rfl (decide_eq_false c152) ?_
      refine sv_callS (impl_packed_okS v132 out131 hs (fun _ hs => (hs.shows 0 rfl)) _ h) (fun _ _ ⟨_, _, _, e⟩ => e) rfl rfl ?_
      clear h
      rintro _ _ ⟨y153, h, rfl, rfl⟩
      refine so_gyes rfl (decide_eq_false c152) ?_
      refine so_move (v := (.v (.str (pk a0)))) rfl ?_
      refine so_gyes rfl (decide_eq_false c152) ?_
      refine so_bin rfl rfl ab_sneq ?_
      refine so_pick_f (v := (.v (.bool (!(decide (y153 = a0)))))) rfl (decide_eq_false c152) rfl ?_
      refine so_nil ?_
      replace h := ofP h; rcases h with ⟨c155, h⟩ | ⟨c155, h⟩
      · refine fi_false rfl (not_f (decide_eq_true c155)) ?_
        refine fi_skip ?_
        refine fi_seq ?_
        refine fi_region ?_
        refine so_move (v := (.v v132)) rfl ?_
        refine so_assign (v := (.v v132)) rfl ?_
        refine so_assign (v := (.v (.bool true))) rfl ?_
        refine so_nil ?_
        exact by_ret rfl ⟨_, _, h, _, rfl, hs⟩
      · refine fi_true rfl (not_t (decide_eq_false c155)) ?_
        refine fi_seq ?_
        refine fi_region ?_
        refine so_assign (v := (.v .nilsl)) rfl ?_
        refine so_assign (v := (.v (.bool false))) rfl ?_
        refine so_nil ?_
        exact by_ret rfl ⟨_, _, h, _, rfl, (Sep.nil (Sep.del 0 hs) 1)⟩

end Go.Proofs.Ytkaidcgelbhofaa.G

namespace Go.Proofs.Ytkaidcgelbhofaa.G
open Go Go.Ab Go.Proofs Go.Proofs.Ytkaidcgelbhofaa
set_option maxRecDepth 100000
set_option linter.unusedVariables false
set_option linter.unusedSimpArgs false
set_option maxHeartbeats 1000000
attribute [local irreducible] wops wopf Go.Ab.Fin
theorem F272.sr9 : tstr Try.prog 9 = true := by kernel_rfl
theorem impl_IsName_ok {fr : List Pc} {H : Heap} (a0 : List UInt8) (hs : Sep H (fr))  (K : Bool → Prop) (h : impl_IsName.wp a0 K) : OkQ Try.prog 272 [(.v (.str (pk a0)))] H (fun r H2 => ∃ (y0 : Bool), K y0 ∧ r = (.v (.bool y0)) ∧ H = H2) := by
  unfold impl_IsName.wp at h
  refine of_body Try.f272 F.hm Try.func272 rfl Try.call272 (by kernel_rfl) (by simp) ?_
  refine fi_seq ?_
  refine fi_region ?_
  refine so_assign (v := (.v (.bool false))) rfl ?_
  refine so_nil ?_
  refine fi_seq ?_
  refine fi_seq ?_
  refine fi_region ?_
  refine so_move (v := (.v (.str (pk a0)))) rfl ?_
  refine so_slen rfl F272.sr9 ?_
  refine so_move (v := (.v (.int .i64 (0 : Int)))) rfl ?_
  refine so_nil ?_
  refine fi_block ?_
  refine fi_loop ?_
  refine fi_at [(0, (.v (.str (pk a0)))), (5, (.v (.int .i64 (a0.length : Int)))), (6, (.v (.int .i64 (0 : Int))))] ⟨rfl, rfl, rfl, trivial⟩ ?_
  refine h (fun (x102 : Int) => ∀ (s : Nat → TV), Fin _ _ (updL s [(0, (.v (.str (pk a0)))), (5, (.v (.int .i64 (a0.length : Int)))), (6, (.v (.int .i64 x102)))]) _ _) ?_ _
  intro x102 h s108
  refine fi_inLoop ?_
  refine fi_seq ?_
  refine fi_region ?_
  refine so_bin rfl rfl ab_lss ?_
  refine so_nil ?_
  refine fi_seq ?_
  replace h := ofP h; rcases h with ⟨c103, h⟩ | ⟨c103, h⟩
  · refine fi_true rfl (decide_eq_true c103) ?_
    refine fi_skip ?_
    refine fi_seq ?_
    refine fi_block ?_
    refine fi_seq ?_
    refine fi_region ?_
    refine so_move (v := (.v (.int .i64 x102))) rfl ?_
    refine so_assign (v := (.v (.int .i64 x102))) rfl ?_
    refine so_nil ?_
    refine fi_seq ?_
    refine fi_region ?_
    refine so_move (v := (.v (.str (pk a0)))) rfl ?_
    refine so_move (v := (.v (.int .i64 x102))) rfl ?_
    obtain ⟨c104, h⟩ := h
    refine so_index rfl rfl F272.sr9 c104 ?_
    refine so_bin rfl rfl ab_lss ?_
    refine so_move (v := (.v (.bool (decide ((bt a0 x102) < (97 : Int)))))) rfl ?_
    replace h := ofP h; rcases h with ⟨c105, h⟩ | ⟨c105, h⟩
    · refine so_gno rfl (decide_eq_true c105) ?_
      refine so_gno rfl (decide_eq_true c105) ?_
      refine so_gno rfl (decide_eq_true c105) ?_
      refine so_gno rfl (decide_eq_true c105) ?_
      refine so_pick_t (v := (.v (.bool true))) rfl (decide_eq_true c105) rfl ?_
      refine so_nil ?_
      refine fi_true rfl rfl ?_
      refine fi_seq ?_
      refine fi_region ?_
      refine so_assign (v := (.v (.bool false))) rfl ?_
      refine so_nil ?_
      exact by_ret rfl ⟨_, h, rfl, rfl⟩
    · refine so_gyes rfl (decide_eq_false c105) ?_
      refine so_move (v := (.v (.str (pk a0)))) rfl ?_
      refine so_gyes rfl (decide_eq_false c105) ?_
      refine so_move (v := (.v (.int .i64 x102))) rfl ?_
      refine so_gyes rfl (decide_eq_false c105) ?_
      refine so_index rfl rfl F272.sr9 c104 ?_
      refine so_gyes rfl (decide_eq_false c105) ?_
      refine so_bin rfl rfl ab_gtr ?_
      refine so_pick_f (v := (.v (.bool (decide ((122 : Int) < (bt a0 x102)))))) rfl (decide_eq_false c105) rfl ?_
      refine so_nil ?_
      replace h := ofP h; rcases h with ⟨c106, h⟩ | ⟨c106, h⟩
      · refine fi_true rfl (decide_eq_true c106) ?_
        refine fi_seq ?_
        refine fi_region ?_
        refine so_assign (v := (.v (.bool false))) rfl ?_
        refine so_nil ?_
        exact by_ret rfl ⟨_, h, rfl, rfl⟩
      · refine fi_false rfl (decide_eq_false c106) ?_
        refine fi_skip ?_
        refine fi_inBlock ?_
        refine fi_region ?_
        refine so_bin rfl rfl ab_add ?_
        refine so_move (v := (.v (.int .i64 (IntKind.i64.wrap (x102 + (1 : Int)))))) rfl ?_
        refine so_nil ?_
        exact fi_at [(0, (.v (.str (pk a0)))), (5, (.v (.int .i64 (a0.length : Int)))), (6, (.v (.int .i64 (IntKind.i64.wrap (x102 + (1 : Int))))))] ⟨rfl, rfl, rfl, trivial⟩ (h _)
  · refine fi_false rfl (decide_eq_false c103) ?_
    refine fi_exit rfl ?_
    refine fi_seq ?_
    refine fi_region ?_
    refine so_move (v := (.v (.str (pk a0)))) rfl ?_
    refine so_slen rfl F272.sr9 ?_
    refine so_bin rfl rfl ab_geq ?_
    refine so_move (v := (.v (.bool (decide ((1 : Int) ≤ (a0.length : Int)))))) rfl ?_
    replace h := ofP h; rcases h with ⟨c107, h⟩ | ⟨c107, h⟩
    · refine so_gyes rfl (decide_eq_true c107) ?_
      refine so_move (v := (.v (.str (pk a0)))) rfl ?_
      refine so_gyes rfl (decide_eq_true c107) ?_
      refine so_slen rfl F272.sr9 ?_
      refine so_gyes rfl (decide_eq_true c107) ?_
      refine so_bin rfl rfl ab_leq ?_
      refine so_pick_t (v := (.v (.bool (decide ((a0.length : Int) ≤ (8 : Int)))))) rfl (decide_eq_true c107) rfl ?_
      refine so_assign (v := (.v (.bool (decide ((a0.length : Int) ≤ (8 : Int)))))) rfl ?_
      refine so_nil ?_
      exact by_ret rfl ⟨_, h, rfl, rfl⟩
    · refine so_gno rfl (decide_eq_false c107) ?_
      refine so_gno rfl (decide_eq_false c107) ?_
      refine so_gno rfl (decide_eq_false c107) ?_
      refine so_pick_f (v := (.v (.bool false))) rfl (decide_eq_false c107) rfl ?_
      refine so_assign (v := (.v (.bool false))) rfl ?_
      refine so_nil ?_
      exact by_ret rfl ⟨_, h, rfl, rfl⟩

end Go.Proofs.Ytkaidcgelbhofaa.G

namespace Go.Proofs.Ytkaidcgelbhofaa.G
open Go Go.Ab Go.Proofs Go.Proofs.Ytkaidcgelbhofaa
set_option maxRecDepth 100000
set_option linter.unusedVariables false
set_option linter.unusedSimpArgs false
set_option maxHeartbeats 1000000
attribute [local irreducible] wops wopf Go.Ab.Fin
theorem F236.ag2 : tagg Try.prog 2 = some false := by kernel_rfl
theorem F236.ag36 : tagg Try.prog 36 = some false := by kernel_rfl
theorem F236.ag9 : tagg Try.prog 9 = some false := by kernel_rfl
theorem F236.fd138_0 : tfield Try.prog 138 0 = some (0, 1, false) := by kernel_rfl
theorem F236.fd138_1 : tfield Try.prog 138 1 = some (1, 1, false) := by kernel_rfl
theorem F236.fd138_2 : tfield Try.prog 138 2 = some (2, 1, false) := by kernel_rfl
theorem F236.inf138 : (Try.prog.info? 138).isSome = true := by kernel_rfl
theorem F236.ti36 : (telem Try.prog 36).isSome = true := by kernel_rfl
theorem impl_ValidTake_ok {fr : List Pc} {H : Heap} (a0 : List UInt8) (a1 : Int) (v2 : AV) (l2 : List (Nat)) (hs : Sep H (fr)) (g2 : ∀ H, Sep H fr → Shows H v2 1 (enc (eFlt .f32) l2)) (K : Bool → Prop) (h : impl_ValidTake.wp a0 a1 l2 K) : OkQ Try.prog 236 [(.g [(.str (pk a0)), (.int .i64 a1), v2])] H (fun r H2 => ∃ (y0 : Bool), K y0 ∧ r = (.v (.bool y0)) ∧ Sep H2 (fr)) := by
  unfold impl_ValidTake.wp at h
  refine of_body Try.f236 F.hm Try.func236 rfl Try.call236 (by kernel_rfl) (by simp) ?_
  refine fi_seq ?_
  refine fi_region ?_
  refine sv_box hs rfl (c := [(.str (pk a0)), (.int .i64 a1), v2]) rfl F236.inf138 (stc rfl (stc rfl (stc (g2 _ hs).stor stn))) nofun (fun id101 H102 hs => ?_)
  refine so_assign (v := (.v (.bool false))) rfl ?_
  refine so_nil ?_
  refine fi_seq ?_
  refine fi_region ?_
  refine so_fieldAddr rfl F236.fd138_0 ?_
  refine sv_ld hs 0 rfl rfl rfl F236.ag9 ?_
  refine sv_callS (impl_IsName_ok a0 hs  _ h) (fun _ _ ⟨_, _, _, e⟩ => e) rfl rfl ?_
  clear h
  rintro _ _ ⟨y104, h, rfl, rfl⟩
  refine so_move (v := (.v (.bool y104))) rfl ?_
  replace h := ofT h; rcases h with ⟨c106, h⟩ | ⟨c106, h⟩
  · refine so_gyes rfl c106 ?_
    refine so_fieldAddr rfl F236.fd138_1 ?_
    refine so_gyes rfl c106 ?_
    refine sv_ld hs 0 rfl rfl rfl F236.ag2 ?_
    refine so_gyes rfl c106 ?_
    refine sv_callS (impl_within_ok a1 (1 : Int) (65535 : Int) hs  _ h) (fun _ _ ⟨_, _, _, e⟩ => e) rfl rfl ?_
    clear h
    rintro _ _ ⟨y107, h, rfl, rfl⟩
    refine so_pick_t (v := (.v (.bool y107))) rfl c106 rfl ?_
    refine so_move (v := (.v (.bool y107))) rfl ?_
    replace h := ofT h; rcases h with ⟨c109, h⟩ | ⟨c109, h⟩
    · refine so_gyes rfl c109 ?_
      refine so_fieldAddr rfl F236.fd138_2 ?_
      refine so_gyes rfl c109 ?_
      refine sv_ld hs 0 rfl rfl rfl F236.ag36 ?_
      refine so_gyes rfl c109 ?_
      refine sv_len (g2 _ hs.tl) (fun _ => rfl) (by decide) rfl F236.ti36 ?_
      refine so_gyes rfl c109 ?_
      refine sv_callS (impl_within_ok (l2.length : Int) (1 : Int) (128 : Int) hs  _ h) (fun _ _ ⟨_, _, _, e⟩ => e) rfl rfl ?_
      clear h
      rintro _ _ ⟨y110, h, rfl, rfl⟩
      refine so_pick_t (v := (.v (.bool y110))) rfl c109 rfl ?_
      refine so_assign (v := (.v (.bool y110))) rfl ?_
      refine so_nil ?_
      exact by_ret rfl ⟨_, h, rfl, (Sep.del 0 hs)⟩
    · refine so_gno rfl c109 ?_
      refine so_gno rfl c109 ?_
      refine so_gno rfl c109 ?_
      refine so_gno rfl c109 ?_
      refine so_pick_f (v := (.v (.bool false))) rfl c109 rfl ?_
      refine so_assign (v := (.v (.bool false))) rfl ?_
      refine so_nil ?_
      exact by_ret rfl ⟨_, h, rfl, (Sep.del 0 hs)⟩
  · refine so_gno rfl c106 ?_
    refine so_gno rfl c106 ?_
    refine so_gno rfl c106 ?_
    refine so_pick_f (v := (.v (.bool false))) rfl c106 rfl ?_
    refine so_move (v := (.v (.bool false))) rfl ?_
    refine so_gno rfl rfl ?_
    refine so_gno rfl rfl ?_
    refine so_gno rfl rfl ?_
    refine so_gno rfl rfl ?_
    refine so_pick_f (v := (.v (.bool false))) rfl rfl rfl ?_
    refine so_assign (v := (.v (.bool false))) rfl ?_
    refine so_nil ?_
    exact by_ret rfl ⟨_, h, rfl, (Sep.del 0 hs)⟩
theorem impl_ValidTake_okS {fr : List Pc} {H : Heap} (a0 : List UInt8) (a1 : Int) (v2 : AV) (l2 : List (Nat)) (hs : Sep H fr) (g2 : ∀ H, Sep H fr → Shows H v2 1 (enc (eFlt .f32) l2)) (K : Bool → Prop) (h : impl_ValidTake.wp a0 a1 l2 K) : OkQ Try.prog 236 [(.g [(.str (pk a0)), (.int .i64 a1), v2])] H (fun r H2 => ∃ (y0 : Bool), K y0 ∧ r = (.v (.bool y0)) ∧ H = H2) := by
  obtain ⟨r, H2, h1, y0, hK, hr, hsep⟩ := impl_ValidTake_ok (fr := came H) (H := H) a0 a1 v2 l2 (came_sep H) (came_shows (g2 H hs)) K h
  have hk : H.n ≤ H2.n ∧ ∀ i, i < H.n → H2.f i = H.f i := hsep.1.2.1
  exact ⟨r, H, h1.forget hk.1 hk.2 (by subst hr; rfl), y0, hK, hr, rfl⟩

end Go.Proofs.Ytkaidcgelbhofaa.G

namespace Go.Proofs.Ytkaidcgelbhofaa.G
open Go Go.Ab Go.Proofs Go.Proofs.Ytkaidcgelbhofaa
set_option maxRecDepth 100000
set_option linter.unusedVariables false
set_option linter.unusedSimpArgs false
set_option maxHeartbeats 1000000
attribute [local irreducible] wops wopf Go.Ab.Fin
theorem F237.it5 : tint Try.prog 5 = some .u8 := by kernel_rfl
theorem F237.sz5 : tsz Try.prog 5 = some 1 := by kernel_rfl
theorem F237.te82 : telem Try.prog 82 = some 5 := by kernel_rfl
theorem F237.us2 : (Try.prog.underlying 2).isSome = true := by kernel_rfl
theorem F237.ze5 : tzero Try.prog 5 = some [(.int .u8 (0 : Int))] := by kernel_rfl
theorem impl_lowBytes_ok {fr : List Pc} {H : Heap} (a0 : Int) (hs : Sep H (fr))  (K : (List (Int)) → Prop) (h : impl_lowBytes.wp a0 K) : OkQ Try.prog 237 [(.v (.int .i64 a0))] H (fun r H2 => ∃ (y0 : List (Int)), K y0 ∧ ∃ (w0_ : AV), r = (.v w0_) ∧ Sep H2 (Pc.osl w0_ 1 (enc (eInt .u8) y0) :: fr)) := by
  unfold impl_lowBytes.wp at h
  refine of_body Try.f237 F.hm Try.func237 rfl Try.call237 (by kernel_rfl) (by simp) ?_
  refine fi_seq ?_
  refine fi_region ?_
  refine so_assign (v := (.v .nilsl)) rfl ?_
  refine so_nil ?_
  refine fi_seq ?_
  refine fi_region ?_
  refine so_move (v := (.v (.int .i64 a0))) rfl ?_
  refine sv_ii rfl F237.us2 F237.it5 ?_
  refine so_move (v := (.v (.int .i64 a0))) rfl ?_
  refine so_bin rfl rfl (ab_shr (by decide)) ?_
  refine sv_ii rfl F237.us2 F237.it5 ?_
  refine sv_bslice hs (eInt .u8) ([(IntKind.u8.wrap a0), (IntKind.u8.wrap (Int.fdiv a0 (2 ^ (min ((8 : Int)).toNat IntKind.i64.bits))))] : List (Int)) [[(.int .u8 (IntKind.u8.wrap a0))], [(.int .u8 (IntKind.u8.wrap (Int.fdiv a0 (2 ^ (min ((8 : Int)).toNat IntKind.i64.bits)))))]] F237.te82 F237.sz5 F237.ze5 rfl rfl rfl rfl (fun _ => rfl) rfl (by decide) nofun (fun v101 H102 nv101 hs => ?_)
  refine so_assign (v := (.v v101)) rfl ?_
  refine so_nil ?_
  exact by_ret rfl ⟨_, h, _, rfl, hs⟩

end Go.Proofs.Ytkaidcgelbhofaa.G

namespace Go.Proofs.Ytkaidcgelbhofaa.G
open Go Go.Ab Go.Proofs Go.Proofs.Ytkaidcgelbhofaa
set_option maxRecDepth 100000
set_option linter.unusedVariables false
set_option linter.unusedSimpArgs false
set_option maxHeartbeats 1000000
attribute [local irreducible] wops wopf Go.Ab.Fin
theorem F238.it2 : tint Try.prog 2 = some .i64 := by kernel_rfl
theorem F238.sr9 : tstr Try.prog 9 = true := by kernel_rfl
theorem F238.us5 : (Try.prog.underlying 5).isSome = true := by kernel_rfl
theorem impl_CheckOf_ok {fr : List Pc} {H : Heap} (a0 : Int) (a1 : List UInt8) (hs : Sep H (fr))  (K : Int → Bool → Prop) (h : impl_CheckOf.wp a0 a1 K) : OkQ Try.prog 238 [(.v (.int .i64 a0)), (.v (.str (pk a1)))] H (fun r H2 => ∃ (y0 : Int) (y1 : Bool), K y0 y1 ∧ r = (.t [(.v (.int .i64 y0)), (.v (.bool y1))]) ∧ H = H2) := by
  unfold impl_CheckOf.wp at h
  refine of_body Try.f238 F.hm Try.func238 rfl Try.call238 (by kernel_rfl) (by simp) ?_
  refine fi_seq ?_
  refine fi_region ?_
  refine so_assign (v := (.v (.int .i64 (0 : Int)))) rfl ?_
  refine so_assign (v := (.v (.bool false))) rfl ?_
  refine so_nil ?_
  refine fi_seq ?_
  refine fi_seq ?_
  refine fi_region ?_
  refine so_move (v := (.v (.int .i64 a0))) rfl ?_
  refine sv_callS (impl_within_ok a0 (0 : Int) (65002 : Int) hs  _ h) (fun _ _ ⟨_, _, _, e⟩ => e) rfl rfl ?_
  clear h
  rintro _ _ ⟨y101, h, rfl, rfl⟩
  refine so_un rfl au_not ?_
  refine so_nil ?_
  replace h := ofT h; rcases h with ⟨c103, h⟩ | ⟨c103, h⟩
  · refine fi_false rfl (not_f c103) ?_
    refine fi_skip ?_
    refine fi_seq ?_
    refine fi_seq ?_
    refine fi_region ?_
    refine so_move (v := (.v (.str (pk a1)))) rfl ?_
    refine so_slen rfl F238.sr9 ?_
    refine so_move (v := (.v (.int .i64 (0 : Int)))) rfl ?_
    refine so_nil ?_
    refine fi_block ?_
    refine fi_loop ?_
    refine fi_at [(0, (.v (.int .i64 a0))), (1, (.v (.str (pk a1)))), (11, (.v (.int .i64 (a1.length : Int)))), (12, (.v (.int .i64 (0 : Int))))] ⟨rfl, rfl, rfl, rfl, trivial⟩ ?_
    refine h (fun (start105 : Int) (x106 : Int) => ∀ (s : Nat → TV), Fin _ _ (updL s [(0, (.v (.int .i64 start105))), (1, (.v (.str (pk a1)))), (11, (.v (.int .i64 (a1.length : Int)))), (12, (.v (.int .i64 x106)))]) _ _) ?_ _
    intro start105 x106 h s109
    refine fi_inLoop ?_
    refine fi_seq ?_
    refine fi_region ?_
    refine so_bin rfl rfl ab_lss ?_
    refine so_nil ?_
    refine fi_seq ?_
    replace h := ofP h; rcases h with ⟨c107, h⟩ | ⟨c107, h⟩
    · refine fi_true rfl (decide_eq_true c107) ?_
      refine fi_skip ?_
      refine fi_seq ?_
      refine fi_block ?_
      refine fi_seq ?_
      refine fi_region ?_
      refine so_move (v := (.v (.int .i64 x106))) rfl ?_
      refine so_assign (v := (.v (.int .i64 x106))) rfl ?_
      refine so_nil ?_
      refine fi_region ?_
      refine so_move (v := (.v (.int .i64 start105))) rfl ?_
      refine so_bin rfl rfl ab_mul ?_
      refine so_move (v := (.v (.str (pk a1)))) rfl ?_
      refine so_move (v := (.v (.int .i64 x106))) rfl ?_
      obtain ⟨c108, h⟩ := h
      refine so_index rfl rfl F238.sr9 c108 ?_
      refine sv_ii rfl F238.us5 F238.it2 ?_
      refine so_bin rfl rfl ab_add ?_
      refine so_bin rfl rfl ab_add ?_
      refine so_bin rfl rfl (ab_rem (by decide)) ?_
      refine so_assign (v := (.v (.int .i64 (Int.tmod (IntKind.i64.wrap ((IntKind.i64.wrap ((IntKind.i64.wrap ((853 : Int) * start105)) + (IntKind.i64.wrap (bt a1 x106)))) + (139 : Int))) (65003 : Int))))) rfl ?_
      refine so_nil ?_
      refine fi_inBlock ?_
      refine fi_region ?_
      refine so_bin rfl rfl ab_add ?_
      refine so_move (v := (.v (.int .i64 (IntKind.i64.wrap (x106 + (1 : Int)))))) rfl ?_
      refine so_nil ?_
      exact fi_at [(0, (.v (.int .i64 (Int.tmod (IntKind.i64.wrap ((IntKind.i64.wrap ((IntKind.i64.wrap ((853 : Int) * start105)) + (IntKind.i64.wrap (bt a1 x106)))) + (139 : Int))) (65003 : Int))))), (1, (.v (.str (pk a1)))), (11, (.v (.int .i64 (a1.length : Int)))), (12, (.v (.int .i64 (IntKind.i64.wrap (x106 + (1 : Int))))))] ⟨rfl, rfl, rfl, rfl, trivial⟩ (h _)
    · refine fi_false rfl (decide_eq_false c107) ?_
      refine fi_exit rfl ?_
      refine fi_seq ?_
      refine fi_region ?_
      refine so_move (v := (.v (.int .i64 start105))) rfl ?_
      refine so_assign (v := (.v (.int .i64 start105))) rfl ?_
      refine so_assign (v := (.v (.bool true))) rfl ?_
      refine so_nil ?_
      exact by_ret rfl ⟨_, _, h, rfl, rfl⟩
  · refine fi_true rfl (not_t c103) ?_
    refine fi_seq ?_
    refine fi_region ?_
    refine so_assign (v := (.v (.int .i64 (0 : Int)))) rfl ?_
    refine so_assign (v := (.v (.bool false))) rfl ?_
    refine so_nil ?_
    exact by_ret rfl ⟨_, _, h, rfl, rfl⟩

end Go.Proofs.Ytkaidcgelbhofaa.G

namespace Go.Proofs.Ytkaidcgelbhofaa.G
open Go Go.Ab Go.Proofs Go.Proofs.Ytkaidcgelbhofaa
set_option maxRecDepth 100000
set_option linter.unusedVariables false
set_option linter.unusedSimpArgs false
set_option maxHeartbeats 1000000
attribute [local irreducible] wops wopf Go.Ab.Fin
theorem F176.ag138 : tagg Try.prog 138 = some true := by kernel_rfl
theorem F176.ag2 : tagg Try.prog 2 = some false := by kernel_rfl
theorem F176.ag36 : tagg Try.prog 36 = some false := by kernel_rfl
theorem F176.ag9 : tagg Try.prog 9 = some false := by kernel_rfl
theorem F176.fd138_0 : tfield Try.prog 138 0 = some (0, 1, false) := by kernel_rfl
theorem F176.fd138_1 : tfield Try.prog 138 1 = some (1, 1, false) := by kernel_rfl
theorem F176.fd138_2 : tfield Try.prog 138 2 = some (2, 1, false) := by kernel_rfl
theorem F176.inf138 : (Try.prog.info? 138).isSome = true := by kernel_rfl
theorem F176.it5 : tint Try.prog 5 = some .u8 := by kernel_rfl
theorem F176.ns82 : tstr Try.prog 82 = false := by kernel_rfl
theorem F176.sr9 : tstr Try.prog 9 = true := by kernel_rfl
theorem F176.sz138 : tsz Try.prog 138 = some 3 := by kernel_rfl
theorem F176.sz5 : tsz Try.prog 5 = some 1 := by kernel_rfl
theorem F176.ta82_82 : tapp Try.prog 82 82 = some (1, 1) := by kernel_rfl
theorem F176.ta82_9 : tapp Try.prog 82 9 = some (1, 1) := by kernel_rfl
theorem F176.te82 : telem Try.prog 82 = some 5 := by kernel_rfl
theorem F176.us3 : (Try.prog.underlying 3).isSome = true := by kernel_rfl
theorem F176.us82 : (Try.prog.underlying 82).isSome = true := by kernel_rfl
theorem F176.ze5 : tzero Try.prog 5 = some [(.int .u8 (0 : Int))] := by kernel_rfl
theorem impl_StoreTake_ok {fr : List Pc} {H : Heap} (a0 : List UInt8) (a1 : Int) (v2 : AV) (l2 : List (Nat)) (hs : Sep H (fr)) (g2 : ∀ H, Sep H fr → Shows H v2 1 (enc (eFlt .f32) l2)) (K : (List UInt8) → Bool → Prop) (h : impl_StoreTake.wp a0 a1 l2 K) : OkQ Try.prog 176 [(.g [(.str (pk a0)), (.int .i64 a1), v2])] H (fun r H2 => ∃ (y0 : List UInt8) (y1 : Bool), K y0 y1 ∧ r = (.t [(.v (.str (pk y0))), (.v (.bool y1))]) ∧ Sep H2 (fr)) := by
  unfold impl_StoreTake.wp at h
  refine of_body Try.f176 F.hm Try.func176 rfl Try.call176 (by kernel_rfl) (by simp) ?_
  refine fi_seq ?_
  refine fi_region ?_
  refine sv_box hs rfl (c := [(.str (pk a0)), (.int .i64 a1), v2]) rfl F176.inf138 (stc rfl (stc rfl (stc (g2 _ hs).stor stn))) nofun (fun id101 H102 hs => ?_)
  refine so_assign (v := (.v (.str (pk ([] : List UInt8))))) rfl ?_
  refine so_assign (v := (.v (.bool false))) rfl ?_
  refine so_nil ?_
  refine fi_seq ?_
  refine fi_seq ?_
  refine fi_region ?_
  refine sv_lds hs 0 rfl rfl (leb rfl) rfl F176.ag138 F176.sz138 ?_
  refine sv_callS (impl_ValidTake_okS a0 a1 v2 l2 hs (fun _ hs => (g2 _ hs.tl)) _ h) (fun _ _ ⟨_, _, _, e⟩ => e) rfl rfl ?_
  clear h
  rintro _ _ ⟨y104, h, rfl, rfl⟩
  refine so_un rfl au_not ?_
  refine so_nil ?_
  replace h := ofT h; rcases h with ⟨c106, h⟩ | ⟨c106, h⟩
  · refine fi_false rfl (not_f c106) ?_
    refine fi_skip ?_
    refine fi_seq ?_
    refine fi_region ?_
    refine so_fieldAddr rfl F176.fd138_2 ?_
    refine sv_ld hs 0 rfl rfl rfl F176.ag36 ?_
    refine sv_callS (impl_packed_okS v2 l2 hs (fun _ hs => (g2 _ hs.tl)) _ h) (fun _ _ ⟨_, _, _, e⟩ => e) rfl rfl ?_
    clear h
    rintro _ _ ⟨y107, h, rfl, rfl⟩
    refine so_assign (v := (.v (.str (pk y107)))) rfl ?_
    refine so_nil ?_
    refine fi_seq ?_
    refine fi_region ?_
    refine sv_bslice hs (eInt .u8) ([(84 : Int), (65 : Int), (75 : Int), (49 : Int)] : List (Int)) [[(.int .u8 (84 : Int))], [(.int .u8 (65 : Int))], [(.int .u8 (75 : Int))], [(.int .u8 (49 : Int))]] F176.te82 F176.sz5 F176.ze5 rfl rfl rfl rfl (fun _ => rfl) rfl (by decide) nofun (fun v109 H110 nv109 hs => ?_)
    obtain ⟨c112, h⟩ := h
    refine sv_bb hs 0 rfl c112 rfl F176.te82 F176.it5 F176.ns82 ?_
    refine so_fieldAddr rfl F176.fd138_0 ?_
    refine sv_ld hs 1 rfl rfl rfl F176.ag9 ?_
    refine so_slen rfl F176.sr9 ?_
    refine sv_ii rfl F176.us3 F176.it5 ?_
    refine sv_bslice hs (eInt .u8) ([(IntKind.u8.wrap (a0.length : Int))] : List (Int)) [[(.int .u8 (IntKind.u8.wrap (a0.length : Int)))]] F176.te82 F176.sz5 F176.ze5 rfl rfl rfl rfl (fun _ => rfl) rfl (by decide) nofun (fun v113 H114 nv113 hs => ?_)
    obtain ⟨c118, h⟩ := h
    refine sv_app hs 1 rfl (hs.shows 0 rfl) (fun _ => rfl) (by decide) F176.ta82_82 (by decide) c118 rfl rfl nofun (fun v116 H117 kv116 hs => ?_)
    replace hs := hs.del 0
    have nv116 := kv116 nv109
    refine so_assign (v := (.v v116)) rfl ?_
    refine so_nil ?_
    refine fi_seq ?_
    refine fi_free [5] ?_
    refine wf_pure rfl (by kernel_rfl) ?_
    refine so_move (v := (.v v116)) rfl ?_
    refine so_end ?_
    refine wf_pure rfl (by kernel_rfl) ?_
    refine so_fieldAddr rfl F176.fd138_0 ?_
    refine so_end ?_
    refine wf_same (by decide +kernel) (by kernel_rfl) ?_
    refine sv_ld hs 1 rfl rfl rfl F176.ag9 ?_
    refine so_end ⟨rfl, ?_⟩
    have hs0_ := hs
    refine wf_chg (by kernel_rfl) ?_
    obtain ⟨c121, h⟩ := h
    refine sv_apps hs 0 rfl F176.ta82_9 (by decide) c121 rfl rfl nofun (fun v119 H120 kv119 hs => ?_)
    have nv119 := kv119 nv116
    refine so_end ⟨fan, ?_⟩
    refine wf_pure rfl (by kernel_rfl) ?_
    refine so_fieldAddr rfl F176.fd138_1 ?_
    refine so_end ?_
    refine wf_free (.v (.int .i64 a1)) rfl (by kernel_rfl) (stepr (i := 0) rfl (by refine sv_ld hs 1 rfl rfl rfl F176.ag2 ?_; exact so_end ⟨rfl, rfl⟩)) (fac (.inr (stepr (i := 0) rfl (by refine sv_ld hs0_ 1 rfl rfl rfl F176.ag2 ?_; exact so_end ⟨rfl, rfl⟩))) fan) ?_
    have hs1_ := hs
    refine wf_chg (by kernel_rfl) ?_
    refine sv_call (impl_lowBytes_ok a1 hs  _ h) rfl rfl nofun ?_
    clear h
    rintro _ H125 ⟨y122, h, v123, rfl, hs⟩
    refine so_end ⟨(fac (.inl ⟨6, by kernel_rfl⟩) fan), ?_⟩
    have hs2_ := hs
    refine wf_chg (by kernel_rfl) ?_
    obtain ⟨c128, h⟩ := h
    refine sv_app hs 1 rfl (hs.shows 0 rfl) (fun _ => rfl) (by decide) F176.ta82_82 (by decide) c128 rfl rfl nofun (fun v126 H127 kv126 hs => ?_)
    have nv126 := kv126 nv119
    refine so_end ⟨(fac (.inl ⟨6, by kernel_rfl⟩) fan), ?_⟩
    refine wf_pure rfl (by kernel_rfl) ?_
    refine so_assign (v := (.v v126)) rfl ?_
    refine so_end ?_
    refine wf_nil ?_
    refine fi_seq ?_
    refine fi_region ?_
    refine so_move (v := (.v v126)) rfl ?_
    refine so_move (v := (.v (.str (pk y107)))) rfl ?_
    refine so_slen rfl F176.sr9 ?_
    refine sv_call (impl_lowBytes_ok (y107.length : Int) hs  _ h) rfl rfl nofun ?_
    clear h hs
    rintro _ H132 ⟨y129, h, v130, rfl, hs⟩
    obtain ⟨c135, h⟩ := h
    refine sv_app hs 2 rfl (hs.shows 0 rfl) (fun _ => rfl) (by decide) F176.ta82_82 (by decide) c135 rfl rfl nofun (fun v133 H134 kv133 hs => ?_)
    have nv133 := kv133 nv126
    refine so_move (v := (.v (.str (pk y107)))) rfl ?_
    obtain ⟨c138, h⟩ := h
    refine sv_apps hs 2 rfl F176.ta82_9 (by decide) c138 rfl rfl nofun (fun v136 H137 kv136 hs => ?_)
    have nv136 := kv136 nv133
    refine so_assign (v := (.v v136)) rfl ?_
    refine so_nil ?_
    refine fi_seq ?_
    refine fi_region ?_
    refine so_move (v := (.v v136)) rfl ?_
    refine sv_bs (hs.shows 2 rfl) nv136 rfl F176.te82 F176.it5 F176.sr9 ?_
    refine sv_callS (impl_CheckOf_ok (0 : Int) (byts (((((([(84 : Int), (65 : Int), (75 : Int), (49 : Int)] : List (Int)) ++ ([(IntKind.u8.wrap (a0.length : Int))] : List (Int))) ++ nums a0) ++ y122) ++ y129) ++ nums y107)) hs  _ h) (fun _ _ ⟨_, _, _, _, e⟩ => e) rfl rfl ?_
    clear h
    rintro _ _ ⟨y139, y140, h, rfl, rfl⟩
    refine so_move (v := (.t [(.v (.int .i64 y139)), (.v (.bool y140))])) rfl ?_
    refine so_extract rfl rfl rfl ?_
    refine so_extract rfl rfl rfl ?_
    refine so_assign (v := (.v (.int .i64 y139))) rfl ?_
    refine so_assign (v := (.v (.bool y140))) rfl ?_
    refine so_nil ?_
    refine fi_seq ?_
    refine fi_region ?_
    refine so_move (v := (.v v136)) rfl ?_
    refine so_move (v := (.v (.int .i64 y139))) rfl ?_
    refine sv_call (impl_lowBytes_ok y139 hs  _ h) rfl rfl nofun ?_
    clear h hs
    rintro _ H145 ⟨y142, h, v143, rfl, hs⟩
    obtain ⟨c148, h⟩ := h
    refine sv_app hs 3 rfl (hs.shows 0 rfl) (fun _ => rfl) (by decide) F176.ta82_82 (by decide) c148 rfl rfl nofun (fun v146 H147 kv146 hs => ?_)
    have nv146 := kv146 nv136
    refine sv_bs (hs.shows 3 rfl) nv146 rfl F176.te82 F176.it5 F176.sr9 ?_
    refine so_assign (v := (.v (.str (pk (byts ((((((([(84 : Int), (65 : Int), (75 : Int), (49 : Int)] : List (Int)) ++ ([(IntKind.u8.wrap (a0.length : Int))] : List (Int))) ++ nums a0) ++ y122) ++ y129) ++ nums y107) ++ y142)))))) rfl ?_
    refine so_assign (v := (.v (.bool true))) rfl ?_
    refine so_nil ?_
    exact by_ret rfl ⟨_, _, h, rfl, (Sep.dropn 5 hs)⟩
  · refine fi_true rfl (not_t c106) ?_
    refine fi_seq ?_
    refine fi_region ?_
    refine so_assign (v := (.v (.str (pk ([] : List UInt8))))) rfl ?_
    refine so_assign (v := (.v (.bool false))) rfl ?_
    refine so_nil ?_
    exact by_ret rfl ⟨_, _, h, rfl, (Sep.del 0 hs)⟩
theorem impl_StoreTake_okS {fr : List Pc} {H : Heap} (a0 : List UInt8) (a1 : Int) (v2 : AV) (l2 : List (Nat)) (hs : Sep H fr) (g2 : ∀ H, Sep H fr → Shows H v2 1 (enc (eFlt .f32) l2)) (K : (List UInt8) → Bool → Prop) (h : impl_StoreTake.wp a0 a1 l2 K) : OkQ Try.prog 176 [(.g [(.str (pk a0)), (.int .i64 a1), v2])] H (fun r H2 => ∃ (y0 : List UInt8) (y1 : Bool), K y0 y1 ∧ r = (.t [(.v (.str (pk y0))), (.v (.bool y1))]) ∧ H = H2) := by
  obtain ⟨r, H2, h1, y0, y1, hK, hr, hsep⟩ := impl_StoreTake_ok (fr := came H) (H := H) a0 a1 v2 l2 (came_sep H) (came_shows (g2 H hs)) K h
  have hk : H.n ≤ H2.n ∧ ∀ i, i < H.n → H2.f i = H.f i := hsep.1.2.1
  exact ⟨r, H, h1.forget hk.1 hk.2 (by subst hr; rfl), y0, y1, hK, hr, rfl⟩

end Go.Proofs.Ytkaidcgelbhofaa.G

namespace Go.Proofs.Ytkaidcgelbhofaa.G
open Go Go.Ab Go.Proofs Go.Proofs.Ytkaidcgelbhofaa
set_option maxRecDepth 100000
set_option linter.unusedVariables false
set_option linter.unusedSimpArgs false
set_option maxHeartbeats 1000000
attribute [local irreducible] wops wopf Go.Ab.Fin
theorem F112.ag138 : tagg Try.prog 138 = some true := by kernel_rfl
theorem F112.bp138 : bplan Try.prog 138 = some ([(.str (pk ([] : List UInt8))), (.int .i64 (0 : Int)), .nilsl], [(0, 1), (1, 1), (2, 1)]) := by kernel_rfl
theorem F112.fd138_2 : tfield Try.prog 138 2 = some (2, 1, false) := by kernel_rfl
theorem F112.it3 : tint Try.prog 3 = some .i64 := by kernel_rfl
theorem F112.sr9 : tstr Try.prog 9 = true := by kernel_rfl
theorem F112.sz138 : tsz Try.prog 138 = some 3 := by kernel_rfl
theorem F112.sz36 : tsz Try.prog 36 = some 1 := by kernel_rfl
theorem F112.us5 : (Try.prog.underlying 5).isSome = true := by kernel_rfl
theorem F112.ze138 : tzero Try.prog 138 = some [(.str (pk ([] : List UInt8))), (.int .i64 (0 : Int)), .nilsl] := by kernel_rfl
theorem impl_takeAhead_ok {fr : List Pc} {H : Heap} (a0 : List UInt8) (hs : Sep H (fr))  (K : (List UInt8) → Int → (List (Nat)) → Int → Bool → Prop) (h : impl_takeAhead.wp a0 K) : OkQ Try.prog 112 [(.v (.str (pk a0)))] H (fun r H2 => ∃ (y0 : List UInt8) (y1 : Int) (y2 : List (Nat)) (y3 : Int) (y4 : Bool), K y0 y1 y2 y3 y4 ∧ ∃ (w0_ : AV), r = (.t [(.g [(.str (pk y0)), (.int .i64 y1), w0_]), (.v (.int .i64 y3)), (.v (.bool y4))]) ∧ Sep H2 (Pc.osl w0_ 1 (enc (eFlt .f32) y2) :: fr)) := by
  unfold impl_takeAhead.wp at h
  refine of_body Try.f112 F.hm Try.func112 rfl Try.call112 (by kernel_rfl) (by simp) ?_
  refine fi_seq ?_
  refine fi_region ?_
  refine sv_alloc hs F112.ze138 rfl nofun (fun id101 H102 hs => ?_)
  refine so_assign (v := (.v (.int .i64 (0 : Int)))) rfl ?_
  refine so_assign (v := (.v (.bool false))) rfl ?_
  refine so_nil ?_
  refine fi_seq ?_
  refine fi_seq ?_
  refine fi_region ?_
  refine so_move (v := (.v (.str (pk a0)))) rfl ?_
  refine so_slen rfl F112.sr9 ?_
  refine so_bin rfl rfl ab_lss ?_
  refine so_move (v := (.v (.bool (decide ((a0.length : Int) < (5 : Int)))))) rfl ?_
  replace h := ofP h; rcases h with ⟨c104, h⟩ | ⟨c104, h⟩
  · refine so_gno rfl (decide_eq_true c104) ?_
    refine so_gno rfl (decide_eq_true c104) ?_
    refine so_gno rfl (decide_eq_true c104) ?_
    refine so_pick_t (v := (.v (.bool true))) rfl (decide_eq_true c104) rfl ?_
    refine so_nil ?_
    refine fi_true rfl rfl ?_
    refine fi_seq ?_
    refine fi_region ?_
    refine so_build F112.bp138 (cps := []) rfl fan rfl ?_
    refine sv_st hs 0 rfl rfl rfl (c := [(.str (pk ([] : List UInt8))), (.int .i64 (0 : Int)), .nilsl]) rfl F112.sz138 rfl (stc rfl (stc rfl (stc rfl stn))) (leb rfl) (cs' := [(.str (pk ([] : List UInt8))), (.int .i64 (0 : Int)), .nilsl]) rfl nofun (fun H105 hs => ?_)
    refine so_assign (v := (.v (.int .i64 (0 : Int)))) rfl ?_
    refine so_assign (v := (.v (.bool false))) rfl ?_
    refine so_nil ?_
    exact by_ret (res_mk (ar_cells rfl F112.ag138 F112.sz138 (hs.lds 0 rfl (leb rfl) rfl) (ar_tmp rfl (ar_tmp rfl ar_nil))) rfl) ⟨_, _, _, _, _, h, _, rfl, (Sep.nil (Sep.del 0 hs) 1)⟩
  · refine so_gyes rfl (decide_eq_false c104) ?_
    refine so_move (v := (.v (.str (pk a0)))) rfl ?_
    refine so_gyes rfl (decide_eq_false c104) ?_
    refine sv_callS (strings_HasPrefix_ok a0 ([84, 65, 75, 49] : List UInt8) hs  _ h) (fun _ _ ⟨_, _, _, e⟩ => e) rfl rfl ?_
    clear h
    rintro _ _ ⟨y106, h, rfl, rfl⟩
    refine so_gyes rfl (decide_eq_false c104) ?_
    refine so_un rfl au_not ?_
    refine so_pick_f (v := (.v (.bool (!y106)))) rfl (decide_eq_false c104) rfl ?_
    refine so_nil ?_
    replace h := ofT h; rcases h with ⟨c108, h⟩ | ⟨c108, h⟩
    · refine fi_false rfl (not_f c108) ?_
      refine fi_skip ?_
      refine fi_seq ?_
      refine fi_region ?_
      refine so_move (v := (.v (.str (pk a0)))) rfl ?_
      obtain ⟨c109, h⟩ := h
      refine so_index rfl rfl F112.sr9 c109 ?_
      refine sv_ii rfl F112.us5 F112.it3 ?_
      refine so_bin rfl rfl ab_add ?_
      refine so_assign (v := (.v (.int .i64 (IntKind.i64.wrap ((5 : Int) + (IntKind.i64.wrap (bt a0 (4 : Int)))))))) rfl ?_
      refine so_nil ?_
      refine fi_seq ?_
      refine fi_seq ?_
      refine fi_region ?_
      refine so_move (v := (.v (.str (pk a0)))) rfl ?_
      refine so_slen rfl F112.sr9 ?_
      refine so_move (v := (.v (.int .i64 (IntKind.i64.wrap ((5 : Int) + (IntKind.i64.wrap (bt a0 (4 : Int)))))))) rfl ?_
      refine so_bin rfl rfl ab_add ?_
      refine so_bin rfl rfl ab_lss ?_
      refine so_nil ?_
      replace h := ofP h; rcases h with ⟨c110, h⟩ | ⟨c110, h⟩
      · refine fi_true rfl (decide_eq_true c110) ?_
        refine fi_seq ?_
        refine fi_region ?_
        refine so_build F112.bp138 (cps := []) rfl fan rfl ?_
        refine sv_st hs 0 rfl rfl rfl (c := [(.str (pk ([] : List UInt8))), (.int .i64 (0 : Int)), .nilsl]) rfl F112.sz138 rfl (stc rfl (stc rfl (stc rfl stn))) (leb rfl) (cs' := [(.str (pk ([] : List UInt8))), (.int .i64 (0 : Int)), .nilsl]) rfl nofun (fun H111 hs => ?_)
        refine so_assign (v := (.v (.int .i64 (0 : Int)))) rfl ?_
        refine so_assign (v := (.v (.bool false))) rfl ?_
        refine so_nil ?_
        exact by_ret (res_mk (ar_cells rfl F112.ag138 F112.sz138 (hs.lds 0 rfl (leb rfl) rfl) (ar_tmp rfl (ar_tmp rfl ar_nil))) rfl) ⟨_, _, _, _, _, h, _, rfl, (Sep.nil (Sep.del 0 hs) 1)⟩
      · refine fi_false rfl (decide_eq_false c110) ?_
        refine fi_skip ?_
        refine fi_seq ?_
        refine fi_free [2, 7, 8] ?_
        refine wf_pure rfl (by kernel_rfl) ?_
        refine so_move (v := (.v (.str (pk a0)))) rfl ?_
        refine so_end ?_
        refine wf_pure rfl (by kernel_rfl) ?_
        refine so_move (v := (.v (.int .i64 (IntKind.i64.wrap ((5 : Int) + (IntKind.i64.wrap (bt a0 (4 : Int)))))))) rfl ?_
        refine so_end ?_
        obtain ⟨c112, h⟩ := h
        refine wf_free (.v (.str (pk ((a0.drop ((5 : Int)).toNat).take (((IntKind.i64.wrap ((5 : Int) + (IntKind.i64.wrap (bt a0 (4 : Int)))))).toNat - ((5 : Int)).toNat))))) rfl (by kernel_rfl) (stepr (i := 0) rfl (by refine so_sslice rfl rfl rfl F112.sr9 rfl rfl c112 ?_; exact so_end ⟨rfl, rfl⟩)) fan ?_
        refine wf_pure rfl (by kernel_rfl) ?_
        refine so_move (v := (.v (.str (pk a0)))) rfl ?_
        refine so_end ?_
        refine wf_pure rfl (by kernel_rfl) ?_
        refine so_move (v := (.v (.int .i64 (IntKind.i64.wrap ((5 : Int) + (IntKind.i64.wrap (bt a0 (4 : Int)))))))) rfl ?_
        refine so_end ?_
        refine wf_pure rfl (by kernel_rfl) ?_
        refine so_move (v := (.v (.int .i64 (IntKind.i64.wrap ((5 : Int) + (IntKind.i64.wrap (bt a0 (4 : Int)))))))) rfl ?_
        refine so_end ?_
        refine wf_pure rfl (by kernel_rfl) ?_
        refine so_bin rfl rfl ab_add ?_
        refine so_end ?_
        obtain ⟨c113, h⟩ := h
        refine wf_free (.v (.str (pk ((a0.drop ((IntKind.i64.wrap ((5 : Int) + (IntKind.i64.wrap (bt a0 (4 : Int)))))).toNat).take (((IntKind.i64.wrap ((IntKind.i64.wrap ((5 : Int) + (IntKind.i64.wrap (bt a0 (4 : Int))))) + (2 : Int)))).toNat - ((IntKind.i64.wrap ((5 : Int) + (IntKind.i64.wrap (bt a0 (4 : Int)))))).toNat))))) rfl (by kernel_rfl) (stepr (i := 0) rfl (by refine so_sslice rfl rfl rfl F112.sr9 rfl rfl c113 ?_; exact so_end ⟨rfl, rfl⟩)) fan ?_
        obtain ⟨y114, hw115, h⟩ := h
        refine wf_free (.v (.int .i64 y114)) rfl (by kernel_rfl) (stepr (i := 0) rfl (by refine sv_callS (impl_lowNumber_ok ((a0.drop ((IntKind.i64.wrap ((5 : Int) + (IntKind.i64.wrap (bt a0 (4 : Int)))))).toNat).take (((IntKind.i64.wrap ((IntKind.i64.wrap ((5 : Int) + (IntKind.i64.wrap (bt a0 (4 : Int))))) + (2 : Int)))).toNat - ((IntKind.i64.wrap ((5 : Int) + (IntKind.i64.wrap (bt a0 (4 : Int)))))).toNat)) hs  (fun zy114 => y114 = zy114) hw115) (fun _ _ ⟨_, _, _, e⟩ => e) rfl rfl ?_; rintro _ _ ⟨_, rfl, rfl, rfl⟩; exact so_end ⟨rfl, rfl⟩)) fan ?_
        refine wf_pure rfl (by kernel_rfl) ?_
        refine so_build F112.bp138 (cps := [(0, [(.str (pk ((a0.drop ((5 : Int)).toNat).take (((IntKind.i64.wrap ((5 : Int) + (IntKind.i64.wrap (bt a0 (4 : Int)))))).toNat - ((5 : Int)).toNat))))]), (1, [(.int .i64 y114)])]) rfl (fac (stc rfl stn) (fac (stc rfl stn) fan)) rfl ?_
        refine so_end ?_
        have hs0_ := hs
        refine wf_chg (by kernel_rfl) ?_
        refine sv_alloc hs F112.ze138 rfl nofun (fun id116 H117 hs => ?_)
        refine so_end ⟨(fac (.inr (stepr (i := 0) rfl (by refine sv_callS (impl_lowNumber_ok ((a0.drop ((IntKind.i64.wrap ((5 : Int) + (IntKind.i64.wrap (bt a0 (4 : Int)))))).toNat).take (((IntKind.i64.wrap ((IntKind.i64.wrap ((5 : Int) + (IntKind.i64.wrap (bt a0 (4 : Int))))) + (2 : Int)))).toNat - ((IntKind.i64.wrap ((5 : Int) + (IntKind.i64.wrap (bt a0 (4 : Int)))))).toNat)) hs  (fun zy114 => y114 = zy114) hw115) (fun _ _ ⟨_, _, _, e⟩ => e) rfl rfl ?_; rintro _ _ ⟨_, rfl, rfl, rfl⟩; exact so_end ⟨rfl, rfl⟩))) (fac (.inr (stepr (i := 0) rfl (by refine so_sslice rfl rfl rfl F112.sr9 rfl rfl c113 ?_; exact so_end ⟨rfl, rfl⟩))) (fac (.inr (stepr (i := 0) rfl (by refine so_sslice rfl rfl rfl F112.sr9 rfl rfl c112 ?_; exact so_end ⟨rfl, rfl⟩))) fan))), ?_⟩
        have hs1_ := hs
        refine wf_chg (by kernel_rfl) ?_
        refine sv_st hs 0 rfl rfl rfl (c := [(.str (pk ((a0.drop ((5 : Int)).toNat).take (((IntKind.i64.wrap ((5 : Int) + (IntKind.i64.wrap (bt a0 (4 : Int)))))).toNat - ((5 : Int)).toNat)))), (.int .i64 y114), .nilsl]) rfl F112.sz138 rfl (stc rfl (stc rfl (stc rfl stn))) (leb rfl) (cs' := [(.str (pk ((a0.drop ((5 : Int)).toNat).take (((IntKind.i64.wrap ((5 : Int) + (IntKind.i64.wrap (bt a0 (4 : Int)))))).toNat - ((5 : Int)).toNat)))), (.int .i64 y114), .nilsl]) rfl nofun (fun H119 hs => ?_)
        refine so_end ⟨(fac (.inl ⟨11, by kernel_rfl⟩) (fac (.inl ⟨11, by kernel_rfl⟩) (fac (.inl ⟨11, by kernel_rfl⟩) fan))), ?_⟩
        refine wf_nil ?_
        refine fi_seq ?_
        refine fi_region ?_
        refine so_move (v := (.v (.int .i64 (IntKind.i64.wrap ((5 : Int) + (IntKind.i64.wrap (bt a0 (4 : Int)))))))) rfl ?_
        refine so_bin rfl rfl ab_add ?_
        refine so_move (v := (.v (.str (pk a0)))) rfl ?_
        refine so_move (v := (.v (.int .i64 (IntKind.i64.wrap ((5 : Int) + (IntKind.i64.wrap (bt a0 (4 : Int)))))))) rfl ?_
        refine so_bin rfl rfl ab_add ?_
        refine so_move (v := (.v (.int .i64 (IntKind.i64.wrap ((5 : Int) + (IntKind.i64.wrap (bt a0 (4 : Int)))))))) rfl ?_
        refine so_bin rfl rfl ab_add ?_
        obtain ⟨c120, h⟩ := h
        refine so_sslice rfl rfl rfl F112.sr9 rfl rfl c120 ?_
        refine sv_callS (impl_lowNumber_ok ((a0.drop ((IntKind.i64.wrap ((IntKind.i64.wrap ((5 : Int) + (IntKind.i64.wrap (bt a0 (4 : Int))))) + (2 : Int)))).toNat).take (((IntKind.i64.wrap ((IntKind.i64.wrap ((5 : Int) + (IntKind.i64.wrap (bt a0 (4 : Int))))) + (4 : Int)))).toNat - ((IntKind.i64.wrap ((IntKind.i64.wrap ((5 : Int) + (IntKind.i64.wrap (bt a0 (4 : Int))))) + (2 : Int)))).toNat)) hs  _ h) (fun _ _ ⟨_, _, _, e⟩ => e) rfl rfl ?_
        clear h
        rintro _ _ ⟨y121, h, rfl, rfl⟩
        refine so_bin rfl rfl ab_add ?_
        refine so_assign (v := (.v (.int .i64 (IntKind.i64.wrap ((IntKind.i64.wrap ((IntKind.i64.wrap ((5 : Int) + (IntKind.i64.wrap (bt a0 (4 : Int))))) + (4 : Int))) + y121))))) rfl ?_
        refine so_nil ?_
        refine fi_seq ?_
        refine fi_seq ?_
        refine fi_region ?_
        refine so_move (v := (.v (.str (pk a0)))) rfl ?_
        refine so_slen rfl F112.sr9 ?_
        refine so_move (v := (.v (.int .i64 (IntKind.i64.wrap ((IntKind.i64.wrap ((IntKind.i64.wrap ((5 : Int) + (IntKind.i64.wrap (bt a0 (4 : Int))))) + (4 : Int))) + y121))))) rfl ?_
        refine so_bin rfl rfl ab_add ?_
        refine so_bin rfl rfl ab_lss ?_
        refine so_nil ?_
        replace h := ofP h; rcases h with ⟨c123, h⟩ | ⟨c123, h⟩
        · refine fi_true rfl (decide_eq_true c123) ?_
          refine fi_seq ?_
          refine fi_region ?_
          refine so_build F112.bp138 (cps := []) rfl fan rfl ?_
          refine sv_st hs 1 rfl rfl rfl (c := [(.str (pk ([] : List UInt8))), (.int .i64 (0 : Int)), .nilsl]) rfl F112.sz138 rfl (stc rfl (stc rfl (stc rfl stn))) (leb rfl) (cs' := [(.str (pk ([] : List UInt8))), (.int .i64 (0 : Int)), .nilsl]) rfl nofun (fun H124 hs => ?_)
          refine so_assign (v := (.v (.int .i64 (0 : Int)))) rfl ?_
          refine so_assign (v := (.v (.bool false))) rfl ?_
          refine so_nil ?_
          exact by_ret (res_mk (ar_cells rfl F112.ag138 F112.sz138 (hs.lds 1 rfl (leb rfl) rfl) (ar_tmp rfl (ar_tmp rfl ar_nil))) rfl) ⟨_, _, _, _, _, h, _, rfl, (Sep.nil (Sep.del 0 (Sep.del 0 hs)) 1)⟩
        · refine fi_false rfl (decide_eq_false c123) ?_
          refine fi_skip ?_
          refine fi_seq ?_
          refine fi_region ?_
          refine so_move (v := (.v (.str (pk a0)))) rfl ?_
          refine so_move (v := (.v (.int .i64 (IntKind.i64.wrap ((5 : Int) + (IntKind.i64.wrap (bt a0 (4 : Int)))))))) rfl ?_
          refine so_bin rfl rfl ab_add ?_
          refine so_move (v := (.v (.int .i64 (IntKind.i64.wrap ((IntKind.i64.wrap ((IntKind.i64.wrap ((5 : Int) + (IntKind.i64.wrap (bt a0 (4 : Int))))) + (4 : Int))) + y121))))) rfl ?_
          obtain ⟨c125, h⟩ := h
          refine so_sslice rfl rfl rfl F112.sr9 rfl rfl c125 ?_
          refine sv_call (impl_UnpackTake_ok ((a0.drop ((IntKind.i64.wrap ((IntKind.i64.wrap ((5 : Int) + (IntKind.i64.wrap (bt a0 (4 : Int))))) + (4 : Int)))).toNat).take (((IntKind.i64.wrap ((IntKind.i64.wrap ((IntKind.i64.wrap ((5 : Int) + (IntKind.i64.wrap (bt a0 (4 : Int))))) + (4 : Int))) + y121))).toNat - ((IntKind.i64.wrap ((IntKind.i64.wrap ((5 : Int) + (IntKind.i64.wrap (bt a0 (4 : Int))))) + (4 : Int)))).toNat)) hs  _ h) rfl rfl nofun ?_
          clear h hs
          rintro _ H130 ⟨y126, y129, h, v127, rfl, hs⟩
          refine so_move (v := (.t [(.v v127), (.v (.bool y129))])) rfl ?_
          refine so_extract rfl rfl rfl ?_
          refine so_extract rfl rfl rfl ?_
          refine so_assign (v := (.v v127)) rfl ?_
          refine so_assign (v := (.v (.bool y129))) rfl ?_
          refine so_nil ?_
          refine fi_seq ?_
          refine fi_seq ?_
          refine fi_region ?_
          refine so_move (v := (.v (.bool y129))) rfl ?_
          refine so_un rfl au_not ?_
          refine so_nil ?_
          replace h := ofT h; rcases h with ⟨c131, h⟩ | ⟨c131, h⟩
          · refine fi_false rfl (not_f c131) ?_
            refine fi_skip ?_
            refine fi_seq ?_
            refine fi_region ?_
            refine so_move (v := (.v v127)) rfl ?_
            refine so_fieldAddr rfl F112.fd138_2 ?_
            refine sv_st hs 1 rfl rfl rfl (c := [v127]) rfl F112.sz36 rfl (stc (hs.shows 0 rfl).stor stn) (leb rfl) (cs' := [(.str (pk ((a0.drop ((5 : Int)).toNat).take (((IntKind.i64.wrap ((5 : Int) + (IntKind.i64.wrap (bt a0 (4 : Int)))))).toNat - ((5 : Int)).toNat)))), (.int .i64 y114), v127]) rfl nofun (fun H132 hs => ?_)
            refine so_nil ?_
            refine fi_seq ?_
            refine fi_region ?_
            refine sv_lds hs 1 rfl rfl (leb rfl) rfl F112.ag138 F112.sz138 ?_
            refine sv_callS (impl_StoreTake_okS ((a0.drop ((5 : Int)).toNat).take (((IntKind.i64.wrap ((5 : Int) + (IntKind.i64.wrap (bt a0 (4 : Int)))))).toNat - ((5 : Int)).toNat)) y114 v127 y126 hs (fun _ hs => (hs.shows 0 rfl)) _ h) (fun _ _ ⟨_, _, _, _, e⟩ => e) rfl rfl ?_
            clear h
            rintro _ _ ⟨y133, y134, h, rfl, rfl⟩
            refine so_move (v := (.t [(.v (.str (pk y133))), (.v (.bool y134))])) rfl ?_
            refine so_extract rfl rfl rfl ?_
            refine so_extract rfl rfl rfl ?_
            refine so_assign (v := (.v (.str (pk y133)))) rfl ?_
            refine so_assign (v := (.v (.bool y134))) rfl ?_
            refine so_nil ?_
            refine fi_seq ?_
            refine fi_seq ?_
            refine fi_region ?_
            refine so_move (v := (.v (.bool y134))) rfl ?_
            refine so_un rfl au_not ?_
            refine so_move (v := (.v (.bool (!y134)))) rfl ?_
            replace h := ofT h; rcases h with ⟨c136, h⟩ | ⟨c136, h⟩
            · refine so_gyes rfl (not_f c136) ?_
              refine so_move (v := (.v (.str (pk y133)))) rfl ?_
              refine so_gyes rfl (not_f c136) ?_
              refine so_move (v := (.v (.str (pk a0)))) rfl ?_
              refine so_gyes rfl (not_f c136) ?_
              refine so_move (v := (.v (.int .i64 (IntKind.i64.wrap ((IntKind.i64.wrap ((IntKind.i64.wrap ((5 : Int) + (IntKind.i64.wrap (bt a0 (4 : Int))))) + (4 : Int))) + y121))))) rfl ?_
              refine so_gyes rfl (not_f c136) ?_
              refine so_bin rfl rfl ab_add ?_
              refine so_gyes rfl (not_f c136) ?_
              obtain ⟨c137, h⟩ := h
              refine so_sslice rfl rfl rfl F112.sr9 rfl rfl c137 ?_
              refine so_gyes rfl (not_f c136) ?_
              refine so_bin rfl rfl ab_sneq ?_
              refine so_pick_f (v := (.v (.bool (!(decide (y133 = ((a0.drop ((0 : Int)).toNat).take (((IntKind.i64.wrap ((IntKind.i64.wrap ((IntKind.i64.wrap ((IntKind.i64.wrap ((5 : Int) + (IntKind.i64.wrap (bt a0 (4 : Int))))) + (4 : Int))) + y121)) + (2 : Int)))).toNat - ((0 : Int)).toNat)))))))) rfl (not_f c136) rfl ?_
              refine so_nil ?_
              replace h := ofP h; rcases h with ⟨c138, h⟩ | ⟨c138, h⟩
              · refine fi_false rfl (not_f (decide_eq_true c138)) ?_
                refine fi_skip ?_
                refine fi_seq ?_
                refine fi_region ?_
                refine sv_lds hs 1 rfl rfl (leb rfl) rfl F112.ag138 F112.sz138 ?_
                refine so_move (v := (.v (.int .i64 (IntKind.i64.wrap ((IntKind.i64.wrap ((IntKind.i64.wrap ((5 : Int) + (IntKind.i64.wrap (bt a0 (4 : Int))))) + (4 : Int))) + y121))))) rfl ?_
                refine so_bin rfl rfl ab_add ?_
                refine sv_st hs 2 rfl rfl rfl (c := [(.str (pk ((a0.drop ((5 : Int)).toNat).take (((IntKind.i64.wrap ((5 : Int) + (IntKind.i64.wrap (bt a0 (4 : Int)))))).toNat - ((5 : Int)).toNat)))), (.int .i64 y114), v127]) rfl F112.sz138 rfl (stc rfl (stc rfl (stc (hs.shows 0 rfl).stor stn))) (leb rfl) (cs' := [(.str (pk ((a0.drop ((5 : Int)).toNat).take (((IntKind.i64.wrap ((5 : Int) + (IntKind.i64.wrap (bt a0 (4 : Int)))))).toNat - ((5 : Int)).toNat)))), (.int .i64 y114), v127]) rfl nofun (fun H139 hs => ?_)
                refine so_assign (v := (.v (.int .i64 (IntKind.i64.wrap ((IntKind.i64.wrap ((IntKind.i64.wrap ((IntKind.i64.wrap ((5 : Int) + (IntKind.i64.wrap (bt a0 (4 : Int))))) + (4 : Int))) + y121)) + (2 : Int)))))) rfl ?_
                refine so_assign (v := (.v (.bool true))) rfl ?_
                refine so_nil ?_
                exact by_ret (res_mk (ar_cells rfl F112.ag138 F112.sz138 (hs.lds 2 rfl (leb rfl) rfl) (ar_tmp rfl (ar_tmp rfl ar_nil))) rfl) ⟨_, _, _, _, _, h, _, rfl, (Sep.del 1 (Sep.del 1 hs))⟩
              · refine fi_true rfl (not_t (decide_eq_false c138)) ?_
                refine fi_seq ?_
                refine fi_region ?_
                refine so_build F112.bp138 (cps := []) rfl fan rfl ?_
                refine sv_st hs 2 rfl rfl rfl (c := [(.str (pk ([] : List UInt8))), (.int .i64 (0 : Int)), .nilsl]) rfl F112.sz138 rfl (stc rfl (stc rfl (stc rfl stn))) (leb rfl) (cs' := [(.str (pk ([] : List UInt8))), (.int .i64 (0 : Int)), .nilsl]) rfl nofun (fun H140 hs => ?_)
                refine so_assign (v := (.v (.int .i64 (0 : Int)))) rfl ?_
                refine so_assign (v := (.v (.bool false))) rfl ?_
                refine so_nil ?_
                exact by_ret (res_mk (ar_cells rfl F112.ag138 F112.sz138 (hs.lds 2 rfl (leb rfl) rfl) (ar_tmp rfl (ar_tmp rfl ar_nil))) rfl) ⟨_, _, _, _, _, h, _, rfl, (Sep.nil (Sep.del 0 (Sep.del 0 (Sep.del 0 hs))) 1)⟩
            · refine so_gno rfl (not_t c136) ?_
              refine so_gno rfl (not_t c136) ?_
              refine so_gno rfl (not_t c136) ?_
              refine so_gno rfl (not_t c136) ?_
              refine so_gno rfl (not_t c136) ?_
              refine so_gno rfl (not_t c136) ?_
              refine so_pick_t (v := (.v (.bool true))) rfl (not_t c136) rfl ?_
              refine so_nil ?_
              refine fi_true rfl rfl ?_
              refine fi_seq ?_
              refine fi_region ?_
              refine so_build F112.bp138 (cps := []) rfl fan rfl ?_
              refine sv_st hs 2 rfl rfl rfl (c := [(.str (pk ([] : List UInt8))), (.int .i64 (0 : Int)), .nilsl]) rfl F112.sz138 rfl (stc rfl (stc rfl (stc rfl stn))) (leb rfl) (cs' := [(.str (pk ([] : List UInt8))), (.int .i64 (0 : Int)), .nilsl]) rfl nofun (fun H141 hs => ?_)
              refine so_assign (v := (.v (.int .i64 (0 : Int)))) rfl ?_
              refine so_assign (v := (.v (.bool false))) rfl ?_
              refine so_nil ?_
              exact by_ret (res_mk (ar_cells rfl F112.ag138 F112.sz138 (hs.lds 2 rfl (leb rfl) rfl) (ar_tmp rfl (ar_tmp rfl ar_nil))) rfl) ⟨_, _, _, _, _, h, _, rfl, (Sep.nil (Sep.del 0 (Sep.del 0 (Sep.del 0 hs))) 1)⟩
          · refine fi_true rfl (not_t c131) ?_
            refine fi_seq ?_
            refine fi_region ?_
            refine so_build F112.bp138 (cps := []) rfl fan rfl ?_
            refine sv_st hs 2 rfl rfl rfl (c := [(.str (pk ([] : List UInt8))), (.int .i64 (0 : Int)), .nilsl]) rfl F112.sz138 rfl (stc rfl (stc rfl (stc rfl stn))) (leb rfl) (cs' := [(.str (pk ([] : List UInt8))), (.int .i64 (0 : Int)), .nilsl]) rfl nofun (fun H142 hs => ?_)
            refine so_assign (v := (.v (.int .i64 (0 : Int)))) rfl ?_
            refine so_assign (v := (.v (.bool false))) rfl ?_
            refine so_nil ?_
            exact by_ret (res_mk (ar_cells rfl F112.ag138 F112.sz138 (hs.lds 2 rfl (leb rfl) rfl) (ar_tmp rfl (ar_tmp rfl ar_nil))) rfl) ⟨_, _, _, _, _, h, _, rfl, (Sep.nil (Sep.del 0 (Sep.del 0 (Sep.del 0 hs))) 1)⟩
    · refine fi_true rfl (not_t c108) ?_
      refine fi_seq ?_
      refine fi_region ?_
      refine so_build F112.bp138 (cps := []) rfl fan rfl ?_
      refine sv_st hs 0 rfl rfl rfl (c := [(.str (pk ([] : List UInt8))), (.int .i64 (0 : Int)), .nilsl]) rfl F112.sz138 rfl (stc rfl (stc rfl (stc rfl stn))) (leb rfl) (cs' := [(.str (pk ([] : List UInt8))), (.int .i64 (0 : Int)), .nilsl]) rfl nofun (fun H143 hs => ?_)
      refine so_assign (v := (.v (.int .i64 (0 : Int)))) rfl ?_
      refine so_assign (v := (.v (.bool false))) rfl ?_
      refine so_nil ?_
      exact by_ret (res_mk (ar_cells rfl F112.ag138 F112.sz138 (hs.lds 0 rfl (leb rfl) rfl) (ar_tmp rfl (ar_tmp rfl ar_nil))) rfl) ⟨_, _, _, _, _, h, _, rfl, (Sep.nil (Sep.del 0 hs) 1)⟩

end Go.Proofs.Ytkaidcgelbhofaa.G

namespace Go.Proofs.Ytkaidcgelbhofaa.G
open Go Go.Ab Go.Proofs Go.Proofs.Ytkaidcgelbhofaa
set_option maxRecDepth 100000
set_option linter.unusedVariables false
set_option linter.unusedSimpArgs false
set_option maxHeartbeats 1000000
attribute [local irreducible] wops wopf Go.Ab.Fin
theorem F39.ag138 : tagg Try.prog 138 = some true := by kernel_rfl
theorem F39.sr9 : tstr Try.prog 9 = true := by kernel_rfl
theorem F39.sz138 : tsz Try.prog 138 = some 3 := by kernel_rfl
theorem F39.ta59_59 : tapp Try.prog 59 59 = some (3, 48) := by kernel_rfl
theorem F39.te59 : telem Try.prog 59 = some 138 := by kernel_rfl
theorem F39.ti59 : (telem Try.prog 59).isSome = true := by kernel_rfl
theorem F39.ze138 : tzero Try.prog 138 = some [(.str (pk ([] : List UInt8))), (.int .i64 (0 : Int)), .nilsl] := by kernel_rfl
theorem impl_RecoverTakes_ok {fr : List Pc} {H : Heap} (a0 : List UInt8) (hs : Sep H (fr))  (K : (List ((List UInt8) × (Int) × (List (Nat)))) → Int → Bool → Prop) (h : impl_RecoverTakes.wp a0 K) : OkQ Try.prog 39 [(.v (.str (pk a0)))] H (fun r H2 => ∃ (y0 : List ((List UInt8) × (Int) × (List (Nat)))) (y1 : Int) (y2 : Bool), K y0 y1 y2 ∧ ∃ (w0_ : AV) (wsw0_ : List (List AV)) (Sw0_ : Nat → Prop), r = (.t [(.v w0_), (.v (.int .i64 y1)), (.v (.bool y2))]) ∧ Sep H2 (dpc w0_ 3 R_s_ii64_LeFlt_f32_poooq IR_s_ii64_LeFlt_f32_poooq y0 wsw0_ Sw0_ :: fr)) := by
  unfold impl_RecoverTakes.wp at h
  refine of_body Try.f39 F.hm Try.func39 rfl Try.call39 (by kernel_rfl) (by simp) ?_
  refine fi_seq ?_
  refine fi_region ?_
  refine so_assign (v := (.v .nilsl)) rfl ?_
  refine so_assign (v := (.v (.int .i64 (0 : Int)))) rfl ?_
  refine so_assign (v := (.v (.bool false))) rfl ?_
  refine so_nil ?_
  refine fi_seq ?_
  refine fi_region ?_
  refine sk_empty hs R_s_ii64_LeFlt_f32_poooq IR_s_ii64_LeFlt_f32_poooq F39.te59 F39.sz138 F39.ze138 rfl nofun (fun v101 ws102 S103 H104 _ hs => ?_)
  refine so_assign (v := (.v v101)) rfl ?_
  refine so_assign (v := (.v (.int .i64 (0 : Int)))) rfl ?_
  refine so_nil ?_
  refine fi_seq ?_
  refine fi_block ?_
  refine fi_loop ?_
  refine fi_at [(0, (.v (.str (pk a0)))), (5, (.v v101)), (6, (.v (.int .i64 (0 : Int))))] ⟨rfl, rfl, rfl, trivial⟩ ?_
  refine h (fun (list136 : List ((List UInt8) × (Int) × (List (Nat)))) (atq140 : Int) => ∀ (s : Nat → TV) (H : Heap) (v137 : AV) (ws138 : List (List AV)) (S139 : Nat → Prop), Sep H (dpc v137 3 R_s_ii64_LeFlt_f32_poooq IR_s_ii64_LeFlt_f32_poooq list136 ws138 S139 :: fr) → Fin _ _ (updL s [(0, (.v (.str (pk a0)))), (5, (.v v137)), (6, (.v (.int .i64 atq140)))]) H _) ?_ _ _ _ _ _ hs
  intro list136 atq140 h s164 H165 v137 ws138 S139 hs
  refine fi_inLoop ?_
  refine fi_seq ?_
  refine fi_seq ?_
  refine fi_region ?_
  refine so_move (v := (.v v137)) rfl ?_
  refine sd_len ((hs.dshows 0 rfl) : DSh _ _ 3 R_s_ii64_LeFlt_f32_poooq list136 ws138) (by decide) rfl F39.ti59 ?_
  refine so_bin rfl rfl ab_lss ?_
  refine so_nil ?_
  replace h := ofP h; rcases h with ⟨c141, h⟩ | ⟨c141, h⟩
  · refine fi_true rfl (decide_eq_true c141) ?_
    refine fi_skip ?_
    refine fi_block ?_
    refine fi_seq ?_
    refine fi_region ?_
    refine so_move (v := (.v (.str (pk a0)))) rfl ?_
    refine so_move (v := (.v (.int .i64 atq140))) rfl ?_
    obtain ⟨c142, h⟩ := h
    refine so_sslice rfl rfl rfl F39.sr9 rfl rfl c142 ?_
    refine sv_call (impl_takeAhead_ok ((a0.drop (atq140).toNat).take (((a0.length : Int)).toNat - (atq140).toNat)) hs  _ h) rfl rfl nofun ?_
    clear h hs
    rintro _ H150 ⟨y143, y144, y145, y148, y149, h, v146, rfl, hs⟩
    refine so_move (v := (.t [(.g [(.str (pk y143)), (.int .i64 y144), v146]), (.v (.int .i64 y148)), (.v (.bool y149))])) rfl ?_
    refine so_extract rfl rfl rfl ?_
    refine so_extract rfl rfl rfl ?_
    refine so_extract rfl rfl rfl ?_
    refine sv_alloc hs F39.ze138 rfl nofun (fun id151 H152 hs => ?_)
    refine sv_st hs 0 rfl rfl rfl (c := [(.str (pk y143)), (.int .i64 y144), v146]) rfl F39.sz138 rfl (stc rfl (stc rfl (stc (hs.shows 1 rfl).stor stn))) (leb rfl) (cs' := [(.str (pk y143)), (.int .i64 y144), v146]) rfl nofun (fun H154 hs => ?_)
    refine so_assign (v := (.v (.int .i64 y148))) rfl ?_
    refine so_assign (v := (.v (.bool y149))) rfl ?_
    refine so_nil ?_
    refine fi_seq ?_
    refine fi_seq ?_
    refine fi_region ?_
    refine so_move (v := (.v (.bool y149))) rfl ?_
    refine so_un rfl au_not ?_
    refine so_nil ?_
    replace h := ofT h; rcases h with ⟨c155, h⟩ | ⟨c155, h⟩
    · refine fi_false rfl (not_f c155) ?_
      refine fi_skip ?_
      refine fi_seq ?_
      refine fi_region ?_
      refine so_move (v := (.v v137)) rfl ?_
      refine sv_lds hs 0 rfl rfl (leb rfl) rfl F39.ag138 F39.sz138 ?_
      refine sd_bslice hs [[(.str (pk y143)), (.int .i64 y144), v146]] F39.te59 F39.sz138 F39.ze138 rfl rfl rfl (by simp) (fac (stc rfl (stc rfl (stc (hs.shows 1 rfl).stor stn))) fan) (by decide) rfl nofun (fun v156 H157 _ hs => ?_)
      obtain ⟨c159, h⟩ := h
      replace hs := Sep.front 2 hs rfl
      refine sk_app hs 2 rfl (y143, y144, y145) [(.str (pk y143)), (.int .i64 y144), v146] (hs.tl.shows 0 rfl) (fun _ hh => ⟨rfl, hh⟩) rfl rfl (by decide) F39.ta59_59 (by decide) c159 rfl rfl nofun (fun v160 ws161 S162 H163 hs => ?_)
      replace hs := hs.del 0
      refine so_assign (v := (.v v160)) rfl ?_
      refine so_nil ?_
      refine fi_region ?_
      refine so_move (v := (.v (.int .i64 atq140))) rfl ?_
      refine so_move (v := (.v (.int .i64 y148))) rfl ?_
      refine so_bin rfl rfl ab_add ?_
      refine so_assign (v := (.v (.int .i64 (IntKind.i64.wrap (atq140 + y148))))) rfl ?_
      refine so_nil ?_
      refine fi_inBlock ?_
      exact fi_at [(0, (.v (.str (pk a0)))), (5, (.v v160)), (6, (.v (.int .i64 (IntKind.i64.wrap (atq140 + y148)))))] ⟨rfl, rfl, rfl, trivial⟩ (h _ _ _ _ _ (Sep.del 0 hs))
    · refine fi_true rfl (not_t c155) ?_
      refine fi_exit rfl ?_
      refine fi_seq ?_
      refine fi_region ?_
      refine so_move (v := (.v v137)) rfl ?_
      refine so_move (v := (.v (.int .i64 atq140))) rfl ?_
      refine so_assign (v := (.v v137)) rfl ?_
      refine so_assign (v := (.v (.int .i64 atq140))) rfl ?_
      refine so_assign (v := (.v (.bool true))) rfl ?_
      refine so_nil ?_
      exact by_ret rfl ⟨_, _, _, h, _, _, _, rfl, (Sep.del 0 (Sep.del 0 hs))⟩
  · refine fi_false rfl (decide_eq_false c141) ?_
    refine fi_exit rfl ?_
    refine fi_seq ?_
    refine fi_region ?_
    refine so_move (v := (.v v137)) rfl ?_
    refine so_move (v := (.v (.int .i64 atq140))) rfl ?_
    refine so_assign (v := (.v v137)) rfl ?_
    refine so_assign (v := (.v (.int .i64 atq140))) rfl ?_
    refine so_assign (v := (.v (.bool true))) rfl ?_
    refine so_nil ?_
    exact by_ret rfl ⟨_, _, _, h, _, _, _, rfl, hs⟩

end Go.Proofs.Ytkaidcgelbhofaa.G

namespace Go.Proofs.Ytkaidcgelbhofaa.G
open Go Go.Ab Go.Proofs Go.Proofs.Ytkaidcgelbhofaa
set_option maxRecDepth 100000
set_option linter.unusedVariables false
set_option linter.unusedSimpArgs false
set_option maxHeartbeats 1000000
attribute [local irreducible] wops wopf Go.Ab.Fin
theorem F31.tb4 : tbool Try.prog 4 = true := by kernel_rfl
theorem laws_sameFloat_ok {fr : List Pc} {H : Heap} (a0 : Nat) (a1 : Nat) (hs : Sep H (fr))  (K : Bool → Prop) (h : laws_sameFloat.wp a0 a1 K) : OkQ Try.prog 31 [(.v (.flt .f64 a0)), (.v (.flt .f64 a1))] H (fun r H2 => ∃ (y0 : Bool), K y0 ∧ r = (.v (.bool y0)) ∧ H = H2) := by
  unfold laws_sameFloat.wp at h
  refine of_body Try.f31 F.hm Try.func31 rfl Try.call31 (by kernel_rfl) (by simp) ?_
  refine fi_seq ?_
  refine fi_region ?_
  refine so_assign (v := (.v (.bool false))) rfl ?_
  refine so_nil ?_
  refine fi_seq ?_
  refine fi_seq ?_
  refine fi_region ?_
  refine so_move (v := (.v (.flt .f64 a0))) rfl ?_
  refine so_move (v := (.v (.flt .f64 a0))) rfl ?_
  refine so_bin rfl rfl ab_fneq ?_
  refine so_move (v := (.v (.bool (fcmp .neq .f64 a0 a0)))) rfl ?_
  replace h := ofT h; rcases h with ⟨c101, h⟩ | ⟨c101, h⟩
  · refine so_gno rfl c101 ?_
    refine so_gno rfl c101 ?_
    refine so_gno rfl c101 ?_
    refine so_pick_t (v := (.v (.bool true))) rfl c101 rfl ?_
    refine so_nil ?_
    refine fi_true rfl rfl ?_
    refine fi_seq ?_
    refine fi_region ?_
    refine so_move (v := (.v (.flt .f64 a0))) rfl ?_
    refine so_move (v := (.v (.flt .f64 a0))) rfl ?_
    refine so_bin rfl rfl ab_fneq ?_
    refine so_move (v := (.v (.bool (fcmp .neq .f64 a0 a0)))) rfl ?_
    refine so_gyes rfl c101 ?_
    refine so_move (v := (.v (.flt .f64 a1))) rfl ?_
    refine so_gyes rfl c101 ?_
    refine so_move (v := (.v (.flt .f64 a1))) rfl ?_
    refine so_gyes rfl c101 ?_
    refine so_bin rfl rfl ab_fneq ?_
    refine so_pick_t (v := (.v (.bool (fcmp .neq .f64 a1 a1)))) rfl c101 rfl ?_
    refine so_assign (v := (.v (.bool (fcmp .neq .f64 a1 a1)))) rfl ?_
    refine so_nil ?_
    exact by_ret rfl ⟨_, h, rfl, rfl⟩
  · refine so_gyes rfl c101 ?_
    refine so_move (v := (.v (.flt .f64 a1))) rfl ?_
    refine so_gyes rfl c101 ?_
    refine so_move (v := (.v (.flt .f64 a1))) rfl ?_
    refine so_gyes rfl c101 ?_
    refine so_bin rfl rfl ab_fneq ?_
    refine so_pick_f (v := (.v (.bool (fcmp .neq .f64 a1 a1)))) rfl c101 rfl ?_
    refine so_nil ?_
    replace h := ofT h; rcases h with ⟨c102, h⟩ | ⟨c102, h⟩
    · refine fi_true rfl c102 ?_
      refine fi_seq ?_
      refine fi_region ?_
      refine so_move (v := (.v (.flt .f64 a0))) rfl ?_
      refine so_move (v := (.v (.flt .f64 a0))) rfl ?_
      refine so_bin rfl rfl ab_fneq ?_
      refine so_move (v := (.v (.bool (fcmp .neq .f64 a0 a0)))) rfl ?_
      refine so_gno rfl c101 ?_
      refine so_gno rfl c101 ?_
      refine so_gno rfl c101 ?_
      refine so_pick_f (v := (.v (.bool false))) rfl c101 rfl ?_
      refine so_assign (v := (.v (.bool false))) rfl ?_
      refine so_nil ?_
      exact by_ret rfl ⟨_, h, rfl, rfl⟩
    · refine fi_false rfl c102 ?_
      refine fi_skip ?_
      refine fi_seq ?_
      refine fi_seq ?_
      refine fi_region ?_
      refine so_move (v := (.v (.flt .f64 a0))) rfl ?_
      refine so_bin rfl rfl ab_feql ?_
      refine so_move (v := (.v (.bool (fcmp .eql .f64 a0 (cz .f64 0))))) rfl ?_
      replace h := ofT h; rcases h with ⟨c103, h⟩ | ⟨c103, h⟩
      · refine so_gyes rfl c103 ?_
        refine so_move (v := (.v (.flt .f64 a1))) rfl ?_
        refine so_gyes rfl c103 ?_
        refine so_bin rfl rfl ab_feql ?_
        refine so_pick_t (v := (.v (.bool (fcmp .eql .f64 a1 (cz .f64 0))))) rfl c103 rfl ?_
        refine so_nil ?_
        replace h := ofT h; rcases h with ⟨c104, h⟩ | ⟨c104, h⟩
        · refine fi_true rfl c104 ?_
          refine fi_seq ?_
          refine fi_region ?_
          refine so_move (v := (.v (.flt .f64 a0))) rfl ?_
          refine so_bin rfl rfl ab_fquo ?_
          refine so_bin rfl rfl ab_fgtr ?_
          refine so_move (v := (.v (.flt .f64 a1))) rfl ?_
          refine so_bin rfl rfl ab_fquo ?_
          refine so_bin rfl rfl ab_fgtr ?_
          refine so_bin rfl rfl (ab_beql F31.tb4) ?_
          refine so_assign (v := (.v (.bool ((fcmp .gtr .f64 (fop .quo .f64 (cz .f64 4607182418800017408) a0) (cz .f64 0)) == (fcmp .gtr .f64 (fop .quo .f64 (cz .f64 4607182418800017408) a1) (cz .f64 0)))))) rfl ?_
          refine so_nil ?_
          exact by_ret rfl ⟨_, h, rfl, rfl⟩
        · refine fi_false rfl c104 ?_
          refine fi_skip ?_
          refine fi_seq ?_
          refine fi_region ?_
          refine so_move (v := (.v (.flt .f64 a0))) rfl ?_
          refine so_move (v := (.v (.flt .f64 a1))) rfl ?_
          refine so_bin rfl rfl ab_feql ?_
          refine so_assign (v := (.v (.bool (fcmp .eql .f64 a0 a1)))) rfl ?_
          refine so_nil ?_
          exact by_ret rfl ⟨_, h, rfl, rfl⟩
      · refine so_gno rfl c103 ?_
        refine so_gno rfl c103 ?_
        refine so_pick_f (v := (.v (.bool false))) rfl c103 rfl ?_
        refine so_nil ?_
        refine fi_false rfl rfl ?_
        refine fi_skip ?_
        refine fi_seq ?_
        refine fi_region ?_
        refine so_move (v := (.v (.flt .f64 a0))) rfl ?_
        refine so_move (v := (.v (.flt .f64 a1))) rfl ?_
        refine so_bin rfl rfl ab_feql ?_
        refine so_assign (v := (.v (.bool (fcmp .eql .f64 a0 a1)))) rfl ?_
        refine so_nil ?_
        exact by_ret rfl ⟨_, h, rfl, rfl⟩

end Go.Proofs.Ytkaidcgelbhofaa.G

namespace Go.Proofs.Ytkaidcgelbhofaa.G
open Go Go.Ab Go.Proofs Go.Proofs.Ytkaidcgelbhofaa
set_option maxRecDepth 100000
set_option linter.unusedVariables false
set_option linter.unusedSimpArgs false
set_option maxHeartbeats 1000000
attribute [local irreducible] wops wopf Go.Ab.Fin
theorem F25.ag37 : tagg Try.prog 37 = some false := by kernel_rfl
theorem F25.fl48 : tflt Try.prog 48 = some .f64 := by kernel_rfl
theorem F25.in48 : tint Try.prog 48 = none := by kernel_rfl
theorem F25.ti36 : (telem Try.prog 36).isSome = true := by kernel_rfl
theorem F25.tl36 : (telem Try.prog 36).bind (tsz Try.prog) = some 1 := by kernel_rfl
theorem F25.us37 : (Try.prog.underlying 37).isSome = true := by kernel_rfl
theorem laws_eqFloat32S_ok {fr : List Pc} {H : Heap} (v0 : AV) (l0 : List (Nat)) (v1 : AV) (l1 : List (Nat)) (hs : Sep H (fr)) (g0 : ∀ H, Sep H fr → Shows H v0 1 (enc (eFlt .f32) l0)) (g1 : ∀ H, Sep H fr → Shows H v1 1 (enc (eFlt .f32) l1)) (K : Bool → Prop) (h : laws_eqFloat32S.wp l0 l1 K) : OkQ Try.prog 25 [(.v v0), (.v v1)] H (fun r H2 => ∃ (y0 : Bool), K y0 ∧ r = (.v (.bool y0)) ∧ H = H2) := by
  unfold laws_eqFloat32S.wp at h
  refine of_body Try.f25 F.hm Try.func25 rfl Try.call25 (by kernel_rfl) (by simp) ?_
  refine fi_seq ?_
  refine fi_region ?_
  refine so_assign (v := (.v (.bool false))) rfl ?_
  refine so_nil ?_
  refine fi_seq ?_
  refine fi_seq ?_
  refine fi_region ?_
  refine so_move (v := (.v v0)) rfl ?_
  refine sv_len (g0 _ hs) (fun _ => rfl) (by decide) rfl F25.ti36 ?_
  refine so_move (v := (.v v1)) rfl ?_
  refine sv_len (g1 _ hs) (fun _ => rfl) (by decide) rfl F25.ti36 ?_
  refine so_bin rfl rfl ab_neq ?_
  refine so_nil ?_
  replace h := ofP h; rcases h with ⟨c101, h⟩ | ⟨c101, h⟩
  · refine fi_false rfl (not_f (decide_eq_true c101)) ?_
    refine fi_skip ?_
    refine fi_seq ?_
    refine fi_seq ?_
    refine fi_region ?_
    refine so_assign (v := (.v (.int .i64 (0 : Int)))) rfl ?_
    refine so_nil ?_
    refine fi_block ?_
    refine fi_loop ?_
    refine fi_at [(0, (.v v0)), (1, (.v v1)), (5, (.v (.int .i64 (0 : Int))))] ⟨rfl, rfl, rfl, trivial⟩ ?_
    refine h (fun (i103 : Int) => ∀ (s : Nat → TV), Fin _ _ (updL s [(0, (.v v0)), (1, (.v v1)), (5, (.v (.int .i64 i103)))]) _ _) ?_ _
    intro i103 h s110
    refine fi_inLoop ?_
    refine fi_seq ?_
    refine fi_seq ?_
    refine fi_region ?_
    refine so_move (v := (.v (.int .i64 i103))) rfl ?_
    refine so_move (v := (.v v0)) rfl ?_
    refine sv_len (g0 _ hs) (fun _ => rfl) (by decide) rfl F25.ti36 ?_
    refine so_bin rfl rfl ab_lss ?_
    refine so_nil ?_
    replace h := ofP h; rcases h with ⟨c104, h⟩ | ⟨c104, h⟩
    · refine fi_true rfl (decide_eq_true c104) ?_
      refine fi_skip ?_
      refine fi_seq ?_
      refine fi_block ?_
      refine fi_seq ?_
      refine fi_region ?_
      refine so_move (v := (.v v0)) rfl ?_
      refine so_move (v := (.v (.int .i64 i103))) rfl ?_
      obtain ⟨c105, h⟩ := h
      refine sv_idx (g0 _ hs) c105 (fun _ => rfl) (by decide) rfl rfl F25.tl36 ?_
      refine sv_cell (g0 _ hs) c105 (0 : Nat) 0 (fun x => (AV.flt .f32 x)) (fun _ => rfl) (fun _ => rfl) rfl F25.ag37 ?_
      refine sv_ffw rfl F25.us37 F25.in48 F25.fl48 ?_
      refine so_move (v := (.v v1)) rfl ?_
      refine so_move (v := (.v (.int .i64 i103))) rfl ?_
      obtain ⟨c106, h⟩ := h
      refine sv_idx (g1 _ hs) c106 (fun _ => rfl) (by decide) rfl rfl F25.tl36 ?_
      refine sv_cell (g1 _ hs) c106 (0 : Nat) 0 (fun x => (AV.flt .f32 x)) (fun _ => rfl) (fun _ => rfl) rfl F25.ag37 ?_
      refine sv_ffw rfl F25.us37 F25.in48 F25.fl48 ?_
      refine sv_callS (laws_sameFloat_ok (widen (l0.getD (i103).toNat (0 : Nat))) (widen (l1.getD (i103).toNat (0 : Nat))) hs  _ h) (fun _ _ ⟨_, _, _, e⟩ => e) rfl rfl ?_
      clear h
      rintro _ _ ⟨y107, h, rfl, rfl⟩
      refine so_un rfl au_not ?_
      refine so_nil ?_
      replace h := ofT h; rcases h with ⟨c109, h⟩ | ⟨c109, h⟩
      · refine fi_false rfl (not_f c109) ?_
        refine fi_skip ?_
        refine fi_inBlock ?_
        refine fi_region ?_
        refine so_move (v := (.v (.int .i64 i103))) rfl ?_
        refine so_bin rfl rfl ab_add ?_
        refine so_assign (v := (.v (.int .i64 (IntKind.i64.wrap (i103 + (1 : Int)))))) rfl ?_
        refine so_nil ?_
        exact fi_at [(0, (.v v0)), (1, (.v v1)), (5, (.v (.int .i64 (IntKind.i64.wrap (i103 + (1 : Int))))))] ⟨rfl, rfl, rfl, trivial⟩ (h _)
      · refine fi_true rfl (not_t c109) ?_
        refine fi_seq ?_
        refine fi_region ?_
        refine so_assign (v := (.v (.bool false))) rfl ?_
        refine so_nil ?_
        exact by_ret rfl ⟨_, h, rfl, rfl⟩
    · refine fi_false rfl (decide_eq_false c104) ?_
      refine fi_exit rfl ?_
      refine fi_seq ?_
      refine fi_region ?_
      refine so_assign (v := (.v (.bool true))) rfl ?_
      refine so_nil ?_
      exact by_ret rfl ⟨_, h, rfl, rfl⟩
  · refine fi_true rfl (not_t (decide_eq_false c101)) ?_
    refine fi_seq ?_
    refine fi_region ?_
    refine so_assign (v := (.v (.bool false))) rfl ?_
    refine so_nil ?_
    exact by_ret rfl ⟨_, h, rfl, rfl⟩

end Go.Proofs.Ytkaidcgelbhofaa.G

namespace Go.Proofs.Ytkaidcgelbhofaa.G
open Go Go.Ab Go.Proofs Go.Proofs.Ytkaidcgelbhofaa
set_option maxRecDepth 100000
set_option linter.unusedVariables false
set_option linter.unusedSimpArgs false
set_option maxHeartbeats 1000000
attribute [local irreducible] wops wopf Go.Ab.Fin
theorem F113.ag2 : tagg Try.prog 2 = some false := by kernel_rfl
theorem F113.ag36 : tagg Try.prog 36 = some false := by kernel_rfl
theorem F113.ag9 : tagg Try.prog 9 = some false := by kernel_rfl
theorem F113.fd138_0 : tfield Try.prog 138 0 = some (0, 1, false) := by kernel_rfl
theorem F113.fd138_1 : tfield Try.prog 138 1 = some (1, 1, false) := by kernel_rfl
theorem F113.fd138_2 : tfield Try.prog 138 2 = some (2, 1, false) := by kernel_rfl
theorem F113.inf138 : (Try.prog.info? 138).isSome = true := by kernel_rfl
theorem laws_eqTake_ok {fr : List Pc} {H : Heap} (a0 : List UInt8) (a1 : Int) (v2 : AV) (l2 : List (Nat)) (a3 : List UInt8) (a4 : Int) (v5 : AV) (l5 : List (Nat)) (hs : Sep H (fr)) (g2 : ∀ H, Sep H fr → Shows H v2 1 (enc (eFlt .f32) l2)) (g5 : ∀ H, Sep H fr → Shows H v5 1 (enc (eFlt .f32) l5)) (K : Bool → Prop) (h : laws_eqTake.wp a0 a1 l2 a3 a4 l5 K) : OkQ Try.prog 113 [(.g [(.str (pk a0)), (.int .i64 a1), v2]), (.g [(.str (pk a3)), (.int .i64 a4), v5])] H (fun r H2 => ∃ (y0 : Bool), K y0 ∧ r = (.v (.bool y0)) ∧ Sep H2 (fr)) := by
  unfold laws_eqTake.wp at h
  refine of_body Try.f113 F.hm Try.func113 rfl Try.call113 (by kernel_rfl) (by simp) ?_
  refine fi_seq ?_
  refine fi_region ?_
  refine sv_box hs rfl (c := [(.str (pk a0)), (.int .i64 a1), v2]) rfl F113.inf138 (stc rfl (stc rfl (stc (g2 _ hs).stor stn))) nofun (fun id101 H102 hs => ?_)
  refine sv_box hs rfl (c := [(.str (pk a3)), (.int .i64 a4), v5]) rfl F113.inf138 (stc rfl (stc rfl (stc (g5 _ hs.tl).stor stn))) nofun (fun id104 H105 hs => ?_)
  refine so_assign (v := (.v (.bool false))) rfl ?_
  refine so_nil ?_
  refine fi_seq ?_
  refine fi_seq ?_
  refine fi_region ?_
  refine so_fieldAddr rfl F113.fd138_0 ?_
  refine sv_ld hs 1 rfl rfl rfl F113.ag9 ?_
  refine so_fieldAddr rfl F113.fd138_0 ?_
  refine sv_ld hs 0 rfl rfl rfl F113.ag9 ?_
  refine so_bin rfl rfl ab_sneq ?_
  refine so_nil ?_
  replace h := ofP h; rcases h with ⟨c107, h⟩ | ⟨c107, h⟩
  · refine fi_false rfl (not_f (decide_eq_true c107)) ?_
    refine fi_skip ?_
    refine fi_seq ?_
    refine fi_seq ?_
    refine fi_region ?_
    refine so_fieldAddr rfl F113.fd138_1 ?_
    refine sv_ld hs 1 rfl rfl rfl F113.ag2 ?_
    refine so_fieldAddr rfl F113.fd138_1 ?_
    refine sv_ld hs 0 rfl rfl rfl F113.ag2 ?_
    refine so_bin rfl rfl ab_neq ?_
    refine so_nil ?_
    replace h := ofP h; rcases h with ⟨c108, h⟩ | ⟨c108, h⟩
    · refine fi_false rfl (not_f (decide_eq_true c108)) ?_
      refine fi_skip ?_
      refine fi_seq ?_
      refine fi_seq ?_
      refine fi_region ?_
      refine so_fieldAddr rfl F113.fd138_2 ?_
      refine sv_ld hs 1 rfl rfl rfl F113.ag36 ?_
      refine so_fieldAddr rfl F113.fd138_2 ?_
      refine sv_ld hs 0 rfl rfl rfl F113.ag36 ?_
      refine sv_callS (laws_eqFloat32S_ok v2 l2 v5 l5 hs (fun _ hs => (g2 _ hs.tl.tl)) (fun _ hs => (g5 _ hs.tl.tl)) _ h) (fun _ _ ⟨_, _, _, e⟩ => e) rfl rfl ?_
      clear h
      rintro _ _ ⟨y109, h, rfl, rfl⟩
      refine so_un rfl au_not ?_
      refine so_nil ?_
      replace h := ofT h; rcases h with ⟨c111, h⟩ | ⟨c111, h⟩
      · refine fi_false rfl (not_f c111) ?_
        refine fi_skip ?_
        refine fi_seq ?_
        refine fi_region ?_
        refine so_assign (v := (.v (.bool true))) rfl ?_
        refine so_nil ?_
        exact by_ret rfl ⟨_, h, rfl, (Sep.del 0 (Sep.del 0 hs))⟩
      · refine fi_true rfl (not_t c111) ?_
        refine fi_seq ?_
        refine fi_region ?_
        refine so_assign (v := (.v (.bool false))) rfl ?_
        refine so_nil ?_
        exact by_ret rfl ⟨_, h, rfl, (Sep.del 0 (Sep.del 0 hs))⟩
    · refine fi_true rfl (not_t (decide_eq_false c108)) ?_
      refine fi_seq ?_
      refine fi_region ?_
      refine so_assign (v := (.v (.bool false))) rfl ?_
      refine so_nil ?_
      exact by_ret rfl ⟨_, h, rfl, (Sep.del 0 (Sep.del 0 hs))⟩
  · refine fi_true rfl (not_t (decide_eq_false c107)) ?_
    refine fi_seq ?_
    refine fi_region ?_
    refine so_assign (v := (.v (.bool false))) rfl ?_
    refine so_nil ?_
    exact by_ret rfl ⟨_, h, rfl, (Sep.del 0 (Sep.del 0 hs))⟩
theorem laws_eqTake_okS {fr : List Pc} {H : Heap} (a0 : List UInt8) (a1 : Int) (v2 : AV) (l2 : List (Nat)) (a3 : List UInt8) (a4 : Int) (v5 : AV) (l5 : List (Nat)) (hs : Sep H fr) (g2 : ∀ H, Sep H fr → Shows H v2 1 (enc (eFlt .f32) l2)) (g5 : ∀ H, Sep H fr → Shows H v5 1 (enc (eFlt .f32) l5)) (K : Bool → Prop) (h : laws_eqTake.wp a0 a1 l2 a3 a4 l5 K) : OkQ Try.prog 113 [(.g [(.str (pk a0)), (.int .i64 a1), v2]), (.g [(.str (pk a3)), (.int .i64 a4), v5])] H (fun r H2 => ∃ (y0 : Bool), K y0 ∧ r = (.v (.bool y0)) ∧ H = H2) := by
  obtain ⟨r, H2, h1, y0, hK, hr, hsep⟩ := laws_eqTake_ok (fr := came H) (H := H) a0 a1 v2 l2 a3 a4 v5 l5 (came_sep H) (came_shows (g2 H hs)) (came_shows (g5 H hs)) K h
  have hk : H.n ≤ H2.n ∧ ∀ i, i < H.n → H2.f i = H.f i := hsep.1.2.1
  exact ⟨r, H, h1.forget hk.1 hk.2 (by subst hr; rfl), y0, hK, hr, rfl⟩

end Go.Proofs.Ytkaidcgelbhofaa.G

namespace Go.Proofs.Ytkaidcgelbhofaa.G
open Go Go.Ab Go.Proofs Go.Proofs.Ytkaidcgelbhofaa
set_option maxRecDepth 100000
set_option linter.unusedVariables false
set_option linter.unusedSimpArgs false
set_option maxHeartbeats 1000000
attribute [local irreducible] wops wopf Go.Ab.Fin
theorem F40.ag138 : tagg Try.prog 138 = some true := by kernel_rfl
theorem F40.sz138 : tsz Try.prog 138 = some 3 := by kernel_rfl
theorem F40.ti59 : (telem Try.prog 59).isSome = true := by kernel_rfl
theorem F40.tl59 : (telem Try.prog 59).bind (tsz Try.prog) = some 3 := by kernel_rfl
theorem laws_eqTakeS_ok {fr : List Pc} {H : Heap} (v0 : AV) (w0 : List (List AV)) (l0 : List ((List UInt8) × (Int) × (List (Nat)))) (v1 : AV) (w1 : List (List AV)) (l1 : List ((List UInt8) × (Int) × (List (Nat)))) (hs : Sep H (fr)) (g0 : ∀ H, Sep H fr → DSh H v0 3 R_s_ii64_LeFlt_f32_poooq l0 w0) (g1 : ∀ H, Sep H fr → DSh H v1 3 R_s_ii64_LeFlt_f32_poooq l1 w1) (K : Bool → Prop) (h : laws_eqTakeS.wp l0 l1 K) : OkQ Try.prog 40 [(.v v0), (.v v1)] H (fun r H2 => ∃ (y0 : Bool), K y0 ∧ r = (.v (.bool y0)) ∧ H = H2) := by
  unfold laws_eqTakeS.wp at h
  refine of_body Try.f40 F.hm Try.func40 rfl Try.call40 (by kernel_rfl) (by simp) ?_
  refine fi_seq ?_
  refine fi_region ?_
  refine so_assign (v := (.v (.bool false))) rfl ?_
  refine so_nil ?_
  refine fi_seq ?_
  refine fi_seq ?_
  refine fi_region ?_
  refine so_move (v := (.v v0)) rfl ?_
  refine sd_len ((g0 _ hs) : DSh _ _ 3 R_s_ii64_LeFlt_f32_poooq l0 w0) (by decide) rfl F40.ti59 ?_
  refine so_move (v := (.v v1)) rfl ?_
  refine sd_len ((g1 _ hs) : DSh _ _ 3 R_s_ii64_LeFlt_f32_poooq l1 w1) (by decide) rfl F40.ti59 ?_
  refine so_bin rfl rfl ab_neq ?_
  refine so_nil ?_
  replace h := ofP h; rcases h with ⟨c101, h⟩ | ⟨c101, h⟩
  · refine fi_false rfl (not_f (decide_eq_true c101)) ?_
    refine fi_skip ?_
    refine fi_seq ?_
    refine fi_seq ?_
    refine fi_region ?_
    refine so_assign (v := (.v (.int .i64 (0 : Int)))) rfl ?_
    refine so_nil ?_
    refine fi_block ?_
    refine fi_loop ?_
    refine fi_at [(0, (.v v0)), (1, (.v v1)), (5, (.v (.int .i64 (0 : Int))))] ⟨rfl, rfl, rfl, trivial⟩ ?_
    refine h (fun (i103 : Int) => ∀ (s : Nat → TV), Fin _ _ (updL s [(0, (.v v0)), (1, (.v v1)), (5, (.v (.int .i64 i103)))]) _ _) ?_ _
    intro i103 h s110
    refine fi_inLoop ?_
    refine fi_seq ?_
    refine fi_seq ?_
    refine fi_region ?_
    refine so_move (v := (.v (.int .i64 i103))) rfl ?_
    refine so_move (v := (.v v0)) rfl ?_
    refine sd_len ((g0 _ hs) : DSh _ _ 3 R_s_ii64_LeFlt_f32_poooq l0 w0) (by decide) rfl F40.ti59 ?_
    refine so_bin rfl rfl ab_lss ?_
    refine so_nil ?_
    replace h := ofP h; rcases h with ⟨c104, h⟩ | ⟨c104, h⟩
    · refine fi_true rfl (decide_eq_true c104) ?_
      refine fi_skip ?_
      refine fi_seq ?_
      refine fi_block ?_
      refine fi_seq ?_
      refine fi_region ?_
      refine so_move (v := (.v v0)) rfl ?_
      refine so_move (v := (.v (.int .i64 i103))) rfl ?_
      obtain ⟨c105, h⟩ := h
      refine sd_idx ((g0 _ hs) : DSh _ _ 3 R_s_ii64_LeFlt_f32_poooq l0 w0) c105 (([] : List UInt8), (0 : Int), ([] : List (Nat))) (by decide) rfl rfl F40.tl59 ?_
      refine su_lds ((((g0 _ hs) : DSh _ _ 3 R_s_ii64_LeFlt_f32_poooq l0 w0)).at (by decide) c105 (([] : List UInt8), (0 : Int), ([] : List (Nat)))).2.2 0 3 (lenc ((((g0 _ hs) : DSh _ _ 3 R_s_ii64_LeFlt_f32_poooq l0 w0)).at (by decide) c105 (([] : List UInt8), (0 : Int), ([] : List (Nat)))).2.1.1 (by simp)) (by decide) (whole ((((g0 _ hs) : DSh _ _ 3 R_s_ii64_LeFlt_f32_poooq l0 w0)).at (by decide) c105 (([] : List UInt8), (0 : Int), ([] : List (Nat)))).2.1.1 (by rfl)) rfl F40.ag138 F40.sz138 ?_
      refine so_move (v := (.v v1)) rfl ?_
      refine so_move (v := (.v (.int .i64 i103))) rfl ?_
      obtain ⟨c106, h⟩ := h
      refine sd_idx ((g1 _ hs) : DSh _ _ 3 R_s_ii64_LeFlt_f32_poooq l1 w1) c106 (([] : List UInt8), (0 : Int), ([] : List (Nat))) (by decide) rfl rfl F40.tl59 ?_
      refine su_lds ((((g1 _ hs) : DSh _ _ 3 R_s_ii64_LeFlt_f32_poooq l1 w1)).at (by decide) c106 (([] : List UInt8), (0 : Int), ([] : List (Nat)))).2.2 0 3 (lenc ((((g1 _ hs) : DSh _ _ 3 R_s_ii64_LeFlt_f32_poooq l1 w1)).at (by decide) c106 (([] : List UInt8), (0 : Int), ([] : List (Nat)))).2.1.1 (by simp)) (by decide) (whole ((((g1 _ hs) : DSh _ _ 3 R_s_ii64_LeFlt_f32_poooq l1 w1)).at (by decide) c106 (([] : List UInt8), (0 : Int), ([] : List (Nat)))).2.1.1 (by rfl)) rfl F40.ag138 F40.sz138 ?_
      refine sv_callS (laws_eqTake_okS (l0.getD (i103).toNat (([] : List UInt8), (0 : Int), ([] : List (Nat)))).1 (l0.getD (i103).toNat (([] : List UInt8), (0 : Int), ([] : List (Nat)))).2.1 ((w0.getD (i103).toNat []).getD 2 .und) (l0.getD (i103).toNat (([] : List UInt8), (0 : Int), ([] : List (Nat)))).2.2 (l1.getD (i103).toNat (([] : List UInt8), (0 : Int), ([] : List (Nat)))).1 (l1.getD (i103).toNat (([] : List UInt8), (0 : Int), ([] : List (Nat)))).2.1 ((w1.getD (i103).toNat []).getD 2 .und) (l1.getD (i103).toNat (([] : List UInt8), (0 : Int), ([] : List (Nat)))).2.2 hs (fun _ hs => ((((g0 _ hs) : DSh _ _ 3 R_s_ii64_LeFlt_f32_poooq l0 w0)).at (by decide) c105 (([] : List UInt8), (0 : Int), ([] : List (Nat)))).2.1.2) (fun _ hs => ((((g1 _ hs) : DSh _ _ 3 R_s_ii64_LeFlt_f32_poooq l1 w1)).at (by decide) c106 (([] : List UInt8), (0 : Int), ([] : List (Nat)))).2.1.2) _ h) (fun _ _ ⟨_, _, _, e⟩ => e) rfl rfl ?_
      clear h
      rintro _ _ ⟨y107, h, rfl, rfl⟩
      refine so_un rfl au_not ?_
      refine so_nil ?_
      replace h := ofT h; rcases h with ⟨c109, h⟩ | ⟨c109, h⟩
      · refine fi_false rfl (not_f c109) ?_
        refine fi_skip ?_
        refine fi_inBlock ?_
        refine fi_region ?_
        refine so_move (v := (.v (.int .i64 i103))) rfl ?_
        refine so_bin rfl rfl ab_add ?_
        refine so_assign (v := (.v (.int .i64 (IntKind.i64.wrap (i103 + (1 : Int)))))) rfl ?_
        refine so_nil ?_
        exact fi_at [(0, (.v v0)), (1, (.v v1)), (5, (.v (.int .i64 (IntKind.i64.wrap (i103 + (1 : Int))))))] ⟨rfl, rfl, rfl, trivial⟩ (h _)
      · refine fi_true rfl (not_t c109) ?_
        refine fi_seq ?_
        refine fi_region ?_
        refine so_assign (v := (.v (.bool false))) rfl ?_
        refine so_nil ?_
        exact by_ret rfl ⟨_, h, rfl, rfl⟩
    · refine fi_false rfl (decide_eq_false c104) ?_
      refine fi_exit rfl ?_
      refine fi_seq ?_
      refine fi_region ?_
      refine so_assign (v := (.v (.bool true))) rfl ?_
      refine so_nil ?_
      exact by_ret rfl ⟨_, h, rfl, rfl⟩
  · refine fi_true rfl (not_t (decide_eq_false c101)) ?_
    refine fi_seq ?_
    refine fi_region ?_
    refine so_assign (v := (.v (.bool false))) rfl ?_
    refine so_nil ?_
    exact by_ret rfl ⟨_, h, rfl, rfl⟩

end Go.Proofs.Ytkaidcgelbhofaa.G

namespace Go.Proofs.Ytkaidcgelbhofaa.G
open Go Go.Ab Go.Proofs Go.Proofs.Ytkaidcgelbhofaa
set_option maxRecDepth 100000
set_option linter.unusedVariables false
set_option linter.unusedSimpArgs false
set_option maxHeartbeats 1000000
attribute [local irreducible] wops wopf Go.Ab.Fin
theorem F114.it5 : tint Try.prog 5 = some .u8 := by kernel_rfl
theorem F114.sr9 : tstr Try.prog 9 = true := by kernel_rfl
theorem F114.sz5 : tsz Try.prog 5 = some 1 := by kernel_rfl
theorem F114.te82 : telem Try.prog 82 = some 5 := by kernel_rfl
theorem F114.us3 : (Try.prog.underlying 3).isSome = true := by kernel_rfl
theorem F114.us82 : (Try.prog.underlying 82).isSome = true := by kernel_rfl
theorem F114.ze5 : tzero Try.prog 5 = some [(.int .u8 (0 : Int))] := by kernel_rfl
theorem laws_markText_ok {fr : List Pc} {H : Heap} (a0 : Int) (hs : Sep H (fr))  (K : (List UInt8) → Prop) (h : laws_markText.wp a0 K) : OkQ Try.prog 114 [(.v (.int .i64 a0))] H (fun r H2 => ∃ (y0 : List UInt8), K y0 ∧ r = (.v (.str (pk y0))) ∧ Sep H2 (fr)) := by
  unfold laws_markText.wp at h
  refine of_body Try.f114 F.hm Try.func114 rfl Try.call114 (by kernel_rfl) (by simp) ?_
  refine fi_seq ?_
  refine fi_region ?_
  refine so_assign (v := (.v (.str (pk ([] : List UInt8))))) rfl ?_
  refine so_nil ?_
  refine fi_seq ?_
  refine fi_seq ?_
  refine fi_region ?_
  refine so_move (v := (.v (.int .i64 a0))) rfl ?_
  refine so_bin rfl rfl ab_leq ?_
  refine so_nil ?_
  replace h := ofP h; rcases h with ⟨c101, h⟩ | ⟨c101, h⟩
  · refine fi_true rfl (decide_eq_true c101) ?_
    refine fi_seq ?_
    refine fi_region ?_
    refine so_assign (v := (.v (.str (pk ([109, 48] : List UInt8))))) rfl ?_
    refine so_nil ?_
    exact by_ret rfl ⟨_, h, rfl, hs⟩
  · refine fi_false rfl (decide_eq_false c101) ?_
    refine fi_skip ?_
    refine fi_seq ?_
    refine fi_region ?_
    refine so_assign (v := (.v (.str (pk ([] : List UInt8))))) rfl ?_
    refine so_nil ?_
    refine fi_seq ?_
    refine fi_block ?_
    refine fi_loop ?_
    refine fi_at [(0, (.v (.int .i64 a0))), (3, (.v (.str (pk ([] : List UInt8)))))] ⟨rfl, rfl, trivial⟩ ?_
    refine h (fun (k103 : Int) (out104 : List UInt8) => ∀ (s : Nat → TV) (H : Heap), Sep H (fr) → Fin _ _ (updL s [(0, (.v (.int .i64 k103))), (3, (.v (.str (pk out104))))]) H _) ?_ _ _ hs
    intro k103 out104 h s111 H112 hs
    refine fi_inLoop ?_
    refine fi_seq ?_
    refine fi_seq ?_
    refine fi_region ?_
    refine so_move (v := (.v (.int .i64 k103))) rfl ?_
    refine so_bin rfl rfl ab_gtr ?_
    refine so_nil ?_
    replace h := ofP h; rcases h with ⟨c105, h⟩ | ⟨c105, h⟩
    · refine fi_true rfl (decide_eq_true c105) ?_
      refine fi_skip ?_
      refine fi_block ?_
      refine fi_seq ?_
      refine fi_region ?_
      refine so_move (v := (.v (.int .i64 k103))) rfl ?_
      refine so_bin rfl rfl (ab_rem (by decide)) ?_
      refine so_bin rfl rfl ab_add ?_
      refine sv_ii rfl F114.us3 F114.it5 ?_
      refine sv_bslice hs (eInt .u8) ([(IntKind.u8.wrap (IntKind.i64.wrap ((48 : Int) + (Int.tmod k103 (10 : Int)))))] : List (Int)) [[(.int .u8 (IntKind.u8.wrap (IntKind.i64.wrap ((48 : Int) + (Int.tmod k103 (10 : Int))))))]] F114.te82 F114.sz5 F114.ze5 rfl rfl rfl rfl (fun _ => rfl) rfl (by decide) nofun (fun v106 H107 nv106 hs => ?_)
      refine sv_bs (hs.shows 0 rfl) nv106 rfl F114.te82 F114.it5 F114.sr9 ?_
      refine so_move (v := (.v (.str (pk out104)))) rfl ?_
      obtain ⟨c109, h⟩ := h
      refine so_bin rfl rfl (ab_sadd c109) ?_
      refine so_assign (v := (.v (.str (pk ((byts ([(IntKind.u8.wrap (IntKind.i64.wrap ((48 : Int) + (Int.tmod k103 (10 : Int)))))] : List (Int))) ++ out104))))) rfl ?_
      refine so_nil ?_
      refine fi_region ?_
      refine so_move (v := (.v (.int .i64 k103))) rfl ?_
      refine so_bin rfl rfl (ab_quo (by decide)) ?_
      refine so_assign (v := (.v (.int .i64 (IntKind.i64.wrap (Int.tdiv k103 (10 : Int)))))) rfl ?_
      refine so_nil ?_
      refine fi_inBlock ?_
      exact fi_at [(0, (.v (.int .i64 (IntKind.i64.wrap (Int.tdiv k103 (10 : Int)))))), (3, (.v (.str (pk ((byts ([(IntKind.u8.wrap (IntKind.i64.wrap ((48 : Int) + (Int.tmod k103 (10 : Int)))))] : List (Int))) ++ out104)))))] ⟨rfl, rfl, trivial⟩ (h _ _  (Sep.del 0 hs))
    · refine fi_false rfl (decide_eq_false c105) ?_
      refine fi_exit rfl ?_
      refine fi_seq ?_
      refine fi_region ?_
      refine so_move (v := (.v (.str (pk out104)))) rfl ?_
      obtain ⟨c110, h⟩ := h
      refine so_bin rfl rfl (ab_sadd c110) ?_
      refine so_assign (v := (.v (.str (pk (([109] : List UInt8) ++ out104))))) rfl ?_
      refine so_nil ?_
      exact by_ret rfl ⟨_, h, rfl, hs⟩
theorem laws_markText_okS {fr : List Pc} {H : Heap} (a0 : Int) (hs : Sep H fr)  (K : (List UInt8) → Prop) (h : laws_markText.wp a0 K) : OkQ Try.prog 114 [(.v (.int .i64 a0))] H (fun r H2 => ∃ (y0 : List UInt8), K y0 ∧ r = (.v (.str (pk y0))) ∧ H = H2) := by
  obtain ⟨r, H2, h1, y0, hK, hr, hsep⟩ := laws_markText_ok (fr := came H) (H := H) a0 (came_sep H)  K h
  have hk : H.n ≤ H2.n ∧ ∀ i, i < H.n → H2.f i = H.f i := hsep.1.2.1
  exact ⟨r, H, h1.forget hk.1 hk.2 (by subst hr; rfl), y0, hK, hr, rfl⟩

end Go.Proofs.Ytkaidcgelbhofaa.G

namespace Go.Proofs.Ytkaidcgelbhofaa.G
open Go Go.Ab Go.Proofs Go.Proofs.Ytkaidcgelbhofaa
set_option maxRecDepth 100000
set_option linter.unusedVariables false
set_option linter.unusedSimpArgs false
set_option maxHeartbeats 1000000
attribute [local irreducible] wops wopf Go.Ab.Fin
theorem F26.fl37 : tflt Try.prog 37 = some .f32 := by kernel_rfl
theorem F26.in37 : tint Try.prog 37 = none := by kernel_rfl
theorem F26.sz37 : tsz Try.prog 37 = some 1 := by kernel_rfl
theorem F26.ti36 : (telem Try.prog 36).isSome = true := by kernel_rfl
theorem F26.tl36 : (telem Try.prog 36).bind (tsz Try.prog) = some 1 := by kernel_rfl
theorem F26.us3 : (Try.prog.underlying 3).isSome = true := by kernel_rfl
theorem laws_markFloat32S_ok {fr : List Pc} {H : Heap} (v0 : AV) (l0 : List (Nat)) (a1 : Int) (hs : Sep H (Pc.osl v0 1 (enc (eFlt .f32) l0) :: fr))  (K : Int → (List (Nat)) → Prop) (h : laws_markFloat32S.wp l0 a1 K) : OkQ Try.prog 26 [(.v v0), (.v (.int .i64 a1))] H (fun r H2 => ∃ (y0 : Int) (y1 : List (Nat)), K y0 y1 ∧ r = (.v (.int .i64 y0)) ∧ Sep H2 (Pc.osl v0 1 (enc (eFlt .f32) y1) :: fr)) := by
  unfold laws_markFloat32S.wp at h
  refine of_body Try.f26 F.hm Try.func26 rfl Try.call26 (by kernel_rfl) (by simp) ?_
  refine fi_seq ?_
  refine fi_region ?_
  refine so_assign (v := (.v (.int .i64 (0 : Int)))) rfl ?_
  refine so_nil ?_
  refine fi_seq ?_
  refine fi_seq ?_
  refine fi_region ?_
  refine so_assign (v := (.v (.int .i64 (0 : Int)))) rfl ?_
  refine so_nil ?_
  refine fi_block ?_
  refine fi_loop ?_
  refine fi_at [(0, (.v v0)), (1, (.v (.int .i64 a1))), (5, (.v (.int .i64 (0 : Int))))] ⟨rfl, rfl, rfl, trivial⟩ ?_
  refine h (fun (a109 : List (Nat)) (k110 : Int) (i111 : Int) => ∀ (s : Nat → TV) (H : Heap), Sep H (Pc.osl v0 1 (enc (eFlt .f32) a109) :: fr) → Fin _ _ (updL s [(0, (.v v0)), (1, (.v (.int .i64 k110))), (5, (.v (.int .i64 i111)))]) H _) ?_ _ _ hs
  intro a109 k110 i111 h s115 H116 hs
  refine fi_inLoop ?_
  refine fi_seq ?_
  refine fi_seq ?_
  refine fi_region ?_
  refine so_move (v := (.v (.int .i64 i111))) rfl ?_
  refine so_move (v := (.v v0)) rfl ?_
  refine sv_len (hs.shows 0 rfl) (fun _ => rfl) (by decide) rfl F26.ti36 ?_
  refine so_bin rfl rfl ab_lss ?_
  refine so_nil ?_
  replace h := ofP h; rcases h with ⟨c112, h⟩ | ⟨c112, h⟩
  · refine fi_true rfl (decide_eq_true c112) ?_
    refine fi_skip ?_
    refine fi_seq ?_
    refine fi_block ?_
    refine fi_seq ?_
    refine fi_region ?_
    refine so_move (v := (.v v0)) rfl ?_
    refine so_move (v := (.v (.int .i64 i111))) rfl ?_
    refine so_move (v := (.v (.int .i64 k110))) rfl ?_
    refine sv_if rfl F26.us3 F26.in37 F26.fl37 ?_
    obtain ⟨c113, h⟩ := h
    refine sv_idx (hs.shows 0 rfl) c113 (fun _ => rfl) (by decide) rfl rfl F26.tl36 ?_
    refine sv_set hs 0 rfl c113 (itof .f32 k110) (fun _ => rfl) (by decide) rfl rfl rfl rfl F26.sz37 nofun (fun H114 hs => ?_)
    refine so_nil ?_
    refine fi_region ?_
    refine so_move (v := (.v (.int .i64 k110))) rfl ?_
    refine so_bin rfl rfl ab_add ?_
    refine so_assign (v := (.v (.int .i64 (IntKind.i64.wrap (k110 + (1 : Int)))))) rfl ?_
    refine so_nil ?_
    refine fi_inBlock ?_
    refine fi_region ?_
    refine so_move (v := (.v (.int .i64 i111))) rfl ?_
    refine so_bin rfl rfl ab_add ?_
    refine so_assign (v := (.v (.int .i64 (IntKind.i64.wrap (i111 + (1 : Int)))))) rfl ?_
    refine so_nil ?_
    exact fi_at [(0, (.v v0)), (1, (.v (.int .i64 (IntKind.i64.wrap (k110 + (1 : Int)))))), (5, (.v (.int .i64 (IntKind.i64.wrap (i111 + (1 : Int))))))] ⟨rfl, rfl, rfl, trivial⟩ (h _ _  hs)
  · refine fi_false rfl (decide_eq_false c112) ?_
    refine fi_exit rfl ?_
    refine fi_seq ?_
    refine fi_region ?_
    refine so_move (v := (.v (.int .i64 k110))) rfl ?_
    refine so_assign (v := (.v (.int .i64 k110))) rfl ?_
    refine so_nil ?_
    exact by_ret rfl ⟨_, _, h, rfl, hs⟩

end Go.Proofs.Ytkaidcgelbhofaa.G

namespace Go.Proofs.Ytkaidcgelbhofaa.G
open Go Go.Ab Go.Proofs Go.Proofs.Ytkaidcgelbhofaa
set_option maxRecDepth 100000
set_option linter.unusedVariables false
set_option linter.unusedSimpArgs false
set_option maxHeartbeats 1000000
attribute [local irreducible] wops wopf Go.Ab.Fin
theorem F41.ag36 : tagg Try.prog 36 = some false := by kernel_rfl
theorem F41.fd138_0 : tfield Try.prog 138 0 = some (0, 1, false) := by kernel_rfl
theorem F41.fd138_1 : tfield Try.prog 138 1 = some (1, 1, false) := by kernel_rfl
theorem F41.fd138_2 : tfield Try.prog 138 2 = some (2, 1, false) := by kernel_rfl
theorem F41.sz2 : tsz Try.prog 2 = some 1 := by kernel_rfl
theorem F41.sz9 : tsz Try.prog 9 = some 1 := by kernel_rfl
theorem F41.ti59 : (telem Try.prog 59).isSome = true := by kernel_rfl
theorem F41.tl59 : (telem Try.prog 59).bind (tsz Try.prog) = some 3 := by kernel_rfl
theorem laws_markTakeS_ok {fr : List Pc} {H : Heap} (v0 : AV) (w0 : List (List AV)) (S0 : Nat → Prop) (l0 : List ((List UInt8) × (Int) × (List (Nat)))) (a1 : Int) (hs : Sep H (dpc v0 3 R_s_ii64_LeFlt_f32_poooq IR_s_ii64_LeFlt_f32_poooq l0 w0 S0 :: fr))  (K : Int → (List ((List UInt8) × (Int) × (List (Nat)))) → Prop) (h : laws_markTakeS.wp l0 a1 K) : OkQ Try.prog 41 [(.v v0), (.v (.int .i64 a1))] H (fun r H2 => ∃ (y0 : Int) (y1 : List ((List UInt8) × (Int) × (List (Nat)))), K y0 y1 ∧ ∃ (wm0 : List (List AV)) (Sm0 : Nat → Prop), r = (.v (.int .i64 y0)) ∧ Sep H2 (dpc v0 3 R_s_ii64_LeFlt_f32_poooq IR_s_ii64_LeFlt_f32_poooq y1 wm0 Sm0 :: fr)) := by
  unfold laws_markTakeS.wp at h
  refine of_body Try.f41 F.hm Try.func41 rfl Try.call41 (by kernel_rfl) (by simp) ?_
  refine fi_seq ?_
  refine fi_region ?_
  refine so_assign (v := (.v (.int .i64 (0 : Int)))) rfl ?_
  refine so_nil ?_
  refine fi_seq ?_
  refine fi_seq ?_
  refine fi_region ?_
  refine so_assign (v := (.v (.int .i64 (0 : Int)))) rfl ?_
  refine so_nil ?_
  refine fi_block ?_
  refine fi_loop ?_
  refine fi_at [(0, (.v v0)), (1, (.v (.int .i64 a1))), (5, (.v (.int .i64 (0 : Int))))] ⟨rfl, rfl, rfl, trivial⟩ ?_
  refine h (fun (a123 : List ((List UInt8) × (Int) × (List (Nat)))) (k126 : Int) (i127 : Int) => ∀ (s : Nat → TV) (H : Heap) (ws124 : List (List AV)) (S125 : Nat → Prop), Sep H (dpc v0 3 R_s_ii64_LeFlt_f32_poooq IR_s_ii64_LeFlt_f32_poooq a123 ws124 S125 :: fr) → Fin _ _ (updL s [(0, (.v v0)), (1, (.v (.int .i64 k126))), (5, (.v (.int .i64 i127)))]) H _) ?_ _ _ _ _ hs
  intro a123 k126 i127 h s145 H146 ws124 S125 hs
  refine fi_inLoop ?_
  refine fi_seq ?_
  refine fi_seq ?_
  refine fi_region ?_
  refine so_move (v := (.v (.int .i64 i127))) rfl ?_
  refine so_move (v := (.v v0)) rfl ?_
  refine sd_len ((hs.dshows 0 rfl) : DSh _ _ 3 R_s_ii64_LeFlt_f32_poooq a123 ws124) (by decide) rfl F41.ti59 ?_
  refine so_bin rfl rfl ab_lss ?_
  refine so_nil ?_
  replace h := ofP h; rcases h with ⟨c128, h⟩ | ⟨c128, h⟩
  · refine fi_true rfl (decide_eq_true c128) ?_
    refine fi_skip ?_
    refine fi_seq ?_
    refine fi_block ?_
    refine fi_seq ?_
    refine fi_region ?_
    refine so_move (v := (.v v0)) rfl ?_
    refine so_move (v := (.v (.int .i64 i127))) rfl ?_
    refine so_move (v := (.v (.int .i64 k126))) rfl ?_
    refine sv_callS (laws_markText_okS k126 hs  _ h) (fun _ _ ⟨_, _, _, e⟩ => e) rfl rfl ?_
    clear h
    rintro _ _ ⟨y129, h, rfl, rfl⟩
    obtain ⟨c131, h⟩ := h
    refine sd_idx ((hs.dshows 0 rfl) : DSh _ _ 3 R_s_ii64_LeFlt_f32_poooq a123 ws124) c131 (([] : List UInt8), (0 : Int), ([] : List (Nat))) (by decide) rfl rfl F41.tl59 ?_
    refine so_fieldAddr rfl F41.fd138_0 ?_
    have e133 := ((((hs.dshows 0 rfl) : DSh _ _ 3 R_s_ii64_LeFlt_f32_poooq a123 ws124)).at (by decide) c131 (([] : List UInt8), (0 : Int), ([] : List (Nat)))).2.1.1
    refine sk_setf hs 0 rfl c131 (([] : List UInt8), (0 : Int), ([] : List (Nat))) (y129, (a123.getD (i127).toNat (([] : List UInt8), (0 : Int), ([] : List (Nat)))).2.1, (a123.getD (i127).toNat (([] : List UInt8), (0 : Int), ([] : List (Nat)))).2.2) 0 (by decide) rfl rfl (fun _ hh => by obtain ⟨e_, hh⟩ := hh; rw [e_]; exact ⟨rfl, hh⟩) (by rw [e133]; first | done | rfl) rfl rfl F41.sz9 nofun (fun H134 hs => ?_)
    refine so_nil ?_
    refine fi_seq ?_
    refine fi_region ?_
    refine so_move (v := (.v (.int .i64 k126))) rfl ?_
    refine so_bin rfl rfl ab_add ?_
    refine so_assign (v := (.v (.int .i64 (IntKind.i64.wrap (k126 + (1 : Int)))))) rfl ?_
    refine so_nil ?_
    refine fi_seq ?_
    refine fi_region ?_
    refine so_move (v := (.v v0)) rfl ?_
    refine so_move (v := (.v (.int .i64 i127))) rfl ?_
    refine so_move (v := (.v (.int .i64 (IntKind.i64.wrap (k126 + (1 : Int)))))) rfl ?_
    obtain ⟨c135, h⟩ := h
    refine sd_idx ((hs.dshows 0 rfl) : DSh _ _ 3 R_s_ii64_LeFlt_f32_poooq (a123.set (i127).toNat (y129, (a123.getD (i127).toNat (([] : List UInt8), (0 : Int), ([] : List (Nat)))).2.1, (a123.getD (i127).toNat (([] : List UInt8), (0 : Int), ([] : List (Nat)))).2.2)) (ws124.set (i127).toNat (splice (ws124.getD (i127).toNat []) [(.str (pk y129))] 0))) c135 (([] : List UInt8), (0 : Int), ([] : List (Nat))) (by decide) rfl rfl F41.tl59 ?_
    refine so_fieldAddr rfl F41.fd138_1 ?_
    have e137 := ((((hs.dshows 0 rfl) : DSh _ _ 3 R_s_ii64_LeFlt_f32_poooq (a123.set (i127).toNat (y129, (a123.getD (i127).toNat (([] : List UInt8), (0 : Int), ([] : List (Nat)))).2.1, (a123.getD (i127).toNat (([] : List UInt8), (0 : Int), ([] : List (Nat)))).2.2)) (ws124.set (i127).toNat (splice (ws124.getD (i127).toNat []) [(.str (pk y129))] 0)))).at (by decide) c135 (([] : List UInt8), (0 : Int), ([] : List (Nat)))).2.1.1
    refine sk_setf hs 0 rfl c135 (([] : List UInt8), (0 : Int), ([] : List (Nat))) (((a123.set (i127).toNat (y129, (a123.getD (i127).toNat (([] : List UInt8), (0 : Int), ([] : List (Nat)))).2.1, (a123.getD (i127).toNat (([] : List UInt8), (0 : Int), ([] : List (Nat)))).2.2)).getD (i127).toNat (([] : List UInt8), (0 : Int), ([] : List (Nat)))).1, (IntKind.i64.wrap (k126 + (1 : Int))), ((a123.set (i127).toNat (y129, (a123.getD (i127).toNat (([] : List UInt8), (0 : Int), ([] : List (Nat)))).2.1, (a123.getD (i127).toNat (([] : List UInt8), (0 : Int), ([] : List (Nat)))).2.2)).getD (i127).toNat (([] : List UInt8), (0 : Int), ([] : List (Nat)))).2.2) 1 (by decide) rfl rfl (fun _ hh => by obtain ⟨e_, hh⟩ := hh; rw [e_]; exact ⟨rfl, hh⟩) (by rw [e137]; first | done | rfl) rfl rfl F41.sz2 nofun (fun H138 hs => ?_)
    refine so_nil ?_
    refine fi_seq ?_
    refine fi_region ?_
    refine so_move (v := (.v (.int .i64 (IntKind.i64.wrap (k126 + (1 : Int)))))) rfl ?_
    refine so_bin rfl rfl ab_add ?_
    refine so_assign (v := (.v (.int .i64 (IntKind.i64.wrap ((IntKind.i64.wrap (k126 + (1 : Int))) + (1 : Int)))))) rfl ?_
    refine so_nil ?_
    refine fi_region ?_
    refine so_move (v := (.v v0)) rfl ?_
    refine so_move (v := (.v (.int .i64 i127))) rfl ?_
    obtain ⟨c139, h⟩ := h
    refine sd_idx ((hs.dshows 0 rfl) : DSh _ _ 3 R_s_ii64_LeFlt_f32_poooq ((a123.set (i127).toNat (y129, (a123.getD (i127).toNat (([] : List UInt8), (0 : Int), ([] : List (Nat)))).2.1, (a123.getD (i127).toNat (([] : List UInt8), (0 : Int), ([] : List (Nat)))).2.2)).set (i127).toNat (((a123.set (i127).toNat (y129, (a123.getD (i127).toNat (([] : List UInt8), (0 : Int), ([] : List (Nat)))).2.1, (a123.getD (i127).toNat (([] : List UInt8), (0 : Int), ([] : List (Nat)))).2.2)).getD (i127).toNat (([] : List UInt8), (0 : Int), ([] : List (Nat)))).1, (IntKind.i64.wrap (k126 + (1 : Int))), ((a123.set (i127).toNat (y129, (a123.getD (i127).toNat (([] : List UInt8), (0 : Int), ([] : List (Nat)))).2.1, (a123.getD (i127).toNat (([] : List UInt8), (0 : Int), ([] : List (Nat)))).2.2)).getD (i127).toNat (([] : List UInt8), (0 : Int), ([] : List (Nat)))).2.2)) ((ws124.set (i127).toNat (splice (ws124.getD (i127).toNat []) [(.str (pk y129))] 0)).set (i127).toNat (splice ((ws124.set (i127).toNat (splice (ws124.getD (i127).toNat []) [(.str (pk y129))] 0)).getD (i127).toNat []) [(.int .i64 (IntKind.i64.wrap (k126 + (1 : Int))))] 1))) c139 (([] : List UInt8), (0 : Int), ([] : List (Nat))) (by decide) rfl rfl F41.tl59 ?_
    refine so_fieldAddr rfl F41.fd138_2 ?_
    refine su_ld ((((hs.dshows 0 rfl) : DSh _ _ 3 R_s_ii64_LeFlt_f32_poooq ((a123.set (i127).toNat (y129, (a123.getD (i127).toNat (([] : List UInt8), (0 : Int), ([] : List (Nat)))).2.1, (a123.getD (i127).toNat (([] : List UInt8), (0 : Int), ([] : List (Nat)))).2.2)).set (i127).toNat (((a123.set (i127).toNat (y129, (a123.getD (i127).toNat (([] : List UInt8), (0 : Int), ([] : List (Nat)))).2.1, (a123.getD (i127).toNat (([] : List UInt8), (0 : Int), ([] : List (Nat)))).2.2)).getD (i127).toNat (([] : List UInt8), (0 : Int), ([] : List (Nat)))).1, (IntKind.i64.wrap (k126 + (1 : Int))), ((a123.set (i127).toNat (y129, (a123.getD (i127).toNat (([] : List UInt8), (0 : Int), ([] : List (Nat)))).2.1, (a123.getD (i127).toNat (([] : List UInt8), (0 : Int), ([] : List (Nat)))).2.2)).getD (i127).toNat (([] : List UInt8), (0 : Int), ([] : List (Nat)))).2.2)) ((ws124.set (i127).toNat (splice (ws124.getD (i127).toNat []) [(.str (pk y129))] 0)).set (i127).toNat (splice ((ws124.set (i127).toNat (splice (ws124.getD (i127).toNat []) [(.str (pk y129))] 0)).getD (i127).toNat []) [(.int .i64 (IntKind.i64.wrap (k126 + (1 : Int))))] 1)))).at (by decide) c139 (([] : List UInt8), (0 : Int), ([] : List (Nat)))).2.2 2 (congrArg (fun c => c[2]?) ((((hs.dshows 0 rfl) : DSh _ _ 3 R_s_ii64_LeFlt_f32_poooq ((a123.set (i127).toNat (y129, (a123.getD (i127).toNat (([] : List UInt8), (0 : Int), ([] : List (Nat)))).2.1, (a123.getD (i127).toNat (([] : List UInt8), (0 : Int), ([] : List (Nat)))).2.2)).set (i127).toNat (((a123.set (i127).toNat (y129, (a123.getD (i127).toNat (([] : List UInt8), (0 : Int), ([] : List (Nat)))).2.1, (a123.getD (i127).toNat (([] : List UInt8), (0 : Int), ([] : List (Nat)))).2.2)).getD (i127).toNat (([] : List UInt8), (0 : Int), ([] : List (Nat)))).1, (IntKind.i64.wrap (k126 + (1 : Int))), ((a123.set (i127).toNat (y129, (a123.getD (i127).toNat (([] : List UInt8), (0 : Int), ([] : List (Nat)))).2.1, (a123.getD (i127).toNat (([] : List UInt8), (0 : Int), ([] : List (Nat)))).2.2)).getD (i127).toNat (([] : List UInt8), (0 : Int), ([] : List (Nat)))).2.2)) ((ws124.set (i127).toNat (splice (ws124.getD (i127).toNat []) [(.str (pk y129))] 0)).set (i127).toNat (splice ((ws124.set (i127).toNat (splice (ws124.getD (i127).toNat []) [(.str (pk y129))] 0)).getD (i127).toNat []) [(.int .i64 (IntKind.i64.wrap (k126 + (1 : Int))))] 1)))).at (by decide) c139 (([] : List UInt8), (0 : Int), ([] : List (Nat)))).2.1.1) rfl F41.ag36 ?_
    refine so_move (v := (.v (.int .i64 (IntKind.i64.wrap ((IntKind.i64.wrap (k126 + (1 : Int))) + (1 : Int)))))) rfl ?_
    have e140 := ((((hs.dshows 0 rfl) : DSh _ _ 3 R_s_ii64_LeFlt_f32_poooq ((a123.set (i127).toNat (y129, (a123.getD (i127).toNat (([] : List UInt8), (0 : Int), ([] : List (Nat)))).2.1, (a123.getD (i127).toNat (([] : List UInt8), (0 : Int), ([] : List (Nat)))).2.2)).set (i127).toNat (((a123.set (i127).toNat (y129, (a123.getD (i127).toNat (([] : List UInt8), (0 : Int), ([] : List (Nat)))).2.1, (a123.getD (i127).toNat (([] : List UInt8), (0 : Int), ([] : List (Nat)))).2.2)).getD (i127).toNat (([] : List UInt8), (0 : Int), ([] : List (Nat)))).1, (IntKind.i64.wrap (k126 + (1 : Int))), ((a123.set (i127).toNat (y129, (a123.getD (i127).toNat (([] : List UInt8), (0 : Int), ([] : List (Nat)))).2.1, (a123.getD (i127).toNat (([] : List UInt8), (0 : Int), ([] : List (Nat)))).2.2)).getD (i127).toNat (([] : List UInt8), (0 : Int), ([] : List (Nat)))).2.2)) ((ws124.set (i127).toNat (splice (ws124.getD (i127).toNat []) [(.str (pk y129))] 0)).set (i127).toNat (splice ((ws124.set (i127).toNat (splice (ws124.getD (i127).toNat []) [(.str (pk y129))] 0)).getD (i127).toNat []) [(.int .i64 (IntKind.i64.wrap (k126 + (1 : Int))))] 1)))).at (by decide) c139 (([] : List UInt8), (0 : Int), ([] : List (Nat)))).2.1.1
    replace hs := hs.lend 0 rfl c139 (([] : List UInt8), (0 : Int), ([] : List (Nat))) (w := ((((ws124.set (i127).toNat (splice (ws124.getD (i127).toNat []) [(.str (pk y129))] 0)).set (i127).toNat (splice ((ws124.set (i127).toNat (splice (ws124.getD (i127).toNat []) [(.str (pk y129))] 0)).getD (i127).toNat []) [(.int .i64 (IntKind.i64.wrap (k126 + (1 : Int))))] 1)).getD (i127).toNat []).getD 2 .und)) (m := 1) (cs := enc (eFlt .f32) (((a123.set (i127).toNat (y129, (a123.getD (i127).toNat (([] : List UInt8), (0 : Int), ([] : List (Nat)))).2.1, (a123.getD (i127).toNat (([] : List UInt8), (0 : Int), ([] : List (Nat)))).2.2)).set (i127).toNat (((a123.set (i127).toNat (y129, (a123.getD (i127).toNat (([] : List UInt8), (0 : Int), ([] : List (Nat)))).2.1, (a123.getD (i127).toNat (([] : List UInt8), (0 : Int), ([] : List (Nat)))).2.2)).getD (i127).toNat (([] : List UInt8), (0 : Int), ([] : List (Nat)))).1, (IntKind.i64.wrap (k126 + (1 : Int))), ((a123.set (i127).toNat (y129, (a123.getD (i127).toNat (([] : List UInt8), (0 : Int), ([] : List (Nat)))).2.1, (a123.getD (i127).toNat (([] : List UInt8), (0 : Int), ([] : List (Nat)))).2.2)).getD (i127).toNat (([] : List UInt8), (0 : Int), ([] : List (Nat)))).2.2)).getD (i127).toNat (([] : List UInt8), (0 : Int), ([] : List (Nat)))).2.2) rfl
    refine sv_call (laws_markFloat32S_ok ((((ws124.set (i127).toNat (splice (ws124.getD (i127).toNat []) [(.str (pk y129))] 0)).set (i127).toNat (splice ((ws124.set (i127).toNat (splice (ws124.getD (i127).toNat []) [(.str (pk y129))] 0)).getD (i127).toNat []) [(.int .i64 (IntKind.i64.wrap (k126 + (1 : Int))))] 1)).getD (i127).toNat []).getD 2 .und) (((a123.set (i127).toNat (y129, (a123.getD (i127).toNat (([] : List UInt8), (0 : Int), ([] : List (Nat)))).2.1, (a123.getD (i127).toNat (([] : List UInt8), (0 : Int), ([] : List (Nat)))).2.2)).set (i127).toNat (((a123.set (i127).toNat (y129, (a123.getD (i127).toNat (([] : List UInt8), (0 : Int), ([] : List (Nat)))).2.1, (a123.getD (i127).toNat (([] : List UInt8), (0 : Int), ([] : List (Nat)))).2.2)).getD (i127).toNat (([] : List UInt8), (0 : Int), ([] : List (Nat)))).1, (IntKind.i64.wrap (k126 + (1 : Int))), ((a123.set (i127).toNat (y129, (a123.getD (i127).toNat (([] : List UInt8), (0 : Int), ([] : List (Nat)))).2.1, (a123.getD (i127).toNat (([] : List UInt8), (0 : Int), ([] : List (Nat)))).2.2)).getD (i127).toNat (([] : List UInt8), (0 : Int), ([] : List (Nat)))).2.2)).getD (i127).toNat (([] : List UInt8), (0 : Int), ([] : List (Nat)))).2.2 (IntKind.i64.wrap ((IntKind.i64.wrap (k126 + (1 : Int))) + (1 : Int))) hs  _ h) rfl rfl nofun ?_
    clear h hs
    rintro _ H144 ⟨y142, y143, h, rfl, hs⟩
    replace hs := hs.give 0 rfl ((((a123.set (i127).toNat (y129, (a123.getD (i127).toNat (([] : List UInt8), (0 : Int), ([] : List (Nat)))).2.1, (a123.getD (i127).toNat (([] : List UInt8), (0 : Int), ([] : List (Nat)))).2.2)).set (i127).toNat (((a123.set (i127).toNat (y129, (a123.getD (i127).toNat (([] : List UInt8), (0 : Int), ([] : List (Nat)))).2.1, (a123.getD (i127).toNat (([] : List UInt8), (0 : Int), ([] : List (Nat)))).2.2)).getD (i127).toNat (([] : List UInt8), (0 : Int), ([] : List (Nat)))).1, (IntKind.i64.wrap (k126 + (1 : Int))), ((a123.set (i127).toNat (y129, (a123.getD (i127).toNat (([] : List UInt8), (0 : Int), ([] : List (Nat)))).2.1, (a123.getD (i127).toNat (([] : List UInt8), (0 : Int), ([] : List (Nat)))).2.2)).getD (i127).toNat (([] : List UInt8), (0 : Int), ([] : List (Nat)))).2.2)).getD (i127).toNat (([] : List UInt8), (0 : Int), ([] : List (Nat)))).1, (((a123.set (i127).toNat (y129, (a123.getD (i127).toNat (([] : List UInt8), (0 : Int), ([] : List (Nat)))).2.1, (a123.getD (i127).toNat (([] : List UInt8), (0 : Int), ([] : List (Nat)))).2.2)).set (i127).toNat (((a123.set (i127).toNat (y129, (a123.getD (i127).toNat (([] : List UInt8), (0 : Int), ([] : List (Nat)))).2.1, (a123.getD (i127).toNat (([] : List UInt8), (0 : Int), ([] : List (Nat)))).2.2)).getD (i127).toNat (([] : List UInt8), (0 : Int), ([] : List (Nat)))).1, (IntKind.i64.wrap (k126 + (1 : Int))), ((a123.set (i127).toNat (y129, (a123.getD (i127).toNat (([] : List UInt8), (0 : Int), ([] : List (Nat)))).2.1, (a123.getD (i127).toNat (([] : List UInt8), (0 : Int), ([] : List (Nat)))).2.2)).getD (i127).toNat (([] : List UInt8), (0 : Int), ([] : List (Nat)))).2.2)).getD (i127).toNat (([] : List UInt8), (0 : Int), ([] : List (Nat)))).2.1, y143) rfl (fun _ hh => ⟨e140, hh⟩)
    refine so_assign (v := (.v (.int .i64 y142))) rfl ?_
    refine so_nil ?_
    refine fi_inBlock ?_
    refine fi_region ?_
    refine so_move (v := (.v (.int .i64 i127))) rfl ?_
    refine so_bin rfl rfl ab_add ?_
    refine so_assign (v := (.v (.int .i64 (IntKind.i64.wrap (i127 + (1 : Int)))))) rfl ?_
    refine so_nil ?_
    exact fi_at [(0, (.v v0)), (1, (.v (.int .i64 y142))), (5, (.v (.int .i64 (IntKind.i64.wrap (i127 + (1 : Int))))))] ⟨rfl, rfl, rfl, trivial⟩ (h _ _ _ _ hs)
  · refine fi_false rfl (decide_eq_false c128) ?_
    refine fi_exit rfl ?_
    refine fi_seq ?_
    refine fi_region ?_
    refine so_move (v := (.v (.int .i64 k126))) rfl ?_
    refine so_assign (v := (.v (.int .i64 k126))) rfl ?_
    refine so_nil ?_
    exact by_ret rfl ⟨_, _, h, _, _, rfl, hs⟩

end Go.Proofs.Ytkaidcgelbhofaa.G

namespace Go.Proofs.Ytkaidcgelbhofaa.G
open Go Go.Ab Go.Proofs Go.Proofs.Ytkaidcgelbhofaa
set_option maxRecDepth 100000
set_option linter.unusedVariables false
set_option linter.unusedSimpArgs false
set_option maxHeartbeats 1000000
attribute [local irreducible] wops wopf Go.Ab.Fin
theorem F27.ag37 : tagg Try.prog 37 = some false := by kernel_rfl
theorem F27.fl37 : tflt Try.prog 37 = some .f32 := by kernel_rfl
theorem F27.in37 : tint Try.prog 37 = none := by kernel_rfl
theorem F27.ti36 : (telem Try.prog 36).isSome = true := by kernel_rfl
theorem F27.tl36 : (telem Try.prog 36).bind (tsz Try.prog) = some 1 := by kernel_rfl
theorem F27.us3 : (Try.prog.underlying 3).isSome = true := by kernel_rfl
theorem laws_heldFloat32S_ok {fr : List Pc} {H : Heap} (v0 : AV) (l0 : List (Nat)) (a1 : Int) (hs : Sep H (fr)) (g0 : ∀ H, Sep H fr → Shows H v0 1 (enc (eFlt .f32) l0)) (K : Int → Prop) (h : laws_heldFloat32S.wp l0 a1 K) : OkQ Try.prog 27 [(.v v0), (.v (.int .i64 a1))] H (fun r H2 => ∃ (y0 : Int), K y0 ∧ r = (.v (.int .i64 y0)) ∧ H = H2) := by
  unfold laws_heldFloat32S.wp at h
  refine of_body Try.f27 F.hm Try.func27 rfl Try.call27 (by kernel_rfl) (by simp) ?_
  refine fi_seq ?_
  refine fi_region ?_
  refine so_assign (v := (.v (.int .i64 (0 : Int)))) rfl ?_
  refine so_nil ?_
  refine fi_seq ?_
  refine fi_seq ?_
  refine fi_region ?_
  refine so_assign (v := (.v (.int .i64 (0 : Int)))) rfl ?_
  refine so_nil ?_
  refine fi_block ?_
  refine fi_loop ?_
  refine fi_at [(0, (.v v0)), (1, (.v (.int .i64 a1))), (5, (.v (.int .i64 (0 : Int))))] ⟨rfl, rfl, rfl, trivial⟩ ?_
  refine h (fun (k102 : Int) (i103 : Int) => ∀ (s : Nat → TV), Fin _ _ (updL s [(0, (.v v0)), (1, (.v (.int .i64 k102))), (5, (.v (.int .i64 i103)))]) _ _) ?_ _
  intro k102 i103 h s107
  refine fi_inLoop ?_
  refine fi_seq ?_
  refine fi_seq ?_
  refine fi_region ?_
  refine so_move (v := (.v (.int .i64 i103))) rfl ?_
  refine so_move (v := (.v v0)) rfl ?_
  refine sv_len (g0 _ hs) (fun _ => rfl) (by decide) rfl F27.ti36 ?_
  refine so_bin rfl rfl ab_lss ?_
  refine so_nil ?_
  replace h := ofP h; rcases h with ⟨c104, h⟩ | ⟨c104, h⟩
  · refine fi_true rfl (decide_eq_true c104) ?_
    refine fi_skip ?_
    refine fi_seq ?_
    refine fi_block ?_
    refine fi_seq ?_
    refine fi_seq ?_
    refine fi_region ?_
    refine so_move (v := (.v v0)) rfl ?_
    refine so_move (v := (.v (.int .i64 i103))) rfl ?_
    obtain ⟨c105, h⟩ := h
    refine sv_idx (g0 _ hs) c105 (fun _ => rfl) (by decide) rfl rfl F27.tl36 ?_
    refine sv_cell (g0 _ hs) c105 (0 : Nat) 0 (fun x => (AV.flt .f32 x)) (fun _ => rfl) (fun _ => rfl) rfl F27.ag37 ?_
    refine so_move (v := (.v (.int .i64 k102))) rfl ?_
    refine sv_if rfl F27.us3 F27.in37 F27.fl37 ?_
    refine so_bin rfl rfl ab_fneq ?_
    refine so_nil ?_
    replace h := ofT h; rcases h with ⟨c106, h⟩ | ⟨c106, h⟩
    · refine fi_true rfl c106 ?_
      refine fi_seq ?_
      refine fi_region ?_
      refine so_assign (v := (.v (.int .i64 (-1 : Int)))) rfl ?_
      refine so_nil ?_
      exact by_ret rfl ⟨_, h, rfl, rfl⟩
    · refine fi_false rfl c106 ?_
      refine fi_skip ?_
      refine fi_region ?_
      refine so_move (v := (.v (.int .i64 k102))) rfl ?_
      refine so_bin rfl rfl ab_add ?_
      refine so_assign (v := (.v (.int .i64 (IntKind.i64.wrap (k102 + (1 : Int)))))) rfl ?_
      refine so_nil ?_
      refine fi_inBlock ?_
      refine fi_region ?_
      refine so_move (v := (.v (.int .i64 i103))) rfl ?_
      refine so_bin rfl rfl ab_add ?_
      refine so_assign (v := (.v (.int .i64 (IntKind.i64.wrap (i103 + (1 : Int)))))) rfl ?_
      refine so_nil ?_
      exact fi_at [(0, (.v v0)), (1, (.v (.int .i64 (IntKind.i64.wrap (k102 + (1 : Int)))))), (5, (.v (.int .i64 (IntKind.i64.wrap (i103 + (1 : Int))))))] ⟨rfl, rfl, rfl, trivial⟩ (h _)
  · refine fi_false rfl (decide_eq_false c104) ?_
    refine fi_exit rfl ?_
    refine fi_seq ?_
    refine fi_region ?_
    refine so_move (v := (.v (.int .i64 k102))) rfl ?_
    refine so_assign (v := (.v (.int .i64 k102))) rfl ?_
    refine so_nil ?_
    exact by_ret rfl ⟨_, h, rfl, rfl⟩

end Go.Proofs.Ytkaidcgelbhofaa.G

namespace Go.Proofs.Ytkaidcgelbhofaa.G
open Go Go.Ab Go.Proofs Go.Proofs.Ytkaidcgelbhofaa
set_option maxRecDepth 100000
set_option linter.unusedVariables false
set_option linter.unusedSimpArgs false
set_option maxHeartbeats 1000000
attribute [local irreducible] wops wopf Go.Ab.Fin
theorem F42.ag2 : tagg Try.prog 2 = some false := by kernel_rfl
theorem F42.ag36 : tagg Try.prog 36 = some false := by kernel_rfl
theorem F42.ag9 : tagg Try.prog 9 = some false := by kernel_rfl
theorem F42.fd138_0 : tfield Try.prog 138 0 = some (0, 1, false) := by kernel_rfl
theorem F42.fd138_1 : tfield Try.prog 138 1 = some (1, 1, false) := by kernel_rfl
theorem F42.fd138_2 : tfield Try.prog 138 2 = some (2, 1, false) := by kernel_rfl
theorem F42.ti59 : (telem Try.prog 59).isSome = true := by kernel_rfl
theorem F42.tl59 : (telem Try.prog 59).bind (tsz Try.prog) = some 3 := by kernel_rfl
theorem laws_heldTakeS_ok {fr : List Pc} {H : Heap} (v0 : AV) (w0 : List (List AV)) (l0 : List ((List UInt8) × (Int) × (List (Nat)))) (a1 : Int) (hs : Sep H (fr)) (g0 : ∀ H, Sep H fr → DSh H v0 3 R_s_ii64_LeFlt_f32_poooq l0 w0) (K : Int → Prop) (h : laws_heldTakeS.wp l0 a1 K) : OkQ Try.prog 42 [(.v v0), (.v (.int .i64 a1))] H (fun r H2 => ∃ (y0 : Int), K y0 ∧ r = (.v (.int .i64 y0)) ∧ H = H2) := by
  unfold laws_heldTakeS.wp at h
  refine of_body Try.f42 F.hm Try.func42 rfl Try.call42 (by kernel_rfl) (by simp) ?_
  refine fi_seq ?_
  refine fi_region ?_
  refine so_assign (v := (.v (.int .i64 (0 : Int)))) rfl ?_
  refine so_nil ?_
  refine fi_seq ?_
  refine fi_seq ?_
  refine fi_region ?_
  refine so_assign (v := (.v (.int .i64 (0 : Int)))) rfl ?_
  refine so_nil ?_
  refine fi_block ?_
  refine fi_loop ?_
  refine fi_at [(0, (.v v0)), (1, (.v (.int .i64 a1))), (5, (.v (.int .i64 (0 : Int))))] ⟨rfl, rfl, rfl, trivial⟩ ?_
  refine h (fun (k102 : Int) (i103 : Int) => ∀ (s : Nat → TV), Fin _ _ (updL s [(0, (.v v0)), (1, (.v (.int .i64 k102))), (5, (.v (.int .i64 i103)))]) _ _) ?_ _
  intro k102 i103 h s113
  refine fi_inLoop ?_
  refine fi_seq ?_
  refine fi_seq ?_
  refine fi_region ?_
  refine so_move (v := (.v (.int .i64 i103))) rfl ?_
  refine so_move (v := (.v v0)) rfl ?_
  refine sd_len ((g0 _ hs) : DSh _ _ 3 R_s_ii64_LeFlt_f32_poooq l0 w0) (by decide) rfl F42.ti59 ?_
  refine so_bin rfl rfl ab_lss ?_
  refine so_nil ?_
  replace h := ofP h; rcases h with ⟨c104, h⟩ | ⟨c104, h⟩
  · refine fi_true rfl (decide_eq_true c104) ?_
    refine fi_skip ?_
    refine fi_seq ?_
    refine fi_block ?_
    refine fi_seq ?_
    refine fi_seq ?_
    refine fi_region ?_
    refine so_move (v := (.v v0)) rfl ?_
    refine so_move (v := (.v (.int .i64 i103))) rfl ?_
    obtain ⟨c105, h⟩ := h
    refine sd_idx ((g0 _ hs) : DSh _ _ 3 R_s_ii64_LeFlt_f32_poooq l0 w0) c105 (([] : List UInt8), (0 : Int), ([] : List (Nat))) (by decide) rfl rfl F42.tl59 ?_
    refine so_fieldAddr rfl F42.fd138_0 ?_
    refine su_ld ((((g0 _ hs) : DSh _ _ 3 R_s_ii64_LeFlt_f32_poooq l0 w0)).at (by decide) c105 (([] : List UInt8), (0 : Int), ([] : List (Nat)))).2.2 0 (congrArg (fun c => c[0]?) ((((g0 _ hs) : DSh _ _ 3 R_s_ii64_LeFlt_f32_poooq l0 w0)).at (by decide) c105 (([] : List UInt8), (0 : Int), ([] : List (Nat)))).2.1.1) rfl F42.ag9 ?_
    refine so_move (v := (.v (.int .i64 k102))) rfl ?_
    refine sv_callS (laws_markText_okS k102 hs  _ h) (fun _ _ ⟨_, _, _, e⟩ => e) rfl rfl ?_
    clear h
    rintro _ _ ⟨y106, h, rfl, rfl⟩
    refine so_bin rfl rfl ab_sneq ?_
    refine so_nil ?_
    replace h := ofP h; rcases h with ⟨c108, h⟩ | ⟨c108, h⟩
    · refine fi_false rfl (not_f (decide_eq_true c108)) ?_
      refine fi_skip ?_
      refine fi_seq ?_
      refine fi_region ?_
      refine so_move (v := (.v (.int .i64 k102))) rfl ?_
      refine so_bin rfl rfl ab_add ?_
      refine so_assign (v := (.v (.int .i64 (IntKind.i64.wrap (k102 + (1 : Int)))))) rfl ?_
      refine so_nil ?_
      refine fi_seq ?_
      refine fi_seq ?_
      refine fi_region ?_
      refine so_move (v := (.v v0)) rfl ?_
      refine so_move (v := (.v (.int .i64 i103))) rfl ?_
      refine sd_idx ((g0 _ hs) : DSh _ _ 3 R_s_ii64_LeFlt_f32_poooq l0 w0) c105 (([] : List UInt8), (0 : Int), ([] : List (Nat))) (by decide) rfl rfl F42.tl59 ?_
      refine so_fieldAddr rfl F42.fd138_1 ?_
      refine su_ld ((((g0 _ hs) : DSh _ _ 3 R_s_ii64_LeFlt_f32_poooq l0 w0)).at (by decide) c105 (([] : List UInt8), (0 : Int), ([] : List (Nat)))).2.2 1 (congrArg (fun c => c[1]?) ((((g0 _ hs) : DSh _ _ 3 R_s_ii64_LeFlt_f32_poooq l0 w0)).at (by decide) c105 (([] : List UInt8), (0 : Int), ([] : List (Nat)))).2.1.1) rfl F42.ag2 ?_
      refine so_move (v := (.v (.int .i64 (IntKind.i64.wrap (k102 + (1 : Int)))))) rfl ?_
      refine so_bin rfl rfl ab_neq ?_
      refine so_nil ?_
      replace h := ofP h; rcases h with ⟨c109, h⟩ | ⟨c109, h⟩
      · refine fi_false rfl (not_f (decide_eq_true c109)) ?_
        refine fi_skip ?_
        refine fi_seq ?_
        refine fi_region ?_
        refine so_move (v := (.v (.int .i64 (IntKind.i64.wrap (k102 + (1 : Int)))))) rfl ?_
        refine so_bin rfl rfl ab_add ?_
        refine so_assign (v := (.v (.int .i64 (IntKind.i64.wrap ((IntKind.i64.wrap (k102 + (1 : Int))) + (1 : Int)))))) rfl ?_
        refine so_nil ?_
        refine fi_seq ?_
        refine fi_region ?_
        refine so_move (v := (.v v0)) rfl ?_
        refine so_move (v := (.v (.int .i64 i103))) rfl ?_
        refine sd_idx ((g0 _ hs) : DSh _ _ 3 R_s_ii64_LeFlt_f32_poooq l0 w0) c105 (([] : List UInt8), (0 : Int), ([] : List (Nat))) (by decide) rfl rfl F42.tl59 ?_
        refine so_fieldAddr rfl F42.fd138_2 ?_
        refine su_ld ((((g0 _ hs) : DSh _ _ 3 R_s_ii64_LeFlt_f32_poooq l0 w0)).at (by decide) c105 (([] : List UInt8), (0 : Int), ([] : List (Nat)))).2.2 2 (congrArg (fun c => c[2]?) ((((g0 _ hs) : DSh _ _ 3 R_s_ii64_LeFlt_f32_poooq l0 w0)).at (by decide) c105 (([] : List UInt8), (0 : Int), ([] : List (Nat)))).2.1.1) rfl F42.ag36 ?_
        refine so_move (v := (.v (.int .i64 (IntKind.i64.wrap ((IntKind.i64.wrap (k102 + (1 : Int))) + (1 : Int)))))) rfl ?_
        refine sv_callS (laws_heldFloat32S_ok ((w0.getD (i103).toNat []).getD 2 .und) (l0.getD (i103).toNat (([] : List UInt8), (0 : Int), ([] : List (Nat)))).2.2 (IntKind.i64.wrap ((IntKind.i64.wrap (k102 + (1 : Int))) + (1 : Int))) hs (fun _ hs => ((((g0 _ hs) : DSh _ _ 3 R_s_ii64_LeFlt_f32_poooq l0 w0)).at (by decide) c105 (([] : List UInt8), (0 : Int), ([] : List (Nat)))).2.1.2) _ h) (fun _ _ ⟨_, _, _, e⟩ => e) rfl rfl ?_
        clear h
        rintro _ _ ⟨y110, h, rfl, rfl⟩
        refine so_assign (v := (.v (.int .i64 y110))) rfl ?_
        refine so_nil ?_
        refine fi_seq ?_
        refine fi_region ?_
        refine so_move (v := (.v (.int .i64 y110))) rfl ?_
        refine so_bin rfl rfl ab_lss ?_
        refine so_nil ?_
        replace h := ofP h; rcases h with ⟨c112, h⟩ | ⟨c112, h⟩
        · refine fi_true rfl (decide_eq_true c112) ?_
          refine fi_seq ?_
          refine fi_region ?_
          refine so_assign (v := (.v (.int .i64 (-1 : Int)))) rfl ?_
          refine so_nil ?_
          exact by_ret rfl ⟨_, h, rfl, rfl⟩
        · refine fi_false rfl (decide_eq_false c112) ?_
          refine fi_skip ?_
          refine fi_inBlock ?_
          refine fi_region ?_
          refine so_move (v := (.v (.int .i64 i103))) rfl ?_
          refine so_bin rfl rfl ab_add ?_
          refine so_assign (v := (.v (.int .i64 (IntKind.i64.wrap (i103 + (1 : Int)))))) rfl ?_
          refine so_nil ?_
          exact fi_at [(0, (.v v0)), (1, (.v (.int .i64 y110))), (5, (.v (.int .i64 (IntKind.i64.wrap (i103 + (1 : Int))))))] ⟨rfl, rfl, rfl, trivial⟩ (h _)
      · refine fi_true rfl (not_t (decide_eq_false c109)) ?_
        refine fi_seq ?_
        refine fi_region ?_
        refine so_assign (v := (.v (.int .i64 (-1 : Int)))) rfl ?_
        refine so_nil ?_
        exact by_ret rfl ⟨_, h, rfl, rfl⟩
    · refine fi_true rfl (not_t (decide_eq_false c108)) ?_
      refine fi_seq ?_
      refine fi_region ?_
      refine so_assign (v := (.v (.int .i64 (-1 : Int)))) rfl ?_
      refine so_nil ?_
      exact by_ret rfl ⟨_, h, rfl, rfl⟩
  · refine fi_false rfl (decide_eq_false c104) ?_
    refine fi_exit rfl ?_
    refine fi_seq ?_
    refine fi_region ?_
    refine so_move (v := (.v (.int .i64 k102))) rfl ?_
    refine so_assign (v := (.v (.int .i64 k102))) rfl ?_
    refine so_nil ?_
    exact by_ret rfl ⟨_, h, rfl, rfl⟩

end Go.Proofs.Ytkaidcgelbhofaa.G

