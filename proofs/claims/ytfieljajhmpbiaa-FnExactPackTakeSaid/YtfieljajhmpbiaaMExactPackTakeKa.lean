/-
  The model ends so. Printed by a program of the session; nothing here is trusted.
-/
import Derived.Test.YtfieljajhmpbiaaProg
import Derived.KernelRfl
import Derived.Test.YtfieljajhmpbiaaMExactPackTakeWa
namespace Go.Proofs.Ytfieljajhmpbiaa.F
open Go Go.Ab Go.Proofs
set_option maxRecDepth 100000
set_option linter.unusedVariables false
set_option linter.unusedSimpArgs false
set_option maxHeartbeats 1000000
theorem hm : Try.prog.follows .mixedOrders = true := by kernel_rfl
end Go.Proofs.Ytfieljajhmpbiaa.F

namespace Go.Proofs.Ytfieljajhmpbiaa.G
open Go Go.Ab Go.Proofs Go.Proofs.Ytfieljajhmpbiaa
set_option maxRecDepth 100000
set_option linter.unusedVariables false
set_option linter.unusedSimpArgs false
set_option maxHeartbeats 1000000
theorem F64.ti22 : (telem Try.prog 22).isSome = true := by kernel_rfl
theorem spec_l07Values_ok {fr : List Pc} {H : Heap} (v0 : AV) (l0 : List (Nat)) (hs : Sep H (fr)) (g0 : ∀ H, Sep H fr → Shows H v0 1 (enc (eFlt .f32) l0)) (K : Bool → Prop) (h : spec_l07Values.wp l0 K) : OkQ Try.prog 64 [(.v v0)] H (fun r H2 => ∃ (y0 : Bool), K y0 ∧ r = (.v (.bool y0)) ∧ Sep H2 (fr)) := by
  unfold spec_l07Values.wp at h
  refine of_body Try.f64 F.hm Try.func64 rfl Try.call64 (by kernel_rfl) (by simp) ?_
  refine fi_seq ?_
  refine fi_region ?_
  refine so_assign rfl ?_
  refine so_nil ?_
  refine fi_seq ?_
  refine fi_region ?_
  refine so_move rfl ?_
  refine sv_len (g0 _ hs) (fun _ => rfl) (by decide) rfl F64.ti22 ?_
  refine so_bin rfl rfl ab_geq ?_
  refine so_move rfl ?_
  replace h := ofP h; rcases h with ⟨c101, h⟩ | ⟨c101, h⟩
  · refine so_gyes rfl (decide_eq_true c101) ?_
    refine so_move rfl ?_
    refine so_gyes rfl (decide_eq_true c101) ?_
    refine sv_len (g0 _ hs) (fun _ => rfl) (by decide) rfl F64.ti22 ?_
    refine so_gyes rfl (decide_eq_true c101) ?_
    refine so_bin rfl rfl ab_leq ?_
    refine so_pick_t rfl (decide_eq_true c101) rfl ?_
    refine so_assign rfl ?_
    refine so_nil ?_
    exact by_ret rfl ⟨_, h, rfl, hs⟩
  · refine so_gno rfl (decide_eq_false c101) ?_
    refine so_gno rfl (decide_eq_false c101) ?_
    refine so_gno rfl (decide_eq_false c101) ?_
    refine so_pick_f rfl (decide_eq_false c101) rfl ?_
    refine so_assign rfl ?_
    refine so_nil ?_
    exact by_ret rfl ⟨_, h, rfl, hs⟩

end Go.Proofs.Ytfieljajhmpbiaa.G

namespace Go.Proofs.Ytfieljajhmpbiaa.G
open Go Go.Ab Go.Proofs Go.Proofs.Ytfieljajhmpbiaa
set_option maxRecDepth 100000
set_option linter.unusedVariables false
set_option linter.unusedSimpArgs false
set_option maxHeartbeats 1000000
theorem F141.xb141 : Try.f141.body = none := rfl
theorem F141.xe141 : Extern.find Try.f141 = some Extern.MathFloatBits.float32bits := by rfl
theorem F141.xf141 : (Extern.findNext Try.f141).isNone = true := by kernel_rfl
theorem F141.xn141 : (Try.f141.name == "runtime.NumGoroutine") = false := by kernel_rfl
theorem math_Float32bits_ok {fr : List Pc} {H : Heap} (x : Nat) (hs : Sep H fr) (K : Int → Prop) (h : math_Float32bits.wp x K) : OkQ Try.prog 141 [(.v (.flt .f32 x))] H (fun r H2 => ∃ y0 : Int, K y0 ∧ r = (.v (.int .u32 y0)) ∧ Sep H2 fr) := ⟨_, _, f32bits_ok Try.func141 F141.xn141 F141.xb141 F141.xf141 F141.xe141 x h.1, _, h.2, rfl, hs⟩

end Go.Proofs.Ytfieljajhmpbiaa.G

namespace Go.Proofs.Ytfieljajhmpbiaa.G
open Go Go.Ab Go.Proofs Go.Proofs.Ytfieljajhmpbiaa
set_option maxRecDepth 100000
set_option linter.unusedVariables false
set_option linter.unusedSimpArgs false
set_option maxHeartbeats 1000000
theorem F119.it2 : tint Try.prog 2 = some .i64 := by kernel_rfl
theorem F119.us135 : (Try.prog.underlying 135).isSome = true := by kernel_rfl
theorem spec_l01Bits_ok {fr : List Pc} {H : Heap} (a0 : Nat) (hs : Sep H (fr))  (K : Int → Prop) (h : spec_l01Bits.wp a0 K) : OkQ Try.prog 119 [(.v (.flt .f32 a0))] H (fun r H2 => ∃ (y0 : Int), K y0 ∧ r = (.v (.int .i64 y0)) ∧ Sep H2 (fr)) := by
  unfold spec_l01Bits.wp at h
  refine of_body Try.f119 F.hm Try.func119 rfl Try.call119 (by kernel_rfl) (by simp) ?_
  refine fi_seq ?_
  refine fi_region ?_
  refine so_assign rfl ?_
  refine so_nil ?_
  refine fi_seq ?_
  refine fi_seq ?_
  refine fi_region ?_
  refine so_move rfl ?_
  refine so_move rfl ?_
  refine so_bin rfl rfl ab_fneq ?_
  refine so_nil ?_
  replace h := ofT h; rcases h with ⟨c101, h⟩ | ⟨c101, h⟩
  · refine fi_true rfl c101 ?_
    refine fi_seq ?_
    refine fi_region ?_
    refine so_assign rfl ?_
    refine so_nil ?_
    exact by_ret rfl ⟨_, h, rfl, hs⟩
  · refine fi_false rfl c101 ?_
    refine fi_skip ?_
    refine fi_seq ?_
    refine fi_region ?_
    refine so_move rfl ?_
    refine sv_call (math_Float32bits_ok a0 hs  _ h) rfl rfl nofun ?_
    clear h hs
    rintro _ H103 ⟨y102, h, rfl, hs⟩
    refine sv_ii rfl F119.us135 F119.it2 ?_
    refine so_assign rfl ?_
    refine so_nil ?_
    exact by_ret rfl ⟨_, h, rfl, hs⟩

end Go.Proofs.Ytfieljajhmpbiaa.G

namespace Go.Proofs.Ytfieljajhmpbiaa.G
open Go Go.Ab Go.Proofs Go.Proofs.Ytfieljajhmpbiaa
set_option maxRecDepth 100000
set_option linter.unusedVariables false
set_option linter.unusedSimpArgs false
set_option maxHeartbeats 1000000
theorem F65.ag36 : tagg Try.prog 36 = some false := by kernel_rfl
theorem F65.it5 : tint Try.prog 5 = some .u8 := by kernel_rfl
theorem F65.sr9 : tstr Try.prog 9 = true := by kernel_rfl
theorem F65.sz5 : tsz Try.prog 5 = some 1 := by kernel_rfl
theorem F65.ta112_112 : tapp Try.prog 112 112 = some (1, 1) := by kernel_rfl
theorem F65.te112 : telem Try.prog 112 = some 5 := by kernel_rfl
theorem F65.ti22 : (telem Try.prog 22).isSome = true := by kernel_rfl
theorem F65.tl22 : (telem Try.prog 22).bind (tsz Try.prog) = some 1 := by kernel_rfl
theorem F65.us112 : (Try.prog.underlying 112).isSome = true := by kernel_rfl
theorem F65.us2 : (Try.prog.underlying 2).isSome = true := by kernel_rfl
theorem F65.ze5 : tzero Try.prog 5 = some [(.int .u8 (0 : Int))] := by kernel_rfl
theorem spec_l07Pack_ok {fr : List Pc} {H : Heap} (v0 : AV) (l0 : List (Nat)) (hs : Sep H (fr)) (g0 : ∀ H, Sep H fr → Shows H v0 1 (enc (eFlt .f32) l0)) (K : (List UInt8) → Prop) (h : spec_l07Pack.wp l0 K) : OkQ Try.prog 65 [(.v v0)] H (fun r H2 => ∃ (y0 : List UInt8), K y0 ∧ r = (.v (.str (pk y0))) ∧ Sep H2 (fr)) := by
  unfold spec_l07Pack.wp at h
  refine of_body Try.f65 F.hm Try.func65 rfl Try.call65 (by kernel_rfl) (by simp) ?_
  refine fi_seq ?_
  refine fi_region ?_
  refine so_assign rfl ?_
  refine so_nil ?_
  refine fi_seq ?_
  refine fi_region ?_
  refine sv_bslice hs (eInt .u8) ([] : List (Int)) [] F65.te112 F65.sz5 F65.ze5 rfl rfl rfl rfl (fun _ => rfl) rfl (by decide) nofun (fun v101 H102 nv101 hs => ?_)
  refine so_assign rfl ?_
  refine so_nil ?_
  refine fi_seq ?_
  refine fi_region ?_
  refine so_assign rfl ?_
  refine so_nil ?_
  refine fi_seq ?_
  refine fi_seq ?_
  refine fi_region ?_
  refine so_move rfl ?_
  refine sv_len (g0 _ hs.tl) (fun _ => rfl) (by decide) rfl F65.ti22 ?_
  refine so_move rfl ?_
  refine so_nil ?_
  refine fi_block ?_
  refine fi_loop ?_
  refine fi_at [(0, (.v v0)), (3, (.v v101)), (4, (.v (.int .i64 (0 : Int)))), (13, (.v (.int .i64 (l0.length : Int)))), (14, (.v (.int .i64 (0 : Int))))] ⟨rfl, rfl, rfl, rfl, rfl, trivial⟩ ?_
  refine h (fun (out219 : List (Int)) (before221 : Int) (x222 : Int) => ∀ (s : Nat → TV) (H : Heap) (v220 : AV) (nv220 : v220 ≠ .nilsl), Sep H (Pc.osl v220 1 (enc (eInt .u8) out219) :: fr) → Fin _ _ (updL s [(0, (.v v0)), (3, (.v v220)), (4, (.v (.int .i64 before221))), (13, (.v (.int .i64 (l0.length : Int)))), (14, (.v (.int .i64 x222)))]) H _) ?_ _ _ _ nv101 hs
  intro out219 before221 x222 h s332 H333 v220 nv220 hs
  refine fi_inLoop ?_
  refine fi_seq ?_
  refine fi_region ?_
  refine so_bin rfl rfl ab_lss ?_
  refine so_nil ?_
  refine fi_seq ?_
  replace h := ofP h; rcases h with ⟨c223, h⟩ | ⟨c223, h⟩
  · refine fi_true rfl (decide_eq_true c223) ?_
    refine fi_skip ?_
    refine fi_seq ?_
    refine fi_block ?_
    refine fi_seq ?_
    refine fi_region ?_
    refine so_move rfl ?_
    refine so_assign rfl ?_
    refine so_nil ?_
    refine fi_seq ?_
    refine fi_region ?_
    refine so_move rfl ?_
    refine so_move rfl ?_
    obtain ⟨c224, h⟩ := h
    refine sv_idx (g0 _ hs.tl) c224 (fun _ => rfl) (by decide) rfl rfl F65.tl22 ?_
    refine sv_cell (g0 _ hs.tl) c224 (0 : Nat) 0 (fun x => (AV.flt .f32 x)) (fun _ => rfl) (fun _ => rfl) rfl F65.ag36 ?_
    refine sv_call (spec_l01Bits_ok (l0.getD (x222).toNat (0 : Nat)) hs  _ h) rfl rfl nofun ?_
    clear h hs
    rintro _ H226 ⟨y225, h, rfl, hs⟩
    refine so_assign rfl ?_
    refine so_nil ?_
    refine fi_seq ?_
    refine fi_region ?_
    refine so_move rfl ?_
    refine so_move rfl ?_
    refine so_bin rfl rfl ab_xor ?_
    refine so_assign rfl ?_
    refine so_nil ?_
    refine fi_seq ?_
    refine fi_region ?_
    refine so_move rfl ?_
    refine so_assign rfl ?_
    refine so_nil ?_
    refine fi_seq ?_
    refine fi_region ?_
    refine so_assign rfl ?_
    refine so_nil ?_
    refine fi_seq ?_
    refine fi_seq ?_
    refine fi_region ?_
    refine so_assign rfl ?_
    refine so_nil ?_
    refine fi_block ?_
    refine fi_loop ?_
    refine fi_at [(0, (.v v0)), (3, (.v v220)), (4, (.v (.int .i64 y225))), (7, (.v (.int .i64 (ibits .xor .i64 y225 before221)))), (8, (.v (.int .i64 (0 : Int)))), (9, (.v (.int .i64 (16777216 : Int)))), (13, (.v (.int .i64 (l0.length : Int)))), (14, (.v (.int .i64 x222)))] ⟨rfl, rfl, rfl, rfl, rfl, rfl, rfl, rfl, trivial⟩ ?_
    refine h (fun (z228 : Int) (scale229 : Int) => ∀ (s : Nat → TV) (H : Heap), Sep H (Pc.osl v220 1 (enc (eInt .u8) out219) :: fr) → Fin _ _ (updL s [(0, (.v v0)), (3, (.v v220)), (4, (.v (.int .i64 y225))), (7, (.v (.int .i64 (ibits .xor .i64 y225 before221)))), (8, (.v (.int .i64 z228))), (9, (.v (.int .i64 scale229))), (13, (.v (.int .i64 (l0.length : Int)))), (14, (.v (.int .i64 x222)))]) H _) ?_ _ _ hs
    intro z228 scale229 h s330 H331 hs
    refine fi_inLoop ?_
    refine fi_seq ?_
    refine fi_seq ?_
    refine fi_region ?_
    refine so_move rfl ?_
    refine so_bin rfl rfl ab_lss ?_
    refine so_move rfl ?_
    replace h := ofP h; rcases h with ⟨c230, h⟩ | ⟨c230, h⟩
    · refine so_gyes rfl (decide_eq_true c230) ?_
      refine so_move rfl ?_
      refine so_gyes rfl (decide_eq_true c230) ?_
      refine so_move rfl ?_
      refine so_gyes rfl (decide_eq_true c230) ?_
      obtain ⟨c231, h⟩ := h
      refine so_bin rfl rfl (ab_quo c231) ?_
      refine so_gyes rfl (decide_eq_true c230) ?_
      refine so_bin rfl rfl ab_eql ?_
      refine so_pick_t rfl (decide_eq_true c230) rfl ?_
      refine so_nil ?_
      replace h := ofP h; rcases h with ⟨c232, h⟩ | ⟨c232, h⟩
      · refine fi_true rfl (decide_eq_true c232) ?_
        refine fi_skip ?_
        refine fi_seq ?_
        refine fi_block ?_
        refine fi_seq ?_
        refine fi_region ?_
        refine so_move rfl ?_
        refine so_bin rfl rfl ab_add ?_
        refine so_assign rfl ?_
        refine so_nil ?_
        refine fi_seq ?_
        refine fi_region ?_
        refine so_move rfl ?_
        refine so_bin rfl rfl ab_eql ?_
        refine so_nil ?_
        replace h := ofP h; rcases h with ⟨c233, h⟩ | ⟨c233, h⟩
        · refine fi_true rfl (decide_eq_true c233) ?_
          refine fi_exit rfl ?_
          refine fi_seq ?_
          refine fi_region ?_
          refine so_move rfl ?_
          refine so_move rfl ?_
          refine sv_ii rfl F65.us2 F65.it5 ?_
          refine sv_bslice hs (eInt .u8) ([(IntKind.u8.wrap (IntKind.i64.wrap (z228 + (1 : Int))))] : List (Int)) [[(.int .u8 (IntKind.u8.wrap (IntKind.i64.wrap (z228 + (1 : Int)))))]] F65.te112 F65.sz5 F65.ze5 rfl rfl rfl rfl (fun _ => rfl) rfl (by decide) nofun (fun v234 H235 nv234 hs => ?_)
          obtain ⟨c239, h⟩ := h
          refine sv_app hs 1 rfl (hs.shows 0 rfl) (fun _ => rfl) (by decide) F65.ta112_112 (by decide) c239 rfl rfl nofun (fun v237 H238 kv237 hs => ?_)
          replace hs := hs.del 0
          have nv237 := kv237 nv220
          refine so_assign rfl ?_
          refine so_nil ?_
          refine fi_seq ?_
          refine fi_region ?_
          refine so_move rfl ?_
          refine so_assign rfl ?_
          refine so_nil ?_
          refine fi_block ?_
          refine fi_loop ?_
          refine fi_at [(0, (.v v0)), (3, (.v v237)), (4, (.v (.int .i64 y225))), (7, (.v (.int .i64 (ibits .xor .i64 y225 before221)))), (10, (.v (.int .i64 (IntKind.i64.wrap (z228 + (1 : Int)))))), (13, (.v (.int .i64 (l0.length : Int)))), (14, (.v (.int .i64 x222))), (29, (.v (.int .i64 (ibits .xor .i64 y225 before221)))), (30, (.v (.int .i64 scale229))), (31, (.v (.int .i64 (IntKind.i64.wrap (Int.tdiv (ibits .xor .i64 y225 before221) scale229))))), (32, (.v (.bool (decide ((IntKind.i64.wrap (Int.tdiv (ibits .xor .i64 y225 before221) scale229)) = (0 : Int))))))] ⟨rfl, rfl, rfl, rfl, rfl, rfl, rfl, rfl, rfl, rfl, rfl, trivial⟩ ?_
          refine h (fun (out253 : List (Int)) (x255 : Int) (k256 : Int) => ∀ (s : Nat → TV) (H : Heap) (v254 : AV) (nv254 : v254 ≠ .nilsl), Sep H (Pc.osl v254 1 (enc (eInt .u8) out253) :: fr) → Fin _ _ (updL s [(0, (.v v0)), (3, (.v v254)), (4, (.v (.int .i64 y225))), (7, (.v (.int .i64 x255))), (10, (.v (.int .i64 k256))), (13, (.v (.int .i64 (l0.length : Int)))), (14, (.v (.int .i64 x222))), (29, (.v (.int .i64 (ibits .xor .i64 y225 before221)))), (30, (.v (.int .i64 scale229))), (31, (.v (.int .i64 (IntKind.i64.wrap (Int.tdiv (ibits .xor .i64 y225 before221) scale229))))), (32, (.v (.bool (decide ((IntKind.i64.wrap (Int.tdiv (ibits .xor .i64 y225 before221) scale229)) = (0 : Int))))))]) H _) ?_ _ _ _ nv237 hs
          intro out253 x255 k256 h s264 H265 v254 nv254 hs
          refine fi_inLoop ?_
          refine fi_seq ?_
          refine fi_seq ?_
          refine fi_region ?_
          refine so_move rfl ?_
          refine so_bin rfl rfl ab_lss ?_
          refine so_nil ?_
          replace h := ofP h; rcases h with ⟨c257, h⟩ | ⟨c257, h⟩
          · refine fi_true rfl (decide_eq_true c257) ?_
            refine fi_skip ?_
            refine fi_seq ?_
            refine fi_block ?_
            refine fi_seq ?_
            refine fi_region ?_
            refine so_move rfl ?_
            refine so_move rfl ?_
            refine so_bin rfl rfl (ab_rem (by decide)) ?_
            refine sv_ii rfl F65.us2 F65.it5 ?_
            refine sv_bslice hs (eInt .u8) ([(IntKind.u8.wrap (Int.tmod x255 (256 : Int)))] : List (Int)) [[(.int .u8 (IntKind.u8.wrap (Int.tmod x255 (256 : Int))))]] F65.te112 F65.sz5 F65.ze5 rfl rfl rfl rfl (fun _ => rfl) rfl (by decide) nofun (fun v258 H259 nv258 hs => ?_)
            obtain ⟨c263, h⟩ := h
            refine sv_app hs 1 rfl (hs.shows 0 rfl) (fun _ => rfl) (by decide) F65.ta112_112 (by decide) c263 rfl rfl nofun (fun v261 H262 kv261 hs => ?_)
            replace hs := hs.del 0
            have nv261 := kv261 nv254
            refine so_assign rfl ?_
            refine so_nil ?_
            refine fi_region ?_
            refine so_move rfl ?_
            refine so_bin rfl rfl (ab_quo (by decide)) ?_
            refine so_assign rfl ?_
            refine so_nil ?_
            refine fi_inBlock ?_
            refine fi_region ?_
            refine so_move rfl ?_
            refine so_bin rfl rfl ab_add ?_
            refine so_assign rfl ?_
            refine so_nil ?_
            exact fi_at [(0, (.v v0)), (3, (.v v261)), (4, (.v (.int .i64 y225))), (7, (.v (.int .i64 (IntKind.i64.wrap (Int.tdiv x255 (256 : Int)))))), (10, (.v (.int .i64 (IntKind.i64.wrap (k256 + (1 : Int)))))), (13, (.v (.int .i64 (l0.length : Int)))), (14, (.v (.int .i64 x222))), (29, (.v (.int .i64 (ibits .xor .i64 y225 before221)))), (30, (.v (.int .i64 scale229))), (31, (.v (.int .i64 (IntKind.i64.wrap (Int.tdiv (ibits .xor .i64 y225 before221) scale229))))), (32, (.v (.bool (decide ((IntKind.i64.wrap (Int.tdiv (ibits .xor .i64 y225 before221) scale229)) = (0 : Int))))))] ⟨rfl, rfl, rfl, rfl, rfl, rfl, rfl, rfl, rfl, rfl, rfl, trivial⟩ (h _ _ _ nv261 hs)
          · refine fi_false rfl (decide_eq_false c257) ?_
            refine fi_exit rfl ?_
            refine fi_inBlock ?_
            refine fi_region ?_
            refine so_bin rfl rfl ab_add ?_
            refine so_move rfl ?_
            refine so_nil ?_
            exact fi_at [(0, (.v v0)), (3, (.v v254)), (4, (.v (.int .i64 y225))), (13, (.v (.int .i64 (l0.length : Int)))), (14, (.v (.int .i64 (IntKind.i64.wrap (x222 + (1 : Int))))))] ⟨rfl, rfl, rfl, rfl, rfl, trivial⟩ (h _ _ _ nv254 hs)
        · refine fi_false rfl (decide_eq_false c233) ?_
          refine fi_skip ?_
          refine fi_inBlock ?_
          refine fi_region ?_
          refine so_move rfl ?_
          refine so_bin rfl rfl (ab_quo (by decide)) ?_
          refine so_assign rfl ?_
          refine so_nil ?_
          exact fi_at [(0, (.v v0)), (3, (.v v220)), (4, (.v (.int .i64 y225))), (7, (.v (.int .i64 (ibits .xor .i64 y225 before221)))), (8, (.v (.int .i64 (IntKind.i64.wrap (z228 + (1 : Int)))))), (9, (.v (.int .i64 (IntKind.i64.wrap (Int.tdiv scale229 (256 : Int)))))), (13, (.v (.int .i64 (l0.length : Int)))), (14, (.v (.int .i64 x222)))] ⟨rfl, rfl, rfl, rfl, rfl, rfl, rfl, rfl, trivial⟩ (h _ _  hs)
      · refine fi_false rfl (decide_eq_false c232) ?_
        refine fi_exit rfl ?_
        refine fi_seq ?_
        refine fi_region ?_
        refine so_move rfl ?_
        refine so_move rfl ?_
        refine sv_ii rfl F65.us2 F65.it5 ?_
        refine sv_bslice hs (eInt .u8) ([(IntKind.u8.wrap z228)] : List (Int)) [[(.int .u8 (IntKind.u8.wrap z228))]] F65.te112 F65.sz5 F65.ze5 rfl rfl rfl rfl (fun _ => rfl) rfl (by decide) nofun (fun v266 H267 nv266 hs => ?_)
        obtain ⟨c271, h⟩ := h
        refine sv_app hs 1 rfl (hs.shows 0 rfl) (fun _ => rfl) (by decide) F65.ta112_112 (by decide) c271 rfl rfl nofun (fun v269 H270 kv269 hs => ?_)
        replace hs := hs.del 0
        have nv269 := kv269 nv220
        refine so_assign rfl ?_
        refine so_nil ?_
        refine fi_seq ?_
        refine fi_region ?_
        refine so_move rfl ?_
        refine so_assign rfl ?_
        refine so_nil ?_
        refine fi_block ?_
        refine fi_loop ?_
        refine fi_at [(0, (.v v0)), (3, (.v v269)), (4, (.v (.int .i64 y225))), (7, (.v (.int .i64 (ibits .xor .i64 y225 before221)))), (10, (.v (.int .i64 z228))), (13, (.v (.int .i64 (l0.length : Int)))), (14, (.v (.int .i64 x222))), (29, (.v (.int .i64 (ibits .xor .i64 y225 before221)))), (30, (.v (.int .i64 scale229))), (31, (.v (.int .i64 (IntKind.i64.wrap (Int.tdiv (ibits .xor .i64 y225 before221) scale229))))), (32, (.v (.bool (decide ((IntKind.i64.wrap (Int.tdiv (ibits .xor .i64 y225 before221) scale229)) = (0 : Int))))))] ⟨rfl, rfl, rfl, rfl, rfl, rfl, rfl, rfl, rfl, rfl, rfl, trivial⟩ ?_
        refine h (fun (out285 : List (Int)) (x287 : Int) (k288 : Int) => ∀ (s : Nat → TV) (H : Heap) (v286 : AV) (nv286 : v286 ≠ .nilsl), Sep H (Pc.osl v286 1 (enc (eInt .u8) out285) :: fr) → Fin _ _ (updL s [(0, (.v v0)), (3, (.v v286)), (4, (.v (.int .i64 y225))), (7, (.v (.int .i64 x287))), (10, (.v (.int .i64 k288))), (13, (.v (.int .i64 (l0.length : Int)))), (14, (.v (.int .i64 x222))), (29, (.v (.int .i64 (ibits .xor .i64 y225 before221)))), (30, (.v (.int .i64 scale229))), (31, (.v (.int .i64 (IntKind.i64.wrap (Int.tdiv (ibits .xor .i64 y225 before221) scale229))))), (32, (.v (.bool (decide ((IntKind.i64.wrap (Int.tdiv (ibits .xor .i64 y225 before221) scale229)) = (0 : Int))))))]) H _) ?_ _ _ _ nv269 hs
        intro out285 x287 k288 h s296 H297 v286 nv286 hs
        refine fi_inLoop ?_
        refine fi_seq ?_
        refine fi_seq ?_
        refine fi_region ?_
        refine so_move rfl ?_
        refine so_bin rfl rfl ab_lss ?_
        refine so_nil ?_
        replace h := ofP h; rcases h with ⟨c289, h⟩ | ⟨c289, h⟩
        · refine fi_true rfl (decide_eq_true c289) ?_
          refine fi_skip ?_
          refine fi_seq ?_
          refine fi_block ?_
          refine fi_seq ?_
          refine fi_region ?_
          refine so_move rfl ?_
          refine so_move rfl ?_
          refine so_bin rfl rfl (ab_rem (by decide)) ?_
          refine sv_ii rfl F65.us2 F65.it5 ?_
          refine sv_bslice hs (eInt .u8) ([(IntKind.u8.wrap (Int.tmod x287 (256 : Int)))] : List (Int)) [[(.int .u8 (IntKind.u8.wrap (Int.tmod x287 (256 : Int))))]] F65.te112 F65.sz5 F65.ze5 rfl rfl rfl rfl (fun _ => rfl) rfl (by decide) nofun (fun v290 H291 nv290 hs => ?_)
          obtain ⟨c295, h⟩ := h
          refine sv_app hs 1 rfl (hs.shows 0 rfl) (fun _ => rfl) (by decide) F65.ta112_112 (by decide) c295 rfl rfl nofun (fun v293 H294 kv293 hs => ?_)
          replace hs := hs.del 0
          have nv293 := kv293 nv286
          refine so_assign rfl ?_
          refine so_nil ?_
          refine fi_region ?_
          refine so_move rfl ?_
          refine so_bin rfl rfl (ab_quo (by decide)) ?_
          refine so_assign rfl ?_
          refine so_nil ?_
          refine fi_inBlock ?_
          refine fi_region ?_
          refine so_move rfl ?_
          refine so_bin rfl rfl ab_add ?_
          refine so_assign rfl ?_
          refine so_nil ?_
          exact fi_at [(0, (.v v0)), (3, (.v v293)), (4, (.v (.int .i64 y225))), (7, (.v (.int .i64 (IntKind.i64.wrap (Int.tdiv x287 (256 : Int)))))), (10, (.v (.int .i64 (IntKind.i64.wrap (k288 + (1 : Int)))))), (13, (.v (.int .i64 (l0.length : Int)))), (14, (.v (.int .i64 x222))), (29, (.v (.int .i64 (ibits .xor .i64 y225 before221)))), (30, (.v (.int .i64 scale229))), (31, (.v (.int .i64 (IntKind.i64.wrap (Int.tdiv (ibits .xor .i64 y225 before221) scale229))))), (32, (.v (.bool (decide ((IntKind.i64.wrap (Int.tdiv (ibits .xor .i64 y225 before221) scale229)) = (0 : Int))))))] ⟨rfl, rfl, rfl, rfl, rfl, rfl, rfl, rfl, rfl, rfl, rfl, trivial⟩ (h _ _ _ nv293 hs)
        · refine fi_false rfl (decide_eq_false c289) ?_
          refine fi_exit rfl ?_
          refine fi_inBlock ?_
          refine fi_region ?_
          refine so_bin rfl rfl ab_add ?_
          refine so_move rfl ?_
          refine so_nil ?_
          exact fi_at [(0, (.v v0)), (3, (.v v286)), (4, (.v (.int .i64 y225))), (13, (.v (.int .i64 (l0.length : Int)))), (14, (.v (.int .i64 (IntKind.i64.wrap (x222 + (1 : Int))))))] ⟨rfl, rfl, rfl, rfl, rfl, trivial⟩ (h _ _ _ nv286 hs)
    · refine so_gno rfl (decide_eq_false c230) ?_
      refine so_gno rfl (decide_eq_false c230) ?_
      refine so_gno rfl (decide_eq_false c230) ?_
      refine so_gno rfl (decide_eq_false c230) ?_
      refine so_pick_f rfl (decide_eq_false c230) rfl ?_
      refine so_nil ?_
      refine fi_false rfl rfl ?_
      refine fi_exit rfl ?_
      refine fi_seq ?_
      refine fi_region ?_
      refine so_move rfl ?_
      refine so_move rfl ?_
      refine sv_ii rfl F65.us2 F65.it5 ?_
      refine sv_bslice hs (eInt .u8) ([(IntKind.u8.wrap z228)] : List (Int)) [[(.int .u8 (IntKind.u8.wrap z228))]] F65.te112 F65.sz5 F65.ze5 rfl rfl rfl rfl (fun _ => rfl) rfl (by decide) nofun (fun v298 H299 nv298 hs => ?_)
      obtain ⟨c303, h⟩ := h
      refine sv_app hs 1 rfl (hs.shows 0 rfl) (fun _ => rfl) (by decide) F65.ta112_112 (by decide) c303 rfl rfl nofun (fun v301 H302 kv301 hs => ?_)
      replace hs := hs.del 0
      have nv301 := kv301 nv220
      refine so_assign rfl ?_
      refine so_nil ?_
      refine fi_seq ?_
      refine fi_region ?_
      refine so_move rfl ?_
      refine so_assign rfl ?_
      refine so_nil ?_
      refine fi_block ?_
      refine fi_loop ?_
      refine fi_at [(0, (.v v0)), (3, (.v v301)), (4, (.v (.int .i64 y225))), (7, (.v (.int .i64 (ibits .xor .i64 y225 before221)))), (10, (.v (.int .i64 z228))), (13, (.v (.int .i64 (l0.length : Int)))), (14, (.v (.int .i64 x222)))] ⟨rfl, rfl, rfl, rfl, rfl, rfl, rfl, trivial⟩ ?_
      refine h (fun (out317 : List (Int)) (x319 : Int) (k320 : Int) => ∀ (s : Nat → TV) (H : Heap) (v318 : AV) (nv318 : v318 ≠ .nilsl), Sep H (Pc.osl v318 1 (enc (eInt .u8) out317) :: fr) → Fin _ _ (updL s [(0, (.v v0)), (3, (.v v318)), (4, (.v (.int .i64 y225))), (7, (.v (.int .i64 x319))), (10, (.v (.int .i64 k320))), (13, (.v (.int .i64 (l0.length : Int)))), (14, (.v (.int .i64 x222)))]) H _) ?_ _ _ _ nv301 hs
      intro out317 x319 k320 h s328 H329 v318 nv318 hs
      refine fi_inLoop ?_
      refine fi_seq ?_
      refine fi_seq ?_
      refine fi_region ?_
      refine so_move rfl ?_
      refine so_bin rfl rfl ab_lss ?_
      refine so_nil ?_
      replace h := ofP h; rcases h with ⟨c321, h⟩ | ⟨c321, h⟩
      · refine fi_true rfl (decide_eq_true c321) ?_
        refine fi_skip ?_
        refine fi_seq ?_
        refine fi_block ?_
        refine fi_seq ?_
        refine fi_region ?_
        refine so_move rfl ?_
        refine so_move rfl ?_
        refine so_bin rfl rfl (ab_rem (by decide)) ?_
        refine sv_ii rfl F65.us2 F65.it5 ?_
        refine sv_bslice hs (eInt .u8) ([(IntKind.u8.wrap (Int.tmod x319 (256 : Int)))] : List (Int)) [[(.int .u8 (IntKind.u8.wrap (Int.tmod x319 (256 : Int))))]] F65.te112 F65.sz5 F65.ze5 rfl rfl rfl rfl (fun _ => rfl) rfl (by decide) nofun (fun v322 H323 nv322 hs => ?_)
        obtain ⟨c327, h⟩ := h
        refine sv_app hs 1 rfl (hs.shows 0 rfl) (fun _ => rfl) (by decide) F65.ta112_112 (by decide) c327 rfl rfl nofun (fun v325 H326 kv325 hs => ?_)
        replace hs := hs.del 0
        have nv325 := kv325 nv318
        refine so_assign rfl ?_
        refine so_nil ?_
        refine fi_region ?_
        refine so_move rfl ?_
        refine so_bin rfl rfl (ab_quo (by decide)) ?_
        refine so_assign rfl ?_
        refine so_nil ?_
        refine fi_inBlock ?_
        refine fi_region ?_
        refine so_move rfl ?_
        refine so_bin rfl rfl ab_add ?_
        refine so_assign rfl ?_
        refine so_nil ?_
        exact fi_at [(0, (.v v0)), (3, (.v v325)), (4, (.v (.int .i64 y225))), (7, (.v (.int .i64 (IntKind.i64.wrap (Int.tdiv x319 (256 : Int)))))), (10, (.v (.int .i64 (IntKind.i64.wrap (k320 + (1 : Int)))))), (13, (.v (.int .i64 (l0.length : Int)))), (14, (.v (.int .i64 x222)))] ⟨rfl, rfl, rfl, rfl, rfl, rfl, rfl, trivial⟩ (h _ _ _ nv325 hs)
      · refine fi_false rfl (decide_eq_false c321) ?_
        refine fi_exit rfl ?_
        refine fi_inBlock ?_
        refine fi_region ?_
        refine so_bin rfl rfl ab_add ?_
        refine so_move rfl ?_
        refine so_nil ?_
        exact fi_at [(0, (.v v0)), (3, (.v v318)), (4, (.v (.int .i64 y225))), (13, (.v (.int .i64 (l0.length : Int)))), (14, (.v (.int .i64 (IntKind.i64.wrap (x222 + (1 : Int))))))] ⟨rfl, rfl, rfl, rfl, rfl, trivial⟩ (h _ _ _ nv318 hs)
  · refine fi_false rfl (decide_eq_false c223) ?_
    refine fi_exit rfl ?_
    refine fi_seq ?_
    refine fi_region ?_
    refine so_move rfl ?_
    refine sv_bs (hs.shows 0 rfl) nv220 rfl F65.te112 F65.it5 F65.sr9 ?_
    refine so_assign rfl ?_
    refine so_nil ?_
    exact by_ret rfl ⟨_, h, rfl, (Sep.del 0 hs)⟩

end Go.Proofs.Ytfieljajhmpbiaa.G

namespace Go.Proofs.Ytfieljajhmpbiaa.G
open Go Go.Ab Go.Proofs Go.Proofs.Ytfieljajhmpbiaa
set_option maxRecDepth 100000
set_option linter.unusedVariables false
set_option linter.unusedSimpArgs false
set_option maxHeartbeats 1000000
theorem spec_PackTake_ok {fr : List Pc} {H : Heap} (v0 : AV) (l0 : List (Nat)) (hs : Sep H (fr)) (g0 : ∀ H, Sep H fr → Shows H v0 1 (enc (eFlt .f32) l0)) (K : (List UInt8) → Bool → Prop) (h : spec_PackTake.wp l0 K) : OkQ Try.prog 20 [(.v v0)] H (fun r H2 => ∃ (y0 : List UInt8) (y1 : Bool), K y0 y1 ∧ r = (.t [(.v (.str (pk y0))), (.v (.bool y1))]) ∧ Sep H2 (fr)) := by
  unfold spec_PackTake.wp at h
  refine of_body Try.f20 F.hm Try.func20 rfl Try.call20 (by kernel_rfl) (by simp) ?_
  refine fi_seq ?_
  refine fi_region ?_
  refine so_assign rfl ?_
  refine so_assign rfl ?_
  refine so_nil ?_
  refine fi_seq ?_
  refine fi_seq ?_
  refine fi_region ?_
  refine so_move rfl ?_
  refine sv_call (spec_l07Values_ok v0 l0 hs (fun _ hs => (g0 _ hs)) _ h) rfl rfl nofun ?_
  clear h hs
  rintro _ H102 ⟨y101, h, rfl, hs⟩
  refine so_un rfl au_not ?_
  refine so_nil ?_
  replace h := ofT h; rcases h with ⟨c103, h⟩ | ⟨c103, h⟩
  · refine fi_false rfl (not_f c103) ?_
    refine fi_skip ?_
    refine fi_seq ?_
    refine fi_region ?_
    refine so_move rfl ?_
    refine sv_call (spec_l07Pack_ok v0 l0 hs (fun _ hs => (g0 _ hs)) _ h) rfl rfl nofun ?_
    clear h hs
    rintro _ H105 ⟨y104, h, rfl, hs⟩
    refine so_assign rfl ?_
    refine so_assign rfl ?_
    refine so_nil ?_
    exact by_ret rfl ⟨_, _, h, rfl, hs⟩
  · refine fi_true rfl (not_t c103) ?_
    refine fi_seq ?_
    refine fi_region ?_
    refine so_assign rfl ?_
    refine so_assign rfl ?_
    refine so_nil ?_
    exact by_ret rfl ⟨_, _, h, rfl, hs⟩

end Go.Proofs.Ytfieljajhmpbiaa.G

namespace Go.Proofs.Ytfieljajhmpbiaa.G
open Go Go.Ab Go.Proofs Go.Proofs.Ytfieljajhmpbiaa
set_option maxRecDepth 100000
set_option linter.unusedVariables false
set_option linter.unusedSimpArgs false
set_option maxHeartbeats 1000000
theorem F21.ag36 : tagg Try.prog 36 = some false := by kernel_rfl
theorem F21.by36 : tbytes Try.prog 36 = some 4 := by kernel_rfl
theorem F21.sz36 : tsz Try.prog 36 = some 1 := by kernel_rfl
theorem F21.te22 : telem Try.prog 22 = some 36 := by kernel_rfl
theorem F21.ti22 : (telem Try.prog 22).isSome = true := by kernel_rfl
theorem F21.tl22 : (telem Try.prog 22).bind (tsz Try.prog) = some 1 := by kernel_rfl
theorem F21.ze36 : tzero Try.prog 36 = some [(.flt .f32 (0 : Nat))] := by kernel_rfl
theorem laws_toFloat32S_ok {fr : List Pc} {H : Heap} (v0 : AV) (l0 : List (Nat)) (hs : Sep H (fr)) (g0 : ∀ H, Sep H fr → Shows H v0 1 (enc (eFlt .f32) l0)) (K : (List (Nat)) → Prop) (h : laws_toFloat32S.wp l0 K) : OkQ Try.prog 21 [(.v v0)] H (fun r H2 => ∃ (y0 : List (Nat)), K y0 ∧ ∃ (w0_ : AV), r = (.v w0_) ∧ Sep H2 (Pc.osl w0_ 1 (enc (eFlt .f32) y0) :: fr)) := by
  unfold laws_toFloat32S.wp at h
  refine of_body Try.f21 F.hm Try.func21 rfl Try.call21 (by kernel_rfl) (by simp) ?_
  refine fi_seq ?_
  refine fi_region ?_
  refine so_assign rfl ?_
  refine so_nil ?_
  refine fi_seq ?_
  refine fi_region ?_
  refine so_move rfl ?_
  refine sv_len (g0 _ hs) (fun _ => rfl) (by decide) rfl F21.ti22 ?_
  obtain ⟨c101, h⟩ := h
  refine sv_make hs (eFlt .f32) (0 : Nat) c101 (fun _ => rfl) rfl rfl F21.te22 F21.sz36 F21.by36 F21.ze36 rfl rfl nofun (fun v102 H103 nv102 hs => ?_)
  refine so_assign rfl ?_
  refine so_nil ?_
  refine fi_seq ?_
  refine fi_seq ?_
  refine fi_region ?_
  refine so_assign rfl ?_
  refine so_nil ?_
  refine fi_block ?_
  refine fi_loop ?_
  refine fi_at [(0, (.v v0)), (3, (.v v102)), (4, (.v (.int .i64 (0 : Int))))] ⟨rfl, rfl, rfl, trivial⟩ ?_
  refine h (fun (out112 : List (Nat)) (i113 : Int) => ∀ (s : Nat → TV) (H : Heap), Sep H (Pc.osl v102 1 (enc (eFlt .f32) out112) :: fr) → Fin _ _ (updL s [(0, (.v v0)), (3, (.v v102)), (4, (.v (.int .i64 i113)))]) H _) ?_ _ _ hs
  intro out112 i113 h s118 H119 hs
  refine fi_inLoop ?_
  refine fi_seq ?_
  refine fi_seq ?_
  refine fi_region ?_
  refine so_move rfl ?_
  refine so_move rfl ?_
  refine sv_len (g0 _ hs.tl) (fun _ => rfl) (by decide) rfl F21.ti22 ?_
  refine so_bin rfl rfl ab_lss ?_
  refine so_nil ?_
  replace h := ofP h; rcases h with ⟨c114, h⟩ | ⟨c114, h⟩
  · refine fi_true rfl (decide_eq_true c114) ?_
    refine fi_skip ?_
    refine fi_seq ?_
    refine fi_block ?_
    refine fi_region ?_
    refine so_move rfl ?_
    refine so_move rfl ?_
    refine so_move rfl ?_
    refine so_move rfl ?_
    obtain ⟨c115, h⟩ := h
    refine sv_idx (g0 _ hs.tl) c115 (fun _ => rfl) (by decide) rfl rfl F21.tl22 ?_
    refine sv_cell (g0 _ hs.tl) c115 (0 : Nat) 0 (fun x => (AV.flt .f32 x)) (fun _ => rfl) (fun _ => rfl) rfl F21.ag36 ?_
    obtain ⟨c116, h⟩ := h
    refine sv_idx (hs.shows 0 rfl) c116 (fun _ => rfl) (by decide) rfl rfl F21.tl22 ?_
    refine sv_set hs 0 rfl c116 (l0.getD (i113).toNat (0 : Nat)) (fun _ => rfl) (by decide) rfl rfl rfl rfl F21.sz36 nofun (fun H117 hs => ?_)
    refine so_nil ?_
    refine fi_inBlock ?_
    refine fi_region ?_
    refine so_move rfl ?_
    refine so_bin rfl rfl ab_add ?_
    refine so_assign rfl ?_
    refine so_nil ?_
    exact fi_at [(0, (.v v0)), (3, (.v v102)), (4, (.v (.int .i64 (IntKind.i64.wrap (i113 + (1 : Int))))))] ⟨rfl, rfl, rfl, trivial⟩ (h _ _  hs)
  · refine fi_false rfl (decide_eq_false c114) ?_
    refine fi_exit rfl ?_
    refine fi_seq ?_
    refine fi_region ?_
    refine so_move rfl ?_
    refine so_assign rfl ?_
    refine so_nil ?_
    exact by_ret rfl ⟨_, h, _, rfl, hs⟩

end Go.Proofs.Ytfieljajhmpbiaa.G

namespace Go.Proofs.Ytfieljajhmpbiaa.G
open Go Go.Ab Go.Proofs Go.Proofs.Ytfieljajhmpbiaa
set_option maxRecDepth 100000
set_option linter.unusedVariables false
set_option linter.unusedSimpArgs false
set_option maxHeartbeats 1000000
theorem impl_within_ok {fr : List Pc} {H : Heap} (a0 : Int) (a1 : Int) (a2 : Int) (hs : Sep H (fr))  (K : Bool → Prop) (h : impl_within.wp a0 a1 a2 K) : OkQ Try.prog 63 [(.v (.int .i64 a0)), (.v (.int .i64 a1)), (.v (.int .i64 a2))] H (fun r H2 => ∃ (y0 : Bool), K y0 ∧ r = (.v (.bool y0)) ∧ Sep H2 (fr)) := by
  unfold impl_within.wp at h
  refine of_body Try.f63 F.hm Try.func63 rfl Try.call63 (by kernel_rfl) (by simp) ?_
  refine fi_seq ?_
  refine fi_region ?_
  refine so_assign rfl ?_
  refine so_nil ?_
  refine fi_seq ?_
  refine fi_region ?_
  refine so_move rfl ?_
  refine so_move rfl ?_
  refine so_bin rfl rfl ab_geq ?_
  refine so_move rfl ?_
  replace h := ofP h; rcases h with ⟨c101, h⟩ | ⟨c101, h⟩
  · refine so_gyes rfl (decide_eq_true c101) ?_
    refine so_move rfl ?_
    refine so_gyes rfl (decide_eq_true c101) ?_
    refine so_move rfl ?_
    refine so_gyes rfl (decide_eq_true c101) ?_
    refine so_bin rfl rfl ab_leq ?_
    refine so_pick_t rfl (decide_eq_true c101) rfl ?_
    refine so_assign rfl ?_
    refine so_nil ?_
    exact by_ret rfl ⟨_, h, rfl, hs⟩
  · refine so_gno rfl (decide_eq_false c101) ?_
    refine so_gno rfl (decide_eq_false c101) ?_
    refine so_gno rfl (decide_eq_false c101) ?_
    refine so_pick_f rfl (decide_eq_false c101) rfl ?_
    refine so_assign rfl ?_
    refine so_nil ?_
    exact by_ret rfl ⟨_, h, rfl, hs⟩

end Go.Proofs.Ytfieljajhmpbiaa.G

namespace Go.Proofs.Ytfieljajhmpbiaa.G
open Go Go.Ab Go.Proofs Go.Proofs.Ytfieljajhmpbiaa
set_option maxRecDepth 100000
set_option linter.unusedVariables false
set_option linter.unusedSimpArgs false
set_option maxHeartbeats 1000000
theorem F120.it2 : tint Try.prog 2 = some .i64 := by kernel_rfl
theorem F120.us135 : (Try.prog.underlying 135).isSome = true := by kernel_rfl
theorem impl_BitsOf_ok {fr : List Pc} {H : Heap} (a0 : Nat) (hs : Sep H (fr))  (K : Int → Prop) (h : impl_BitsOf.wp a0 K) : OkQ Try.prog 120 [(.v (.flt .f32 a0))] H (fun r H2 => ∃ (y0 : Int), K y0 ∧ r = (.v (.int .i64 y0)) ∧ Sep H2 (fr)) := by
  unfold impl_BitsOf.wp at h
  refine of_body Try.f120 F.hm Try.func120 rfl Try.call120 (by kernel_rfl) (by simp) ?_
  refine fi_seq ?_
  refine fi_region ?_
  refine so_assign rfl ?_
  refine so_nil ?_
  refine fi_seq ?_
  refine fi_seq ?_
  refine fi_region ?_
  refine so_move rfl ?_
  refine so_move rfl ?_
  refine so_bin rfl rfl ab_fneq ?_
  refine so_nil ?_
  replace h := ofT h; rcases h with ⟨c101, h⟩ | ⟨c101, h⟩
  · refine fi_true rfl c101 ?_
    refine fi_seq ?_
    refine fi_region ?_
    refine so_assign rfl ?_
    refine so_nil ?_
    exact by_ret rfl ⟨_, h, rfl, hs⟩
  · refine fi_false rfl c101 ?_
    refine fi_skip ?_
    refine fi_seq ?_
    refine fi_region ?_
    refine so_move rfl ?_
    refine sv_call (math_Float32bits_ok a0 hs  _ h) rfl rfl nofun ?_
    clear h hs
    rintro _ H103 ⟨y102, h, rfl, hs⟩
    refine sv_ii rfl F120.us135 F120.it2 ?_
    refine so_assign rfl ?_
    refine so_nil ?_
    exact by_ret rfl ⟨_, h, rfl, hs⟩

end Go.Proofs.Ytfieljajhmpbiaa.G

namespace Go.Proofs.Ytfieljajhmpbiaa.G
open Go Go.Ab Go.Proofs Go.Proofs.Ytfieljajhmpbiaa
set_option maxRecDepth 100000
set_option linter.unusedVariables false
set_option linter.unusedSimpArgs false
set_option maxHeartbeats 1000000
theorem F66.ag36 : tagg Try.prog 36 = some false := by kernel_rfl
theorem F66.it5 : tint Try.prog 5 = some .u8 := by kernel_rfl
theorem F66.sr9 : tstr Try.prog 9 = true := by kernel_rfl
theorem F66.sz5 : tsz Try.prog 5 = some 1 := by kernel_rfl
theorem F66.ta112_112 : tapp Try.prog 112 112 = some (1, 1) := by kernel_rfl
theorem F66.te112 : telem Try.prog 112 = some 5 := by kernel_rfl
theorem F66.ti22 : (telem Try.prog 22).isSome = true := by kernel_rfl
theorem F66.tl22 : (telem Try.prog 22).bind (tsz Try.prog) = some 1 := by kernel_rfl
theorem F66.us112 : (Try.prog.underlying 112).isSome = true := by kernel_rfl
theorem F66.us2 : (Try.prog.underlying 2).isSome = true := by kernel_rfl
theorem F66.us3 : (Try.prog.underlying 3).isSome = true := by kernel_rfl
theorem F66.ze5 : tzero Try.prog 5 = some [(.int .u8 (0 : Int))] := by kernel_rfl
theorem impl_packed_ok {fr : List Pc} {H : Heap} (v0 : AV) (l0 : List (Nat)) (hs : Sep H (fr)) (g0 : ∀ H, Sep H fr → Shows H v0 1 (enc (eFlt .f32) l0)) (K : (List UInt8) → Prop) (h : impl_packed.wp l0 K) : OkQ Try.prog 66 [(.v v0)] H (fun r H2 => ∃ (y0 : List UInt8), K y0 ∧ r = (.v (.str (pk y0))) ∧ Sep H2 (fr)) := by
  unfold impl_packed.wp at h
  refine of_body Try.f66 F.hm Try.func66 rfl Try.call66 (by kernel_rfl) (by simp) ?_
  refine fi_seq ?_
  refine fi_region ?_
  refine so_assign rfl ?_
  refine so_nil ?_
  refine fi_seq ?_
  refine fi_region ?_
  refine sv_bslice hs (eInt .u8) ([] : List (Int)) [] F66.te112 F66.sz5 F66.ze5 rfl rfl rfl rfl (fun _ => rfl) rfl (by decide) nofun (fun v101 H102 nv101 hs => ?_)
  refine so_assign rfl ?_
  refine so_assign rfl ?_
  refine so_nil ?_
  refine fi_seq ?_
  refine fi_seq ?_
  refine fi_region ?_
  refine so_move rfl ?_
  refine sv_len (g0 _ hs.tl) (fun _ => rfl) (by decide) rfl F66.ti22 ?_
  refine so_move rfl ?_
  refine so_nil ?_
  refine fi_block ?_
  refine fi_loop ?_
  refine fi_at [(3, (.v v101)), (4, (.v (.int .i64 (0 : Int)))), (12, (.v v0)), (13, (.v (.int .i64 (l0.length : Int)))), (14, (.v (.int .i64 (0 : Int))))] ⟨rfl, rfl, rfl, rfl, rfl, trivial⟩ ?_
  refine h (fun (out152 : List (Int)) (last154 : Int) (x155 : Int) => ∀ (s : Nat → TV) (H : Heap) (v153 : AV) (nv153 : v153 ≠ .nilsl), Sep H (Pc.osl v153 1 (enc (eInt .u8) out152) :: fr) → Fin _ _ (updL s [(3, (.v v153)), (4, (.v (.int .i64 last154))), (12, (.v v0)), (13, (.v (.int .i64 (l0.length : Int)))), (14, (.v (.int .i64 x155)))]) H _) ?_ _ _ _ nv101 hs
  intro out152 last154 x155 h s198 H199 v153 nv153 hs
  refine fi_inLoop ?_
  refine fi_seq ?_
  refine fi_region ?_
  refine so_bin rfl rfl ab_lss ?_
  refine so_nil ?_
  refine fi_seq ?_
  replace h := ofP h; rcases h with ⟨c156, h⟩ | ⟨c156, h⟩
  · refine fi_true rfl (decide_eq_true c156) ?_
    refine fi_skip ?_
    refine fi_seq ?_
    refine fi_block ?_
    refine fi_seq ?_
    refine fi_region ?_
    obtain ⟨c157, h⟩ := h
    refine sv_idx (g0 _ hs.tl) c157 (fun _ => rfl) (by decide) rfl rfl F66.tl22 ?_
    refine sv_cell (g0 _ hs.tl) c157 (0 : Nat) 0 (fun x => (AV.flt .f32 x)) (fun _ => rfl) (fun _ => rfl) rfl F66.ag36 ?_
    refine so_assign rfl ?_
    refine so_nil ?_
    refine fi_seq ?_
    refine fi_region ?_
    refine so_move rfl ?_
    refine sv_call (impl_BitsOf_ok (l0.getD (x155).toNat (0 : Nat)) hs  _ h) rfl rfl nofun ?_
    clear h hs
    rintro _ H159 ⟨y158, h, rfl, hs⟩
    refine so_assign rfl ?_
    refine so_nil ?_
    refine fi_seq ?_
    refine fi_region ?_
    refine so_move rfl ?_
    refine so_move rfl ?_
    refine so_bin rfl rfl ab_xor ?_
    refine so_assign rfl ?_
    refine so_nil ?_
    refine fi_seq ?_
    refine fi_region ?_
    refine so_move rfl ?_
    refine so_assign rfl ?_
    refine so_nil ?_
    refine fi_seq ?_
    refine fi_region ?_
    refine so_assign rfl ?_
    refine so_nil ?_
    refine fi_seq ?_
    refine fi_seq ?_
    refine fi_region ?_
    refine so_move rfl ?_
    refine so_assign rfl ?_
    refine so_nil ?_
    refine fi_block ?_
    refine fi_loop ?_
    refine fi_at [(3, (.v v153)), (4, (.v (.int .i64 y158))), (8, (.v (.int .i64 (ibits .xor .i64 y158 last154)))), (9, (.v (.int .i64 (4 : Int)))), (10, (.v (.int .i64 (ibits .xor .i64 y158 last154)))), (12, (.v v0)), (13, (.v (.int .i64 (l0.length : Int)))), (14, (.v (.int .i64 x155)))] ⟨rfl, rfl, rfl, rfl, rfl, rfl, rfl, rfl, trivial⟩ ?_
    refine h (fun (z161 : Int) (m162 : Int) => ∀ (s : Nat → TV) (H : Heap), Sep H (Pc.osl v153 1 (enc (eInt .u8) out152) :: fr) → Fin _ _ (updL s [(3, (.v v153)), (4, (.v (.int .i64 y158))), (8, (.v (.int .i64 (ibits .xor .i64 y158 last154)))), (9, (.v (.int .i64 z161))), (10, (.v (.int .i64 m162))), (12, (.v v0)), (13, (.v (.int .i64 (l0.length : Int)))), (14, (.v (.int .i64 x155)))]) H _) ?_ _ _ hs
    intro z161 m162 h s196 H197 hs
    refine fi_inLoop ?_
    refine fi_seq ?_
    refine fi_seq ?_
    refine fi_region ?_
    refine so_move rfl ?_
    refine so_bin rfl rfl ab_gtr ?_
    refine so_nil ?_
    replace h := ofP h; rcases h with ⟨c163, h⟩ | ⟨c163, h⟩
    · refine fi_true rfl (decide_eq_true c163) ?_
      refine fi_skip ?_
      refine fi_seq ?_
      refine fi_block ?_
      refine fi_region ?_
      refine so_move rfl ?_
      refine so_bin rfl rfl ab_sub ?_
      refine so_assign rfl ?_
      refine so_nil ?_
      refine fi_inBlock ?_
      refine fi_region ?_
      refine so_move rfl ?_
      refine so_bin rfl rfl (ab_shr (by decide)) ?_
      refine so_assign rfl ?_
      refine so_nil ?_
      exact fi_at [(3, (.v v153)), (4, (.v (.int .i64 y158))), (8, (.v (.int .i64 (ibits .xor .i64 y158 last154)))), (9, (.v (.int .i64 (IntKind.i64.wrap (z161 - (1 : Int)))))), (10, (.v (.int .i64 (Int.fdiv m162 (2 ^ (min ((8 : Int)).toNat IntKind.i64.bits)))))), (12, (.v v0)), (13, (.v (.int .i64 (l0.length : Int)))), (14, (.v (.int .i64 x155)))] ⟨rfl, rfl, rfl, rfl, rfl, rfl, rfl, rfl, trivial⟩ (h _ _  hs)
    · refine fi_false rfl (decide_eq_false c163) ?_
      refine fi_exit rfl ?_
      refine fi_seq ?_
      refine fi_region ?_
      refine so_move rfl ?_
      refine so_move rfl ?_
      refine sv_ii rfl F66.us3 F66.it5 ?_
      refine sv_bslice hs (eInt .u8) ([(IntKind.u8.wrap z161)] : List (Int)) [[(.int .u8 (IntKind.u8.wrap z161))]] F66.te112 F66.sz5 F66.ze5 rfl rfl rfl rfl (fun _ => rfl) rfl (by decide) nofun (fun v164 H165 nv164 hs => ?_)
      obtain ⟨c169, h⟩ := h
      refine sv_app hs 1 rfl (hs.shows 0 rfl) (fun _ => rfl) (by decide) F66.ta112_112 (by decide) c169 rfl rfl nofun (fun v167 H168 kv167 hs => ?_)
      replace hs := hs.del 0
      have nv167 := kv167 nv153
      refine so_assign rfl ?_
      refine so_nil ?_
      refine fi_seq ?_
      refine fi_region ?_
      refine so_move rfl ?_
      refine so_bin rfl rfl ab_sub ?_
      refine so_move rfl ?_
      refine so_nil ?_
      refine fi_block ?_
      refine fi_loop ?_
      refine fi_at [(3, (.v v167)), (4, (.v (.int .i64 y158))), (8, (.v (.int .i64 (ibits .xor .i64 y158 last154)))), (12, (.v v0)), (13, (.v (.int .i64 (l0.length : Int)))), (14, (.v (.int .i64 x155))), (37, (.v (.int .i64 (IntKind.i64.wrap ((4 : Int) - z161))))), (38, (.v (.int .i64 (0 : Int))))] ⟨rfl, rfl, rfl, rfl, rfl, rfl, rfl, rfl, trivial⟩ ?_
      refine h (fun (out183 : List (Int)) (more185 : Int) (x186 : Int) => ∀ (s : Nat → TV) (H : Heap) (v184 : AV) (nv184 : v184 ≠ .nilsl), Sep H (Pc.osl v184 1 (enc (eInt .u8) out183) :: fr) → Fin _ _ (updL s [(3, (.v v184)), (4, (.v (.int .i64 y158))), (8, (.v (.int .i64 more185))), (12, (.v v0)), (13, (.v (.int .i64 (l0.length : Int)))), (14, (.v (.int .i64 x155))), (37, (.v (.int .i64 (IntKind.i64.wrap ((4 : Int) - z161))))), (38, (.v (.int .i64 x186)))]) H _) ?_ _ _ _ nv167 hs
      intro out183 more185 x186 h s194 H195 v184 nv184 hs
      refine fi_inLoop ?_
      refine fi_seq ?_
      refine fi_region ?_
      refine so_bin rfl rfl ab_lss ?_
      refine so_nil ?_
      refine fi_seq ?_
      replace h := ofP h; rcases h with ⟨c187, h⟩ | ⟨c187, h⟩
      · refine fi_true rfl (decide_eq_true c187) ?_
        refine fi_skip ?_
        refine fi_seq ?_
        refine fi_block ?_
        refine fi_seq ?_
        refine fi_region ?_
        refine so_move rfl ?_
        refine so_move rfl ?_
        refine sv_ii rfl F66.us2 F66.it5 ?_
        refine sv_bslice hs (eInt .u8) ([(IntKind.u8.wrap more185)] : List (Int)) [[(.int .u8 (IntKind.u8.wrap more185))]] F66.te112 F66.sz5 F66.ze5 rfl rfl rfl rfl (fun _ => rfl) rfl (by decide) nofun (fun v188 H189 nv188 hs => ?_)
        obtain ⟨c193, h⟩ := h
        refine sv_app hs 1 rfl (hs.shows 0 rfl) (fun _ => rfl) (by decide) F66.ta112_112 (by decide) c193 rfl rfl nofun (fun v191 H192 kv191 hs => ?_)
        replace hs := hs.del 0
        have nv191 := kv191 nv184
        refine so_assign rfl ?_
        refine so_nil ?_
        refine fi_region ?_
        refine so_move rfl ?_
        refine so_bin rfl rfl (ab_shr (by decide)) ?_
        refine so_assign rfl ?_
        refine so_nil ?_
        refine fi_inBlock ?_
        refine fi_region ?_
        refine so_bin rfl rfl ab_add ?_
        refine so_move rfl ?_
        refine so_nil ?_
        exact fi_at [(3, (.v v191)), (4, (.v (.int .i64 y158))), (8, (.v (.int .i64 (Int.fdiv more185 (2 ^ (min ((8 : Int)).toNat IntKind.i64.bits)))))), (12, (.v v0)), (13, (.v (.int .i64 (l0.length : Int)))), (14, (.v (.int .i64 x155))), (37, (.v (.int .i64 (IntKind.i64.wrap ((4 : Int) - z161))))), (38, (.v (.int .i64 (IntKind.i64.wrap (x186 + (1 : Int))))))] ⟨rfl, rfl, rfl, rfl, rfl, rfl, rfl, rfl, trivial⟩ (h _ _ _ nv191 hs)
      · refine fi_false rfl (decide_eq_false c187) ?_
        refine fi_exit rfl ?_
        refine fi_inBlock ?_
        refine fi_region ?_
        refine so_bin rfl rfl ab_add ?_
        refine so_move rfl ?_
        refine so_nil ?_
        exact fi_at [(3, (.v v184)), (4, (.v (.int .i64 y158))), (12, (.v v0)), (13, (.v (.int .i64 (l0.length : Int)))), (14, (.v (.int .i64 (IntKind.i64.wrap (x155 + (1 : Int))))))] ⟨rfl, rfl, rfl, rfl, rfl, trivial⟩ (h _ _ _ nv184 hs)
  · refine fi_false rfl (decide_eq_false c156) ?_
    refine fi_exit rfl ?_
    refine fi_seq ?_
    refine fi_region ?_
    refine so_move rfl ?_
    refine sv_bs (hs.shows 0 rfl) nv153 rfl F66.te112 F66.it5 F66.sr9 ?_
    refine so_assign rfl ?_
    refine so_nil ?_
    exact by_ret rfl ⟨_, h, rfl, (Sep.del 0 hs)⟩

end Go.Proofs.Ytfieljajhmpbiaa.G

namespace Go.Proofs.Ytfieljajhmpbiaa.G
open Go Go.Ab Go.Proofs Go.Proofs.Ytfieljajhmpbiaa
set_option maxRecDepth 100000
set_option linter.unusedVariables false
set_option linter.unusedSimpArgs false
set_option maxHeartbeats 1000000
theorem F22.ti22 : (telem Try.prog 22).isSome = true := by kernel_rfl
theorem impl_PackTake_ok {fr : List Pc} {H : Heap} (v0 : AV) (l0 : List (Nat)) (hs : Sep H (fr)) (g0 : ∀ H, Sep H fr → Shows H v0 1 (enc (eFlt .f32) l0)) (K : (List UInt8) → Bool → Prop) (h : impl_PackTake.wp l0 K) : OkQ Try.prog 22 [(.v v0)] H (fun r H2 => ∃ (y0 : List UInt8) (y1 : Bool), K y0 y1 ∧ r = (.t [(.v (.str (pk y0))), (.v (.bool y1))]) ∧ Sep H2 (fr)) := by
  unfold impl_PackTake.wp at h
  refine of_body Try.f22 F.hm Try.func22 rfl Try.call22 (by kernel_rfl) (by simp) ?_
  refine fi_seq ?_
  refine fi_region ?_
  refine so_assign rfl ?_
  refine so_assign rfl ?_
  refine so_nil ?_
  refine fi_seq ?_
  refine fi_seq ?_
  refine fi_region ?_
  refine so_move rfl ?_
  refine sv_len (g0 _ hs) (fun _ => rfl) (by decide) rfl F22.ti22 ?_
  refine sv_call (impl_within_ok (l0.length : Int) (1 : Int) (128 : Int) hs  _ h) rfl rfl nofun ?_
  clear h hs
  rintro _ H102 ⟨y101, h, rfl, hs⟩
  refine so_un rfl au_not ?_
  refine so_nil ?_
  replace h := ofT h; rcases h with ⟨c103, h⟩ | ⟨c103, h⟩
  · refine fi_false rfl (not_f c103) ?_
    refine fi_skip ?_
    refine fi_seq ?_
    refine fi_region ?_
    refine so_move rfl ?_
    refine sv_call (impl_packed_ok v0 l0 hs (fun _ hs => (g0 _ hs)) _ h) rfl rfl nofun ?_
    clear h hs
    rintro _ H105 ⟨y104, h, rfl, hs⟩
    refine so_assign rfl ?_
    refine so_assign rfl ?_
    refine so_nil ?_
    exact by_ret rfl ⟨_, _, h, rfl, hs⟩
  · refine fi_true rfl (not_t c103) ?_
    refine fi_seq ?_
    refine fi_region ?_
    refine so_assign rfl ?_
    refine so_assign rfl ?_
    refine so_nil ?_
    exact by_ret rfl ⟨_, _, h, rfl, hs⟩

end Go.Proofs.Ytfieljajhmpbiaa.G

namespace Go.Proofs.Ytfieljajhmpbiaa.G
open Go Go.Ab Go.Proofs Go.Proofs.Ytfieljajhmpbiaa
set_option maxRecDepth 100000
set_option linter.unusedVariables false
set_option linter.unusedSimpArgs false
set_option maxHeartbeats 1000000
theorem F67.tb4 : tbool Try.prog 4 = true := by kernel_rfl
theorem laws_sameFloat_ok {fr : List Pc} {H : Heap} (a0 : Nat) (a1 : Nat) (hs : Sep H (fr))  (K : Bool → Prop) (h : laws_sameFloat.wp a0 a1 K) : OkQ Try.prog 67 [(.v (.flt .f64 a0)), (.v (.flt .f64 a1))] H (fun r H2 => ∃ (y0 : Bool), K y0 ∧ r = (.v (.bool y0)) ∧ Sep H2 (fr)) := by
  unfold laws_sameFloat.wp at h
  refine of_body Try.f67 F.hm Try.func67 rfl Try.call67 (by kernel_rfl) (by simp) ?_
  refine fi_seq ?_
  refine fi_region ?_
  refine so_assign rfl ?_
  refine so_nil ?_
  refine fi_seq ?_
  refine fi_seq ?_
  refine fi_region ?_
  refine so_move rfl ?_
  refine so_move rfl ?_
  refine so_bin rfl rfl ab_fneq ?_
  refine so_move rfl ?_
  replace h := ofT h; rcases h with ⟨c101, h⟩ | ⟨c101, h⟩
  · refine so_gno rfl c101 ?_
    refine so_gno rfl c101 ?_
    refine so_gno rfl c101 ?_
    refine so_pick_t rfl c101 rfl ?_
    refine so_nil ?_
    refine fi_true rfl rfl ?_
    refine fi_seq ?_
    refine fi_region ?_
    refine so_move rfl ?_
    refine so_move rfl ?_
    refine so_bin rfl rfl ab_fneq ?_
    refine so_move rfl ?_
    refine so_gyes rfl c101 ?_
    refine so_move rfl ?_
    refine so_gyes rfl c101 ?_
    refine so_move rfl ?_
    refine so_gyes rfl c101 ?_
    refine so_bin rfl rfl ab_fneq ?_
    refine so_pick_t rfl c101 rfl ?_
    refine so_assign rfl ?_
    refine so_nil ?_
    exact by_ret rfl ⟨_, h, rfl, hs⟩
  · refine so_gyes rfl c101 ?_
    refine so_move rfl ?_
    refine so_gyes rfl c101 ?_
    refine so_move rfl ?_
    refine so_gyes rfl c101 ?_
    refine so_bin rfl rfl ab_fneq ?_
    refine so_pick_f rfl c101 rfl ?_
    refine so_nil ?_
    replace h := ofT h; rcases h with ⟨c102, h⟩ | ⟨c102, h⟩
    · refine fi_true rfl c102 ?_
      refine fi_seq ?_
      refine fi_region ?_
      refine so_move rfl ?_
      refine so_move rfl ?_
      refine so_bin rfl rfl ab_fneq ?_
      refine so_move rfl ?_
      refine so_gno rfl c101 ?_
      refine so_gno rfl c101 ?_
      refine so_gno rfl c101 ?_
      refine so_pick_f rfl c101 rfl ?_
      refine so_assign rfl ?_
      refine so_nil ?_
      exact by_ret rfl ⟨_, h, rfl, hs⟩
    · refine fi_false rfl c102 ?_
      refine fi_skip ?_
      refine fi_seq ?_
      refine fi_seq ?_
      refine fi_region ?_
      refine so_move rfl ?_
      refine so_bin rfl rfl ab_feql ?_
      refine so_move rfl ?_
      replace h := ofT h; rcases h with ⟨c103, h⟩ | ⟨c103, h⟩
      · refine so_gyes rfl c103 ?_
        refine so_move rfl ?_
        refine so_gyes rfl c103 ?_
        refine so_bin rfl rfl ab_feql ?_
        refine so_pick_t rfl c103 rfl ?_
        refine so_nil ?_
        replace h := ofT h; rcases h with ⟨c104, h⟩ | ⟨c104, h⟩
        · refine fi_true rfl c104 ?_
          refine fi_seq ?_
          refine fi_region ?_
          refine so_move rfl ?_
          refine so_bin rfl rfl ab_fquo ?_
          refine so_bin rfl rfl ab_fgtr ?_
          refine so_move rfl ?_
          refine so_bin rfl rfl ab_fquo ?_
          refine so_bin rfl rfl ab_fgtr ?_
          refine so_bin rfl rfl (ab_beql F67.tb4) ?_
          refine so_assign rfl ?_
          refine so_nil ?_
          exact by_ret rfl ⟨_, h, rfl, hs⟩
        · refine fi_false rfl c104 ?_
          refine fi_skip ?_
          refine fi_seq ?_
          refine fi_region ?_
          refine so_move rfl ?_
          refine so_move rfl ?_
          refine so_bin rfl rfl ab_feql ?_
          refine so_assign rfl ?_
          refine so_nil ?_
          exact by_ret rfl ⟨_, h, rfl, hs⟩
      · refine so_gno rfl c103 ?_
        refine so_gno rfl c103 ?_
        refine so_pick_f rfl c103 rfl ?_
        refine so_nil ?_
        refine fi_false rfl rfl ?_
        refine fi_skip ?_
        refine fi_seq ?_
        refine fi_region ?_
        refine so_move rfl ?_
        refine so_move rfl ?_
        refine so_bin rfl rfl ab_feql ?_
        refine so_assign rfl ?_
        refine so_nil ?_
        exact by_ret rfl ⟨_, h, rfl, hs⟩

end Go.Proofs.Ytfieljajhmpbiaa.G

namespace Go.Proofs.Ytfieljajhmpbiaa.G
open Go Go.Ab Go.Proofs Go.Proofs.Ytfieljajhmpbiaa
set_option maxRecDepth 100000
set_option linter.unusedVariables false
set_option linter.unusedSimpArgs false
set_option maxHeartbeats 1000000
theorem F23.ag36 : tagg Try.prog 36 = some false := by kernel_rfl
theorem F23.fl94 : tflt Try.prog 94 = some .f64 := by kernel_rfl
theorem F23.in94 : tint Try.prog 94 = none := by kernel_rfl
theorem F23.ti22 : (telem Try.prog 22).isSome = true := by kernel_rfl
theorem F23.tl22 : (telem Try.prog 22).bind (tsz Try.prog) = some 1 := by kernel_rfl
theorem F23.us36 : (Try.prog.underlying 36).isSome = true := by kernel_rfl
theorem laws_eqFloat32S_ok {fr : List Pc} {H : Heap} (v0 : AV) (l0 : List (Nat)) (v1 : AV) (l1 : List (Nat)) (hs : Sep H (fr)) (g0 : ∀ H, Sep H fr → Shows H v0 1 (enc (eFlt .f32) l0)) (g1 : ∀ H, Sep H fr → Shows H v1 1 (enc (eFlt .f32) l1)) (K : Bool → Prop) (h : laws_eqFloat32S.wp l0 l1 K) : OkQ Try.prog 23 [(.v v0), (.v v1)] H (fun r H2 => ∃ (y0 : Bool), K y0 ∧ r = (.v (.bool y0)) ∧ Sep H2 (fr)) := by
  unfold laws_eqFloat32S.wp at h
  refine of_body Try.f23 F.hm Try.func23 rfl Try.call23 (by kernel_rfl) (by simp) ?_
  refine fi_seq ?_
  refine fi_region ?_
  refine so_assign rfl ?_
  refine so_nil ?_
  refine fi_seq ?_
  refine fi_seq ?_
  refine fi_region ?_
  refine so_move rfl ?_
  refine sv_len (g0 _ hs) (fun _ => rfl) (by decide) rfl F23.ti22 ?_
  refine so_move rfl ?_
  refine sv_len (g1 _ hs) (fun _ => rfl) (by decide) rfl F23.ti22 ?_
  refine so_bin rfl rfl ab_neq ?_
  refine so_nil ?_
  replace h := ofP h; rcases h with ⟨c101, h⟩ | ⟨c101, h⟩
  · refine fi_false rfl (not_f (decide_eq_true c101)) ?_
    refine fi_skip ?_
    refine fi_seq ?_
    refine fi_seq ?_
    refine fi_region ?_
    refine so_assign rfl ?_
    refine so_nil ?_
    refine fi_block ?_
    refine fi_loop ?_
    refine fi_at [(0, (.v v0)), (1, (.v v1)), (5, (.v (.int .i64 (0 : Int))))] ⟨rfl, rfl, rfl, trivial⟩ ?_
    refine h (fun (i103 : Int) => ∀ (s : Nat → TV) (H : Heap), Sep H (fr) → Fin _ _ (updL s [(0, (.v v0)), (1, (.v v1)), (5, (.v (.int .i64 i103)))]) H _) ?_ _ _ hs
    intro i103 h s110 H111 hs
    refine fi_inLoop ?_
    refine fi_seq ?_
    refine fi_seq ?_
    refine fi_region ?_
    refine so_move rfl ?_
    refine so_move rfl ?_
    refine sv_len (g0 _ hs) (fun _ => rfl) (by decide) rfl F23.ti22 ?_
    refine so_bin rfl rfl ab_lss ?_
    refine so_nil ?_
    replace h := ofP h; rcases h with ⟨c104, h⟩ | ⟨c104, h⟩
    · refine fi_true rfl (decide_eq_true c104) ?_
      refine fi_skip ?_
      refine fi_seq ?_
      refine fi_block ?_
      refine fi_seq ?_
      refine fi_region ?_
      refine so_move rfl ?_
      refine so_move rfl ?_
      obtain ⟨c105, h⟩ := h
      refine sv_idx (g0 _ hs) c105 (fun _ => rfl) (by decide) rfl rfl F23.tl22 ?_
      refine sv_cell (g0 _ hs) c105 (0 : Nat) 0 (fun x => (AV.flt .f32 x)) (fun _ => rfl) (fun _ => rfl) rfl F23.ag36 ?_
      refine sv_ffw rfl F23.us36 F23.in94 F23.fl94 ?_
      refine so_move rfl ?_
      refine so_move rfl ?_
      obtain ⟨c106, h⟩ := h
      refine sv_idx (g1 _ hs) c106 (fun _ => rfl) (by decide) rfl rfl F23.tl22 ?_
      refine sv_cell (g1 _ hs) c106 (0 : Nat) 0 (fun x => (AV.flt .f32 x)) (fun _ => rfl) (fun _ => rfl) rfl F23.ag36 ?_
      refine sv_ffw rfl F23.us36 F23.in94 F23.fl94 ?_
      refine sv_call (laws_sameFloat_ok (widen (l0.getD (i103).toNat (0 : Nat))) (widen (l1.getD (i103).toNat (0 : Nat))) hs  _ h) rfl rfl (fun _ => by kernel_rfl) ?_
      clear h hs
      rintro _ H108 ⟨y107, h, rfl, hs⟩
      refine so_un rfl au_not ?_
      refine so_nil ?_
      replace h := ofT h; rcases h with ⟨c109, h⟩ | ⟨c109, h⟩
      · refine fi_false rfl (not_f c109) ?_
        refine fi_skip ?_
        refine fi_inBlock ?_
        refine fi_region ?_
        refine so_move rfl ?_
        refine so_bin rfl rfl ab_add ?_
        refine so_assign rfl ?_
        refine so_nil ?_
        exact fi_at [(0, (.v v0)), (1, (.v v1)), (5, (.v (.int .i64 (IntKind.i64.wrap (i103 + (1 : Int))))))] ⟨rfl, rfl, rfl, trivial⟩ (h _ _  hs)
      · refine fi_true rfl (not_t c109) ?_
        refine fi_seq ?_
        refine fi_region ?_
        refine so_assign rfl ?_
        refine so_nil ?_
        exact by_ret rfl ⟨_, h, rfl, hs⟩
    · refine fi_false rfl (decide_eq_false c104) ?_
      refine fi_exit rfl ?_
      refine fi_seq ?_
      refine fi_region ?_
      refine so_assign rfl ?_
      refine so_nil ?_
      exact by_ret rfl ⟨_, h, rfl, hs⟩
  · refine fi_true rfl (not_t (decide_eq_false c101)) ?_
    refine fi_seq ?_
    refine fi_region ?_
    refine so_assign rfl ?_
    refine so_nil ?_
    exact by_ret rfl ⟨_, h, rfl, hs⟩

end Go.Proofs.Ytfieljajhmpbiaa.G

namespace Go.Proofs.Ytfieljajhmpbiaa.G
open Go Go.Ab Go.Proofs Go.Proofs.Ytfieljajhmpbiaa
set_option maxRecDepth 100000
set_option linter.unusedVariables false
set_option linter.unusedSimpArgs false
set_option maxHeartbeats 1000000
theorem F4.tb4 : tbool Try.prog 4 = true := by kernel_rfl
theorem F4.ti22 : (telem Try.prog 22).isSome = true := by kernel_rfl
theorem laws_FnExactPackTake_ok {fr : List Pc} {H : Heap} (v0 : AV) (l0 : List (Nat)) (hs : Sep H (fr)) (g0 : ∀ H, Sep H fr → Shows H v0 1 (enc (eFlt .f32) l0)) (K : Bool → Prop) (h : laws_FnExactPackTake.wp l0 K) : OkQ Try.prog 4 [(.v v0)] H (fun r H2 => ∃ (y0 : Bool), K y0 ∧ r = (.v (.bool y0)) ∧ Sep H2 (fr)) := by
  unfold laws_FnExactPackTake.wp at h
  refine of_body Try.f4 F.hm Try.func4 rfl Try.call4 (by kernel_rfl) (by simp) ?_
  refine fi_seq ?_
  refine fi_region ?_
  refine so_assign rfl ?_
  refine so_nil ?_
  refine fi_seq ?_
  refine fi_seq ?_
  refine fi_region ?_
  refine so_move rfl ?_
  refine sv_len (g0 _ hs) (fun _ => rfl) (by decide) rfl F4.ti22 ?_
  refine so_bin rfl rfl ab_gtr ?_
  refine so_nil ?_
  replace h := ofP h; rcases h with ⟨c101, h⟩ | ⟨c101, h⟩
  · refine fi_true rfl (decide_eq_true c101) ?_
    refine fi_seq ?_
    refine fi_region ?_
    refine so_assign rfl ?_
    refine so_nil ?_
    exact by_ret rfl ⟨_, h, rfl, hs⟩
  · refine fi_false rfl (decide_eq_false c101) ?_
    refine fi_skip ?_
    refine fi_seq ?_
    refine fi_region ?_
    refine so_move rfl ?_
    refine sv_call (laws_toFloat32S_ok v0 l0 hs (fun _ hs => (g0 _ hs)) _ h) rfl rfl nofun ?_
    clear h hs
    rintro _ H105 ⟨y102, h, v103, rfl, hs⟩
    refine sv_call (spec_PackTake_ok v103 y102 hs (fun _ hs => (hs.shows 0 rfl)) _ h) rfl rfl nofun ?_
    clear h hs
    rintro _ H108 ⟨y106, y107, h, rfl, hs⟩
    refine so_move rfl ?_
    refine so_extract rfl rfl rfl ?_
    refine so_extract rfl rfl rfl ?_
    refine so_assign rfl ?_
    refine so_assign rfl ?_
    refine so_nil ?_
    refine fi_seq ?_
    refine fi_region ?_
    refine so_move rfl ?_
    refine sv_call (laws_toFloat32S_ok v0 l0 hs (fun _ hs => (g0 _ hs.tl)) _ h) rfl rfl nofun ?_
    clear h hs
    rintro _ H112 ⟨y109, h, v110, rfl, hs⟩
    refine so_assign rfl ?_
    refine so_nil ?_
    refine fi_seq ?_
    refine fi_region ?_
    refine so_move rfl ?_
    refine sv_call (impl_PackTake_ok v110 y109 hs (fun _ hs => (hs.shows 0 rfl)) _ h) rfl rfl nofun ?_
    clear h hs
    rintro _ H115 ⟨y113, y114, h, rfl, hs⟩
    refine so_move rfl ?_
    refine so_extract rfl rfl rfl ?_
    refine so_extract rfl rfl rfl ?_
    refine so_assign rfl ?_
    refine so_assign rfl ?_
    refine so_nil ?_
    refine fi_seq ?_
    refine fi_seq ?_
    refine fi_region ?_
    refine so_move rfl ?_
    refine so_move rfl ?_
    refine so_bin rfl rfl ab_sneq ?_
    refine so_move rfl ?_
    replace h := ofP h; rcases h with ⟨c116, h⟩ | ⟨c116, h⟩
    · refine so_gyes rfl (not_f (decide_eq_true c116)) ?_
      refine so_move rfl ?_
      refine so_gyes rfl (not_f (decide_eq_true c116)) ?_
      refine so_move rfl ?_
      refine so_gyes rfl (not_f (decide_eq_true c116)) ?_
      refine so_bin rfl rfl (ab_bneq F4.tb4) ?_
      refine so_pick_f rfl (not_f (decide_eq_true c116)) rfl ?_
      refine so_nil ?_
      replace h := ofT h; rcases h with ⟨c117, h⟩ | ⟨c117, h⟩
      · refine fi_false rfl (not_f c117) ?_
        refine fi_skip ?_
        refine fi_seq ?_
        refine fi_seq ?_
        refine fi_region ?_
        refine so_move rfl ?_
        refine so_move rfl ?_
        refine sv_call (laws_toFloat32S_ok v0 l0 hs (fun _ hs => (g0 _ hs.tl.tl)) _ h) rfl rfl nofun ?_
        clear h hs
        rintro _ H121 ⟨y118, h, v119, rfl, hs⟩
        refine sv_call (laws_eqFloat32S_ok v110 y109 v119 y118 hs (fun _ hs => (hs.shows 1 rfl)) (fun _ hs => (hs.shows 0 rfl)) _ h) rfl rfl nofun ?_
        clear h hs
        rintro _ H123 ⟨y122, h, rfl, hs⟩
        refine so_un rfl au_not ?_
        refine so_nil ?_
        replace h := ofT h; rcases h with ⟨c124, h⟩ | ⟨c124, h⟩
        · refine fi_false rfl (not_f c124) ?_
          refine fi_skip ?_
          refine fi_seq ?_
          refine fi_region ?_
          refine so_assign rfl ?_
          refine so_nil ?_
          exact by_ret rfl ⟨_, h, rfl, (Sep.del 0 (Sep.del 0 (Sep.del 0 hs)))⟩
        · refine fi_true rfl (not_t c124) ?_
          refine fi_seq ?_
          refine fi_region ?_
          refine so_assign rfl ?_
          refine so_nil ?_
          exact by_ret rfl ⟨_, h, rfl, (Sep.del 0 (Sep.del 0 (Sep.del 0 hs)))⟩
      · refine fi_true rfl (not_t c117) ?_
        refine fi_seq ?_
        refine fi_region ?_
        refine so_assign rfl ?_
        refine so_nil ?_
        exact by_ret rfl ⟨_, h, rfl, (Sep.del 0 (Sep.del 0 hs))⟩
    · refine so_gno rfl (not_t (decide_eq_false c116)) ?_
      refine so_gno rfl (not_t (decide_eq_false c116)) ?_
      refine so_gno rfl (not_t (decide_eq_false c116)) ?_
      refine so_pick_t rfl (not_t (decide_eq_false c116)) rfl ?_
      refine so_nil ?_
      refine fi_true rfl rfl ?_
      refine fi_seq ?_
      refine fi_region ?_
      refine so_assign rfl ?_
      refine so_nil ?_
      exact by_ret rfl ⟨_, h, rfl, (Sep.del 0 (Sep.del 0 hs))⟩

end Go.Proofs.Ytfieljajhmpbiaa.G

