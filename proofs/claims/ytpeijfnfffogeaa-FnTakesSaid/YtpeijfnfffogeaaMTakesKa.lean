/-
  The model ends so. Printed by a program of the session; nothing here is trusted.
-/
import Derived.Test.YtpeijfnfffogeaaProg
import Derived.KernelRfl
import Derived.Test.YtpeijfnfffogeaaMTakesWa
namespace Go.Proofs.Ytpeijfnfffogeaa.F
open Go Go.Ab Go.Proofs
set_option maxRecDepth 100000
set_option linter.unusedVariables false
set_option linter.unusedSimpArgs false
set_option maxHeartbeats 1000000
theorem hm : Try.prog.follows .mixedOrders = true := by kernel_rfl
end Go.Proofs.Ytpeijfnfffogeaa.F

namespace Go.Proofs.Ytpeijfnfffogeaa.G
open Go Go.Ab Go.Proofs Go.Proofs.Ytpeijfnfffogeaa
set_option maxRecDepth 100000
set_option linter.unusedVariables false
set_option linter.unusedSimpArgs false
set_option maxHeartbeats 1000000
attribute [local irreducible] wops wopf Go.Ab.Fin
theorem F159.it2 : tint Try.prog 2 = some .i64 := by kernel_rfl
theorem F159.sr9 : tstr Try.prog 9 = true := by kernel_rfl
theorem F159.us5 : (Try.prog.underlying 5).isSome = true := by kernel_rfl
theorem impl_lowNumber_ok {fr : List Pc} {H : Heap} (a0 : List UInt8) (hs : Sep H (fr))  (K : Int → Prop) (h : impl_lowNumber.wp a0 K) : OkQ Try.prog 159 [(.v (.str (pk a0)))] H (fun r H2 => ∃ (y0 : Int), K y0 ∧ r = (.v (.int .i64 y0)) ∧ H = H2) := by
  unfold impl_lowNumber.wp at h
  refine of_body Try.f159 F.hm Try.func159 rfl Try.call159 (by kernel_rfl) (by simp) ?_
  refine fi_seq ?_
  refine fi_region ?_
  refine so_assign (v := (.v (.int .i64 (0 : Int)))) rfl ?_
  refine so_nil ?_
  refine fi_seq ?_
  refine fi_region ?_
  refine so_assign (v := (.v (.int .i64 (0 : Int)))) rfl ?_
  refine so_nil ?_
  refine fi_seq ?_
  refine fi_seq ?_
  refine fi_region ?_
  refine so_move (v := (.v (.str (pk a0)))) rfl ?_
  refine so_slen rfl F159.sr9 ?_
  refine so_bin rfl rfl ab_sub ?_
  refine so_assign (v := (.v (.int .i64 (IntKind.i64.wrap ((a0.length : Int) - (1 : Int)))))) rfl ?_
  refine so_nil ?_
  refine fi_block ?_
  refine fi_loop ?_
  refine fi_at [(0, (.v (.str (pk a0)))), (3, (.v (.int .i64 (0 : Int)))), (4, (.v (.int .i64 (IntKind.i64.wrap ((a0.length : Int) - (1 : Int))))))] ⟨rfl, rfl, rfl, trivial⟩ ?_
  refine h (fun (n102 : Int) (i103 : Int) => ∀ (s : Nat → TV), Fin _ _ (updL s [(0, (.v (.str (pk a0)))), (3, (.v (.int .i64 n102))), (4, (.v (.int .i64 i103)))]) _ _) ?_ _
  intro n102 i103 h s106
  refine fi_inLoop ?_
  refine fi_seq ?_
  refine fi_seq ?_
  refine fi_region ?_
  refine so_move (v := (.v (.int .i64 i103))) rfl ?_
  refine so_bin rfl rfl ab_geq ?_
  refine so_nil ?_
  replace h := ofP h; rcases h with ⟨c104, h⟩ | ⟨c104, h⟩
  · refine fi_true rfl (decide_eq_true c104) ?_
    refine fi_skip ?_
    refine fi_seq ?_
    refine fi_block ?_
    refine fi_region ?_
    refine so_move (v := (.v (.int .i64 n102))) rfl ?_
    refine so_bin rfl rfl (ab_shl (by decide)) ?_
    refine so_move (v := (.v (.str (pk a0)))) rfl ?_
    refine so_move (v := (.v (.int .i64 i103))) rfl ?_
    obtain ⟨c105, h⟩ := h
    refine so_index rfl rfl F159.sr9 c105 ?_
    refine sv_ii rfl F159.us5 F159.it2 ?_
    refine so_bin rfl rfl ab_or ?_
    refine so_assign (v := (.v (.int .i64 (ibits .or .i64 (IntKind.i64.wrap (n102 * (2 ^ (min ((8 : Int)).toNat IntKind.i64.bits)))) (IntKind.i64.wrap (bt a0 i103)))))) rfl ?_
    refine so_nil ?_
    refine fi_inBlock ?_
    refine fi_region ?_
    refine so_move (v := (.v (.int .i64 i103))) rfl ?_
    refine so_bin rfl rfl ab_sub ?_
    refine so_assign (v := (.v (.int .i64 (IntKind.i64.wrap (i103 - (1 : Int)))))) rfl ?_
    refine so_nil ?_
    exact fi_at [(0, (.v (.str (pk a0)))), (3, (.v (.int .i64 (ibits .or .i64 (IntKind.i64.wrap (n102 * (2 ^ (min ((8 : Int)).toNat IntKind.i64.bits)))) (IntKind.i64.wrap (bt a0 i103)))))), (4, (.v (.int .i64 (IntKind.i64.wrap (i103 - (1 : Int))))))] ⟨rfl, rfl, rfl, trivial⟩ (h _)
  · refine fi_false rfl (decide_eq_false c104) ?_
    refine fi_exit rfl ?_
    refine fi_seq ?_
    refine fi_region ?_
    refine so_move (v := (.v (.int .i64 n102))) rfl ?_
    refine so_assign (v := (.v (.int .i64 n102))) rfl ?_
    refine so_nil ?_
    exact by_ret rfl ⟨_, h, rfl, rfl⟩

end Go.Proofs.Ytpeijfnfffogeaa.G

namespace Go.Proofs.Ytpeijfnfffogeaa.G
open Go Go.Ab Go.Proofs Go.Proofs.Ytpeijfnfffogeaa
set_option maxRecDepth 100000
set_option linter.unusedVariables false
set_option linter.unusedSimpArgs false
set_option maxHeartbeats 1000000
attribute [local irreducible] wops wopf Go.Ab.Fin
theorem F238.sr9 : tstr Try.prog 9 = true := by kernel_rfl
theorem internal_stringslite_HasPrefix_ok {fr : List Pc} {H : Heap} (a0 : List UInt8) (a1 : List UInt8) (hs : Sep H (fr))  (K : Bool → Prop) (h : internal_stringslite_HasPrefix.wp a0 a1 K) : OkQ Try.prog 238 [(.v (.str (pk a0))), (.v (.str (pk a1)))] H (fun r H2 => ∃ (y0 : Bool), K y0 ∧ r = (.v (.bool y0)) ∧ H = H2) := by
  unfold internal_stringslite_HasPrefix.wp at h
  refine of_body Try.f238 F.hm Try.func238 rfl Try.call238 (by kernel_rfl) (by simp) ?_
  refine fi_seq ?_
  refine fi_region ?_
  refine so_assign (v := (.v (.bool false))) rfl ?_
  refine so_nil ?_
  refine fi_seq ?_
  refine fi_region ?_
  refine so_move (v := (.v (.str (pk a0)))) rfl ?_
  refine so_slen rfl F238.sr9 ?_
  refine so_move (v := (.v (.str (pk a1)))) rfl ?_
  refine so_slen rfl F238.sr9 ?_
  refine so_bin rfl rfl ab_geq ?_
  refine so_move (v := (.v (.bool (decide ((a1.length : Int) ≤ (a0.length : Int)))))) rfl ?_
  replace h := ofP h; rcases h with ⟨c101, h⟩ | ⟨c101, h⟩
  · refine so_gyes rfl (decide_eq_true c101) ?_
    refine so_move (v := (.v (.str (pk a0)))) rfl ?_
    refine so_gyes rfl (decide_eq_true c101) ?_
    refine so_move (v := (.v (.str (pk a1)))) rfl ?_
    refine so_gyes rfl (decide_eq_true c101) ?_
    refine so_slen rfl F238.sr9 ?_
    refine so_gyes rfl (decide_eq_true c101) ?_
    obtain ⟨c102, h⟩ := h
    refine so_sslice rfl rfl rfl F238.sr9 rfl rfl c102 ?_
    refine so_gyes rfl (decide_eq_true c101) ?_
    refine so_move (v := (.v (.str (pk a1)))) rfl ?_
    refine so_gyes rfl (decide_eq_true c101) ?_
    refine so_bin rfl rfl ab_seql ?_
    refine so_pick_t (v := (.v (.bool (decide (((a0.drop ((0 : Int)).toNat).take (((a1.length : Int)).toNat - ((0 : Int)).toNat)) = a1))))) rfl (decide_eq_true c101) rfl ?_
    refine so_assign (v := (.v (.bool (decide (((a0.drop ((0 : Int)).toNat).take (((a1.length : Int)).toNat - ((0 : Int)).toNat)) = a1))))) rfl ?_
    refine so_nil ?_
    exact by_ret rfl ⟨_, h, rfl, rfl⟩
  · refine so_gno rfl (decide_eq_false c101) ?_
    refine so_gno rfl (decide_eq_false c101) ?_
    refine so_gno rfl (decide_eq_false c101) ?_
    refine so_gno rfl (decide_eq_false c101) ?_
    refine so_gno rfl (decide_eq_false c101) ?_
    refine so_gno rfl (decide_eq_false c101) ?_
    refine so_pick_f (v := (.v (.bool false))) rfl (decide_eq_false c101) rfl ?_
    refine so_assign (v := (.v (.bool false))) rfl ?_
    refine so_nil ?_
    exact by_ret rfl ⟨_, h, rfl, rfl⟩

end Go.Proofs.Ytpeijfnfffogeaa.G

namespace Go.Proofs.Ytpeijfnfffogeaa.G
open Go Go.Ab Go.Proofs Go.Proofs.Ytpeijfnfffogeaa
set_option maxRecDepth 100000
set_option linter.unusedVariables false
set_option linter.unusedSimpArgs false
set_option maxHeartbeats 1000000
attribute [local irreducible] wops wopf Go.Ab.Fin
theorem strings_HasPrefix_ok {fr : List Pc} {H : Heap} (a0 : List UInt8) (a1 : List UInt8) (hs : Sep H (fr))  (K : Bool → Prop) (h : strings_HasPrefix.wp a0 a1 K) : OkQ Try.prog 176 [(.v (.str (pk a0))), (.v (.str (pk a1)))] H (fun r H2 => ∃ (y0 : Bool), K y0 ∧ r = (.v (.bool y0)) ∧ H = H2) := by
  unfold strings_HasPrefix.wp at h
  refine of_body Try.f176 F.hm Try.func176 rfl Try.call176 (by kernel_rfl) (by simp) ?_
  refine fi_seq ?_
  refine fi_region ?_
  refine so_assign (v := (.v (.bool false))) rfl ?_
  refine so_nil ?_
  refine fi_seq ?_
  refine fi_region ?_
  refine so_move (v := (.v (.str (pk a0)))) rfl ?_
  refine so_move (v := (.v (.str (pk a1)))) rfl ?_
  refine sv_callS (internal_stringslite_HasPrefix_ok a0 a1 hs  _ h) (fun _ _ ⟨_, _, _, e⟩ => e) rfl rfl ?_
  clear h
  rintro _ _ ⟨y101, h, rfl, rfl⟩
  refine so_assign (v := (.v (.bool y101))) rfl ?_
  refine so_nil ?_
  exact by_ret rfl ⟨_, h, rfl, rfl⟩

end Go.Proofs.Ytpeijfnfffogeaa.G

namespace Go.Proofs.Ytpeijfnfffogeaa.G
open Go Go.Ab Go.Proofs Go.Proofs.Ytpeijfnfffogeaa
set_option maxRecDepth 100000
set_option linter.unusedVariables false
set_option linter.unusedSimpArgs false
set_option maxHeartbeats 1000000
attribute [local irreducible] wops wopf Go.Ab.Fin
theorem F261.xb261 : Try.f261.body = none := rfl
theorem F261.xe261 : Extern.find Try.f261 = some Extern.MathFloatBits.float32bits := by rfl
theorem F261.xf261 : (Extern.findNext Try.f261).isNone = true := by kernel_rfl
theorem F261.xn261 : (Try.f261.name == "runtime.NumGoroutine") = false := by kernel_rfl
theorem math_Float32bits_ok {fr : List Pc} {H : Heap} (x : Nat) (hs : Sep H fr) (K : Int → Prop) (h : math_Float32bits.wp x K) : OkQ Try.prog 261 [(.v (.flt .f32 x))] H (fun r H2 => ∃ y0 : Int, K y0 ∧ r = (.v (.int .u32 y0)) ∧ H = H2) := ⟨_, _, f32bits_ok Try.func261 F261.xn261 F261.xb261 F261.xf261 F261.xe261 x h.1, _, h.2, rfl, rfl⟩

end Go.Proofs.Ytpeijfnfffogeaa.G

namespace Go.Proofs.Ytpeijfnfffogeaa.G
open Go Go.Ab Go.Proofs Go.Proofs.Ytpeijfnfffogeaa
set_option maxRecDepth 100000
set_option linter.unusedVariables false
set_option linter.unusedSimpArgs false
set_option maxHeartbeats 1000000
attribute [local irreducible] wops wopf Go.Ab.Fin
theorem F230.it2 : tint Try.prog 2 = some .i64 := by kernel_rfl
theorem F230.us240 : (Try.prog.underlying 240).isSome = true := by kernel_rfl
theorem impl_BitsOf_ok {fr : List Pc} {H : Heap} (a0 : Nat) (hs : Sep H (fr))  (K : Int → Prop) (h : impl_BitsOf.wp a0 K) : OkQ Try.prog 230 [(.v (.flt .f32 a0))] H (fun r H2 => ∃ (y0 : Int), K y0 ∧ r = (.v (.int .i64 y0)) ∧ H = H2) := by
  unfold impl_BitsOf.wp at h
  refine of_body Try.f230 F.hm Try.func230 rfl Try.call230 (by kernel_rfl) (by simp) ?_
  refine fi_seq ?_
  refine fi_region ?_
  refine so_assign (v := (.v (.int .i64 (0 : Int)))) rfl ?_
  refine so_nil ?_
  refine fi_seq ?_
  refine fi_seq ?_
  refine fi_region ?_
  refine so_move (v := (.v (.flt .f32 a0))) rfl ?_
  refine so_move (v := (.v (.flt .f32 a0))) rfl ?_
  refine so_bin rfl rfl ab_fneq ?_
  refine so_nil ?_
  replace h := ofT h; rcases h with ⟨c101, h⟩ | ⟨c101, h⟩
  · refine fi_true rfl c101 ?_
    refine fi_seq ?_
    refine fi_region ?_
    refine so_assign (v := (.v (.int .i64 (2143289344 : Int)))) rfl ?_
    refine so_nil ?_
    exact by_ret rfl ⟨_, h, rfl, rfl⟩
  · refine fi_false rfl c101 ?_
    refine fi_skip ?_
    refine fi_seq ?_
    refine fi_region ?_
    refine so_move (v := (.v (.flt .f32 a0))) rfl ?_
    refine sv_callS (math_Float32bits_ok a0 hs  _ h) (fun _ _ ⟨_, _, _, e⟩ => e) rfl rfl ?_
    clear h
    rintro _ _ ⟨y102, h, rfl, rfl⟩
    refine sv_ii rfl F230.us240 F230.it2 ?_
    refine so_assign (v := (.v (.int .i64 (IntKind.i64.wrap y102)))) rfl ?_
    refine so_nil ?_
    exact by_ret rfl ⟨_, h, rfl, rfl⟩

end Go.Proofs.Ytpeijfnfffogeaa.G

namespace Go.Proofs.Ytpeijfnfffogeaa.G
open Go Go.Ab Go.Proofs Go.Proofs.Ytpeijfnfffogeaa
set_option maxRecDepth 100000
set_option linter.unusedVariables false
set_option linter.unusedSimpArgs false
set_option maxHeartbeats 1000000
attribute [local irreducible] wops wopf Go.Ab.Fin
theorem F156.ag25 : tagg Try.prog 25 = some false := by kernel_rfl
theorem F156.it5 : tint Try.prog 5 = some .u8 := by kernel_rfl
theorem F156.sr9 : tstr Try.prog 9 = true := by kernel_rfl
theorem F156.sz5 : tsz Try.prog 5 = some 1 := by kernel_rfl
theorem F156.ta98_98 : tapp Try.prog 98 98 = some (1, 1) := by kernel_rfl
theorem F156.te98 : telem Try.prog 98 = some 5 := by kernel_rfl
theorem F156.ti37 : (telem Try.prog 37).isSome = true := by kernel_rfl
theorem F156.tl37 : (telem Try.prog 37).bind (tsz Try.prog) = some 1 := by kernel_rfl
theorem F156.us2 : (Try.prog.underlying 2).isSome = true := by kernel_rfl
theorem F156.us3 : (Try.prog.underlying 3).isSome = true := by kernel_rfl
theorem F156.us98 : (Try.prog.underlying 98).isSome = true := by kernel_rfl
theorem F156.ze5 : tzero Try.prog 5 = some [(.int .u8 (0 : Int))] := by kernel_rfl
theorem impl_packed_ok {fr : List Pc} {H : Heap} (v0 : AV) (l0 : List (Nat)) (hs : Sep H (fr)) (g0 : ∀ H, Sep H fr → Shows H v0 1 (enc (eFlt .f32) l0)) (K : (List UInt8) → Prop) (h : impl_packed.wp l0 K) : OkQ Try.prog 156 [(.v v0)] H (fun r H2 => ∃ (y0 : List UInt8), K y0 ∧ r = (.v (.str (pk y0))) ∧ Sep H2 (fr)) := by
  unfold impl_packed.wp at h
  refine of_body Try.f156 F.hm Try.func156 rfl Try.call156 (by kernel_rfl) (by simp) ?_
  refine fi_seq ?_
  refine fi_region ?_
  refine so_assign (v := (.v (.str (pk ([] : List UInt8))))) rfl ?_
  refine so_nil ?_
  refine fi_seq ?_
  refine fi_region ?_
  refine sv_bslice hs (eInt .u8) ([] : List (Int)) [] F156.te98 F156.sz5 F156.ze5 rfl rfl rfl rfl (fun _ => rfl) rfl (by decide) nofun (fun v101 H102 nv101 hs => ?_)
  refine so_assign (v := (.v v101)) rfl ?_
  refine so_assign (v := (.v (.int .i64 (0 : Int)))) rfl ?_
  refine so_nil ?_
  refine fi_seq ?_
  refine fi_seq ?_
  refine fi_region ?_
  refine so_move (v := (.v v0)) rfl ?_
  refine sv_len (g0 _ hs.tl) (fun _ => rfl) (by decide) rfl F156.ti37 ?_
  refine so_move (v := (.v (.int .i64 (0 : Int)))) rfl ?_
  refine so_nil ?_
  refine fi_block ?_
  refine fi_loop ?_
  refine fi_at [(3, (.v v101)), (4, (.v (.int .i64 (0 : Int)))), (12, (.v v0)), (13, (.v (.int .i64 (l0.length : Int)))), (14, (.v (.int .i64 (0 : Int))))] ⟨rfl, rfl, rfl, rfl, rfl, trivial⟩ ?_
  refine h (fun (out152 : List (Int)) (last154 : Int) (x155 : Int) => ∀ (s : Nat → TV) (H : Heap) (v153 : AV) (nv153 : v153 ≠ .nilsl), Sep H (Pc.osl v153 1 (enc (eInt .u8) out152) :: fr) → Fin _ _ (updL s [(3, (.v v153)), (4, (.v (.int .i64 last154))), (12, (.v v0)), (13, (.v (.int .i64 (l0.length : Int)))), (14, (.v (.int .i64 x155)))]) H _) ?_ _ _ _ nv101 hs
  intro out152 last154 x155 h s198 H199 v153 nv153 hs
  refine fi_inLoop ?_
  refine fi_seq ?_
  refine fi_region ?_
  refine so_bin rfl rfl ab_lss ?_
  refine so_nil ?_
  refine fi_seq ?_
  replace h := ofP h; rcases h with ⟨c156, h⟩ | ⟨c156, h⟩
  · refine fi_true rfl (decide_eq_true c156) ?_
    refine fi_skip ?_
    refine fi_seq ?_
    refine fi_block ?_
    refine fi_seq ?_
    refine fi_region ?_
    obtain ⟨c157, h⟩ := h
    refine sv_idx (g0 _ hs.tl) c157 (fun _ => rfl) (by decide) rfl rfl F156.tl37 ?_
    refine sv_cell (g0 _ hs.tl) c157 (0 : Nat) 0 (fun x => (AV.flt .f32 x)) (fun _ => rfl) (fun _ => rfl) rfl F156.ag25 ?_
    refine so_assign (v := (.v (.flt .f32 (l0.getD (x155).toNat (0 : Nat))))) rfl ?_
    refine so_nil ?_
    refine fi_seq ?_
    refine fi_region ?_
    refine so_move (v := (.v (.flt .f32 (l0.getD (x155).toNat (0 : Nat))))) rfl ?_
    refine sv_callS (impl_BitsOf_ok (l0.getD (x155).toNat (0 : Nat)) hs  _ h) (fun _ _ ⟨_, _, _, e⟩ => e) rfl rfl ?_
    clear h
    rintro _ _ ⟨y158, h, rfl, rfl⟩
    refine so_assign (v := (.v (.int .i64 y158))) rfl ?_
    refine so_nil ?_
    refine fi_seq ?_
    refine fi_region ?_
    refine so_move (v := (.v (.int .i64 y158))) rfl ?_
    refine so_move (v := (.v (.int .i64 last154))) rfl ?_
    refine so_bin rfl rfl ab_xor ?_
    refine so_assign (v := (.v (.int .i64 (ibits .xor .i64 y158 last154)))) rfl ?_
    refine so_nil ?_
    refine fi_seq ?_
    refine fi_region ?_
    refine so_move (v := (.v (.int .i64 y158))) rfl ?_
    refine so_assign (v := (.v (.int .i64 y158))) rfl ?_
    refine so_nil ?_
    refine fi_seq ?_
    refine fi_region ?_
    refine so_assign (v := (.v (.int .i64 (4 : Int)))) rfl ?_
    refine so_nil ?_
    refine fi_seq ?_
    refine fi_seq ?_
    refine fi_region ?_
    refine so_move (v := (.v (.int .i64 (ibits .xor .i64 y158 last154)))) rfl ?_
    refine so_assign (v := (.v (.int .i64 (ibits .xor .i64 y158 last154)))) rfl ?_
    refine so_nil ?_
    refine fi_block ?_
    refine fi_loop ?_
    refine fi_at [(3, (.v v153)), (4, (.v (.int .i64 y158))), (8, (.v (.int .i64 (ibits .xor .i64 y158 last154)))), (9, (.v (.int .i64 (4 : Int)))), (10, (.v (.int .i64 (ibits .xor .i64 y158 last154)))), (12, (.v v0)), (13, (.v (.int .i64 (l0.length : Int)))), (14, (.v (.int .i64 x155)))] ⟨rfl, rfl, rfl, rfl, rfl, rfl, rfl, rfl, trivial⟩ ?_
    refine h (fun (z161 : Int) (m162 : Int) => ∀ (s : Nat → TV) (H : Heap), Sep H (Pc.osl v153 1 (enc (eInt .u8) out152) :: fr) → Fin _ _ (updL s [(3, (.v v153)), (4, (.v (.int .i64 y158))), (8, (.v (.int .i64 (ibits .xor .i64 y158 last154)))), (9, (.v (.int .i64 z161))), (10, (.v (.int .i64 m162))), (12, (.v v0)), (13, (.v (.int .i64 (l0.length : Int)))), (14, (.v (.int .i64 x155)))]) H _) ?_ _ _ hs
    intro z161 m162 h s196 H197 hs
    refine fi_inLoop ?_
    refine fi_seq ?_
    refine fi_seq ?_
    refine fi_region ?_
    refine so_move (v := (.v (.int .i64 m162))) rfl ?_
    refine so_bin rfl rfl ab_gtr ?_
    refine so_nil ?_
    replace h := ofP h; rcases h with ⟨c163, h⟩ | ⟨c163, h⟩
    · refine fi_true rfl (decide_eq_true c163) ?_
      refine fi_skip ?_
      refine fi_seq ?_
      refine fi_block ?_
      refine fi_region ?_
      refine so_move (v := (.v (.int .i64 z161))) rfl ?_
      refine so_bin rfl rfl ab_sub ?_
      refine so_assign (v := (.v (.int .i64 (IntKind.i64.wrap (z161 - (1 : Int)))))) rfl ?_
      refine so_nil ?_
      refine fi_inBlock ?_
      refine fi_region ?_
      refine so_move (v := (.v (.int .i64 m162))) rfl ?_
      refine so_bin rfl rfl (ab_shr (by decide)) ?_
      refine so_assign (v := (.v (.int .i64 (Int.fdiv m162 (2 ^ (min ((8 : Int)).toNat IntKind.i64.bits)))))) rfl ?_
      refine so_nil ?_
      exact fi_at [(3, (.v v153)), (4, (.v (.int .i64 y158))), (8, (.v (.int .i64 (ibits .xor .i64 y158 last154)))), (9, (.v (.int .i64 (IntKind.i64.wrap (z161 - (1 : Int)))))), (10, (.v (.int .i64 (Int.fdiv m162 (2 ^ (min ((8 : Int)).toNat IntKind.i64.bits)))))), (12, (.v v0)), (13, (.v (.int .i64 (l0.length : Int)))), (14, (.v (.int .i64 x155)))] ⟨rfl, rfl, rfl, rfl, rfl, rfl, rfl, rfl, trivial⟩ (h _ _  hs)
    · refine fi_false rfl (decide_eq_false c163) ?_
      refine fi_exit rfl ?_
      refine fi_seq ?_
      refine fi_region ?_
      refine so_move (v := (.v v153)) rfl ?_
      refine so_move (v := (.v (.int .i64 z161))) rfl ?_
      refine sv_ii rfl F156.us3 F156.it5 ?_
      refine sv_bslice hs (eInt .u8) ([(IntKind.u8.wrap z161)] : List (Int)) [[(.int .u8 (IntKind.u8.wrap z161))]] F156.te98 F156.sz5 F156.ze5 rfl rfl rfl rfl (fun _ => rfl) rfl (by decide) nofun (fun v164 H165 nv164 hs => ?_)
      obtain ⟨c169, h⟩ := h
      refine sv_app hs 1 rfl (hs.shows 0 rfl) (fun _ => rfl) (by decide) F156.ta98_98 (by decide) c169 rfl rfl nofun (fun v167 H168 kv167 hs => ?_)
      replace hs := hs.del 0
      have nv167 := kv167 nv153
      refine so_assign (v := (.v v167)) rfl ?_
      refine so_nil ?_
      refine fi_seq ?_
      refine fi_region ?_
      refine so_move (v := (.v (.int .i64 z161))) rfl ?_
      refine so_bin rfl rfl ab_sub ?_
      refine so_move (v := (.v (.int .i64 (0 : Int)))) rfl ?_
      refine so_nil ?_
      refine fi_block ?_
      refine fi_loop ?_
      refine fi_at [(3, (.v v167)), (4, (.v (.int .i64 y158))), (8, (.v (.int .i64 (ibits .xor .i64 y158 last154)))), (12, (.v v0)), (13, (.v (.int .i64 (l0.length : Int)))), (14, (.v (.int .i64 x155))), (37, (.v (.int .i64 (IntKind.i64.wrap ((4 : Int) - z161))))), (38, (.v (.int .i64 (0 : Int))))] ⟨rfl, rfl, rfl, rfl, rfl, rfl, rfl, rfl, trivial⟩ ?_
      refine h (fun (out183 : List (Int)) (more185 : Int) (x186 : Int) => ∀ (s : Nat → TV) (H : Heap) (v184 : AV) (nv184 : v184 ≠ .nilsl), Sep H (Pc.osl v184 1 (enc (eInt .u8) out183) :: fr) → Fin _ _ (updL s [(3, (.v v184)), (4, (.v (.int .i64 y158))), (8, (.v (.int .i64 more185))), (12, (.v v0)), (13, (.v (.int .i64 (l0.length : Int)))), (14, (.v (.int .i64 x155))), (37, (.v (.int .i64 (IntKind.i64.wrap ((4 : Int) - z161))))), (38, (.v (.int .i64 x186)))]) H _) ?_ _ _ _ nv167 hs
      intro out183 more185 x186 h s194 H195 v184 nv184 hs
      refine fi_inLoop ?_
      refine fi_seq ?_
      refine fi_region ?_
      refine so_bin rfl rfl ab_lss ?_
      refine so_nil ?_
      refine fi_seq ?_
      replace h := ofP h; rcases h with ⟨c187, h⟩ | ⟨c187, h⟩
      · refine fi_true rfl (decide_eq_true c187) ?_
        refine fi_skip ?_
        refine fi_seq ?_
        refine fi_block ?_
        refine fi_seq ?_
        refine fi_region ?_
        refine so_move (v := (.v v184)) rfl ?_
        refine so_move (v := (.v (.int .i64 more185))) rfl ?_
        refine sv_ii rfl F156.us2 F156.it5 ?_
        refine sv_bslice hs (eInt .u8) ([(IntKind.u8.wrap more185)] : List (Int)) [[(.int .u8 (IntKind.u8.wrap more185))]] F156.te98 F156.sz5 F156.ze5 rfl rfl rfl rfl (fun _ => rfl) rfl (by decide) nofun (fun v188 H189 nv188 hs => ?_)
        obtain ⟨c193, h⟩ := h
        refine sv_app hs 1 rfl (hs.shows 0 rfl) (fun _ => rfl) (by decide) F156.ta98_98 (by decide) c193 rfl rfl nofun (fun v191 H192 kv191 hs => ?_)
        replace hs := hs.del 0
        have nv191 := kv191 nv184
        refine so_assign (v := (.v v191)) rfl ?_
        refine so_nil ?_
        refine fi_region ?_
        refine so_move (v := (.v (.int .i64 more185))) rfl ?_
        refine so_bin rfl rfl (ab_shr (by decide)) ?_
        refine so_assign (v := (.v (.int .i64 (Int.fdiv more185 (2 ^ (min ((8 : Int)).toNat IntKind.i64.bits)))))) rfl ?_
        refine so_nil ?_
        refine fi_inBlock ?_
        refine fi_region ?_
        refine so_bin rfl rfl ab_add ?_
        refine so_move (v := (.v (.int .i64 (IntKind.i64.wrap (x186 + (1 : Int)))))) rfl ?_
        refine so_nil ?_
        exact fi_at [(3, (.v v191)), (4, (.v (.int .i64 y158))), (8, (.v (.int .i64 (Int.fdiv more185 (2 ^ (min ((8 : Int)).toNat IntKind.i64.bits)))))), (12, (.v v0)), (13, (.v (.int .i64 (l0.length : Int)))), (14, (.v (.int .i64 x155))), (37, (.v (.int .i64 (IntKind.i64.wrap ((4 : Int) - z161))))), (38, (.v (.int .i64 (IntKind.i64.wrap (x186 + (1 : Int))))))] ⟨rfl, rfl, rfl, rfl, rfl, rfl, rfl, rfl, trivial⟩ (h _ _ _ nv191 hs)
      · refine fi_false rfl (decide_eq_false c187) ?_
        refine fi_exit rfl ?_
        refine fi_inBlock ?_
        refine fi_region ?_
        refine so_bin rfl rfl ab_add ?_
        refine so_move (v := (.v (.int .i64 (IntKind.i64.wrap (x155 + (1 : Int)))))) rfl ?_
        refine so_nil ?_
        exact fi_at [(3, (.v v184)), (4, (.v (.int .i64 y158))), (12, (.v v0)), (13, (.v (.int .i64 (l0.length : Int)))), (14, (.v (.int .i64 (IntKind.i64.wrap (x155 + (1 : Int))))))] ⟨rfl, rfl, rfl, rfl, rfl, trivial⟩ (h _ _ _ nv184 hs)
  · refine fi_false rfl (decide_eq_false c156) ?_
    refine fi_exit rfl ?_
    refine fi_seq ?_
    refine fi_region ?_
    refine so_move (v := (.v v153)) rfl ?_
    refine sv_bs (hs.shows 0 rfl) nv153 rfl F156.te98 F156.it5 F156.sr9 ?_
    refine so_assign (v := (.v (.str (pk (byts out152))))) rfl ?_
    refine so_nil ?_
    exact by_ret rfl ⟨_, h, rfl, (Sep.del 0 hs)⟩

end Go.Proofs.Ytpeijfnfffogeaa.G

namespace Go.Proofs.Ytpeijfnfffogeaa.G
open Go Go.Ab Go.Proofs Go.Proofs.Ytpeijfnfffogeaa
set_option maxRecDepth 100000
set_option linter.unusedVariables false
set_option linter.unusedSimpArgs false
set_option maxHeartbeats 1000000
attribute [local irreducible] wops wopf Go.Ab.Fin
theorem F157.it5 : tint Try.prog 5 = some .u8 := by kernel_rfl
theorem F157.sz5 : tsz Try.prog 5 = some 1 := by kernel_rfl
theorem F157.te98 : telem Try.prog 98 = some 5 := by kernel_rfl
theorem F157.us2 : (Try.prog.underlying 2).isSome = true := by kernel_rfl
theorem F157.ze5 : tzero Try.prog 5 = some [(.int .u8 (0 : Int))] := by kernel_rfl
theorem impl_lowBytes_ok {fr : List Pc} {H : Heap} (a0 : Int) (hs : Sep H (fr))  (K : (List (Int)) → Prop) (h : impl_lowBytes.wp a0 K) : OkQ Try.prog 157 [(.v (.int .i64 a0))] H (fun r H2 => ∃ (y0 : List (Int)), K y0 ∧ ∃ (w0_ : AV), r = (.v w0_) ∧ Sep H2 (Pc.osl w0_ 1 (enc (eInt .u8) y0) :: fr)) := by
  unfold impl_lowBytes.wp at h
  refine of_body Try.f157 F.hm Try.func157 rfl Try.call157 (by kernel_rfl) (by simp) ?_
  refine fi_seq ?_
  refine fi_region ?_
  refine so_assign (v := (.v .nilsl)) rfl ?_
  refine so_nil ?_
  refine fi_seq ?_
  refine fi_region ?_
  refine so_move (v := (.v (.int .i64 a0))) rfl ?_
  refine sv_ii rfl F157.us2 F157.it5 ?_
  refine so_move (v := (.v (.int .i64 a0))) rfl ?_
  refine so_bin rfl rfl (ab_shr (by decide)) ?_
  refine sv_ii rfl F157.us2 F157.it5 ?_
  refine sv_bslice hs (eInt .u8) ([(IntKind.u8.wrap a0), (IntKind.u8.wrap (Int.fdiv a0 (2 ^ (min ((8 : Int)).toNat IntKind.i64.bits))))] : List (Int)) [[(.int .u8 (IntKind.u8.wrap a0))], [(.int .u8 (IntKind.u8.wrap (Int.fdiv a0 (2 ^ (min ((8 : Int)).toNat IntKind.i64.bits)))))]] F157.te98 F157.sz5 F157.ze5 rfl rfl rfl rfl (fun _ => rfl) rfl (by decide) nofun (fun v101 H102 nv101 hs => ?_)
  refine so_assign (v := (.v v101)) rfl ?_
  refine so_nil ?_
  exact by_ret rfl ⟨_, h, _, rfl, hs⟩

end Go.Proofs.Ytpeijfnfffogeaa.G

namespace Go.Proofs.Ytpeijfnfffogeaa.G
open Go Go.Ab Go.Proofs Go.Proofs.Ytpeijfnfffogeaa
set_option maxRecDepth 100000
set_option linter.unusedVariables false
set_option linter.unusedSimpArgs false
set_option maxHeartbeats 1000000
attribute [local irreducible] wops wopf Go.Ab.Fin
theorem impl_within_ok {fr : List Pc} {H : Heap} (a0 : Int) (a1 : Int) (a2 : Int) (hs : Sep H (fr))  (K : Bool → Prop) (h : impl_within.wp a0 a1 a2 K) : OkQ Try.prog 79 [(.v (.int .i64 a0)), (.v (.int .i64 a1)), (.v (.int .i64 a2))] H (fun r H2 => ∃ (y0 : Bool), K y0 ∧ r = (.v (.bool y0)) ∧ H = H2) := by
  unfold impl_within.wp at h
  refine of_body Try.f79 F.hm Try.func79 rfl Try.call79 (by kernel_rfl) (by simp) ?_
  refine fi_seq ?_
  refine fi_region ?_
  refine so_assign (v := (.v (.bool false))) rfl ?_
  refine so_nil ?_
  refine fi_seq ?_
  refine fi_region ?_
  refine so_move (v := (.v (.int .i64 a0))) rfl ?_
  refine so_move (v := (.v (.int .i64 a1))) rfl ?_
  refine so_bin rfl rfl ab_geq ?_
  refine so_move (v := (.v (.bool (decide (a1 ≤ a0))))) rfl ?_
  replace h := ofP h; rcases h with ⟨c101, h⟩ | ⟨c101, h⟩
  · refine so_gyes rfl (decide_eq_true c101) ?_
    refine so_move (v := (.v (.int .i64 a0))) rfl ?_
    refine so_gyes rfl (decide_eq_true c101) ?_
    refine so_move (v := (.v (.int .i64 a2))) rfl ?_
    refine so_gyes rfl (decide_eq_true c101) ?_
    refine so_bin rfl rfl ab_leq ?_
    refine so_pick_t (v := (.v (.bool (decide (a0 ≤ a2))))) rfl (decide_eq_true c101) rfl ?_
    refine so_assign (v := (.v (.bool (decide (a0 ≤ a2))))) rfl ?_
    refine so_nil ?_
    exact by_ret rfl ⟨_, h, rfl, rfl⟩
  · refine so_gno rfl (decide_eq_false c101) ?_
    refine so_gno rfl (decide_eq_false c101) ?_
    refine so_gno rfl (decide_eq_false c101) ?_
    refine so_pick_f (v := (.v (.bool false))) rfl (decide_eq_false c101) rfl ?_
    refine so_assign (v := (.v (.bool false))) rfl ?_
    refine so_nil ?_
    exact by_ret rfl ⟨_, h, rfl, rfl⟩

end Go.Proofs.Ytpeijfnfffogeaa.G

namespace Go.Proofs.Ytpeijfnfffogeaa.G
open Go Go.Ab Go.Proofs Go.Proofs.Ytpeijfnfffogeaa
set_option maxRecDepth 100000
set_option linter.unusedVariables false
set_option linter.unusedSimpArgs false
set_option maxHeartbeats 1000000
attribute [local irreducible] wops wopf Go.Ab.Fin
theorem F158.it2 : tint Try.prog 2 = some .i64 := by kernel_rfl
theorem F158.sr9 : tstr Try.prog 9 = true := by kernel_rfl
theorem F158.us5 : (Try.prog.underlying 5).isSome = true := by kernel_rfl
theorem impl_CheckOf_ok {fr : List Pc} {H : Heap} (a0 : Int) (a1 : List UInt8) (hs : Sep H (fr))  (K : Int → Bool → Prop) (h : impl_CheckOf.wp a0 a1 K) : OkQ Try.prog 158 [(.v (.int .i64 a0)), (.v (.str (pk a1)))] H (fun r H2 => ∃ (y0 : Int) (y1 : Bool), K y0 y1 ∧ r = (.t [(.v (.int .i64 y0)), (.v (.bool y1))]) ∧ H = H2) := by
  unfold impl_CheckOf.wp at h
  refine of_body Try.f158 F.hm Try.func158 rfl Try.call158 (by kernel_rfl) (by simp) ?_
  refine fi_seq ?_
  refine fi_region ?_
  refine so_assign (v := (.v (.int .i64 (0 : Int)))) rfl ?_
  refine so_assign (v := (.v (.bool false))) rfl ?_
  refine so_nil ?_
  refine fi_seq ?_
  refine fi_seq ?_
  refine fi_region ?_
  refine so_move (v := (.v (.int .i64 a0))) rfl ?_
  refine sv_callS (impl_within_ok a0 (0 : Int) (65002 : Int) hs  _ h) (fun _ _ ⟨_, _, _, e⟩ => e) rfl rfl ?_
  clear h
  rintro _ _ ⟨y101, h, rfl, rfl⟩
  refine so_un rfl au_not ?_
  refine so_nil ?_
  replace h := ofT h; rcases h with ⟨c103, h⟩ | ⟨c103, h⟩
  · refine fi_false rfl (not_f c103) ?_
    refine fi_skip ?_
    refine fi_seq ?_
    refine fi_seq ?_
    refine fi_region ?_
    refine so_move (v := (.v (.str (pk a1)))) rfl ?_
    refine so_slen rfl F158.sr9 ?_
    refine so_move (v := (.v (.int .i64 (0 : Int)))) rfl ?_
    refine so_nil ?_
    refine fi_block ?_
    refine fi_loop ?_
    refine fi_at [(0, (.v (.int .i64 a0))), (1, (.v (.str (pk a1)))), (11, (.v (.int .i64 (a1.length : Int)))), (12, (.v (.int .i64 (0 : Int))))] ⟨rfl, rfl, rfl, rfl, trivial⟩ ?_
    refine h (fun (start105 : Int) (x106 : Int) => ∀ (s : Nat → TV), Fin _ _ (updL s [(0, (.v (.int .i64 start105))), (1, (.v (.str (pk a1)))), (11, (.v (.int .i64 (a1.length : Int)))), (12, (.v (.int .i64 x106)))]) _ _) ?_ _
    intro start105 x106 h s109
    refine fi_inLoop ?_
    refine fi_seq ?_
    refine fi_region ?_
    refine so_bin rfl rfl ab_lss ?_
    refine so_nil ?_
    refine fi_seq ?_
    replace h := ofP h; rcases h with ⟨c107, h⟩ | ⟨c107, h⟩
    · refine fi_true rfl (decide_eq_true c107) ?_
      refine fi_skip ?_
      refine fi_seq ?_
      refine fi_block ?_
      refine fi_seq ?_
      refine fi_region ?_
      refine so_move (v := (.v (.int .i64 x106))) rfl ?_
      refine so_assign (v := (.v (.int .i64 x106))) rfl ?_
      refine so_nil ?_
      refine fi_region ?_
      refine so_move (v := (.v (.int .i64 start105))) rfl ?_
      refine so_bin rfl rfl ab_mul ?_
      refine so_move (v := (.v (.str (pk a1)))) rfl ?_
      refine so_move (v := (.v (.int .i64 x106))) rfl ?_
      obtain ⟨c108, h⟩ := h
      refine so_index rfl rfl F158.sr9 c108 ?_
      refine sv_ii rfl F158.us5 F158.it2 ?_
      refine so_bin rfl rfl ab_add ?_
      refine so_bin rfl rfl ab_add ?_
      refine so_bin rfl rfl (ab_rem (by decide)) ?_
      refine so_assign (v := (.v (.int .i64 (Int.tmod (IntKind.i64.wrap ((IntKind.i64.wrap ((IntKind.i64.wrap ((853 : Int) * start105)) + (IntKind.i64.wrap (bt a1 x106)))) + (139 : Int))) (65003 : Int))))) rfl ?_
      refine so_nil ?_
      refine fi_inBlock ?_
      refine fi_region ?_
      refine so_bin rfl rfl ab_add ?_
      refine so_move (v := (.v (.int .i64 (IntKind.i64.wrap (x106 + (1 : Int)))))) rfl ?_
      refine so_nil ?_
      exact fi_at [(0, (.v (.int .i64 (Int.tmod (IntKind.i64.wrap ((IntKind.i64.wrap ((IntKind.i64.wrap ((853 : Int) * start105)) + (IntKind.i64.wrap (bt a1 x106)))) + (139 : Int))) (65003 : Int))))), (1, (.v (.str (pk a1)))), (11, (.v (.int .i64 (a1.length : Int)))), (12, (.v (.int .i64 (IntKind.i64.wrap (x106 + (1 : Int))))))] ⟨rfl, rfl, rfl, rfl, trivial⟩ (h _)
    · refine fi_false rfl (decide_eq_false c107) ?_
      refine fi_exit rfl ?_
      refine fi_seq ?_
      refine fi_region ?_
      refine so_move (v := (.v (.int .i64 start105))) rfl ?_
      refine so_assign (v := (.v (.int .i64 start105))) rfl ?_
      refine so_assign (v := (.v (.bool true))) rfl ?_
      refine so_nil ?_
      exact by_ret rfl ⟨_, _, h, rfl, rfl⟩
  · refine fi_true rfl (not_t c103) ?_
    refine fi_seq ?_
    refine fi_region ?_
    refine so_assign (v := (.v (.int .i64 (0 : Int)))) rfl ?_
    refine so_assign (v := (.v (.bool false))) rfl ?_
    refine so_nil ?_
    exact by_ret rfl ⟨_, _, h, rfl, rfl⟩

end Go.Proofs.Ytpeijfnfffogeaa.G

namespace Go.Proofs.Ytpeijfnfffogeaa.G
open Go Go.Ab Go.Proofs Go.Proofs.Ytpeijfnfffogeaa
set_option maxRecDepth 100000
set_option linter.unusedVariables false
set_option linter.unusedSimpArgs false
set_option maxHeartbeats 1000000
attribute [local irreducible] wops wopf Go.Ab.Fin
theorem F161.sr9 : tstr Try.prog 9 = true := by kernel_rfl
theorem impl_IsName_ok {fr : List Pc} {H : Heap} (a0 : List UInt8) (hs : Sep H (fr))  (K : Bool → Prop) (h : impl_IsName.wp a0 K) : OkQ Try.prog 161 [(.v (.str (pk a0)))] H (fun r H2 => ∃ (y0 : Bool), K y0 ∧ r = (.v (.bool y0)) ∧ H = H2) := by
  unfold impl_IsName.wp at h
  refine of_body Try.f161 F.hm Try.func161 rfl Try.call161 (by kernel_rfl) (by simp) ?_
  refine fi_seq ?_
  refine fi_region ?_
  refine so_assign (v := (.v (.bool false))) rfl ?_
  refine so_nil ?_
  refine fi_seq ?_
  refine fi_seq ?_
  refine fi_region ?_
  refine so_move (v := (.v (.str (pk a0)))) rfl ?_
  refine so_slen rfl F161.sr9 ?_
  refine so_move (v := (.v (.int .i64 (0 : Int)))) rfl ?_
  refine so_nil ?_
  refine fi_block ?_
  refine fi_loop ?_
  refine fi_at [(0, (.v (.str (pk a0)))), (5, (.v (.int .i64 (a0.length : Int)))), (6, (.v (.int .i64 (0 : Int))))] ⟨rfl, rfl, rfl, trivial⟩ ?_
  refine h (fun (x102 : Int) => ∀ (s : Nat → TV), Fin _ _ (updL s [(0, (.v (.str (pk a0)))), (5, (.v (.int .i64 (a0.length : Int)))), (6, (.v (.int .i64 x102)))]) _ _) ?_ _
  intro x102 h s108
  refine fi_inLoop ?_
  refine fi_seq ?_
  refine fi_region ?_
  refine so_bin rfl rfl ab_lss ?_
  refine so_nil ?_
  refine fi_seq ?_
  replace h := ofP h; rcases h with ⟨c103, h⟩ | ⟨c103, h⟩
  · refine fi_true rfl (decide_eq_true c103) ?_
    refine fi_skip ?_
    refine fi_seq ?_
    refine fi_block ?_
    refine fi_seq ?_
    refine fi_region ?_
    refine so_move (v := (.v (.int .i64 x102))) rfl ?_
    refine so_assign (v := (.v (.int .i64 x102))) rfl ?_
    refine so_nil ?_
    refine fi_seq ?_
    refine fi_region ?_
    refine so_move (v := (.v (.str (pk a0)))) rfl ?_
    refine so_move (v := (.v (.int .i64 x102))) rfl ?_
    obtain ⟨c104, h⟩ := h
    refine so_index rfl rfl F161.sr9 c104 ?_
    refine so_bin rfl rfl ab_lss ?_
    refine so_move (v := (.v (.bool (decide ((bt a0 x102) < (97 : Int)))))) rfl ?_
    replace h := ofP h; rcases h with ⟨c105, h⟩ | ⟨c105, h⟩
    · refine so_gno rfl (decide_eq_true c105) ?_
      refine so_gno rfl (decide_eq_true c105) ?_
      refine so_gno rfl (decide_eq_true c105) ?_
      refine so_gno rfl (decide_eq_true c105) ?_
      refine so_pick_t (v := (.v (.bool true))) rfl (decide_eq_true c105) rfl ?_
      refine so_nil ?_
      refine fi_true rfl rfl ?_
      refine fi_seq ?_
      refine fi_region ?_
      refine so_assign (v := (.v (.bool false))) rfl ?_
      refine so_nil ?_
      exact by_ret rfl ⟨_, h, rfl, rfl⟩
    · refine so_gyes rfl (decide_eq_false c105) ?_
      refine so_move (v := (.v (.str (pk a0)))) rfl ?_
      refine so_gyes rfl (decide_eq_false c105) ?_
      refine so_move (v := (.v (.int .i64 x102))) rfl ?_
      refine so_gyes rfl (decide_eq_false c105) ?_
      refine so_index rfl rfl F161.sr9 c104 ?_
      refine so_gyes rfl (decide_eq_false c105) ?_
      refine so_bin rfl rfl ab_gtr ?_
      refine so_pick_f (v := (.v (.bool (decide ((122 : Int) < (bt a0 x102)))))) rfl (decide_eq_false c105) rfl ?_
      refine so_nil ?_
      replace h := ofP h; rcases h with ⟨c106, h⟩ | ⟨c106, h⟩
      · refine fi_true rfl (decide_eq_true c106) ?_
        refine fi_seq ?_
        refine fi_region ?_
        refine so_assign (v := (.v (.bool false))) rfl ?_
        refine so_nil ?_
        exact by_ret rfl ⟨_, h, rfl, rfl⟩
      · refine fi_false rfl (decide_eq_false c106) ?_
        refine fi_skip ?_
        refine fi_inBlock ?_
        refine fi_region ?_
        refine so_bin rfl rfl ab_add ?_
        refine so_move (v := (.v (.int .i64 (IntKind.i64.wrap (x102 + (1 : Int)))))) rfl ?_
        refine so_nil ?_
        exact fi_at [(0, (.v (.str (pk a0)))), (5, (.v (.int .i64 (a0.length : Int)))), (6, (.v (.int .i64 (IntKind.i64.wrap (x102 + (1 : Int))))))] ⟨rfl, rfl, rfl, trivial⟩ (h _)
  · refine fi_false rfl (decide_eq_false c103) ?_
    refine fi_exit rfl ?_
    refine fi_seq ?_
    refine fi_region ?_
    refine so_move (v := (.v (.str (pk a0)))) rfl ?_
    refine so_slen rfl F161.sr9 ?_
    refine so_bin rfl rfl ab_geq ?_
    refine so_move (v := (.v (.bool (decide ((1 : Int) ≤ (a0.length : Int)))))) rfl ?_
    replace h := ofP h; rcases h with ⟨c107, h⟩ | ⟨c107, h⟩
    · refine so_gyes rfl (decide_eq_true c107) ?_
      refine so_move (v := (.v (.str (pk a0)))) rfl ?_
      refine so_gyes rfl (decide_eq_true c107) ?_
      refine so_slen rfl F161.sr9 ?_
      refine so_gyes rfl (decide_eq_true c107) ?_
      refine so_bin rfl rfl ab_leq ?_
      refine so_pick_t (v := (.v (.bool (decide ((a0.length : Int) ≤ (8 : Int)))))) rfl (decide_eq_true c107) rfl ?_
      refine so_assign (v := (.v (.bool (decide ((a0.length : Int) ≤ (8 : Int)))))) rfl ?_
      refine so_nil ?_
      exact by_ret rfl ⟨_, h, rfl, rfl⟩
    · refine so_gno rfl (decide_eq_false c107) ?_
      refine so_gno rfl (decide_eq_false c107) ?_
      refine so_gno rfl (decide_eq_false c107) ?_
      refine so_pick_f (v := (.v (.bool false))) rfl (decide_eq_false c107) rfl ?_
      refine so_assign (v := (.v (.bool false))) rfl ?_
      refine so_nil ?_
      exact by_ret rfl ⟨_, h, rfl, rfl⟩

end Go.Proofs.Ytpeijfnfffogeaa.G

namespace Go.Proofs.Ytpeijfnfffogeaa.G
open Go Go.Ab Go.Proofs Go.Proofs.Ytpeijfnfffogeaa
set_option maxRecDepth 100000
set_option linter.unusedVariables false
set_option linter.unusedSimpArgs false
set_option maxHeartbeats 1000000
attribute [local irreducible] wops wopf Go.Ab.Fin
theorem F68.ag2 : tagg Try.prog 2 = some false := by kernel_rfl
theorem F68.ag37 : tagg Try.prog 37 = some false := by kernel_rfl
theorem F68.ag9 : tagg Try.prog 9 = some false := by kernel_rfl
theorem F68.fd57_0 : tfield Try.prog 57 0 = some (0, 1, false) := by kernel_rfl
theorem F68.fd57_1 : tfield Try.prog 57 1 = some (1, 1, false) := by kernel_rfl
theorem F68.fd57_2 : tfield Try.prog 57 2 = some (2, 1, false) := by kernel_rfl
theorem F68.inf57 : (Try.prog.info? 57).isSome = true := by kernel_rfl
theorem F68.ti37 : (telem Try.prog 37).isSome = true := by kernel_rfl
theorem impl_ValidTake_ok {fr : List Pc} {H : Heap} (a0 : List UInt8) (a1 : Int) (v2 : AV) (l2 : List (Nat)) (hs : Sep H (fr)) (g2 : ∀ H, Sep H fr → Shows H v2 1 (enc (eFlt .f32) l2)) (K : Bool → Prop) (h : impl_ValidTake.wp a0 a1 l2 K) : OkQ Try.prog 68 [(.g [(.str (pk a0)), (.int .i64 a1), v2])] H (fun r H2 => ∃ (y0 : Bool), K y0 ∧ r = (.v (.bool y0)) ∧ Sep H2 (fr)) := by
  unfold impl_ValidTake.wp at h
  refine of_body Try.f68 F.hm Try.func68 rfl Try.call68 (by kernel_rfl) (by simp) ?_
  refine fi_seq ?_
  refine fi_region ?_
  refine sv_box hs rfl (c := [(.str (pk a0)), (.int .i64 a1), v2]) rfl F68.inf57 (stc rfl (stc rfl (stc (g2 _ hs).stor stn))) nofun (fun id101 H102 hs => ?_)
  refine so_assign (v := (.v (.bool false))) rfl ?_
  refine so_nil ?_
  refine fi_seq ?_
  refine fi_region ?_
  refine so_fieldAddr rfl F68.fd57_0 ?_
  refine sv_ld hs 0 rfl rfl rfl F68.ag9 ?_
  refine sv_callS (impl_IsName_ok a0 hs  _ h) (fun _ _ ⟨_, _, _, e⟩ => e) rfl rfl ?_
  clear h
  rintro _ _ ⟨y104, h, rfl, rfl⟩
  refine so_move (v := (.v (.bool y104))) rfl ?_
  replace h := ofT h; rcases h with ⟨c106, h⟩ | ⟨c106, h⟩
  · refine so_gyes rfl c106 ?_
    refine so_fieldAddr rfl F68.fd57_1 ?_
    refine so_gyes rfl c106 ?_
    refine sv_ld hs 0 rfl rfl rfl F68.ag2 ?_
    refine so_gyes rfl c106 ?_
    refine sv_callS (impl_within_ok a1 (1 : Int) (65535 : Int) hs  _ h) (fun _ _ ⟨_, _, _, e⟩ => e) rfl rfl ?_
    clear h
    rintro _ _ ⟨y107, h, rfl, rfl⟩
    refine so_pick_t (v := (.v (.bool y107))) rfl c106 rfl ?_
    refine so_move (v := (.v (.bool y107))) rfl ?_
    replace h := ofT h; rcases h with ⟨c109, h⟩ | ⟨c109, h⟩
    · refine so_gyes rfl c109 ?_
      refine so_fieldAddr rfl F68.fd57_2 ?_
      refine so_gyes rfl c109 ?_
      refine sv_ld hs 0 rfl rfl rfl F68.ag37 ?_
      refine so_gyes rfl c109 ?_
      refine sv_len (g2 _ hs.tl) (fun _ => rfl) (by decide) rfl F68.ti37 ?_
      refine so_gyes rfl c109 ?_
      refine sv_callS (impl_within_ok (l2.length : Int) (1 : Int) (128 : Int) hs  _ h) (fun _ _ ⟨_, _, _, e⟩ => e) rfl rfl ?_
      clear h
      rintro _ _ ⟨y110, h, rfl, rfl⟩
      refine so_pick_t (v := (.v (.bool y110))) rfl c109 rfl ?_
      refine so_assign (v := (.v (.bool y110))) rfl ?_
      refine so_nil ?_
      exact by_ret rfl ⟨_, h, rfl, (Sep.del 0 hs)⟩
    · refine so_gno rfl c109 ?_
      refine so_gno rfl c109 ?_
      refine so_gno rfl c109 ?_
      refine so_gno rfl c109 ?_
      refine so_pick_f (v := (.v (.bool false))) rfl c109 rfl ?_
      refine so_assign (v := (.v (.bool false))) rfl ?_
      refine so_nil ?_
      exact by_ret rfl ⟨_, h, rfl, (Sep.del 0 hs)⟩
  · refine so_gno rfl c106 ?_
    refine so_gno rfl c106 ?_
    refine so_gno rfl c106 ?_
    refine so_pick_f (v := (.v (.bool false))) rfl c106 rfl ?_
    refine so_move (v := (.v (.bool false))) rfl ?_
    refine so_gno rfl rfl ?_
    refine so_gno rfl rfl ?_
    refine so_gno rfl rfl ?_
    refine so_gno rfl rfl ?_
    refine so_pick_f (v := (.v (.bool false))) rfl rfl rfl ?_
    refine so_assign (v := (.v (.bool false))) rfl ?_
    refine so_nil ?_
    exact by_ret rfl ⟨_, h, rfl, (Sep.del 0 hs)⟩

end Go.Proofs.Ytpeijfnfffogeaa.G

namespace Go.Proofs.Ytpeijfnfffogeaa.G
open Go Go.Ab Go.Proofs Go.Proofs.Ytpeijfnfffogeaa
set_option maxRecDepth 100000
set_option linter.unusedVariables false
set_option linter.unusedSimpArgs false
set_option maxHeartbeats 1000000
attribute [local irreducible] wops wopf Go.Ab.Fin
theorem F65.ag2 : tagg Try.prog 2 = some false := by kernel_rfl
theorem F65.ag37 : tagg Try.prog 37 = some false := by kernel_rfl
theorem F65.ag57 : tagg Try.prog 57 = some true := by kernel_rfl
theorem F65.ag9 : tagg Try.prog 9 = some false := by kernel_rfl
theorem F65.fd57_0 : tfield Try.prog 57 0 = some (0, 1, false) := by kernel_rfl
theorem F65.fd57_1 : tfield Try.prog 57 1 = some (1, 1, false) := by kernel_rfl
theorem F65.fd57_2 : tfield Try.prog 57 2 = some (2, 1, false) := by kernel_rfl
theorem F65.inf57 : (Try.prog.info? 57).isSome = true := by kernel_rfl
theorem F65.it5 : tint Try.prog 5 = some .u8 := by kernel_rfl
theorem F65.ns98 : tstr Try.prog 98 = false := by kernel_rfl
theorem F65.sr9 : tstr Try.prog 9 = true := by kernel_rfl
theorem F65.sz5 : tsz Try.prog 5 = some 1 := by kernel_rfl
theorem F65.sz57 : tsz Try.prog 57 = some 3 := by kernel_rfl
theorem F65.ta98_9 : tapp Try.prog 98 9 = some (1, 1) := by kernel_rfl
theorem F65.ta98_98 : tapp Try.prog 98 98 = some (1, 1) := by kernel_rfl
theorem F65.te98 : telem Try.prog 98 = some 5 := by kernel_rfl
theorem F65.us3 : (Try.prog.underlying 3).isSome = true := by kernel_rfl
theorem F65.us98 : (Try.prog.underlying 98).isSome = true := by kernel_rfl
theorem F65.ze5 : tzero Try.prog 5 = some [(.int .u8 (0 : Int))] := by kernel_rfl
theorem impl_StoreTake_ok {fr : List Pc} {H : Heap} (a0 : List UInt8) (a1 : Int) (v2 : AV) (l2 : List (Nat)) (hs : Sep H (fr)) (g2 : ∀ H, Sep H fr → Shows H v2 1 (enc (eFlt .f32) l2)) (K : (List UInt8) → Bool → Prop) (h : impl_StoreTake.wp a0 a1 l2 K) : OkQ Try.prog 65 [(.g [(.str (pk a0)), (.int .i64 a1), v2])] H (fun r H2 => ∃ (y0 : List UInt8) (y1 : Bool), K y0 y1 ∧ r = (.t [(.v (.str (pk y0))), (.v (.bool y1))]) ∧ Sep H2 (fr)) := by
  unfold impl_StoreTake.wp at h
  refine of_body Try.f65 F.hm Try.func65 rfl Try.call65 (by kernel_rfl) (by simp) ?_
  refine fi_seq ?_
  refine fi_region ?_
  refine sv_box hs rfl (c := [(.str (pk a0)), (.int .i64 a1), v2]) rfl F65.inf57 (stc rfl (stc rfl (stc (g2 _ hs).stor stn))) nofun (fun id101 H102 hs => ?_)
  refine so_assign (v := (.v (.str (pk ([] : List UInt8))))) rfl ?_
  refine so_assign (v := (.v (.bool false))) rfl ?_
  refine so_nil ?_
  refine fi_seq ?_
  refine fi_seq ?_
  refine fi_region ?_
  refine sv_lds hs 0 rfl rfl (leb rfl) rfl F65.ag57 F65.sz57 ?_
  refine sv_call (impl_ValidTake_ok a0 a1 v2 l2 hs (fun _ hs => (g2 _ hs.tl)) _ h) rfl rfl nofun ?_
  clear h hs
  rintro _ H105 ⟨y104, h, rfl, hs⟩
  refine so_un rfl au_not ?_
  refine so_nil ?_
  replace h := ofT h; rcases h with ⟨c106, h⟩ | ⟨c106, h⟩
  · refine fi_false rfl (not_f c106) ?_
    refine fi_skip ?_
    refine fi_seq ?_
    refine fi_region ?_
    refine so_fieldAddr rfl F65.fd57_2 ?_
    refine sv_ld hs 0 rfl rfl rfl F65.ag37 ?_
    refine sv_call (impl_packed_ok v2 l2 hs (fun _ hs => (g2 _ hs.tl)) _ h) rfl rfl nofun ?_
    clear h hs
    rintro _ H108 ⟨y107, h, rfl, hs⟩
    refine so_assign (v := (.v (.str (pk y107)))) rfl ?_
    refine so_nil ?_
    refine fi_seq ?_
    refine fi_region ?_
    refine sv_bslice hs (eInt .u8) ([(84 : Int), (65 : Int), (75 : Int), (49 : Int)] : List (Int)) [[(.int .u8 (84 : Int))], [(.int .u8 (65 : Int))], [(.int .u8 (75 : Int))], [(.int .u8 (49 : Int))]] F65.te98 F65.sz5 F65.ze5 rfl rfl rfl rfl (fun _ => rfl) rfl (by decide) nofun (fun v109 H110 nv109 hs => ?_)
    obtain ⟨c112, h⟩ := h
    refine sv_bb hs 0 rfl c112 rfl F65.te98 F65.it5 F65.ns98 ?_
    refine so_fieldAddr rfl F65.fd57_0 ?_
    refine sv_ld hs 1 rfl rfl rfl F65.ag9 ?_
    refine so_slen rfl F65.sr9 ?_
    refine sv_ii rfl F65.us3 F65.it5 ?_
    refine sv_bslice hs (eInt .u8) ([(IntKind.u8.wrap (a0.length : Int))] : List (Int)) [[(.int .u8 (IntKind.u8.wrap (a0.length : Int)))]] F65.te98 F65.sz5 F65.ze5 rfl rfl rfl rfl (fun _ => rfl) rfl (by decide) nofun (fun v113 H114 nv113 hs => ?_)
    obtain ⟨c118, h⟩ := h
    refine sv_app hs 1 rfl (hs.shows 0 rfl) (fun _ => rfl) (by decide) F65.ta98_98 (by decide) c118 rfl rfl nofun (fun v116 H117 kv116 hs => ?_)
    replace hs := hs.del 0
    have nv116 := kv116 nv109
    refine so_assign (v := (.v v116)) rfl ?_
    refine so_nil ?_
    refine fi_seq ?_
    refine fi_free [5] ?_
    refine wf_pure rfl (by kernel_rfl) ?_
    refine so_move (v := (.v v116)) rfl ?_
    refine so_end ?_
    refine wf_pure rfl (by kernel_rfl) ?_
    refine so_fieldAddr rfl F65.fd57_0 ?_
    refine so_end ?_
    refine wf_same (by decide +kernel) (by kernel_rfl) ?_
    refine sv_ld hs 1 rfl rfl rfl F65.ag9 ?_
    refine so_end ⟨rfl, ?_⟩
    have hs0_ := hs
    refine wf_chg (by kernel_rfl) ?_
    obtain ⟨c121, h⟩ := h
    refine sv_apps hs 0 rfl F65.ta98_9 (by decide) c121 rfl rfl nofun (fun v119 H120 kv119 hs => ?_)
    have nv119 := kv119 nv116
    refine so_end ⟨fan, ?_⟩
    refine wf_pure rfl (by kernel_rfl) ?_
    refine so_fieldAddr rfl F65.fd57_1 ?_
    refine so_end ?_
    refine wf_free (.v (.int .i64 a1)) rfl (by kernel_rfl) (stepr (i := 0) rfl (by refine sv_ld hs 1 rfl rfl rfl F65.ag2 ?_; exact so_end ⟨rfl, rfl⟩)) (fac (.inr (stepr (i := 0) rfl (by refine sv_ld hs0_ 1 rfl rfl rfl F65.ag2 ?_; exact so_end ⟨rfl, rfl⟩))) fan) ?_
    have hs1_ := hs
    refine wf_chg (by kernel_rfl) ?_
    refine sv_call (impl_lowBytes_ok a1 hs  _ h) rfl rfl nofun ?_
    clear h
    rintro _ H125 ⟨y122, h, v123, rfl, hs⟩
    refine so_end ⟨(fac (.inl ⟨6, by kernel_rfl⟩) fan), ?_⟩
    have hs2_ := hs
    refine wf_chg (by kernel_rfl) ?_
    obtain ⟨c128, h⟩ := h
    refine sv_app hs 1 rfl (hs.shows 0 rfl) (fun _ => rfl) (by decide) F65.ta98_98 (by decide) c128 rfl rfl nofun (fun v126 H127 kv126 hs => ?_)
    have nv126 := kv126 nv119
    refine so_end ⟨(fac (.inl ⟨6, by kernel_rfl⟩) fan), ?_⟩
    refine wf_pure rfl (by kernel_rfl) ?_
    refine so_assign (v := (.v v126)) rfl ?_
    refine so_end ?_
    refine wf_nil ?_
    refine fi_seq ?_
    refine fi_region ?_
    refine so_move (v := (.v v126)) rfl ?_
    refine so_move (v := (.v (.str (pk y107)))) rfl ?_
    refine so_slen rfl F65.sr9 ?_
    refine sv_call (impl_lowBytes_ok (y107.length : Int) hs  _ h) rfl rfl nofun ?_
    clear h hs
    rintro _ H132 ⟨y129, h, v130, rfl, hs⟩
    obtain ⟨c135, h⟩ := h
    refine sv_app hs 2 rfl (hs.shows 0 rfl) (fun _ => rfl) (by decide) F65.ta98_98 (by decide) c135 rfl rfl nofun (fun v133 H134 kv133 hs => ?_)
    have nv133 := kv133 nv126
    refine so_move (v := (.v (.str (pk y107)))) rfl ?_
    obtain ⟨c138, h⟩ := h
    refine sv_apps hs 2 rfl F65.ta98_9 (by decide) c138 rfl rfl nofun (fun v136 H137 kv136 hs => ?_)
    have nv136 := kv136 nv133
    refine so_assign (v := (.v v136)) rfl ?_
    refine so_nil ?_
    refine fi_seq ?_
    refine fi_region ?_
    refine so_move (v := (.v v136)) rfl ?_
    refine sv_bs (hs.shows 2 rfl) nv136 rfl F65.te98 F65.it5 F65.sr9 ?_
    refine sv_callS (impl_CheckOf_ok (0 : Int) (byts (((((([(84 : Int), (65 : Int), (75 : Int), (49 : Int)] : List (Int)) ++ ([(IntKind.u8.wrap (a0.length : Int))] : List (Int))) ++ nums a0) ++ y122) ++ y129) ++ nums y107)) hs  _ h) (fun _ _ ⟨_, _, _, _, e⟩ => e) rfl rfl ?_
    clear h
    rintro _ _ ⟨y139, y140, h, rfl, rfl⟩
    refine so_move (v := (.t [(.v (.int .i64 y139)), (.v (.bool y140))])) rfl ?_
    refine so_extract rfl rfl rfl ?_
    refine so_extract rfl rfl rfl ?_
    refine so_assign (v := (.v (.int .i64 y139))) rfl ?_
    refine so_assign (v := (.v (.bool y140))) rfl ?_
    refine so_nil ?_
    refine fi_seq ?_
    refine fi_region ?_
    refine so_move (v := (.v v136)) rfl ?_
    refine so_move (v := (.v (.int .i64 y139))) rfl ?_
    refine sv_call (impl_lowBytes_ok y139 hs  _ h) rfl rfl nofun ?_
    clear h hs
    rintro _ H145 ⟨y142, h, v143, rfl, hs⟩
    obtain ⟨c148, h⟩ := h
    refine sv_app hs 3 rfl (hs.shows 0 rfl) (fun _ => rfl) (by decide) F65.ta98_98 (by decide) c148 rfl rfl nofun (fun v146 H147 kv146 hs => ?_)
    have nv146 := kv146 nv136
    refine sv_bs (hs.shows 3 rfl) nv146 rfl F65.te98 F65.it5 F65.sr9 ?_
    refine so_assign (v := (.v (.str (pk (byts ((((((([(84 : Int), (65 : Int), (75 : Int), (49 : Int)] : List (Int)) ++ ([(IntKind.u8.wrap (a0.length : Int))] : List (Int))) ++ nums a0) ++ y122) ++ y129) ++ nums y107) ++ y142)))))) rfl ?_
    refine so_assign (v := (.v (.bool true))) rfl ?_
    refine so_nil ?_
    exact by_ret rfl ⟨_, _, h, rfl, (Sep.dropn 5 hs)⟩
  · refine fi_true rfl (not_t c106) ?_
    refine fi_seq ?_
    refine fi_region ?_
    refine so_assign (v := (.v (.str (pk ([] : List UInt8))))) rfl ?_
    refine so_assign (v := (.v (.bool false))) rfl ?_
    refine so_nil ?_
    exact by_ret rfl ⟨_, _, h, rfl, (Sep.del 0 hs)⟩

end Go.Proofs.Ytpeijfnfffogeaa.G

namespace Go.Proofs.Ytpeijfnfffogeaa.G
open Go Go.Ab Go.Proofs Go.Proofs.Ytpeijfnfffogeaa
set_option maxRecDepth 100000
set_option linter.unusedVariables false
set_option linter.unusedSimpArgs false
set_option maxHeartbeats 1000000
attribute [local irreducible] wops wopf Go.Ab.Fin
theorem F231.xb231 : Try.f231.body = none := rfl
theorem F231.xe231 : Extern.find Try.f231 = some Extern.MathFloatBits.float32frombits := by rfl
theorem F231.xf231 : (Extern.findNext Try.f231).isNone = true := by kernel_rfl
theorem F231.xn231 : (Try.f231.name == "runtime.NumGoroutine") = false := by kernel_rfl
theorem math_Float32frombits_ok {fr : List Pc} {H : Heap} (x : Int) (hs : Sep H fr) (K : Nat → Prop) (h : math_Float32frombits.wp x K) : OkQ Try.prog 231 [(.v (.int .u32 x))] H (fun r H2 => ∃ y0 : Nat, K y0 ∧ r = (.v (.flt .f32 y0)) ∧ H = H2) := ⟨_, _, f32from_ok Try.func231 F231.xn231 F231.xb231 F231.xf231 F231.xe231 x, _, h, rfl, rfl⟩

end Go.Proofs.Ytpeijfnfffogeaa.G

namespace Go.Proofs.Ytpeijfnfffogeaa.G
open Go Go.Ab Go.Proofs Go.Proofs.Ytpeijfnfffogeaa
set_option maxRecDepth 100000
set_option linter.unusedVariables false
set_option linter.unusedSimpArgs false
set_option maxHeartbeats 1000000
attribute [local irreducible] wops wopf Go.Ab.Fin
theorem F160.it240 : tint Try.prog 240 = some .u32 := by kernel_rfl
theorem F160.us2 : (Try.prog.underlying 2).isSome = true := by kernel_rfl
theorem impl_FromBits_ok {fr : List Pc} {H : Heap} (a0 : Int) (hs : Sep H (fr))  (K : Nat → Bool → Prop) (h : impl_FromBits.wp a0 K) : OkQ Try.prog 160 [(.v (.int .i64 a0))] H (fun r H2 => ∃ (y0 : Nat) (y1 : Bool), K y0 y1 ∧ r = (.t [(.v (.flt .f32 y0)), (.v (.bool y1))]) ∧ H = H2) := by
  unfold impl_FromBits.wp at h
  refine of_body Try.f160 F.hm Try.func160 rfl Try.call160 (by kernel_rfl) (by simp) ?_
  refine fi_seq ?_
  refine fi_region ?_
  refine so_assign (v := (.v (.flt .f32 (cz .f32 0)))) rfl ?_
  refine so_assign (v := (.v (.bool false))) rfl ?_
  refine so_nil ?_
  refine fi_seq ?_
  refine fi_seq ?_
  refine fi_region ?_
  refine so_move (v := (.v (.int .i64 a0))) rfl ?_
  refine sv_callS (impl_within_ok a0 (0 : Int) (4294967295 : Int) hs  _ h) (fun _ _ ⟨_, _, _, e⟩ => e) rfl rfl ?_
  clear h
  rintro _ _ ⟨y101, h, rfl, rfl⟩
  refine so_un rfl au_not ?_
  refine so_nil ?_
  replace h := ofT h; rcases h with ⟨c103, h⟩ | ⟨c103, h⟩
  · refine fi_false rfl (not_f c103) ?_
    refine fi_skip ?_
    refine fi_seq ?_
    refine fi_region ?_
    refine so_move (v := (.v (.int .i64 a0))) rfl ?_
    refine sv_ii rfl F160.us2 F160.it240 ?_
    refine sv_callS (math_Float32frombits_ok (IntKind.u32.wrap a0) hs  _ h) (fun _ _ ⟨_, _, _, e⟩ => e) rfl rfl ?_
    clear h
    rintro _ _ ⟨y104, h, rfl, rfl⟩
    refine so_assign (v := (.v (.flt .f32 y104))) rfl ?_
    refine so_assign (v := (.v (.bool true))) rfl ?_
    refine so_nil ?_
    exact by_ret rfl ⟨_, _, h, rfl, rfl⟩
  · refine fi_true rfl (not_t c103) ?_
    refine fi_seq ?_
    refine fi_region ?_
    refine so_assign (v := (.v (.flt .f32 (cz .f32 0)))) rfl ?_
    refine so_assign (v := (.v (.bool false))) rfl ?_
    refine so_nil ?_
    exact by_ret rfl ⟨_, _, h, rfl, rfl⟩

end Go.Proofs.Ytpeijfnfffogeaa.G

namespace Go.Proofs.Ytpeijfnfffogeaa.G
open Go Go.Ab Go.Proofs Go.Proofs.Ytpeijfnfffogeaa
set_option maxRecDepth 100000
set_option linter.unusedVariables false
set_option linter.unusedSimpArgs false
set_option maxHeartbeats 1000000
attribute [local irreducible] wops wopf Go.Ab.Fin
theorem F67.it3 : tint Try.prog 3 = some .i64 := by kernel_rfl
theorem F67.sr9 : tstr Try.prog 9 = true := by kernel_rfl
theorem F67.sz25 : tsz Try.prog 25 = some 1 := by kernel_rfl
theorem F67.ta37_37 : tapp Try.prog 37 37 = some (1, 4) := by kernel_rfl
theorem F67.te37 : telem Try.prog 37 = some 25 := by kernel_rfl
theorem F67.ti37 : (telem Try.prog 37).isSome = true := by kernel_rfl
theorem F67.us5 : (Try.prog.underlying 5).isSome = true := by kernel_rfl
theorem F67.ze25 : tzero Try.prog 25 = some [(.flt .f32 (0 : Nat))] := by kernel_rfl
theorem impl_UnpackTake_ok {fr : List Pc} {H : Heap} (a0 : List UInt8) (hs : Sep H (fr))  (K : (List (Nat)) → Bool → Prop) (h : impl_UnpackTake.wp a0 K) : OkQ Try.prog 67 [(.v (.str (pk a0)))] H (fun r H2 => ∃ (y0 : List (Nat)) (y1 : Bool), K y0 y1 ∧ ∃ (w0_ : AV), r = (.t [(.v w0_), (.v (.bool y1))]) ∧ Sep H2 (Pc.osl w0_ 1 (enc (eFlt .f32) y0) :: fr)) := by
  unfold impl_UnpackTake.wp at h
  refine of_body Try.f67 F.hm Try.func67 rfl Try.call67 (by kernel_rfl) (by simp) ?_
  refine fi_seq ?_
  refine fi_region ?_
  refine so_assign (v := (.v .nilsl)) rfl ?_
  refine so_assign (v := (.v (.bool false))) rfl ?_
  refine so_nil ?_
  refine fi_seq ?_
  refine fi_region ?_
  refine sv_bslice hs (eFlt .f32) ([] : List (Nat)) [] F67.te37 F67.sz25 F67.ze25 rfl rfl rfl rfl (fun _ => rfl) rfl (by decide) nofun (fun v101 H102 nv101 hs => ?_)
  refine so_assign (v := (.v v101)) rfl ?_
  refine so_assign (v := (.v (.int .i64 (0 : Int)))) rfl ?_
  refine so_nil ?_
  refine fi_seq ?_
  refine fi_seq ?_
  refine fi_region ?_
  refine so_assign (v := (.v (.int .i64 (0 : Int)))) rfl ?_
  refine so_nil ?_
  refine fi_block ?_
  refine fi_loop ?_
  refine fi_at [(0, (.v (.str (pk a0)))), (4, (.v v101)), (5, (.v (.int .i64 (0 : Int)))), (6, (.v (.int .i64 (0 : Int))))] ⟨rfl, rfl, rfl, rfl, trivial⟩ ?_
  refine h (fun (out131 : List (Nat)) (last133 : Int) (atq134 : Int) => ∀ (s : Nat → TV) (H : Heap) (v132 : AV) (nv132 : v132 ≠ .nilsl), Sep H (Pc.osl v132 1 (enc (eFlt .f32) out131) :: fr) → Fin _ _ (updL s [(0, (.v (.str (pk a0)))), (4, (.v v132)), (5, (.v (.int .i64 last133))), (6, (.v (.int .i64 atq134)))]) H _) ?_ _ _ _ nv101 hs
  intro out131 last133 atq134 h s156 H157 v132 nv132 hs
  refine fi_inLoop ?_
  refine fi_seq ?_
  refine fi_seq ?_
  refine fi_region ?_
  refine so_move (v := (.v (.int .i64 atq134))) rfl ?_
  refine so_move (v := (.v (.str (pk a0)))) rfl ?_
  refine so_slen rfl F67.sr9 ?_
  refine so_bin rfl rfl ab_lss ?_
  refine so_nil ?_
  replace h := ofP h; rcases h with ⟨c135, h⟩ | ⟨c135, h⟩
  · refine fi_true rfl (decide_eq_true c135) ?_
    refine fi_skip ?_
    refine fi_block ?_
    refine fi_seq ?_
    refine fi_region ?_
    refine so_move (v := (.v (.str (pk a0)))) rfl ?_
    refine so_move (v := (.v (.int .i64 atq134))) rfl ?_
    obtain ⟨c136, h⟩ := h
    refine so_index rfl rfl F67.sr9 c136 ?_
    refine sv_ii rfl F67.us5 F67.it3 ?_
    refine so_assign (v := (.v (.int .i64 (IntKind.i64.wrap (bt a0 atq134))))) rfl ?_
    refine so_nil ?_
    refine fi_seq ?_
    refine fi_region ?_
    refine so_move (v := (.v (.int .i64 atq134))) rfl ?_
    refine so_bin rfl rfl ab_add ?_
    refine so_move (v := (.v (.int .i64 (IntKind.i64.wrap (bt a0 atq134))))) rfl ?_
    refine so_bin rfl rfl ab_sub ?_
    refine so_assign (v := (.v (.int .i64 (IntKind.i64.wrap ((IntKind.i64.wrap (atq134 + (5 : Int))) - (IntKind.i64.wrap (bt a0 atq134))))))) rfl ?_
    refine so_nil ?_
    refine fi_seq ?_
    refine fi_seq ?_
    refine fi_region ?_
    refine so_move (v := (.v (.int .i64 (IntKind.i64.wrap (bt a0 atq134))))) rfl ?_
    refine so_bin rfl rfl ab_gtr ?_
    refine so_move (v := (.v (.bool (decide ((4 : Int) < (IntKind.i64.wrap (bt a0 atq134))))))) rfl ?_
    replace h := ofP h; rcases h with ⟨c137, h⟩ | ⟨c137, h⟩
    · refine so_gno rfl (decide_eq_true c137) ?_
      refine so_gno rfl (decide_eq_true c137) ?_
      refine so_gno rfl (decide_eq_true c137) ?_
      refine so_gno rfl (decide_eq_true c137) ?_
      refine so_pick_t (v := (.v (.bool true))) rfl (decide_eq_true c137) rfl ?_
      refine so_move (v := (.v (.bool true))) rfl ?_
      refine so_gno rfl rfl ?_
      refine so_gno rfl rfl ?_
      refine so_gno rfl rfl ?_
      refine so_pick_t (v := (.v (.bool true))) rfl rfl rfl ?_
      refine so_nil ?_
      refine fi_true rfl rfl ?_
      refine fi_seq ?_
      refine fi_region ?_
      refine so_assign (v := (.v .nilsl)) rfl ?_
      refine so_assign (v := (.v (.bool false))) rfl ?_
      refine so_nil ?_
      exact by_ret rfl ⟨_, _, h, _, rfl, (Sep.nil (Sep.del 0 hs) 1)⟩
    · refine so_gyes rfl (decide_eq_false c137) ?_
      refine so_move (v := (.v (.int .i64 (IntKind.i64.wrap ((IntKind.i64.wrap (atq134 + (5 : Int))) - (IntKind.i64.wrap (bt a0 atq134))))))) rfl ?_
      refine so_gyes rfl (decide_eq_false c137) ?_
      refine so_move (v := (.v (.str (pk a0)))) rfl ?_
      refine so_gyes rfl (decide_eq_false c137) ?_
      refine so_slen rfl F67.sr9 ?_
      refine so_gyes rfl (decide_eq_false c137) ?_
      refine so_bin rfl rfl ab_gtr ?_
      refine so_pick_f (v := (.v (.bool (decide ((a0.length : Int) < (IntKind.i64.wrap ((IntKind.i64.wrap (atq134 + (5 : Int))) - (IntKind.i64.wrap (bt a0 atq134))))))))) rfl (decide_eq_false c137) rfl ?_
      refine so_move (v := (.v (.bool (decide ((a0.length : Int) < (IntKind.i64.wrap ((IntKind.i64.wrap (atq134 + (5 : Int))) - (IntKind.i64.wrap (bt a0 atq134))))))))) rfl ?_
      replace h := ofP h; rcases h with ⟨c138, h⟩ | ⟨c138, h⟩
      · refine so_gno rfl (decide_eq_true c138) ?_
        refine so_gno rfl (decide_eq_true c138) ?_
        refine so_gno rfl (decide_eq_true c138) ?_
        refine so_pick_t (v := (.v (.bool true))) rfl (decide_eq_true c138) rfl ?_
        refine so_nil ?_
        refine fi_true rfl rfl ?_
        refine fi_seq ?_
        refine fi_region ?_
        refine so_assign (v := (.v .nilsl)) rfl ?_
        refine so_assign (v := (.v (.bool false))) rfl ?_
        refine so_nil ?_
        exact by_ret rfl ⟨_, _, h, _, rfl, (Sep.nil (Sep.del 0 hs) 1)⟩
      · refine so_gyes rfl (decide_eq_false c138) ?_
        refine so_move (v := (.v v132)) rfl ?_
        refine so_gyes rfl (decide_eq_false c138) ?_
        refine sv_len (hs.shows 0 rfl) (fun _ => rfl) (by decide) rfl F67.ti37 ?_
        refine so_gyes rfl (decide_eq_false c138) ?_
        refine so_bin rfl rfl ab_eql ?_
        refine so_pick_f (v := (.v (.bool (decide ((out131.length : Int) = (128 : Int)))))) rfl (decide_eq_false c138) rfl ?_
        refine so_nil ?_
        replace h := ofP h; rcases h with ⟨c139, h⟩ | ⟨c139, h⟩
        · refine fi_true rfl (decide_eq_true c139) ?_
          refine fi_seq ?_
          refine fi_region ?_
          refine so_assign (v := (.v .nilsl)) rfl ?_
          refine so_assign (v := (.v (.bool false))) rfl ?_
          refine so_nil ?_
          exact by_ret rfl ⟨_, _, h, _, rfl, (Sep.nil (Sep.del 0 hs) 1)⟩
        · refine fi_false rfl (decide_eq_false c139) ?_
          refine fi_skip ?_
          refine fi_seq ?_
          refine fi_region ?_
          refine so_move (v := (.v (.int .i64 last133))) rfl ?_
          refine so_move (v := (.v (.str (pk a0)))) rfl ?_
          refine so_move (v := (.v (.int .i64 atq134))) rfl ?_
          refine so_bin rfl rfl ab_add ?_
          refine so_move (v := (.v (.int .i64 (IntKind.i64.wrap ((IntKind.i64.wrap (atq134 + (5 : Int))) - (IntKind.i64.wrap (bt a0 atq134))))))) rfl ?_
          obtain ⟨c140, h⟩ := h
          refine so_sslice rfl rfl rfl F67.sr9 rfl rfl c140 ?_
          refine sv_callS (impl_lowNumber_ok ((a0.drop ((IntKind.i64.wrap (atq134 + (1 : Int)))).toNat).take (((IntKind.i64.wrap ((IntKind.i64.wrap (atq134 + (5 : Int))) - (IntKind.i64.wrap (bt a0 atq134))))).toNat - ((IntKind.i64.wrap (atq134 + (1 : Int)))).toNat)) hs  _ h) (fun _ _ ⟨_, _, _, e⟩ => e) rfl rfl ?_
          clear h
          rintro _ _ ⟨y141, h, rfl, rfl⟩
          refine so_bin rfl rfl ab_xor ?_
          refine so_assign (v := (.v (.int .i64 (ibits .xor .i64 last133 y141)))) rfl ?_
          refine so_nil ?_
          refine fi_seq ?_
          refine fi_region ?_
          refine so_move (v := (.v (.int .i64 (ibits .xor .i64 last133 y141)))) rfl ?_
          refine sv_callS (impl_FromBits_ok (ibits .xor .i64 last133 y141) hs  _ h) (fun _ _ ⟨_, _, _, _, e⟩ => e) rfl rfl ?_
          clear h
          rintro _ _ ⟨y143, y144, h, rfl, rfl⟩
          refine so_move (v := (.t [(.v (.flt .f32 y143)), (.v (.bool y144))])) rfl ?_
          refine so_extract rfl rfl rfl ?_
          refine so_extract rfl rfl rfl ?_
          refine so_assign (v := (.v (.flt .f32 y143))) rfl ?_
          refine so_assign (v := (.v (.bool y144))) rfl ?_
          refine so_nil ?_
          refine fi_seq ?_
          refine fi_region ?_
          refine so_move (v := (.v v132)) rfl ?_
          refine so_move (v := (.v (.flt .f32 y143))) rfl ?_
          refine sv_bslice hs (eFlt .f32) ([y143] : List (Nat)) [[(.flt .f32 y143)]] F67.te37 F67.sz25 F67.ze25 rfl rfl rfl rfl (fun _ => rfl) rfl (by decide) nofun (fun v146 H147 nv146 hs => ?_)
          obtain ⟨c151, h⟩ := h
          refine sv_app hs 1 rfl (hs.shows 0 rfl) (fun _ => rfl) (by decide) F67.ta37_37 (by decide) c151 rfl rfl nofun (fun v149 H150 kv149 hs => ?_)
          replace hs := hs.del 0
          have nv149 := kv149 nv132
          refine so_assign (v := (.v v149)) rfl ?_
          refine so_nil ?_
          refine fi_region ?_
          refine so_move (v := (.v (.int .i64 (IntKind.i64.wrap ((IntKind.i64.wrap (atq134 + (5 : Int))) - (IntKind.i64.wrap (bt a0 atq134))))))) rfl ?_
          refine so_assign (v := (.v (.int .i64 (IntKind.i64.wrap ((IntKind.i64.wrap (atq134 + (5 : Int))) - (IntKind.i64.wrap (bt a0 atq134))))))) rfl ?_
          refine so_nil ?_
          refine fi_inBlock ?_
          exact fi_at [(0, (.v (.str (pk a0)))), (4, (.v v149)), (5, (.v (.int .i64 (ibits .xor .i64 last133 y141)))), (6, (.v (.int .i64 (IntKind.i64.wrap ((IntKind.i64.wrap (atq134 + (5 : Int))) - (IntKind.i64.wrap (bt a0 atq134)))))))] ⟨rfl, rfl, rfl, rfl, trivial⟩ (h _ _ _ nv149 hs)
  · refine fi_false rfl (decide_eq_false c135) ?_
    refine fi_exit rfl ?_
    refine fi_seq ?_
    refine fi_seq ?_
    refine fi_region ?_
    refine so_move (v := (.v v132)) rfl ?_
    refine sv_len (hs.shows 0 rfl) (fun _ => rfl) (by decide) rfl F67.ti37 ?_
    refine so_bin rfl rfl ab_eql ?_
    refine so_move (v := (.v (.bool (decide ((out131.length : Int) = (0 : Int)))))) rfl ?_
    replace h := ofP h; rcases h with ⟨c152, h⟩ | ⟨c152, h⟩
    · refine so_gno rfl (decide_eq_true c152) ?_
      refine so_gno rfl (decide_eq_true c152) ?_
      refine so_gno rfl (decide_eq_true c152) ?_
      refine so_gno rfl (decide_eq_true c152) ?_
      refine so_pick_t (v := (.v (.bool true))) rfl (decide_eq_true c152) rfl ?_
      refine so_nil ?_
      refine fi_true rfl rfl ?_
      refine fi_seq ?_
      refine fi_region ?_
      refine so_assign (v := (.v .nilsl)) rfl ?_
      refine so_assign (v := (.v (.bool false))) rfl ?_
      refine so_nil ?_
      exact by_ret rfl ⟨_, _, h, _, rfl, (Sep.nil (Sep.del 0 hs) 1)⟩
    · refine so_gyes rfl (decide_eq_false c152) ?_
      refine so_move (v := (.v v132)) rfl ?_
      refine so_gyes rfl (decide_eq_false c152) ?_
      refine sv_call (impl_packed_ok v132 out131 hs (fun _ hs => (hs.shows 0 rfl)) _ h) rfl rfl nofun ?_
      clear h hs
      rintro _ H154 ⟨y153, h, rfl, hs⟩
      refine so_gyes rfl (decide_eq_false c152) ?_
      refine so_move (v := (.v (.str (pk a0)))) rfl ?_
      refine so_gyes rfl (decide_eq_false c152) ?_
      refine so_bin rfl rfl ab_sneq ?_
      refine so_pick_f (v := (.v (.bool (!(decide (y153 = a0)))))) rfl (decide_eq_false c152) rfl ?_
      refine so_nil ?_
      replace h := ofP h; rcases h with ⟨c155, h⟩ | ⟨c155, h⟩
      · refine fi_false rfl (not_f (decide_eq_true c155)) ?_
        refine fi_skip ?_
        refine fi_seq ?_
        refine fi_region ?_
        refine so_move (v := (.v v132)) rfl ?_
        refine so_assign (v := (.v v132)) rfl ?_
        refine so_assign (v := (.v (.bool true))) rfl ?_
        refine so_nil ?_
        exact by_ret rfl ⟨_, _, h, _, rfl, hs⟩
      · refine fi_true rfl (not_t (decide_eq_false c155)) ?_
        refine fi_seq ?_
        refine fi_region ?_
        refine so_assign (v := (.v .nilsl)) rfl ?_
        refine so_assign (v := (.v (.bool false))) rfl ?_
        refine so_nil ?_
        exact by_ret rfl ⟨_, _, h, _, rfl, (Sep.nil (Sep.del 0 hs) 1)⟩

end Go.Proofs.Ytpeijfnfffogeaa.G

namespace Go.Proofs.Ytpeijfnfffogeaa.G
open Go Go.Ab Go.Proofs Go.Proofs.Ytpeijfnfffogeaa
set_option maxRecDepth 100000
set_option linter.unusedVariables false
set_option linter.unusedSimpArgs false
set_option maxHeartbeats 1000000
attribute [local irreducible] wops wopf Go.Ab.Fin
theorem F99.ag57 : tagg Try.prog 57 = some true := by kernel_rfl
theorem F99.bp57 : bplan Try.prog 57 = some ([(.str (pk ([] : List UInt8))), (.int .i64 (0 : Int)), .nilsl], [(0, 1), (1, 1), (2, 1)]) := by kernel_rfl
theorem F99.fd57_2 : tfield Try.prog 57 2 = some (2, 1, false) := by kernel_rfl
theorem F99.it3 : tint Try.prog 3 = some .i64 := by kernel_rfl
theorem F99.sr9 : tstr Try.prog 9 = true := by kernel_rfl
theorem F99.sz37 : tsz Try.prog 37 = some 1 := by kernel_rfl
theorem F99.sz57 : tsz Try.prog 57 = some 3 := by kernel_rfl
theorem F99.us5 : (Try.prog.underlying 5).isSome = true := by kernel_rfl
theorem F99.ze57 : tzero Try.prog 57 = some [(.str (pk ([] : List UInt8))), (.int .i64 (0 : Int)), .nilsl] := by kernel_rfl
theorem impl_takeAhead_ok {fr : List Pc} {H : Heap} (a0 : List UInt8) (hs : Sep H (fr))  (K : (List UInt8) → Int → (List (Nat)) → Int → Bool → Prop) (h : impl_takeAhead.wp a0 K) : OkQ Try.prog 99 [(.v (.str (pk a0)))] H (fun r H2 => ∃ (y0 : List UInt8) (y1 : Int) (y2 : List (Nat)) (y3 : Int) (y4 : Bool), K y0 y1 y2 y3 y4 ∧ ∃ (w0_ : AV), r = (.t [(.g [(.str (pk y0)), (.int .i64 y1), w0_]), (.v (.int .i64 y3)), (.v (.bool y4))]) ∧ Sep H2 (Pc.osl w0_ 1 (enc (eFlt .f32) y2) :: fr)) := by
  unfold impl_takeAhead.wp at h
  refine of_body Try.f99 F.hm Try.func99 rfl Try.call99 (by kernel_rfl) (by simp) ?_
  refine fi_seq ?_
  refine fi_region ?_
  refine sv_alloc hs F99.ze57 rfl nofun (fun id101 H102 hs => ?_)
  refine so_assign (v := (.v (.int .i64 (0 : Int)))) rfl ?_
  refine so_assign (v := (.v (.bool false))) rfl ?_
  refine so_nil ?_
  refine fi_seq ?_
  refine fi_seq ?_
  refine fi_region ?_
  refine so_move (v := (.v (.str (pk a0)))) rfl ?_
  refine so_slen rfl F99.sr9 ?_
  refine so_bin rfl rfl ab_lss ?_
  refine so_move (v := (.v (.bool (decide ((a0.length : Int) < (5 : Int)))))) rfl ?_
  replace h := ofP h; rcases h with ⟨c104, h⟩ | ⟨c104, h⟩
  · refine so_gno rfl (decide_eq_true c104) ?_
    refine so_gno rfl (decide_eq_true c104) ?_
    refine so_gno rfl (decide_eq_true c104) ?_
    refine so_pick_t (v := (.v (.bool true))) rfl (decide_eq_true c104) rfl ?_
    refine so_nil ?_
    refine fi_true rfl rfl ?_
    refine fi_seq ?_
    refine fi_region ?_
    refine so_build F99.bp57 (cps := []) rfl fan rfl ?_
    refine sv_st hs 0 rfl rfl rfl (c := [(.str (pk ([] : List UInt8))), (.int .i64 (0 : Int)), .nilsl]) rfl F99.sz57 rfl (stc rfl (stc rfl (stc rfl stn))) (leb rfl) (cs' := [(.str (pk ([] : List UInt8))), (.int .i64 (0 : Int)), .nilsl]) rfl nofun (fun H105 hs => ?_)
    refine so_assign (v := (.v (.int .i64 (0 : Int)))) rfl ?_
    refine so_assign (v := (.v (.bool false))) rfl ?_
    refine so_nil ?_
    exact by_ret (res_mk (ar_cells rfl F99.ag57 F99.sz57 (hs.lds 0 rfl (leb rfl) rfl) (ar_tmp rfl (ar_tmp rfl ar_nil))) rfl) ⟨_, _, _, _, _, h, _, rfl, (Sep.nil (Sep.del 0 hs) 1)⟩
  · refine so_gyes rfl (decide_eq_false c104) ?_
    refine so_move (v := (.v (.str (pk a0)))) rfl ?_
    refine so_gyes rfl (decide_eq_false c104) ?_
    refine sv_callS (strings_HasPrefix_ok a0 ([84, 65, 75, 49] : List UInt8) hs  _ h) (fun _ _ ⟨_, _, _, e⟩ => e) rfl rfl ?_
    clear h
    rintro _ _ ⟨y106, h, rfl, rfl⟩
    refine so_gyes rfl (decide_eq_false c104) ?_
    refine so_un rfl au_not ?_
    refine so_pick_f (v := (.v (.bool (!y106)))) rfl (decide_eq_false c104) rfl ?_
    refine so_nil ?_
    replace h := ofT h; rcases h with ⟨c108, h⟩ | ⟨c108, h⟩
    · refine fi_false rfl (not_f c108) ?_
      refine fi_skip ?_
      refine fi_seq ?_
      refine fi_region ?_
      refine so_move (v := (.v (.str (pk a0)))) rfl ?_
      obtain ⟨c109, h⟩ := h
      refine so_index rfl rfl F99.sr9 c109 ?_
      refine sv_ii rfl F99.us5 F99.it3 ?_
      refine so_bin rfl rfl ab_add ?_
      refine so_assign (v := (.v (.int .i64 (IntKind.i64.wrap ((5 : Int) + (IntKind.i64.wrap (bt a0 (4 : Int)))))))) rfl ?_
      refine so_nil ?_
      refine fi_seq ?_
      refine fi_seq ?_
      refine fi_region ?_
      refine so_move (v := (.v (.str (pk a0)))) rfl ?_
      refine so_slen rfl F99.sr9 ?_
      refine so_move (v := (.v (.int .i64 (IntKind.i64.wrap ((5 : Int) + (IntKind.i64.wrap (bt a0 (4 : Int)))))))) rfl ?_
      refine so_bin rfl rfl ab_add ?_
      refine so_bin rfl rfl ab_lss ?_
      refine so_nil ?_
      replace h := ofP h; rcases h with ⟨c110, h⟩ | ⟨c110, h⟩
      · refine fi_true rfl (decide_eq_true c110) ?_
        refine fi_seq ?_
        refine fi_region ?_
        refine so_build F99.bp57 (cps := []) rfl fan rfl ?_
        refine sv_st hs 0 rfl rfl rfl (c := [(.str (pk ([] : List UInt8))), (.int .i64 (0 : Int)), .nilsl]) rfl F99.sz57 rfl (stc rfl (stc rfl (stc rfl stn))) (leb rfl) (cs' := [(.str (pk ([] : List UInt8))), (.int .i64 (0 : Int)), .nilsl]) rfl nofun (fun H111 hs => ?_)
        refine so_assign (v := (.v (.int .i64 (0 : Int)))) rfl ?_
        refine so_assign (v := (.v (.bool false))) rfl ?_
        refine so_nil ?_
        exact by_ret (res_mk (ar_cells rfl F99.ag57 F99.sz57 (hs.lds 0 rfl (leb rfl) rfl) (ar_tmp rfl (ar_tmp rfl ar_nil))) rfl) ⟨_, _, _, _, _, h, _, rfl, (Sep.nil (Sep.del 0 hs) 1)⟩
      · refine fi_false rfl (decide_eq_false c110) ?_
        refine fi_skip ?_
        refine fi_seq ?_
        refine fi_free [2, 7, 8] ?_
        refine wf_pure rfl (by kernel_rfl) ?_
        refine so_move (v := (.v (.str (pk a0)))) rfl ?_
        refine so_end ?_
        refine wf_pure rfl (by kernel_rfl) ?_
        refine so_move (v := (.v (.int .i64 (IntKind.i64.wrap ((5 : Int) + (IntKind.i64.wrap (bt a0 (4 : Int)))))))) rfl ?_
        refine so_end ?_
        obtain ⟨c112, h⟩ := h
        refine wf_free (.v (.str (pk ((a0.drop ((5 : Int)).toNat).take (((IntKind.i64.wrap ((5 : Int) + (IntKind.i64.wrap (bt a0 (4 : Int)))))).toNat - ((5 : Int)).toNat))))) rfl (by kernel_rfl) (stepr (i := 0) rfl (by refine so_sslice rfl rfl rfl F99.sr9 rfl rfl c112 ?_; exact so_end ⟨rfl, rfl⟩)) fan ?_
        refine wf_pure rfl (by kernel_rfl) ?_
        refine so_move (v := (.v (.str (pk a0)))) rfl ?_
        refine so_end ?_
        refine wf_pure rfl (by kernel_rfl) ?_
        refine so_move (v := (.v (.int .i64 (IntKind.i64.wrap ((5 : Int) + (IntKind.i64.wrap (bt a0 (4 : Int)))))))) rfl ?_
        refine so_end ?_
        refine wf_pure rfl (by kernel_rfl) ?_
        refine so_move (v := (.v (.int .i64 (IntKind.i64.wrap ((5 : Int) + (IntKind.i64.wrap (bt a0 (4 : Int)))))))) rfl ?_
        refine so_end ?_
        refine wf_pure rfl (by kernel_rfl) ?_
        refine so_bin rfl rfl ab_add ?_
        refine so_end ?_
        obtain ⟨c113, h⟩ := h
        refine wf_free (.v (.str (pk ((a0.drop ((IntKind.i64.wrap ((5 : Int) + (IntKind.i64.wrap (bt a0 (4 : Int)))))).toNat).take (((IntKind.i64.wrap ((IntKind.i64.wrap ((5 : Int) + (IntKind.i64.wrap (bt a0 (4 : Int))))) + (2 : Int)))).toNat - ((IntKind.i64.wrap ((5 : Int) + (IntKind.i64.wrap (bt a0 (4 : Int)))))).toNat))))) rfl (by kernel_rfl) (stepr (i := 0) rfl (by refine so_sslice rfl rfl rfl F99.sr9 rfl rfl c113 ?_; exact so_end ⟨rfl, rfl⟩)) fan ?_
        obtain ⟨y114, hw115, h⟩ := h
        refine wf_free (.v (.int .i64 y114)) rfl (by kernel_rfl) (stepr (i := 0) rfl (by refine sv_callS (impl_lowNumber_ok ((a0.drop ((IntKind.i64.wrap ((5 : Int) + (IntKind.i64.wrap (bt a0 (4 : Int)))))).toNat).take (((IntKind.i64.wrap ((IntKind.i64.wrap ((5 : Int) + (IntKind.i64.wrap (bt a0 (4 : Int))))) + (2 : Int)))).toNat - ((IntKind.i64.wrap ((5 : Int) + (IntKind.i64.wrap (bt a0 (4 : Int)))))).toNat)) hs  (fun zy114 => y114 = zy114) hw115) (fun _ _ ⟨_, _, _, e⟩ => e) rfl rfl ?_; rintro _ _ ⟨_, rfl, rfl, rfl⟩; exact so_end ⟨rfl, rfl⟩)) fan ?_
        refine wf_pure rfl (by kernel_rfl) ?_
        refine so_build F99.bp57 (cps := [(0, [(.str (pk ((a0.drop ((5 : Int)).toNat).take (((IntKind.i64.wrap ((5 : Int) + (IntKind.i64.wrap (bt a0 (4 : Int)))))).toNat - ((5 : Int)).toNat))))]), (1, [(.int .i64 y114)])]) rfl (fac (stc rfl stn) (fac (stc rfl stn) fan)) rfl ?_
        refine so_end ?_
        have hs0_ := hs
        refine wf_chg (by kernel_rfl) ?_
        refine sv_alloc hs F99.ze57 rfl nofun (fun id116 H117 hs => ?_)
        refine so_end ⟨(fac (.inr (stepr (i := 0) rfl (by refine sv_callS (impl_lowNumber_ok ((a0.drop ((IntKind.i64.wrap ((5 : Int) + (IntKind.i64.wrap (bt a0 (4 : Int)))))).toNat).take (((IntKind.i64.wrap ((IntKind.i64.wrap ((5 : Int) + (IntKind.i64.wrap (bt a0 (4 : Int))))) + (2 : Int)))).toNat - ((IntKind.i64.wrap ((5 : Int) + (IntKind.i64.wrap (bt a0 (4 : Int)))))).toNat)) hs  (fun zy114 => y114 = zy114) hw115) (fun _ _ ⟨_, _, _, e⟩ => e) rfl rfl ?_; rintro _ _ ⟨_, rfl, rfl, rfl⟩; exact so_end ⟨rfl, rfl⟩))) (fac (.inr (stepr (i := 0) rfl (by refine so_sslice rfl rfl rfl F99.sr9 rfl rfl c113 ?_; exact so_end ⟨rfl, rfl⟩))) (fac (.inr (stepr (i := 0) rfl (by refine so_sslice rfl rfl rfl F99.sr9 rfl rfl c112 ?_; exact so_end ⟨rfl, rfl⟩))) fan))), ?_⟩
        have hs1_ := hs
        refine wf_chg (by kernel_rfl) ?_
        refine sv_st hs 0 rfl rfl rfl (c := [(.str (pk ((a0.drop ((5 : Int)).toNat).take (((IntKind.i64.wrap ((5 : Int) + (IntKind.i64.wrap (bt a0 (4 : Int)))))).toNat - ((5 : Int)).toNat)))), (.int .i64 y114), .nilsl]) rfl F99.sz57 rfl (stc rfl (stc rfl (stc rfl stn))) (leb rfl) (cs' := [(.str (pk ((a0.drop ((5 : Int)).toNat).take (((IntKind.i64.wrap ((5 : Int) + (IntKind.i64.wrap (bt a0 (4 : Int)))))).toNat - ((5 : Int)).toNat)))), (.int .i64 y114), .nilsl]) rfl nofun (fun H119 hs => ?_)
        refine so_end ⟨(fac (.inl ⟨11, by kernel_rfl⟩) (fac (.inl ⟨11, by kernel_rfl⟩) (fac (.inl ⟨11, by kernel_rfl⟩) fan))), ?_⟩
        refine wf_nil ?_
        refine fi_seq ?_
        refine fi_region ?_
        refine so_move (v := (.v (.int .i64 (IntKind.i64.wrap ((5 : Int) + (IntKind.i64.wrap (bt a0 (4 : Int)))))))) rfl ?_
        refine so_bin rfl rfl ab_add ?_
        refine so_move (v := (.v (.str (pk a0)))) rfl ?_
        refine so_move (v := (.v (.int .i64 (IntKind.i64.wrap ((5 : Int) + (IntKind.i64.wrap (bt a0 (4 : Int)))))))) rfl ?_
        refine so_bin rfl rfl ab_add ?_
        refine so_move (v := (.v (.int .i64 (IntKind.i64.wrap ((5 : Int) + (IntKind.i64.wrap (bt a0 (4 : Int)))))))) rfl ?_
        refine so_bin rfl rfl ab_add ?_
        obtain ⟨c120, h⟩ := h
        refine so_sslice rfl rfl rfl F99.sr9 rfl rfl c120 ?_
        refine sv_callS (impl_lowNumber_ok ((a0.drop ((IntKind.i64.wrap ((IntKind.i64.wrap ((5 : Int) + (IntKind.i64.wrap (bt a0 (4 : Int))))) + (2 : Int)))).toNat).take (((IntKind.i64.wrap ((IntKind.i64.wrap ((5 : Int) + (IntKind.i64.wrap (bt a0 (4 : Int))))) + (4 : Int)))).toNat - ((IntKind.i64.wrap ((IntKind.i64.wrap ((5 : Int) + (IntKind.i64.wrap (bt a0 (4 : Int))))) + (2 : Int)))).toNat)) hs  _ h) (fun _ _ ⟨_, _, _, e⟩ => e) rfl rfl ?_
        clear h
        rintro _ _ ⟨y121, h, rfl, rfl⟩
        refine so_bin rfl rfl ab_add ?_
        refine so_assign (v := (.v (.int .i64 (IntKind.i64.wrap ((IntKind.i64.wrap ((IntKind.i64.wrap ((5 : Int) + (IntKind.i64.wrap (bt a0 (4 : Int))))) + (4 : Int))) + y121))))) rfl ?_
        refine so_nil ?_
        refine fi_seq ?_
        refine fi_seq ?_
        refine fi_region ?_
        refine so_move (v := (.v (.str (pk a0)))) rfl ?_
        refine so_slen rfl F99.sr9 ?_
        refine so_move (v := (.v (.int .i64 (IntKind.i64.wrap ((IntKind.i64.wrap ((IntKind.i64.wrap ((5 : Int) + (IntKind.i64.wrap (bt a0 (4 : Int))))) + (4 : Int))) + y121))))) rfl ?_
        refine so_bin rfl rfl ab_add ?_
        refine so_bin rfl rfl ab_lss ?_
        refine so_nil ?_
        replace h := ofP h; rcases h with ⟨c123, h⟩ | ⟨c123, h⟩
        · refine fi_true rfl (decide_eq_true c123) ?_
          refine fi_seq ?_
          refine fi_region ?_
          refine so_build F99.bp57 (cps := []) rfl fan rfl ?_
          refine sv_st hs 1 rfl rfl rfl (c := [(.str (pk ([] : List UInt8))), (.int .i64 (0 : Int)), .nilsl]) rfl F99.sz57 rfl (stc rfl (stc rfl (stc rfl stn))) (leb rfl) (cs' := [(.str (pk ([] : List UInt8))), (.int .i64 (0 : Int)), .nilsl]) rfl nofun (fun H124 hs => ?_)
          refine so_assign (v := (.v (.int .i64 (0 : Int)))) rfl ?_
          refine so_assign (v := (.v (.bool false))) rfl ?_
          refine so_nil ?_
          exact by_ret (res_mk (ar_cells rfl F99.ag57 F99.sz57 (hs.lds 1 rfl (leb rfl) rfl) (ar_tmp rfl (ar_tmp rfl ar_nil))) rfl) ⟨_, _, _, _, _, h, _, rfl, (Sep.nil (Sep.del 0 (Sep.del 0 hs)) 1)⟩
        · refine fi_false rfl (decide_eq_false c123) ?_
          refine fi_skip ?_
          refine fi_seq ?_
          refine fi_region ?_
          refine so_move (v := (.v (.str (pk a0)))) rfl ?_
          refine so_move (v := (.v (.int .i64 (IntKind.i64.wrap ((5 : Int) + (IntKind.i64.wrap (bt a0 (4 : Int)))))))) rfl ?_
          refine so_bin rfl rfl ab_add ?_
          refine so_move (v := (.v (.int .i64 (IntKind.i64.wrap ((IntKind.i64.wrap ((IntKind.i64.wrap ((5 : Int) + (IntKind.i64.wrap (bt a0 (4 : Int))))) + (4 : Int))) + y121))))) rfl ?_
          obtain ⟨c125, h⟩ := h
          refine so_sslice rfl rfl rfl F99.sr9 rfl rfl c125 ?_
          refine sv_call (impl_UnpackTake_ok ((a0.drop ((IntKind.i64.wrap ((IntKind.i64.wrap ((5 : Int) + (IntKind.i64.wrap (bt a0 (4 : Int))))) + (4 : Int)))).toNat).take (((IntKind.i64.wrap ((IntKind.i64.wrap ((IntKind.i64.wrap ((5 : Int) + (IntKind.i64.wrap (bt a0 (4 : Int))))) + (4 : Int))) + y121))).toNat - ((IntKind.i64.wrap ((IntKind.i64.wrap ((5 : Int) + (IntKind.i64.wrap (bt a0 (4 : Int))))) + (4 : Int)))).toNat)) hs  _ h) rfl rfl nofun ?_
          clear h hs
          rintro _ H130 ⟨y126, y129, h, v127, rfl, hs⟩
          refine so_move (v := (.t [(.v v127), (.v (.bool y129))])) rfl ?_
          refine so_extract rfl rfl rfl ?_
          refine so_extract rfl rfl rfl ?_
          refine so_assign (v := (.v v127)) rfl ?_
          refine so_assign (v := (.v (.bool y129))) rfl ?_
          refine so_nil ?_
          refine fi_seq ?_
          refine fi_seq ?_
          refine fi_region ?_
          refine so_move (v := (.v (.bool y129))) rfl ?_
          refine so_un rfl au_not ?_
          refine so_nil ?_
          replace h := ofT h; rcases h with ⟨c131, h⟩ | ⟨c131, h⟩
          · refine fi_false rfl (not_f c131) ?_
            refine fi_skip ?_
            refine fi_seq ?_
            refine fi_region ?_
            refine so_move (v := (.v v127)) rfl ?_
            refine so_fieldAddr rfl F99.fd57_2 ?_
            refine sv_st hs 1 rfl rfl rfl (c := [v127]) rfl F99.sz37 rfl (stc (hs.shows 0 rfl).stor stn) (leb rfl) (cs' := [(.str (pk ((a0.drop ((5 : Int)).toNat).take (((IntKind.i64.wrap ((5 : Int) + (IntKind.i64.wrap (bt a0 (4 : Int)))))).toNat - ((5 : Int)).toNat)))), (.int .i64 y114), v127]) rfl nofun (fun H132 hs => ?_)
            refine so_nil ?_
            refine fi_seq ?_
            refine fi_region ?_
            refine sv_lds hs 1 rfl rfl (leb rfl) rfl F99.ag57 F99.sz57 ?_
            refine sv_call (impl_StoreTake_ok ((a0.drop ((5 : Int)).toNat).take (((IntKind.i64.wrap ((5 : Int) + (IntKind.i64.wrap (bt a0 (4 : Int)))))).toNat - ((5 : Int)).toNat)) y114 v127 y126 hs (fun _ hs => (hs.shows 0 rfl)) _ h) rfl rfl nofun ?_
            clear h hs
            rintro _ H135 ⟨y133, y134, h, rfl, hs⟩
            refine so_move (v := (.t [(.v (.str (pk y133))), (.v (.bool y134))])) rfl ?_
            refine so_extract rfl rfl rfl ?_
            refine so_extract rfl rfl rfl ?_
            refine so_assign (v := (.v (.str (pk y133)))) rfl ?_
            refine so_assign (v := (.v (.bool y134))) rfl ?_
            refine so_nil ?_
            refine fi_seq ?_
            refine fi_seq ?_
            refine fi_region ?_
            refine so_move (v := (.v (.bool y134))) rfl ?_
            refine so_un rfl au_not ?_
            refine so_move (v := (.v (.bool (!y134)))) rfl ?_
            replace h := ofT h; rcases h with ⟨c136, h⟩ | ⟨c136, h⟩
            · refine so_gyes rfl (not_f c136) ?_
              refine so_move (v := (.v (.str (pk y133)))) rfl ?_
              refine so_gyes rfl (not_f c136) ?_
              refine so_move (v := (.v (.str (pk a0)))) rfl ?_
              refine so_gyes rfl (not_f c136) ?_
              refine so_move (v := (.v (.int .i64 (IntKind.i64.wrap ((IntKind.i64.wrap ((IntKind.i64.wrap ((5 : Int) + (IntKind.i64.wrap (bt a0 (4 : Int))))) + (4 : Int))) + y121))))) rfl ?_
              refine so_gyes rfl (not_f c136) ?_
              refine so_bin rfl rfl ab_add ?_
              refine so_gyes rfl (not_f c136) ?_
              obtain ⟨c137, h⟩ := h
              refine so_sslice rfl rfl rfl F99.sr9 rfl rfl c137 ?_
              refine so_gyes rfl (not_f c136) ?_
              refine so_bin rfl rfl ab_sneq ?_
              refine so_pick_f (v := (.v (.bool (!(decide (y133 = ((a0.drop ((0 : Int)).toNat).take (((IntKind.i64.wrap ((IntKind.i64.wrap ((IntKind.i64.wrap ((IntKind.i64.wrap ((5 : Int) + (IntKind.i64.wrap (bt a0 (4 : Int))))) + (4 : Int))) + y121)) + (2 : Int)))).toNat - ((0 : Int)).toNat)))))))) rfl (not_f c136) rfl ?_
              refine so_nil ?_
              replace h := ofP h; rcases h with ⟨c138, h⟩ | ⟨c138, h⟩
              · refine fi_false rfl (not_f (decide_eq_true c138)) ?_
                refine fi_skip ?_
                refine fi_seq ?_
                refine fi_region ?_
                refine sv_lds hs 1 rfl rfl (leb rfl) rfl F99.ag57 F99.sz57 ?_
                refine so_move (v := (.v (.int .i64 (IntKind.i64.wrap ((IntKind.i64.wrap ((IntKind.i64.wrap ((5 : Int) + (IntKind.i64.wrap (bt a0 (4 : Int))))) + (4 : Int))) + y121))))) rfl ?_
                refine so_bin rfl rfl ab_add ?_
                refine sv_st hs 2 rfl rfl rfl (c := [(.str (pk ((a0.drop ((5 : Int)).toNat).take (((IntKind.i64.wrap ((5 : Int) + (IntKind.i64.wrap (bt a0 (4 : Int)))))).toNat - ((5 : Int)).toNat)))), (.int .i64 y114), v127]) rfl F99.sz57 rfl (stc rfl (stc rfl (stc (hs.shows 0 rfl).stor stn))) (leb rfl) (cs' := [(.str (pk ((a0.drop ((5 : Int)).toNat).take (((IntKind.i64.wrap ((5 : Int) + (IntKind.i64.wrap (bt a0 (4 : Int)))))).toNat - ((5 : Int)).toNat)))), (.int .i64 y114), v127]) rfl nofun (fun H139 hs => ?_)
                refine so_assign (v := (.v (.int .i64 (IntKind.i64.wrap ((IntKind.i64.wrap ((IntKind.i64.wrap ((IntKind.i64.wrap ((5 : Int) + (IntKind.i64.wrap (bt a0 (4 : Int))))) + (4 : Int))) + y121)) + (2 : Int)))))) rfl ?_
                refine so_assign (v := (.v (.bool true))) rfl ?_
                refine so_nil ?_
                exact by_ret (res_mk (ar_cells rfl F99.ag57 F99.sz57 (hs.lds 2 rfl (leb rfl) rfl) (ar_tmp rfl (ar_tmp rfl ar_nil))) rfl) ⟨_, _, _, _, _, h, _, rfl, (Sep.del 1 (Sep.del 1 hs))⟩
              · refine fi_true rfl (not_t (decide_eq_false c138)) ?_
                refine fi_seq ?_
                refine fi_region ?_
                refine so_build F99.bp57 (cps := []) rfl fan rfl ?_
                refine sv_st hs 2 rfl rfl rfl (c := [(.str (pk ([] : List UInt8))), (.int .i64 (0 : Int)), .nilsl]) rfl F99.sz57 rfl (stc rfl (stc rfl (stc rfl stn))) (leb rfl) (cs' := [(.str (pk ([] : List UInt8))), (.int .i64 (0 : Int)), .nilsl]) rfl nofun (fun H140 hs => ?_)
                refine so_assign (v := (.v (.int .i64 (0 : Int)))) rfl ?_
                refine so_assign (v := (.v (.bool false))) rfl ?_
                refine so_nil ?_
                exact by_ret (res_mk (ar_cells rfl F99.ag57 F99.sz57 (hs.lds 2 rfl (leb rfl) rfl) (ar_tmp rfl (ar_tmp rfl ar_nil))) rfl) ⟨_, _, _, _, _, h, _, rfl, (Sep.nil (Sep.del 0 (Sep.del 0 (Sep.del 0 hs))) 1)⟩
            · refine so_gno rfl (not_t c136) ?_
              refine so_gno rfl (not_t c136) ?_
              refine so_gno rfl (not_t c136) ?_
              refine so_gno rfl (not_t c136) ?_
              refine so_gno rfl (not_t c136) ?_
              refine so_gno rfl (not_t c136) ?_
              refine so_pick_t (v := (.v (.bool true))) rfl (not_t c136) rfl ?_
              refine so_nil ?_
              refine fi_true rfl rfl ?_
              refine fi_seq ?_
              refine fi_region ?_
              refine so_build F99.bp57 (cps := []) rfl fan rfl ?_
              refine sv_st hs 2 rfl rfl rfl (c := [(.str (pk ([] : List UInt8))), (.int .i64 (0 : Int)), .nilsl]) rfl F99.sz57 rfl (stc rfl (stc rfl (stc rfl stn))) (leb rfl) (cs' := [(.str (pk ([] : List UInt8))), (.int .i64 (0 : Int)), .nilsl]) rfl nofun (fun H141 hs => ?_)
              refine so_assign (v := (.v (.int .i64 (0 : Int)))) rfl ?_
              refine so_assign (v := (.v (.bool false))) rfl ?_
              refine so_nil ?_
              exact by_ret (res_mk (ar_cells rfl F99.ag57 F99.sz57 (hs.lds 2 rfl (leb rfl) rfl) (ar_tmp rfl (ar_tmp rfl ar_nil))) rfl) ⟨_, _, _, _, _, h, _, rfl, (Sep.nil (Sep.del 0 (Sep.del 0 (Sep.del 0 hs))) 1)⟩
          · refine fi_true rfl (not_t c131) ?_
            refine fi_seq ?_
            refine fi_region ?_
            refine so_build F99.bp57 (cps := []) rfl fan rfl ?_
            refine sv_st hs 2 rfl rfl rfl (c := [(.str (pk ([] : List UInt8))), (.int .i64 (0 : Int)), .nilsl]) rfl F99.sz57 rfl (stc rfl (stc rfl (stc rfl stn))) (leb rfl) (cs' := [(.str (pk ([] : List UInt8))), (.int .i64 (0 : Int)), .nilsl]) rfl nofun (fun H142 hs => ?_)
            refine so_assign (v := (.v (.int .i64 (0 : Int)))) rfl ?_
            refine so_assign (v := (.v (.bool false))) rfl ?_
            refine so_nil ?_
            exact by_ret (res_mk (ar_cells rfl F99.ag57 F99.sz57 (hs.lds 2 rfl (leb rfl) rfl) (ar_tmp rfl (ar_tmp rfl ar_nil))) rfl) ⟨_, _, _, _, _, h, _, rfl, (Sep.nil (Sep.del 0 (Sep.del 0 (Sep.del 0 hs))) 1)⟩
    · refine fi_true rfl (not_t c108) ?_
      refine fi_seq ?_
      refine fi_region ?_
      refine so_build F99.bp57 (cps := []) rfl fan rfl ?_
      refine sv_st hs 0 rfl rfl rfl (c := [(.str (pk ([] : List UInt8))), (.int .i64 (0 : Int)), .nilsl]) rfl F99.sz57 rfl (stc rfl (stc rfl (stc rfl stn))) (leb rfl) (cs' := [(.str (pk ([] : List UInt8))), (.int .i64 (0 : Int)), .nilsl]) rfl nofun (fun H143 hs => ?_)
      refine so_assign (v := (.v (.int .i64 (0 : Int)))) rfl ?_
      refine so_assign (v := (.v (.bool false))) rfl ?_
      refine so_nil ?_
      exact by_ret (res_mk (ar_cells rfl F99.ag57 F99.sz57 (hs.lds 0 rfl (leb rfl) rfl) (ar_tmp rfl (ar_tmp rfl ar_nil))) rfl) ⟨_, _, _, _, _, h, _, rfl, (Sep.nil (Sep.del 0 hs) 1)⟩

end Go.Proofs.Ytpeijfnfffogeaa.G

namespace Go.Proofs.Ytpeijfnfffogeaa.G
open Go Go.Ab Go.Proofs Go.Proofs.Ytpeijfnfffogeaa
set_option maxRecDepth 100000
set_option linter.unusedVariables false
set_option linter.unusedSimpArgs false
set_option maxHeartbeats 1000000
attribute [local irreducible] wops wopf Go.Ab.Fin
theorem F28.ag57 : tagg Try.prog 57 = some true := by kernel_rfl
theorem F28.bp57 : bplan Try.prog 57 = some ([(.str (pk ([] : List UInt8))), (.int .i64 (0 : Int)), .nilsl], [(0, 1), (1, 1), (2, 1)]) := by kernel_rfl
theorem F28.sr9 : tstr Try.prog 9 = true := by kernel_rfl
theorem F28.sz57 : tsz Try.prog 57 = some 3 := by kernel_rfl
theorem F28.ze57 : tzero Try.prog 57 = some [(.str (pk ([] : List UInt8))), (.int .i64 (0 : Int)), .nilsl] := by kernel_rfl
theorem impl_LoadTake_ok {fr : List Pc} {H : Heap} (a0 : List UInt8) (hs : Sep H (fr))  (K : (List UInt8) → Int → (List (Nat)) → Bool → Prop) (h : impl_LoadTake.wp a0 K) : OkQ Try.prog 28 [(.v (.str (pk a0)))] H (fun r H2 => ∃ (y0 : List UInt8) (y1 : Int) (y2 : List (Nat)) (y3 : Bool), K y0 y1 y2 y3 ∧ ∃ (w0_ : AV), r = (.t [(.g [(.str (pk y0)), (.int .i64 y1), w0_]), (.v (.bool y3))]) ∧ Sep H2 (Pc.osl w0_ 1 (enc (eFlt .f32) y2) :: fr)) := by
  unfold impl_LoadTake.wp at h
  refine of_body Try.f28 F.hm Try.func28 rfl Try.call28 (by kernel_rfl) (by simp) ?_
  refine fi_seq ?_
  refine fi_region ?_
  refine sv_alloc hs F28.ze57 rfl nofun (fun id101 H102 hs => ?_)
  refine so_assign (v := (.v (.bool false))) rfl ?_
  refine so_nil ?_
  refine fi_seq ?_
  refine fi_region ?_
  refine so_move (v := (.v (.str (pk a0)))) rfl ?_
  refine sv_call (impl_takeAhead_ok a0 hs  _ h) rfl rfl nofun ?_
  clear h hs
  rintro _ H111 ⟨y104, y105, y106, y109, y110, h, v107, rfl, hs⟩
  refine so_move (v := (.t [(.g [(.str (pk y104)), (.int .i64 y105), v107]), (.v (.int .i64 y109)), (.v (.bool y110))])) rfl ?_
  refine so_extract rfl rfl rfl ?_
  refine so_extract rfl rfl rfl ?_
  refine so_extract rfl rfl rfl ?_
  refine sv_alloc hs F28.ze57 rfl nofun (fun id112 H113 hs => ?_)
  refine sv_st hs 0 rfl rfl rfl (c := [(.str (pk y104)), (.int .i64 y105), v107]) rfl F28.sz57 rfl (stc rfl (stc rfl (stc (hs.shows 1 rfl).stor stn))) (leb rfl) (cs' := [(.str (pk y104)), (.int .i64 y105), v107]) rfl nofun (fun H115 hs => ?_)
  refine so_assign (v := (.v (.int .i64 y109))) rfl ?_
  refine so_assign (v := (.v (.bool y110))) rfl ?_
  refine so_nil ?_
  refine fi_seq ?_
  refine fi_seq ?_
  refine fi_region ?_
  refine so_move (v := (.v (.bool y110))) rfl ?_
  refine so_un rfl au_not ?_
  refine so_move (v := (.v (.bool (!y110)))) rfl ?_
  replace h := ofT h; rcases h with ⟨c116, h⟩ | ⟨c116, h⟩
  · refine so_gyes rfl (not_f c116) ?_
    refine so_move (v := (.v (.int .i64 y109))) rfl ?_
    refine so_gyes rfl (not_f c116) ?_
    refine so_move (v := (.v (.str (pk a0)))) rfl ?_
    refine so_gyes rfl (not_f c116) ?_
    refine so_slen rfl F28.sr9 ?_
    refine so_gyes rfl (not_f c116) ?_
    refine so_bin rfl rfl ab_neq ?_
    refine so_pick_f (v := (.v (.bool (!(decide (y109 = (a0.length : Int))))))) rfl (not_f c116) rfl ?_
    refine so_nil ?_
    replace h := ofP h; rcases h with ⟨c117, h⟩ | ⟨c117, h⟩
    · refine fi_false rfl (not_f (decide_eq_true c117)) ?_
      refine fi_skip ?_
      refine fi_seq ?_
      refine fi_region ?_
      refine sv_lds hs 0 rfl rfl (leb rfl) rfl F28.ag57 F28.sz57 ?_
      refine sv_st hs 2 rfl rfl rfl (c := [(.str (pk y104)), (.int .i64 y105), v107]) rfl F28.sz57 rfl (stc rfl (stc rfl (stc (hs.shows 1 rfl).stor stn))) (leb rfl) (cs' := [(.str (pk y104)), (.int .i64 y105), v107]) rfl nofun (fun H118 hs => ?_)
      refine so_assign (v := (.v (.bool true))) rfl ?_
      refine so_nil ?_
      exact by_ret (res_mk (ar_cells rfl F28.ag57 F28.sz57 (hs.lds 2 rfl (leb rfl) rfl) (ar_tmp rfl ar_nil)) rfl) ⟨_, _, _, _, h, _, rfl, (Sep.del 1 (Sep.del 0 hs))⟩
    · refine fi_true rfl (not_t (decide_eq_false c117)) ?_
      refine fi_seq ?_
      refine fi_region ?_
      refine so_build F28.bp57 (cps := []) rfl fan rfl ?_
      refine sv_st hs 2 rfl rfl rfl (c := [(.str (pk ([] : List UInt8))), (.int .i64 (0 : Int)), .nilsl]) rfl F28.sz57 rfl (stc rfl (stc rfl (stc rfl stn))) (leb rfl) (cs' := [(.str (pk ([] : List UInt8))), (.int .i64 (0 : Int)), .nilsl]) rfl nofun (fun H119 hs => ?_)
      refine so_assign (v := (.v (.bool false))) rfl ?_
      refine so_nil ?_
      exact by_ret (res_mk (ar_cells rfl F28.ag57 F28.sz57 (hs.lds 2 rfl (leb rfl) rfl) (ar_tmp rfl ar_nil)) rfl) ⟨_, _, _, _, h, _, rfl, (Sep.nil (Sep.del 0 (Sep.del 0 (Sep.del 0 hs))) 1)⟩
  · refine so_gno rfl (not_t c116) ?_
    refine so_gno rfl (not_t c116) ?_
    refine so_gno rfl (not_t c116) ?_
    refine so_gno rfl (not_t c116) ?_
    refine so_pick_t (v := (.v (.bool true))) rfl (not_t c116) rfl ?_
    refine so_nil ?_
    refine fi_true rfl rfl ?_
    refine fi_seq ?_
    refine fi_region ?_
    refine so_build F28.bp57 (cps := []) rfl fan rfl ?_
    refine sv_st hs 2 rfl rfl rfl (c := [(.str (pk ([] : List UInt8))), (.int .i64 (0 : Int)), .nilsl]) rfl F28.sz57 rfl (stc rfl (stc rfl (stc rfl stn))) (leb rfl) (cs' := [(.str (pk ([] : List UInt8))), (.int .i64 (0 : Int)), .nilsl]) rfl nofun (fun H120 hs => ?_)
    refine so_assign (v := (.v (.bool false))) rfl ?_
    refine so_nil ?_
    exact by_ret (res_mk (ar_cells rfl F28.ag57 F28.sz57 (hs.lds 2 rfl (leb rfl) rfl) (ar_tmp rfl ar_nil)) rfl) ⟨_, _, _, _, h, _, rfl, (Sep.nil (Sep.del 0 (Sep.del 0 (Sep.del 0 hs))) 1)⟩

end Go.Proofs.Ytpeijfnfffogeaa.G

namespace Go.Proofs.Ytpeijfnfffogeaa.G
open Go Go.Ab Go.Proofs Go.Proofs.Ytpeijfnfffogeaa
set_option maxRecDepth 100000
set_option linter.unusedVariables false
set_option linter.unusedSimpArgs false
set_option maxHeartbeats 1000000
attribute [local irreducible] wops wopf Go.Ab.Fin
theorem F37.ag57 : tagg Try.prog 57 = some true := by kernel_rfl
theorem F37.sr9 : tstr Try.prog 9 = true := by kernel_rfl
theorem F37.sz57 : tsz Try.prog 57 = some 3 := by kernel_rfl
theorem F37.ta66_66 : tapp Try.prog 66 66 = some (3, 48) := by kernel_rfl
theorem F37.te66 : telem Try.prog 66 = some 57 := by kernel_rfl
theorem F37.ti66 : (telem Try.prog 66).isSome = true := by kernel_rfl
theorem F37.ze57 : tzero Try.prog 57 = some [(.str (pk ([] : List UInt8))), (.int .i64 (0 : Int)), .nilsl] := by kernel_rfl
theorem impl_RecoverTakes_ok {fr : List Pc} {H : Heap} (a0 : List UInt8) (hs : Sep H (fr))  (K : (List ((List UInt8) × (Int) × (List (Nat)))) → Int → Bool → Prop) (h : impl_RecoverTakes.wp a0 K) : OkQ Try.prog 37 [(.v (.str (pk a0)))] H (fun r H2 => ∃ (y0 : List ((List UInt8) × (Int) × (List (Nat)))) (y1 : Int) (y2 : Bool), K y0 y1 y2 ∧ ∃ (w0_ : AV) (wsw0_ : List (List AV)) (Sw0_ : Nat → Prop), r = (.t [(.v w0_), (.v (.int .i64 y1)), (.v (.bool y2))]) ∧ Sep H2 (dpc w0_ 3 R_s_ii64_LeFlt_f32_poooq y0 wsw0_ Sw0_ :: fr)) := by
  unfold impl_RecoverTakes.wp at h
  refine of_body Try.f37 F.hm Try.func37 rfl Try.call37 (by kernel_rfl) (by simp) ?_
  refine fi_seq ?_
  refine fi_region ?_
  refine so_assign (v := (.v .nilsl)) rfl ?_
  refine so_assign (v := (.v (.int .i64 (0 : Int)))) rfl ?_
  refine so_assign (v := (.v (.bool false))) rfl ?_
  refine so_nil ?_
  refine fi_seq ?_
  refine fi_region ?_
  refine sk_empty hs R_s_ii64_LeFlt_f32_poooq F37.te66 F37.sz57 F37.ze57 rfl nofun (fun v101 ws102 S103 H104 _ hs => ?_)
  refine so_assign (v := (.v v101)) rfl ?_
  refine so_assign (v := (.v (.int .i64 (0 : Int)))) rfl ?_
  refine so_nil ?_
  refine fi_seq ?_
  refine fi_block ?_
  refine fi_loop ?_
  refine fi_at [(0, (.v (.str (pk a0)))), (5, (.v v101)), (6, (.v (.int .i64 (0 : Int))))] ⟨rfl, rfl, rfl, trivial⟩ ?_
  refine h (fun (list136 : List ((List UInt8) × (Int) × (List (Nat)))) (atq140 : Int) => ∀ (s : Nat → TV) (H : Heap) (v137 : AV) (ws138 : List (List AV)) (S139 : Nat → Prop), Sep H (dpc v137 3 R_s_ii64_LeFlt_f32_poooq list136 ws138 S139 :: fr) → Fin _ _ (updL s [(0, (.v (.str (pk a0)))), (5, (.v v137)), (6, (.v (.int .i64 atq140)))]) H _) ?_ _ _ _ _ _ hs
  intro list136 atq140 h s164 H165 v137 ws138 S139 hs
  refine fi_inLoop ?_
  refine fi_seq ?_
  refine fi_seq ?_
  refine fi_region ?_
  refine so_move (v := (.v v137)) rfl ?_
  refine sd_len ((hs.dshows 0 rfl) : DSh _ _ 3 R_s_ii64_LeFlt_f32_poooq list136 ws138) (by decide) rfl F37.ti66 ?_
  refine so_bin rfl rfl ab_lss ?_
  refine so_nil ?_
  replace h := ofP h; rcases h with ⟨c141, h⟩ | ⟨c141, h⟩
  · refine fi_true rfl (decide_eq_true c141) ?_
    refine fi_skip ?_
    refine fi_block ?_
    refine fi_seq ?_
    refine fi_region ?_
    refine so_move (v := (.v (.str (pk a0)))) rfl ?_
    refine so_move (v := (.v (.int .i64 atq140))) rfl ?_
    obtain ⟨c142, h⟩ := h
    refine so_sslice rfl rfl rfl F37.sr9 rfl rfl c142 ?_
    refine sv_call (impl_takeAhead_ok ((a0.drop (atq140).toNat).take (((a0.length : Int)).toNat - (atq140).toNat)) hs  _ h) rfl rfl nofun ?_
    clear h hs
    rintro _ H150 ⟨y143, y144, y145, y148, y149, h, v146, rfl, hs⟩
    refine so_move (v := (.t [(.g [(.str (pk y143)), (.int .i64 y144), v146]), (.v (.int .i64 y148)), (.v (.bool y149))])) rfl ?_
    refine so_extract rfl rfl rfl ?_
    refine so_extract rfl rfl rfl ?_
    refine so_extract rfl rfl rfl ?_
    refine sv_alloc hs F37.ze57 rfl nofun (fun id151 H152 hs => ?_)
    refine sv_st hs 0 rfl rfl rfl (c := [(.str (pk y143)), (.int .i64 y144), v146]) rfl F37.sz57 rfl (stc rfl (stc rfl (stc (hs.shows 1 rfl).stor stn))) (leb rfl) (cs' := [(.str (pk y143)), (.int .i64 y144), v146]) rfl nofun (fun H154 hs => ?_)
    refine so_assign (v := (.v (.int .i64 y148))) rfl ?_
    refine so_assign (v := (.v (.bool y149))) rfl ?_
    refine so_nil ?_
    refine fi_seq ?_
    refine fi_seq ?_
    refine fi_region ?_
    refine so_move (v := (.v (.bool y149))) rfl ?_
    refine so_un rfl au_not ?_
    refine so_nil ?_
    replace h := ofT h; rcases h with ⟨c155, h⟩ | ⟨c155, h⟩
    · refine fi_false rfl (not_f c155) ?_
      refine fi_skip ?_
      refine fi_seq ?_
      refine fi_region ?_
      refine so_move (v := (.v v137)) rfl ?_
      refine sv_lds hs 0 rfl rfl (leb rfl) rfl F37.ag57 F37.sz57 ?_
      refine sd_bslice hs [[(.str (pk y143)), (.int .i64 y144), v146]] F37.te66 F37.sz57 F37.ze57 rfl rfl rfl (by simp) (fac (stc rfl (stc rfl (stc (hs.shows 1 rfl).stor stn))) fan) (by decide) rfl nofun (fun v156 H157 _ hs => ?_)
      obtain ⟨c159, h⟩ := h
      replace hs := Sep.front 2 hs rfl
      refine sk_app hs 2 rfl (y143, y144, y145) [(.str (pk y143)), (.int .i64 y144), v146] (hs.tl.shows 0 rfl) (fun _ hh => ⟨rfl, hh⟩) rfl (by decide) F37.ta66_66 (by decide) c159 rfl rfl nofun (fun v160 ws161 S162 H163 hs => ?_)
      replace hs := hs.del 0
      refine so_assign (v := (.v v160)) rfl ?_
      refine so_nil ?_
      refine fi_region ?_
      refine so_move (v := (.v (.int .i64 atq140))) rfl ?_
      refine so_move (v := (.v (.int .i64 y148))) rfl ?_
      refine so_bin rfl rfl ab_add ?_
      refine so_assign (v := (.v (.int .i64 (IntKind.i64.wrap (atq140 + y148))))) rfl ?_
      refine so_nil ?_
      refine fi_inBlock ?_
      exact fi_at [(0, (.v (.str (pk a0)))), (5, (.v v160)), (6, (.v (.int .i64 (IntKind.i64.wrap (atq140 + y148)))))] ⟨rfl, rfl, rfl, trivial⟩ (h _ _ _ _ _ (Sep.del 0 hs))
    · refine fi_true rfl (not_t c155) ?_
      refine fi_exit rfl ?_
      refine fi_seq ?_
      refine fi_region ?_
      refine so_move (v := (.v v137)) rfl ?_
      refine so_move (v := (.v (.int .i64 atq140))) rfl ?_
      refine so_assign (v := (.v v137)) rfl ?_
      refine so_assign (v := (.v (.int .i64 atq140))) rfl ?_
      refine so_assign (v := (.v (.bool true))) rfl ?_
      refine so_nil ?_
      exact by_ret rfl ⟨_, _, _, h, _, _, _, rfl, (Sep.del 0 (Sep.del 0 hs))⟩
  · refine fi_false rfl (decide_eq_false c141) ?_
    refine fi_exit rfl ?_
    refine fi_seq ?_
    refine fi_region ?_
    refine so_move (v := (.v v137)) rfl ?_
    refine so_move (v := (.v (.int .i64 atq140))) rfl ?_
    refine so_assign (v := (.v v137)) rfl ?_
    refine so_assign (v := (.v (.int .i64 atq140))) rfl ?_
    refine so_assign (v := (.v (.bool true))) rfl ?_
    refine so_nil ?_
    exact by_ret rfl ⟨_, _, _, h, _, _, _, rfl, hs⟩

end Go.Proofs.Ytpeijfnfffogeaa.G

namespace Go.Proofs.Ytpeijfnfffogeaa.G
open Go Go.Ab Go.Proofs Go.Proofs.Ytpeijfnfffogeaa
set_option maxRecDepth 100000
set_option linter.unusedVariables false
set_option linter.unusedSimpArgs false
set_option maxHeartbeats 1000000
attribute [local irreducible] wops wopf Go.Ab.Fin
theorem F63.ti98 : (telem Try.prog 98).isSome = true := by kernel_rfl
theorem laws_b10Long_ok {fr : List Pc} {H : Heap} (v0 : AV) (l0 : List (Int)) (v1 : AV) (l1 : List (Int)) (hs : Sep H (fr)) (g0 : ∀ H, Sep H fr → Shows H v0 1 (enc (eInt .u8) l0)) (g1 : ∀ H, Sep H fr → Shows H v1 1 (enc (eInt .u8) l1)) (K : Bool → Prop) (h : laws_b10Long.wp l0 l1 K) : OkQ Try.prog 63 [(.v v0), (.v v1)] H (fun r H2 => ∃ (y0 : Bool), K y0 ∧ r = (.v (.bool y0)) ∧ H = H2) := by
  unfold laws_b10Long.wp at h
  refine of_body Try.f63 F.hm Try.func63 rfl Try.call63 (by kernel_rfl) (by simp) ?_
  refine fi_seq ?_
  refine fi_region ?_
  refine so_assign (v := (.v (.bool false))) rfl ?_
  refine so_nil ?_
  refine fi_seq ?_
  refine fi_region ?_
  refine so_move (v := (.v v0)) rfl ?_
  refine sv_len (g0 _ hs) (fun _ => rfl) (by decide) rfl F63.ti98 ?_
  refine so_bin rfl rfl ab_gtr ?_
  refine so_move (v := (.v (.bool (decide ((1048576 : Int) < (l0.length : Int)))))) rfl ?_
  replace h := ofP h; rcases h with ⟨c101, h⟩ | ⟨c101, h⟩
  · refine so_gno rfl (decide_eq_true c101) ?_
    refine so_gno rfl (decide_eq_true c101) ?_
    refine so_gno rfl (decide_eq_true c101) ?_
    refine so_pick_t (v := (.v (.bool true))) rfl (decide_eq_true c101) rfl ?_
    refine so_assign (v := (.v (.bool true))) rfl ?_
    refine so_nil ?_
    exact by_ret rfl ⟨_, h, rfl, rfl⟩
  · refine so_gyes rfl (decide_eq_false c101) ?_
    refine so_move (v := (.v v1)) rfl ?_
    refine so_gyes rfl (decide_eq_false c101) ?_
    refine sv_len (g1 _ hs) (fun _ => rfl) (by decide) rfl F63.ti98 ?_
    refine so_gyes rfl (decide_eq_false c101) ?_
    refine so_bin rfl rfl ab_gtr ?_
    refine so_pick_f (v := (.v (.bool (decide ((1048576 : Int) < (l1.length : Int)))))) rfl (decide_eq_false c101) rfl ?_
    refine so_assign (v := (.v (.bool (decide ((1048576 : Int) < (l1.length : Int)))))) rfl ?_
    refine so_nil ?_
    exact by_ret rfl ⟨_, h, rfl, rfl⟩

end Go.Proofs.Ytpeijfnfffogeaa.G

namespace Go.Proofs.Ytpeijfnfffogeaa.G
open Go Go.Ab Go.Proofs Go.Proofs.Ytpeijfnfffogeaa
set_option maxRecDepth 100000
set_option linter.unusedVariables false
set_option linter.unusedSimpArgs false
set_option maxHeartbeats 1000000
attribute [local irreducible] wops wopf Go.Ab.Fin
theorem F151.bp235 : bplan Try.prog 235 = some ([.nilsl, (.int .i64 (0 : Int)), (.int .u64 (0 : Int))], [(0, 1), (1, 1), (2, 1)]) := by kernel_rfl
theorem F151.inf235 : (Try.prog.info? 235).isSome = true := by kernel_rfl
theorem spec_l00From_ok {fr : List Pc} {H : Heap} (v0 : AV) (l0 : List (Int)) (hs : Sep H (fr)) (g0 : ∀ H, Sep H fr → Shows H v0 1 (enc (eInt .u8) l0)) (K : Bool → Int → Int → Prop) (h : spec_l00From.wp l0 K) : OkQ Try.prog 151 [(.v v0)] H (fun r H2 => ∃ (y0 : Bool) (y1 : Int) (y2 : Int), K y0 y1 y2 ∧ ∃ (w0_ : Nat), r = (.v (.ptr w0_ 0)) ∧ Sep H2 (Pc.box w0_ [(bif y0 then v0 else .nilsl), (.int .i64 y1), (.int .u64 y2)] :: fr)) := by
  unfold spec_l00From.wp at h
  refine of_body Try.f151 F.hm Try.func151 rfl Try.call151 (by kernel_rfl) (by simp) ?_
  refine fi_seq ?_
  refine fi_region ?_
  refine so_assign (v := (.v .nilptr)) rfl ?_
  refine so_nil ?_
  refine fi_seq ?_
  refine fi_region ?_
  refine so_move (v := (.v v0)) rfl ?_
  refine so_build F151.bp235 (cps := [(0, [v0])]) rfl (fac (stc (g0 _ hs).stor stn) fan) rfl ?_
  refine sv_box hs rfl (c := [v0, (.int .i64 (0 : Int)), (.int .u64 (0 : Int))]) rfl F151.inf235 (stc (g0 _ hs).stor (stc rfl (stc rfl stn))) nofun (fun id101 H102 hs => ?_)
  refine so_assign (v := (.v (.ptr id101 0))) rfl ?_
  refine so_nil ?_
  exact by_ret rfl ⟨_, _, _, h, _, rfl, hs⟩

end Go.Proofs.Ytpeijfnfffogeaa.G

namespace Go.Proofs.Ytpeijfnfffogeaa.G
open Go Go.Ab Go.Proofs Go.Proofs.Ytpeijfnfffogeaa
set_option maxRecDepth 100000
set_option linter.unusedVariables false
set_option linter.unusedSimpArgs false
set_option maxHeartbeats 1000000
attribute [local irreducible] wops wopf Go.Ab.Fin
theorem F226.ag227 : tagg Try.prog 227 = some false := by kernel_rfl
theorem F226.ag3 : tagg Try.prog 3 = some false := by kernel_rfl
theorem F226.ag5 : tagg Try.prog 5 = some false := by kernel_rfl
theorem F226.ag98 : tagg Try.prog 98 = some false := by kernel_rfl
theorem F226.fd235_0 : tfield Try.prog 235 0 = some (0, 1, false) := by kernel_rfl
theorem F226.fd235_1 : tfield Try.prog 235 1 = some (1, 1, false) := by kernel_rfl
theorem F226.fd235_2 : tfield Try.prog 235 2 = some (2, 1, false) := by kernel_rfl
theorem F226.it2 : tint Try.prog 2 = some .i64 := by kernel_rfl
theorem F226.it227 : tint Try.prog 227 = some .u64 := by kernel_rfl
theorem F226.it3 : tint Try.prog 3 = some .i64 := by kernel_rfl
theorem F226.sz227 : tsz Try.prog 227 = some 1 := by kernel_rfl
theorem F226.sz3 : tsz Try.prog 3 = some 1 := by kernel_rfl
theorem F226.ti98 : (telem Try.prog 98).isSome = true := by kernel_rfl
theorem F226.tl98 : (telem Try.prog 98).bind (tsz Try.prog) = some 1 := by kernel_rfl
theorem F226.us227 : (Try.prog.underlying 227).isSome = true := by kernel_rfl
theorem F226.us3 : (Try.prog.underlying 3).isSome = true := by kernel_rfl
theorem F226.us5 : (Try.prog.underlying 5).isSome = true := by kernel_rfl
theorem spec_l00Src_next_ok {fr : List Pc} {H : Heap} (i0 : Nat) (v0 : AV) (l0 : List (Int)) (a1 : Int) (a2 : Int) (hs : Sep H (Pc.box i0 [v0, (.int .i64 a1), (.int .u64 a2)] :: fr)) (g0 : ∀ H, Sep H fr → Shows H v0 1 (enc (eInt .u8) l0)) (K : Int → Int → Int → Prop) (h : spec_l00Src_next.wp l0 a1 a2 K) : OkQ Try.prog 226 [(.v (.ptr i0 0))] H (fun r H2 => ∃ (y0 : Int) (y1 : Int) (y2 : Int), K y0 y1 y2 ∧ r = (.v (.int .i64 y0)) ∧ Sep H2 (Pc.box i0 [v0, (.int .i64 y1), (.int .u64 y2)] :: fr)) := by
  unfold spec_l00Src_next.wp at h
  refine of_body Try.f226 F.hm Try.func226 rfl Try.call226 (by kernel_rfl) (by simp) ?_
  refine fi_seq ?_
  refine fi_region ?_
  refine so_assign (v := (.v (.int .i64 (0 : Int)))) rfl ?_
  refine so_nil ?_
  refine fi_seq ?_
  refine fi_region ?_
  refine so_assign (v := (.v (.int .i64 (0 : Int)))) rfl ?_
  refine so_nil ?_
  refine fi_seq ?_
  refine fi_seq ?_
  refine fi_region ?_
  refine so_move (v := (.v (.ptr i0 0))) rfl ?_
  refine so_nilCheck rfl ?_
  refine so_fieldAddr rfl F226.fd235_1 ?_
  refine sv_ld hs 0 rfl rfl rfl F226.ag3 ?_
  refine so_move (v := (.v (.ptr i0 0))) rfl ?_
  refine so_nilCheck rfl ?_
  refine so_fieldAddr rfl F226.fd235_0 ?_
  refine sv_ld hs 0 rfl rfl rfl F226.ag98 ?_
  refine sv_len (g0 _ hs.tl) (fun _ => rfl) (by decide) rfl F226.ti98 ?_
  refine so_bin rfl rfl ab_lss ?_
  refine so_nil ?_
  replace h := ofP h; rcases h with ⟨c102, h⟩ | ⟨c102, h⟩
  · refine fi_true rfl (decide_eq_true c102) ?_
    refine fi_region ?_
    refine so_move (v := (.v (.ptr i0 0))) rfl ?_
    refine so_nilCheck rfl ?_
    refine so_fieldAddr rfl F226.fd235_0 ?_
    refine sv_ld hs 0 rfl rfl rfl F226.ag98 ?_
    refine so_move (v := (.v (.ptr i0 0))) rfl ?_
    refine so_nilCheck rfl ?_
    refine so_fieldAddr rfl F226.fd235_1 ?_
    refine sv_ld hs 0 rfl rfl rfl F226.ag3 ?_
    obtain ⟨c103, h⟩ := h
    refine sv_idx (g0 _ hs.tl) c103 (fun _ => rfl) (by decide) rfl rfl F226.tl98 ?_
    refine sv_cell (g0 _ hs.tl) c103 (0 : Int) 0 (fun x => (AV.int .u8 x)) (fun _ => rfl) (fun _ => rfl) rfl F226.ag5 ?_
    refine sv_ii rfl F226.us5 F226.it3 ?_
    refine so_assign (v := (.v (.int .i64 (IntKind.i64.wrap (l0.getD (a1).toNat (0 : Int)))))) rfl ?_
    refine so_nil ?_
    refine fi_seq ?_
    refine fi_region ?_
    refine so_move (v := (.v (.ptr i0 0))) rfl ?_
    refine so_nilCheck rfl ?_
    refine so_fieldAddr rfl F226.fd235_1 ?_
    refine sv_ld hs 0 rfl rfl rfl F226.ag3 ?_
    refine so_bin rfl rfl ab_add ?_
    refine so_nilCheck rfl ?_
    refine so_fieldAddr rfl F226.fd235_1 ?_
    refine sv_st hs 0 rfl rfl rfl (c := [(.int .i64 (IntKind.i64.wrap (a1 + (1 : Int))))]) rfl F226.sz3 rfl (stc rfl stn) (leb rfl) (cs' := [v0, (.int .i64 (IntKind.i64.wrap (a1 + (1 : Int)))), (.int .u64 a2)]) rfl nofun (fun H104 hs => ?_)
    refine so_nil ?_
    refine fi_seq ?_
    refine fi_region ?_
    refine so_move (v := (.v (.ptr i0 0))) rfl ?_
    refine so_move (v := (.v (.ptr i0 0))) rfl ?_
    refine so_nilCheck rfl ?_
    refine so_fieldAddr rfl F226.fd235_2 ?_
    refine sv_ld hs 0 rfl rfl rfl F226.ag227 ?_
    refine so_bin rfl rfl ab_mul ?_
    refine so_move (v := (.v (.int .i64 (IntKind.i64.wrap (l0.getD (a1).toNat (0 : Int)))))) rfl ?_
    refine sv_ii rfl F226.us3 F226.it227 ?_
    refine so_bin rfl rfl ab_add ?_
    refine so_bin rfl rfl ab_add ?_
    refine so_nilCheck rfl ?_
    refine so_fieldAddr rfl F226.fd235_2 ?_
    refine sv_st hs 0 rfl rfl rfl (c := [(.int .u64 (IntKind.u64.wrap ((IntKind.u64.wrap ((IntKind.u64.wrap (a2 * (6364136223846793005 : Int))) + (IntKind.u64.wrap (IntKind.i64.wrap (l0.getD (a1).toNat (0 : Int)))))) + (1442695040888963407 : Int))))]) rfl F226.sz227 rfl (stc rfl stn) (leb rfl) (cs' := [v0, (.int .i64 (IntKind.i64.wrap (a1 + (1 : Int)))), (.int .u64 (IntKind.u64.wrap ((IntKind.u64.wrap ((IntKind.u64.wrap (a2 * (6364136223846793005 : Int))) + (IntKind.u64.wrap (IntKind.i64.wrap (l0.getD (a1).toNat (0 : Int)))))) + (1442695040888963407 : Int))))]) rfl nofun (fun H105 hs => ?_)
    refine so_nil ?_
    refine fi_seq ?_
    refine fi_seq ?_
    refine fi_region ?_
    refine so_move (v := (.v (.ptr i0 0))) rfl ?_
    refine so_nilCheck rfl ?_
    refine so_fieldAddr rfl F226.fd235_1 ?_
    refine sv_ld hs 0 rfl rfl rfl F226.ag3 ?_
    refine so_move (v := (.v (.ptr i0 0))) rfl ?_
    refine so_nilCheck rfl ?_
    refine so_fieldAddr rfl F226.fd235_0 ?_
    refine sv_ld hs 0 rfl rfl rfl F226.ag98 ?_
    refine sv_len (g0 _ hs.tl) (fun _ => rfl) (by decide) rfl F226.ti98 ?_
    refine so_bin rfl rfl ab_leq ?_
    refine so_nil ?_
    replace h := ofP h; rcases h with ⟨c106, h⟩ | ⟨c106, h⟩
    · refine fi_true rfl (decide_eq_true c106) ?_
      refine fi_seq ?_
      refine fi_region ?_
      refine so_move (v := (.v (.int .i64 (IntKind.i64.wrap (l0.getD (a1).toNat (0 : Int)))))) rfl ?_
      refine so_assign (v := (.v (.int .i64 (IntKind.i64.wrap (l0.getD (a1).toNat (0 : Int)))))) rfl ?_
      refine so_nil ?_
      exact by_ret rfl ⟨_, _, _, h, rfl, hs⟩
    · refine fi_false rfl (decide_eq_false c106) ?_
      refine fi_skip ?_
      refine fi_seq ?_
      refine fi_region ?_
      refine so_move (v := (.v (.ptr i0 0))) rfl ?_
      refine so_nilCheck rfl ?_
      refine so_fieldAddr rfl F226.fd235_2 ?_
      refine sv_ld hs 0 rfl rfl rfl F226.ag227 ?_
      refine so_bin rfl rfl (ab_shr (by decide)) ?_
      refine so_bin rfl rfl ab_and ?_
      refine sv_ii rfl F226.us227 F226.it2 ?_
      refine so_assign (v := (.v (.int .i64 (IntKind.i64.wrap (ibits .and .u64 (Int.fdiv (IntKind.u64.wrap ((IntKind.u64.wrap ((IntKind.u64.wrap (a2 * (6364136223846793005 : Int))) + (IntKind.u64.wrap (IntKind.i64.wrap (l0.getD (a1).toNat (0 : Int)))))) + (1442695040888963407 : Int))) (2 ^ (min ((40 : Int)).toNat IntKind.u64.bits))) (255 : Int)))))) rfl ?_
      refine so_nil ?_
      exact by_ret rfl ⟨_, _, _, h, rfl, hs⟩
  · refine fi_false rfl (decide_eq_false c102) ?_
    refine fi_skip ?_
    refine fi_seq ?_
    refine fi_region ?_
    refine so_move (v := (.v (.ptr i0 0))) rfl ?_
    refine so_nilCheck rfl ?_
    refine so_fieldAddr rfl F226.fd235_1 ?_
    refine sv_ld hs 0 rfl rfl rfl F226.ag3 ?_
    refine so_bin rfl rfl ab_add ?_
    refine so_nilCheck rfl ?_
    refine so_fieldAddr rfl F226.fd235_1 ?_
    refine sv_st hs 0 rfl rfl rfl (c := [(.int .i64 (IntKind.i64.wrap (a1 + (1 : Int))))]) rfl F226.sz3 rfl (stc rfl stn) (leb rfl) (cs' := [v0, (.int .i64 (IntKind.i64.wrap (a1 + (1 : Int)))), (.int .u64 a2)]) rfl nofun (fun H107 hs => ?_)
    refine so_nil ?_
    refine fi_seq ?_
    refine fi_region ?_
    refine so_move (v := (.v (.ptr i0 0))) rfl ?_
    refine so_move (v := (.v (.ptr i0 0))) rfl ?_
    refine so_nilCheck rfl ?_
    refine so_fieldAddr rfl F226.fd235_2 ?_
    refine sv_ld hs 0 rfl rfl rfl F226.ag227 ?_
    refine so_bin rfl rfl ab_mul ?_
    refine so_move (v := (.v (.int .i64 (0 : Int)))) rfl ?_
    refine sv_ii rfl F226.us3 F226.it227 ?_
    refine so_bin rfl rfl ab_add ?_
    refine so_bin rfl rfl ab_add ?_
    refine so_nilCheck rfl ?_
    refine so_fieldAddr rfl F226.fd235_2 ?_
    refine sv_st hs 0 rfl rfl rfl (c := [(.int .u64 (IntKind.u64.wrap ((IntKind.u64.wrap ((IntKind.u64.wrap (a2 * (6364136223846793005 : Int))) + (IntKind.u64.wrap (0 : Int)))) + (1442695040888963407 : Int))))]) rfl F226.sz227 rfl (stc rfl stn) (leb rfl) (cs' := [v0, (.int .i64 (IntKind.i64.wrap (a1 + (1 : Int)))), (.int .u64 (IntKind.u64.wrap ((IntKind.u64.wrap ((IntKind.u64.wrap (a2 * (6364136223846793005 : Int))) + (IntKind.u64.wrap (0 : Int)))) + (1442695040888963407 : Int))))]) rfl nofun (fun H108 hs => ?_)
    refine so_nil ?_
    refine fi_seq ?_
    refine fi_seq ?_
    refine fi_region ?_
    refine so_move (v := (.v (.ptr i0 0))) rfl ?_
    refine so_nilCheck rfl ?_
    refine so_fieldAddr rfl F226.fd235_1 ?_
    refine sv_ld hs 0 rfl rfl rfl F226.ag3 ?_
    refine so_move (v := (.v (.ptr i0 0))) rfl ?_
    refine so_nilCheck rfl ?_
    refine so_fieldAddr rfl F226.fd235_0 ?_
    refine sv_ld hs 0 rfl rfl rfl F226.ag98 ?_
    refine sv_len (g0 _ hs.tl) (fun _ => rfl) (by decide) rfl F226.ti98 ?_
    refine so_bin rfl rfl ab_leq ?_
    refine so_nil ?_
    replace h := ofP h; rcases h with ⟨c109, h⟩ | ⟨c109, h⟩
    · refine fi_true rfl (decide_eq_true c109) ?_
      refine fi_seq ?_
      refine fi_region ?_
      refine so_move (v := (.v (.int .i64 (0 : Int)))) rfl ?_
      refine so_assign (v := (.v (.int .i64 (0 : Int)))) rfl ?_
      refine so_nil ?_
      exact by_ret rfl ⟨_, _, _, h, rfl, hs⟩
    · refine fi_false rfl (decide_eq_false c109) ?_
      refine fi_skip ?_
      refine fi_seq ?_
      refine fi_region ?_
      refine so_move (v := (.v (.ptr i0 0))) rfl ?_
      refine so_nilCheck rfl ?_
      refine so_fieldAddr rfl F226.fd235_2 ?_
      refine sv_ld hs 0 rfl rfl rfl F226.ag227 ?_
      refine so_bin rfl rfl (ab_shr (by decide)) ?_
      refine so_bin rfl rfl ab_and ?_
      refine sv_ii rfl F226.us227 F226.it2 ?_
      refine so_assign (v := (.v (.int .i64 (IntKind.i64.wrap (ibits .and .u64 (Int.fdiv (IntKind.u64.wrap ((IntKind.u64.wrap ((IntKind.u64.wrap (a2 * (6364136223846793005 : Int))) + (IntKind.u64.wrap (0 : Int)))) + (1442695040888963407 : Int))) (2 ^ (min ((40 : Int)).toNat IntKind.u64.bits))) (255 : Int)))))) rfl ?_
      refine so_nil ?_
      exact by_ret rfl ⟨_, _, _, h, rfl, hs⟩

end Go.Proofs.Ytpeijfnfffogeaa.G

namespace Go.Proofs.Ytpeijfnfffogeaa.G
open Go Go.Ab Go.Proofs Go.Proofs.Ytpeijfnfffogeaa
set_option maxRecDepth 100000
set_option linter.unusedVariables false
set_option linter.unusedSimpArgs false
set_option maxHeartbeats 1000000
attribute [local irreducible] wops wopf Go.Ab.Fin
theorem spec_l00Src_pick_ok {fr : List Pc} {H : Heap} (i0 : Nat) (v0 : AV) (l0 : List (Int)) (a1 : Int) (a2 : Int) (a3 : Int) (hs : Sep H (Pc.box i0 [v0, (.int .i64 a1), (.int .u64 a2)] :: fr)) (g0 : ∀ H, Sep H fr → Shows H v0 1 (enc (eInt .u8) l0)) (K : Int → Int → Int → Prop) (h : spec_l00Src_pick.wp l0 a1 a2 a3 K) : OkQ Try.prog 152 [(.v (.ptr i0 0)), (.v (.int .i64 a3))] H (fun r H2 => ∃ (y0 : Int) (y1 : Int) (y2 : Int), K y0 y1 y2 ∧ r = (.v (.int .i64 y0)) ∧ Sep H2 (Pc.box i0 [v0, (.int .i64 y1), (.int .u64 y2)] :: fr)) := by
  unfold spec_l00Src_pick.wp at h
  refine of_body Try.f152 F.hm Try.func152 rfl Try.call152 (by kernel_rfl) (by simp) ?_
  refine fi_seq ?_
  refine fi_region ?_
  refine so_assign (v := (.v (.int .i64 (0 : Int)))) rfl ?_
  refine so_nil ?_
  refine fi_seq ?_
  refine fi_seq ?_
  refine fi_region ?_
  refine so_move (v := (.v (.int .i64 a3))) rfl ?_
  refine so_bin rfl rfl ab_leq ?_
  refine so_nil ?_
  replace h := ofP h; rcases h with ⟨c102, h⟩ | ⟨c102, h⟩
  · refine fi_true rfl (decide_eq_true c102) ?_
    refine fi_seq ?_
    refine fi_region ?_
    refine so_assign (v := (.v (.int .i64 (0 : Int)))) rfl ?_
    refine so_nil ?_
    exact by_ret rfl ⟨_, _, _, h, rfl, hs⟩
  · refine fi_false rfl (decide_eq_false c102) ?_
    refine fi_skip ?_
    refine fi_seq ?_
    refine fi_region ?_
    refine so_move (v := (.v (.ptr i0 0))) rfl ?_
    refine sv_call (spec_l00Src_next_ok i0 v0 l0 a1 a2 hs (fun _ hs => (g0 _ hs)) _ h) rfl rfl nofun ?_
    clear h hs
    rintro _ H106 ⟨y103, y104, y105, h, rfl, hs⟩
    refine so_assign (v := (.v (.int .i64 y103))) rfl ?_
    refine so_nil ?_
    refine fi_seq ?_
    refine fi_seq ?_
    refine fi_region ?_
    refine so_move (v := (.v (.int .i64 a3))) rfl ?_
    refine so_bin rfl rfl ab_gtr ?_
    refine so_nil ?_
    replace h := ofP h; rcases h with ⟨c107, h⟩ | ⟨c107, h⟩
    · refine fi_true rfl (decide_eq_true c107) ?_
      refine fi_region ?_
      refine so_move (v := (.v (.int .i64 y103))) rfl ?_
      refine so_bin rfl rfl ab_mul ?_
      refine so_move (v := (.v (.ptr i0 0))) rfl ?_
      refine sv_call (spec_l00Src_next_ok i0 v0 l0 y104 y105 hs (fun _ hs => (g0 _ hs)) _ h) rfl rfl nofun ?_
      clear h hs
      rintro _ H111 ⟨y108, y109, y110, h, rfl, hs⟩
      refine so_bin rfl rfl ab_add ?_
      refine so_assign (v := (.v (.int .i64 (IntKind.i64.wrap ((IntKind.i64.wrap (y103 * (256 : Int))) + y108))))) rfl ?_
      refine so_nil ?_
      refine fi_seq ?_
      refine fi_region ?_
      refine so_move (v := (.v (.int .i64 (IntKind.i64.wrap ((IntKind.i64.wrap (y103 * (256 : Int))) + y108))))) rfl ?_
      refine so_move (v := (.v (.int .i64 a3))) rfl ?_
      obtain ⟨c112, h⟩ := h
      refine so_bin rfl rfl (ab_rem c112) ?_
      refine so_assign (v := (.v (.int .i64 (Int.tmod (IntKind.i64.wrap ((IntKind.i64.wrap (y103 * (256 : Int))) + y108)) a3)))) rfl ?_
      refine so_nil ?_
      exact by_ret rfl ⟨_, _, _, h, rfl, hs⟩
    · refine fi_false rfl (decide_eq_false c107) ?_
      refine fi_skip ?_
      refine fi_seq ?_
      refine fi_region ?_
      refine so_move (v := (.v (.int .i64 y103))) rfl ?_
      refine so_move (v := (.v (.int .i64 a3))) rfl ?_
      obtain ⟨c113, h⟩ := h
      refine so_bin rfl rfl (ab_rem c113) ?_
      refine so_assign (v := (.v (.int .i64 (Int.tmod y103 a3)))) rfl ?_
      refine so_nil ?_
      exact by_ret rfl ⟨_, _, _, h, rfl, hs⟩

end Go.Proofs.Ytpeijfnfffogeaa.G

namespace Go.Proofs.Ytpeijfnfffogeaa.G
open Go Go.Ab Go.Proofs Go.Proofs.Ytpeijfnfffogeaa
set_option maxRecDepth 100000
set_option linter.unusedVariables false
set_option linter.unusedSimpArgs false
set_option maxHeartbeats 1000000
attribute [local irreducible] wops wopf Go.Ab.Fin
theorem F153.ag9 : tagg Try.prog 9 = some false := by kernel_rfl
theorem F153.ti185 : (telem Try.prog 185).isSome = true := by kernel_rfl
theorem F153.tl185 : (telem Try.prog 185).bind (tsz Try.prog) = some 1 := by kernel_rfl
theorem spec_l00Src_text_ok {fr : List Pc} {H : Heap} (i0 : Nat) (v0 : AV) (l0 : List (Int)) (a1 : Int) (a2 : Int) (v3 : AV) (l3 : List (List UInt8)) (hs : Sep H (Pc.box i0 [v0, (.int .i64 a1), (.int .u64 a2)] :: fr)) (g0 : ∀ H, Sep H fr → Shows H v0 1 (enc (eInt .u8) l0)) (g3 : ∀ H, Sep H fr → Shows H v3 1 (enc eStr l3)) (K : (List UInt8) → Int → Int → Prop) (h : spec_l00Src_text.wp l0 a1 a2 l3 K) : OkQ Try.prog 153 [(.v (.ptr i0 0)), (.v v3)] H (fun r H2 => ∃ (y0 : List UInt8) (y1 : Int) (y2 : Int), K y0 y1 y2 ∧ r = (.v (.str (pk y0))) ∧ Sep H2 (Pc.box i0 [v0, (.int .i64 y1), (.int .u64 y2)] :: fr)) := by
  unfold spec_l00Src_text.wp at h
  refine of_body Try.f153 F.hm Try.func153 rfl Try.call153 (by kernel_rfl) (by simp) ?_
  refine fi_seq ?_
  refine fi_region ?_
  refine so_assign (v := (.v (.str (pk ([] : List UInt8))))) rfl ?_
  refine so_nil ?_
  refine fi_seq ?_
  refine fi_region ?_
  refine so_move (v := (.v v3)) rfl ?_
  refine so_move (v := (.v (.ptr i0 0))) rfl ?_
  refine so_move (v := (.v v3)) rfl ?_
  refine sv_len (g3 _ hs.tl) (fun _ => rfl) (by decide) rfl F153.ti185 ?_
  refine sv_call (spec_l00Src_pick_ok i0 v0 l0 a1 a2 (l3.length : Int) hs (fun _ hs => (g0 _ hs)) _ h) rfl rfl nofun ?_
  clear h hs
  rintro _ H105 ⟨y102, y103, y104, h, rfl, hs⟩
  obtain ⟨c106, h⟩ := h
  refine sv_idx (g3 _ hs.tl) c106 (fun _ => rfl) (by decide) rfl rfl F153.tl185 ?_
  refine sv_cell (g3 _ hs.tl) c106 ([] : List UInt8) 0 (fun x => (AV.str (pk x))) (fun _ => rfl) (fun _ => rfl) rfl F153.ag9 ?_
  refine so_assign (v := (.v (.str (pk (l3.getD (y102).toNat ([] : List UInt8)))))) rfl ?_
  refine so_nil ?_
  exact by_ret rfl ⟨_, _, _, h, rfl, hs⟩

end Go.Proofs.Ytpeijfnfffogeaa.G

namespace Go.Proofs.Ytpeijfnfffogeaa.G
open Go Go.Ab Go.Proofs Go.Proofs.Ytpeijfnfffogeaa
set_option maxRecDepth 100000
set_option linter.unusedVariables false
set_option linter.unusedSimpArgs false
set_option maxHeartbeats 1000000
attribute [local irreducible] wops wopf Go.Ab.Fin
theorem spec_l00Src_one_ok {fr : List Pc} {H : Heap} (i0 : Nat) (v0 : AV) (l0 : List (Int)) (a1 : Int) (a2 : Int) (a3 : Int) (hs : Sep H (Pc.box i0 [v0, (.int .i64 a1), (.int .u64 a2)] :: fr)) (g0 : ∀ H, Sep H fr → Shows H v0 1 (enc (eInt .u8) l0)) (K : Bool → Int → Int → Prop) (h : spec_l00Src_one.wp l0 a1 a2 a3 K) : OkQ Try.prog 154 [(.v (.ptr i0 0)), (.v (.int .i64 a3))] H (fun r H2 => ∃ (y0 : Bool) (y1 : Int) (y2 : Int), K y0 y1 y2 ∧ r = (.v (.bool y0)) ∧ Sep H2 (Pc.box i0 [v0, (.int .i64 y1), (.int .u64 y2)] :: fr)) := by
  unfold spec_l00Src_one.wp at h
  refine of_body Try.f154 F.hm Try.func154 rfl Try.call154 (by kernel_rfl) (by simp) ?_
  refine fi_seq ?_
  refine fi_region ?_
  refine so_assign (v := (.v (.bool false))) rfl ?_
  refine so_nil ?_
  refine fi_seq ?_
  refine fi_region ?_
  refine so_move (v := (.v (.ptr i0 0))) rfl ?_
  refine so_move (v := (.v (.int .i64 a3))) rfl ?_
  refine sv_call (spec_l00Src_pick_ok i0 v0 l0 a1 a2 a3 hs (fun _ hs => (g0 _ hs)) _ h) rfl rfl nofun ?_
  clear h hs
  rintro _ H105 ⟨y102, y103, y104, h, rfl, hs⟩
  refine so_bin rfl rfl ab_eql ?_
  refine so_assign (v := (.v (.bool (decide (y102 = (0 : Int)))))) rfl ?_
  refine so_nil ?_
  exact by_ret rfl ⟨_, _, _, h, rfl, hs⟩

end Go.Proofs.Ytpeijfnfffogeaa.G

namespace Go.Proofs.Ytpeijfnfffogeaa.G
open Go Go.Ab Go.Proofs Go.Proofs.Ytpeijfnfffogeaa
set_option maxRecDepth 100000
set_option linter.unusedVariables false
set_option linter.unusedSimpArgs false
set_option maxHeartbeats 1000000
attribute [local irreducible] wops wopf Go.Ab.Fin
theorem F227.fl25 : tflt Try.prog 25 = some .f32 := by kernel_rfl
theorem F227.in25 : tint Try.prog 25 = none := by kernel_rfl
theorem F227.us2 : (Try.prog.underlying 2).isSome = true := by kernel_rfl
theorem spec_l01DrawPlain_ok {fr : List Pc} {H : Heap} (i0 : Nat) (v0 : AV) (l0 : List (Int)) (a1 : Int) (a2 : Int) (hs : Sep H (Pc.box i0 [v0, (.int .i64 a1), (.int .u64 a2)] :: fr)) (g0 : ∀ H, Sep H fr → Shows H v0 1 (enc (eInt .u8) l0)) (K : Nat → Int → Int → Prop) (h : spec_l01DrawPlain.wp l0 a1 a2 K) : OkQ Try.prog 227 [(.v (.ptr i0 0))] H (fun r H2 => ∃ (y0 : Nat) (y1 : Int) (y2 : Int), K y0 y1 y2 ∧ r = (.v (.flt .f32 y0)) ∧ Sep H2 (Pc.box i0 [v0, (.int .i64 y1), (.int .u64 y2)] :: fr)) := by
  unfold spec_l01DrawPlain.wp at h
  refine of_body Try.f227 F.hm Try.func227 rfl Try.call227 (by kernel_rfl) (by simp) ?_
  refine fi_seq ?_
  refine fi_region ?_
  refine so_assign (v := (.v (.flt .f32 (cz .f32 0)))) rfl ?_
  refine so_nil ?_
  refine fi_seq ?_
  refine fi_region ?_
  refine so_move (v := (.v (.ptr i0 0))) rfl ?_
  refine sv_call (spec_l00Src_pick_ok i0 v0 l0 a1 a2 (129 : Int) hs (fun _ hs => (g0 _ hs)) _ h) rfl rfl nofun ?_
  clear h hs
  rintro _ H105 ⟨y102, y103, y104, h, rfl, hs⟩
  refine so_bin rfl rfl ab_sub ?_
  refine so_assign (v := (.v (.int .i64 (IntKind.i64.wrap (y102 - (64 : Int)))))) rfl ?_
  refine so_nil ?_
  refine fi_seq ?_
  refine fi_seq ?_
  refine fi_region ?_
  refine so_move (v := (.v (.ptr i0 0))) rfl ?_
  refine sv_call (spec_l00Src_one_ok i0 v0 l0 y103 y104 (4 : Int) hs (fun _ hs => (g0 _ hs)) _ h) rfl rfl nofun ?_
  clear h hs
  rintro _ H109 ⟨y106, y107, y108, h, rfl, hs⟩
  refine so_nil ?_
  replace h := ofT h; rcases h with ⟨c110, h⟩ | ⟨c110, h⟩
  · refine fi_true rfl c110 ?_
    refine fi_seq ?_
    refine fi_region ?_
    refine so_move (v := (.v (.int .i64 (IntKind.i64.wrap (y102 - (64 : Int)))))) rfl ?_
    refine sv_if rfl F227.us2 F227.in25 F227.fl25 ?_
    refine so_bin rfl rfl ab_fquo ?_
    refine so_assign (v := (.v (.flt .f32 (fop .quo .f32 (itof .f32 (IntKind.i64.wrap (y102 - (64 : Int)))) (cz .f32 1088421888))))) rfl ?_
    refine so_nil ?_
    exact by_ret rfl ⟨_, _, _, h, rfl, hs⟩
  · refine fi_false rfl c110 ?_
    refine fi_skip ?_
    refine fi_seq ?_
    refine fi_region ?_
    refine so_move (v := (.v (.int .i64 (IntKind.i64.wrap (y102 - (64 : Int)))))) rfl ?_
    refine sv_if rfl F227.us2 F227.in25 F227.fl25 ?_
    refine so_bin rfl rfl ab_fquo ?_
    refine so_assign (v := (.v (.flt .f32 (fop .quo .f32 (itof .f32 (IntKind.i64.wrap (y102 - (64 : Int)))) (cz .f32 1098907648))))) rfl ?_
    refine so_nil ?_
    exact by_ret rfl ⟨_, _, _, h, rfl, hs⟩

end Go.Proofs.Ytpeijfnfffogeaa.G

namespace Go.Proofs.Ytpeijfnfffogeaa.G
open Go Go.Ab Go.Proofs Go.Proofs.Ytpeijfnfffogeaa
set_option maxRecDepth 100000
set_option linter.unusedVariables false
set_option linter.unusedSimpArgs false
set_option maxHeartbeats 1000000
attribute [local irreducible] wops wopf Go.Ab.Fin
theorem F228.it240 : tint Try.prog 240 = some .u32 := by kernel_rfl
theorem F228.us2 : (Try.prog.underlying 2).isSome = true := by kernel_rfl
theorem spec_l01From_ok {fr : List Pc} {H : Heap} (a0 : Int) (hs : Sep H (fr))  (K : Nat → Prop) (h : spec_l01From.wp a0 K) : OkQ Try.prog 228 [(.v (.int .i64 a0))] H (fun r H2 => ∃ (y0 : Nat), K y0 ∧ r = (.v (.flt .f32 y0)) ∧ H = H2) := by
  unfold spec_l01From.wp at h
  refine of_body Try.f228 F.hm Try.func228 rfl Try.call228 (by kernel_rfl) (by simp) ?_
  refine fi_seq ?_
  refine fi_region ?_
  refine so_assign (v := (.v (.flt .f32 (cz .f32 0)))) rfl ?_
  refine so_nil ?_
  refine fi_seq ?_
  refine fi_region ?_
  refine so_move (v := (.v (.int .i64 a0))) rfl ?_
  refine sv_ii rfl F228.us2 F228.it240 ?_
  refine sv_callS (math_Float32frombits_ok (IntKind.u32.wrap a0) hs  _ h) (fun _ _ ⟨_, _, _, e⟩ => e) rfl rfl ?_
  clear h
  rintro _ _ ⟨y101, h, rfl, rfl⟩
  refine so_assign (v := (.v (.flt .f32 y101))) rfl ?_
  refine so_nil ?_
  exact by_ret rfl ⟨_, h, rfl, rfl⟩

end Go.Proofs.Ytpeijfnfffogeaa.G

namespace Go.Proofs.Ytpeijfnfffogeaa.G
open Go Go.Ab Go.Proofs Go.Proofs.Ytpeijfnfffogeaa
set_option maxRecDepth 100000
set_option linter.unusedVariables false
set_option linter.unusedSimpArgs false
set_option maxHeartbeats 1000000
attribute [local irreducible] wops wopf Go.Ab.Fin
theorem F229.ag2 : tagg Try.prog 2 = some false := by kernel_rfl
theorem F229.ti24 : (telem Try.prog 24).isSome = true := by kernel_rfl
theorem F229.tl24 : (telem Try.prog 24).bind (tsz Try.prog) = some 1 := by kernel_rfl
theorem spec_l00Src_among_ok {fr : List Pc} {H : Heap} (i0 : Nat) (v0 : AV) (l0 : List (Int)) (a1 : Int) (a2 : Int) (v3 : AV) (l3 : List (Int)) (hs : Sep H (Pc.box i0 [v0, (.int .i64 a1), (.int .u64 a2)] :: fr)) (g0 : ∀ H, Sep H fr → Shows H v0 1 (enc (eInt .u8) l0)) (g3 : ∀ H, Sep H fr → Shows H v3 1 (enc (eInt .i64) l3)) (K : Int → Int → Int → Prop) (h : spec_l00Src_among.wp l0 a1 a2 l3 K) : OkQ Try.prog 229 [(.v (.ptr i0 0)), (.v v3)] H (fun r H2 => ∃ (y0 : Int) (y1 : Int) (y2 : Int), K y0 y1 y2 ∧ r = (.v (.int .i64 y0)) ∧ Sep H2 (Pc.box i0 [v0, (.int .i64 y1), (.int .u64 y2)] :: fr)) := by
  unfold spec_l00Src_among.wp at h
  refine of_body Try.f229 F.hm Try.func229 rfl Try.call229 (by kernel_rfl) (by simp) ?_
  refine fi_seq ?_
  refine fi_region ?_
  refine so_assign (v := (.v (.int .i64 (0 : Int)))) rfl ?_
  refine so_nil ?_
  refine fi_seq ?_
  refine fi_region ?_
  refine so_move (v := (.v v3)) rfl ?_
  refine so_move (v := (.v (.ptr i0 0))) rfl ?_
  refine so_move (v := (.v v3)) rfl ?_
  refine sv_len (g3 _ hs.tl) (fun _ => rfl) (by decide) rfl F229.ti24 ?_
  refine sv_call (spec_l00Src_pick_ok i0 v0 l0 a1 a2 (l3.length : Int) hs (fun _ hs => (g0 _ hs)) _ h) rfl rfl nofun ?_
  clear h hs
  rintro _ H105 ⟨y102, y103, y104, h, rfl, hs⟩
  obtain ⟨c106, h⟩ := h
  refine sv_idx (g3 _ hs.tl) c106 (fun _ => rfl) (by decide) rfl rfl F229.tl24 ?_
  refine sv_cell (g3 _ hs.tl) c106 (0 : Int) 0 (fun x => (AV.int .i64 x)) (fun _ => rfl) (fun _ => rfl) rfl F229.ag2 ?_
  refine so_assign (v := (.v (.int .i64 (l3.getD (y102).toNat (0 : Int))))) rfl ?_
  refine so_nil ?_
  exact by_ret rfl ⟨_, _, _, h, rfl, hs⟩

end Go.Proofs.Ytpeijfnfffogeaa.G

namespace Go.Proofs.Ytpeijfnfffogeaa.G
open Go Go.Ab Go.Proofs Go.Proofs.Ytpeijfnfffogeaa
set_option maxRecDepth 100000
set_option linter.unusedVariables false
set_option linter.unusedSimpArgs false
set_option maxHeartbeats 1000000
attribute [local irreducible] wops wopf Go.Ab.Fin
theorem F155.sz2 : tsz Try.prog 2 = some 1 := by kernel_rfl
theorem F155.te24 : telem Try.prog 24 = some 2 := by kernel_rfl
theorem F155.ze2 : tzero Try.prog 2 = some [(.int .i64 (0 : Int))] := by kernel_rfl
theorem spec_l01DrawFloat_ok {fr : List Pc} {H : Heap} (i0 : Nat) (v0 : AV) (l0 : List (Int)) (a1 : Int) (a2 : Int) (hs : Sep H (Pc.box i0 [v0, (.int .i64 a1), (.int .u64 a2)] :: fr)) (g0 : ∀ H, Sep H fr → Shows H v0 1 (enc (eInt .u8) l0)) (K : Nat → Int → Int → Prop) (h : spec_l01DrawFloat.wp l0 a1 a2 K) : OkQ Try.prog 155 [(.v (.ptr i0 0))] H (fun r H2 => ∃ (y0 : Nat) (y1 : Int) (y2 : Int), K y0 y1 y2 ∧ r = (.v (.flt .f32 y0)) ∧ Sep H2 (Pc.box i0 [v0, (.int .i64 y1), (.int .u64 y2)] :: fr)) := by
  unfold spec_l01DrawFloat.wp at h
  refine of_body Try.f155 F.hm Try.func155 rfl Try.call155 (by kernel_rfl) (by simp) ?_
  refine fi_seq ?_
  refine fi_region ?_
  refine so_assign (v := (.v (.flt .f32 (cz .f32 0)))) rfl ?_
  refine so_nil ?_
  refine fi_seq ?_
  refine fi_seq ?_
  refine fi_region ?_
  refine so_move (v := (.v (.ptr i0 0))) rfl ?_
  refine sv_call (spec_l00Src_one_ok i0 v0 l0 a1 a2 (12 : Int) hs (fun _ hs => (g0 _ hs)) _ h) rfl rfl nofun ?_
  clear h hs
  rintro _ H105 ⟨y102, y103, y104, h, rfl, hs⟩
  refine so_un rfl au_not ?_
  refine so_nil ?_
  replace h := ofT h; rcases h with ⟨c106, h⟩ | ⟨c106, h⟩
  · refine fi_false rfl (not_f c106) ?_
    refine fi_skip ?_
    refine fi_seq ?_
    refine fi_seq ?_
    refine fi_region ?_
    refine so_move (v := (.v (.ptr i0 0))) rfl ?_
    refine sv_call (spec_l00Src_pick_ok i0 v0 l0 y103 y104 (4 : Int) hs (fun _ hs => (g0 _ hs)) _ h) rfl rfl nofun ?_
    clear h hs
    rintro _ H110 ⟨y107, y108, y109, h, rfl, hs⟩
    refine so_nil ?_
    refine fi_block ?_
    refine fi_seq ?_
    refine fi_region ?_
    refine so_bin rfl rfl ab_eql ?_
    refine so_assign (v := (.v (.bool (decide (y107 = (0 : Int)))))) rfl ?_
    refine so_nil ?_
    replace h := ofP h; rcases h with ⟨c111, h⟩ | ⟨c111, h⟩
    · refine fi_true rfl (decide_eq_true c111) ?_
      refine fi_seq ?_
      refine fi_region ?_
      refine so_move (v := (.v (.ptr i0 0))) rfl ?_
      refine sv_bslice hs (eInt .i64) ([(0 : Int), (2147483648 : Int), (2139095040 : Int), (4286578688 : Int), (2143289344 : Int), (1 : Int), (2139095039 : Int), (8388608 : Int), (8388607 : Int), (2147483649 : Int)] : List (Int)) [[(.int .i64 (0 : Int))], [(.int .i64 (2147483648 : Int))], [(.int .i64 (2139095040 : Int))], [(.int .i64 (4286578688 : Int))], [(.int .i64 (2143289344 : Int))], [(.int .i64 (1 : Int))], [(.int .i64 (2139095039 : Int))], [(.int .i64 (8388608 : Int))], [(.int .i64 (8388607 : Int))], [(.int .i64 (2147483649 : Int))]] F155.te24 F155.sz2 F155.ze2 rfl rfl rfl rfl (fun _ => rfl) rfl (by decide) nofun (fun v112 H113 nv112 hs => ?_)
      replace hs := (Sep.front 1 hs rfl)
      refine sv_call (spec_l00Src_among_ok i0 v0 l0 y108 y109 v112 ([(0 : Int), (2147483648 : Int), (2139095040 : Int), (4286578688 : Int), (2143289344 : Int), (1 : Int), (2139095039 : Int), (8388608 : Int), (8388607 : Int), (2147483649 : Int)] : List (Int)) hs (fun _ hs => (g0 _ hs.tl)) (fun _ hs => (hs.shows 0 rfl)) _ h) rfl rfl nofun ?_
      clear h hs
      rintro _ H118 ⟨y115, y116, y117, h, rfl, hs⟩
      refine sv_callS (spec_l01From_ok y115 hs  _ h) (fun _ _ ⟨_, _, _, e⟩ => e) rfl rfl ?_
      clear h
      rintro _ _ ⟨y119, h, rfl, rfl⟩
      refine so_assign (v := (.v (.flt .f32 y119))) rfl ?_
      refine so_nil ?_
      exact by_ret rfl ⟨_, _, _, h, rfl, (Sep.del 1 hs)⟩
    · refine fi_false rfl (decide_eq_false c111) ?_
      refine fi_seq ?_
      refine fi_region ?_
      refine so_bin rfl rfl ab_eql ?_
      refine so_assign (v := (.v (.bool (decide (y107 = (1 : Int)))))) rfl ?_
      refine so_nil ?_
      replace h := ofP h; rcases h with ⟨c121, h⟩ | ⟨c121, h⟩
      · refine fi_true rfl (decide_eq_true c121) ?_
        refine fi_seq ?_
        refine fi_region ?_
        refine so_move (v := (.v (.ptr i0 0))) rfl ?_
        refine sv_call (spec_l00Src_pick_ok i0 v0 l0 y108 y109 (65536 : Int) hs (fun _ hs => (g0 _ hs)) _ h) rfl rfl nofun ?_
        clear h hs
        rintro _ H125 ⟨y122, y123, y124, h, rfl, hs⟩
        refine so_bin rfl rfl ab_mul ?_
        refine so_assign (v := (.v (.int .i64 (IntKind.i64.wrap (y122 * (65536 : Int)))))) rfl ?_
        refine so_nil ?_
        refine fi_seq ?_
        refine fi_region ?_
        refine so_move (v := (.v (.int .i64 (IntKind.i64.wrap (y122 * (65536 : Int)))))) rfl ?_
        refine so_move (v := (.v (.ptr i0 0))) rfl ?_
        refine sv_call (spec_l00Src_pick_ok i0 v0 l0 y123 y124 (65536 : Int) hs (fun _ hs => (g0 _ hs)) _ h) rfl rfl nofun ?_
        clear h hs
        rintro _ H129 ⟨y126, y127, y128, h, rfl, hs⟩
        refine so_bin rfl rfl ab_add ?_
        refine sv_callS (spec_l01From_ok (IntKind.i64.wrap ((IntKind.i64.wrap (y122 * (65536 : Int))) + y126)) hs  _ h) (fun _ _ ⟨_, _, _, e⟩ => e) rfl rfl ?_
        clear h
        rintro _ _ ⟨y130, h, rfl, rfl⟩
        refine so_assign (v := (.v (.flt .f32 y130))) rfl ?_
        refine so_nil ?_
        exact by_ret rfl ⟨_, _, _, h, rfl, hs⟩
      · refine fi_false rfl (decide_eq_false c121) ?_
        refine fi_seq ?_
        refine fi_region ?_
        refine so_bin rfl rfl ab_eql ?_
        refine so_assign (v := (.v (.bool (decide (y107 = (2 : Int)))))) rfl ?_
        refine so_nil ?_
        replace h := ofP h; rcases h with ⟨c132, h⟩ | ⟨c132, h⟩
        · refine fi_true rfl (decide_eq_true c132) ?_
          refine fi_seq ?_
          refine fi_region ?_
          refine so_move (v := (.v (.ptr i0 0))) rfl ?_
          refine sv_call (spec_l00Src_pick_ok i0 v0 l0 y108 y109 (65536 : Int) hs (fun _ hs => (g0 _ hs)) _ h) rfl rfl nofun ?_
          clear h hs
          rintro _ H136 ⟨y133, y134, y135, h, rfl, hs⟩
          refine so_bin rfl rfl ab_mul ?_
          refine sv_callS (spec_l01From_ok (IntKind.i64.wrap (y133 * (65536 : Int))) hs  _ h) (fun _ _ ⟨_, _, _, e⟩ => e) rfl rfl ?_
          clear h
          rintro _ _ ⟨y137, h, rfl, rfl⟩
          refine so_assign (v := (.v (.flt .f32 y137))) rfl ?_
          refine so_nil ?_
          exact by_ret rfl ⟨_, _, _, h, rfl, hs⟩
        · refine fi_false rfl (decide_eq_false c132) ?_
          refine fi_skip ?_
          refine fi_inBlock ?_
          refine fi_seq ?_
          refine fi_region ?_
          refine so_move (v := (.v (.ptr i0 0))) rfl ?_
          refine sv_call (spec_l01DrawPlain_ok i0 v0 l0 y108 y109 hs (fun _ hs => (g0 _ hs)) _ h) rfl rfl nofun ?_
          clear h hs
          rintro _ H142 ⟨y139, y140, y141, h, rfl, hs⟩
          refine so_move (v := (.v (.ptr i0 0))) rfl ?_
          refine sv_bslice hs (eInt .i64) ([(8388608 : Int), (2130706432 : Int), (1610612736 : Int), (536870912 : Int)] : List (Int)) [[(.int .i64 (8388608 : Int))], [(.int .i64 (2130706432 : Int))], [(.int .i64 (1610612736 : Int))], [(.int .i64 (536870912 : Int))]] F155.te24 F155.sz2 F155.ze2 rfl rfl rfl rfl (fun _ => rfl) rfl (by decide) nofun (fun v143 H144 nv143 hs => ?_)
          replace hs := (Sep.front 1 hs rfl)
          refine sv_call (spec_l00Src_among_ok i0 v0 l0 y140 y141 v143 ([(8388608 : Int), (2130706432 : Int), (1610612736 : Int), (536870912 : Int)] : List (Int)) hs (fun _ hs => (g0 _ hs.tl)) (fun _ hs => (hs.shows 0 rfl)) _ h) rfl rfl nofun ?_
          clear h hs
          rintro _ H149 ⟨y146, y147, y148, h, rfl, hs⟩
          refine sv_callS (spec_l01From_ok y146 hs  _ h) (fun _ _ ⟨_, _, _, e⟩ => e) rfl rfl ?_
          clear h
          rintro _ _ ⟨y150, h, rfl, rfl⟩
          refine so_bin rfl rfl ab_fmul ?_
          refine so_assign (v := (.v (.flt .f32 (fop .mul .f32 y139 y150)))) rfl ?_
          refine so_nil ?_
          exact by_ret rfl ⟨_, _, _, h, rfl, (Sep.del 1 hs)⟩
  · refine fi_true rfl (not_t c106) ?_
    refine fi_seq ?_
    refine fi_region ?_
    refine so_move (v := (.v (.ptr i0 0))) rfl ?_
    refine sv_call (spec_l01DrawPlain_ok i0 v0 l0 y103 y104 hs (fun _ hs => (g0 _ hs)) _ h) rfl rfl nofun ?_
    clear h hs
    rintro _ H155 ⟨y152, y153, y154, h, rfl, hs⟩
    refine so_assign (v := (.v (.flt .f32 y152))) rfl ?_
    refine so_nil ?_
    exact by_ret rfl ⟨_, _, _, h, rfl, hs⟩

end Go.Proofs.Ytpeijfnfffogeaa.G

namespace Go.Proofs.Ytpeijfnfffogeaa.G
open Go Go.Ab Go.Proofs Go.Proofs.Ytpeijfnfffogeaa
set_option maxRecDepth 100000
set_option linter.unusedVariables false
set_option linter.unusedSimpArgs false
set_option maxHeartbeats 1000000
attribute [local irreducible] wops wopf Go.Ab.Fin
theorem F64.ag37 : tagg Try.prog 37 = some false := by kernel_rfl
theorem F64.ag57 : tagg Try.prog 57 = some true := by kernel_rfl
theorem F64.bp57 : bplan Try.prog 57 = some ([(.str (pk ([] : List UInt8))), (.int .i64 (0 : Int)), .nilsl], [(0, 1), (1, 1), (2, 1)]) := by kernel_rfl
theorem F64.fd57_2 : tfield Try.prog 57 2 = some (2, 1, false) := by kernel_rfl
theorem F64.fl25 : tflt Try.prog 25 = some .f32 := by kernel_rfl
theorem F64.in25 : tint Try.prog 25 = none := by kernel_rfl
theorem F64.sz25 : tsz Try.prog 25 = some 1 := by kernel_rfl
theorem F64.sz37 : tsz Try.prog 37 = some 1 := by kernel_rfl
theorem F64.sz57 : tsz Try.prog 57 = some 3 := by kernel_rfl
theorem F64.sz9 : tsz Try.prog 9 = some 1 := by kernel_rfl
theorem F64.ta37_37 : tapp Try.prog 37 37 = some (1, 4) := by kernel_rfl
theorem F64.ta66_66 : tapp Try.prog 66 66 = some (3, 48) := by kernel_rfl
theorem F64.te185 : telem Try.prog 185 = some 9 := by kernel_rfl
theorem F64.te37 : telem Try.prog 37 = some 25 := by kernel_rfl
theorem F64.te66 : telem Try.prog 66 = some 57 := by kernel_rfl
theorem F64.us2 : (Try.prog.underlying 2).isSome = true := by kernel_rfl
theorem F64.ze25 : tzero Try.prog 25 = some [(.flt .f32 (0 : Nat))] := by kernel_rfl
theorem F64.ze57 : tzero Try.prog 57 = some [(.str (pk ([] : List UInt8))), (.int .i64 (0 : Int)), .nilsl] := by kernel_rfl
theorem F64.ze9 : tzero Try.prog 9 = some [(.str (pk ([] : List UInt8)))] := by kernel_rfl
theorem spec_B10Takes_ok {fr : List Pc} {H : Heap} (v0 : AV) (l0 : List (Int)) (hs : Sep H (fr)) (g0 : ∀ H, Sep H fr → Shows H v0 1 (enc (eInt .u8) l0)) (K : (List ((List UInt8) × (Int) × (List (Nat)))) → Prop) (h : spec_B10Takes.wp l0 K) : OkQ Try.prog 64 [(.v v0)] H (fun r H2 => ∃ (y0 : List ((List UInt8) × (Int) × (List (Nat)))), K y0 ∧ ∃ (w0_ : AV) (wsw0_ : List (List AV)) (Sw0_ : Nat → Prop), r = (.v w0_) ∧ Sep H2 (dpc w0_ 3 R_s_ii64_LeFlt_f32_poooq y0 wsw0_ Sw0_ :: fr)) := by
  unfold spec_B10Takes.wp at h
  refine of_body Try.f64 F.hm Try.func64 rfl Try.call64 (by kernel_rfl) (by simp) ?_
  refine fi_seq ?_
  refine fi_region ?_
  refine so_assign (v := (.v .nilsl)) rfl ?_
  refine so_nil ?_
  refine fi_seq ?_
  refine fi_region ?_
  refine so_move (v := (.v v0)) rfl ?_
  refine sv_call (spec_l00From_ok v0 l0 hs (fun _ hs => (g0 _ hs)) _ h) rfl rfl nofun ?_
  clear h hs
  rintro _ H106 ⟨y101, y102, y103, h, i104, rfl, hs⟩
  replace h := ofT h; rcases h with ⟨c107, h⟩ | ⟨c107, h⟩
  · subst c107
    refine so_assign (v := (.v (.ptr i104 0))) rfl ?_
    refine so_nil ?_
    refine fi_seq ?_
    refine fi_region ?_
    refine sk_empty hs R_s_ii64_LeFlt_f32_poooq F64.te66 F64.sz57 F64.ze57 rfl nofun (fun v108 ws109 S110 H111 _ hs => ?_)
    refine so_assign (v := (.v v108)) rfl ?_
    refine so_nil ?_
    refine fi_seq ?_
    refine fi_seq ?_
    refine fi_region ?_
    refine so_move (v := (.v (.ptr i104 0))) rfl ?_
    replace hs := (Sep.front 1 hs rfl)
    refine sv_call (spec_l00Src_pick_ok i104 v0 l0 y102 y103 (5 : Int) hs (fun _ hs => (g0 _ hs.tl)) _ h) rfl rfl nofun ?_
    clear h hs
    rintro _ H116 ⟨y113, y114, y115, h, rfl, hs⟩
    refine so_assign (v := (.v (.int .i64 y113))) rfl ?_
    refine so_nil ?_
    refine fi_block ?_
    refine fi_loop ?_
    refine fi_at [(3, (.v (.ptr i104 0))), (4, (.v v108)), (5, (.v (.int .i64 y113)))] ⟨rfl, rfl, rfl, trivial⟩ ?_
    refine h (fun (out232 : List ((List UInt8) × (Int) × (List (Nat)))) (b236 : Int) (b237 : Int) (n238 : Int) => ∀ (s : Nat → TV) (H : Heap) (v233 : AV) (ws234 : List (List AV)) (S235 : Nat → Prop), Sep H (Pc.box i104 [v0, (.int .i64 b236), (.int .u64 b237)] :: dpc v233 3 R_s_ii64_LeFlt_f32_poooq out232 ws234 S235 :: fr) → Fin _ _ (updL s [(3, (.v (.ptr i104 0))), (4, (.v v233)), (5, (.v (.int .i64 n238)))]) H _) ?_ _ _ _ _ _ hs
    intro out232 b236 b237 n238 h s349 H350 v233 ws234 S235 hs
    refine fi_inLoop ?_
    refine fi_seq ?_
    refine fi_seq ?_
    refine fi_region ?_
    refine so_move (v := (.v (.int .i64 n238))) rfl ?_
    refine so_bin rfl rfl ab_gtr ?_
    refine so_nil ?_
    replace h := ofP h; rcases h with ⟨c239, h⟩ | ⟨c239, h⟩
    · refine fi_true rfl (decide_eq_true c239) ?_
      refine fi_skip ?_
      refine fi_seq ?_
      refine fi_block ?_
      refine fi_seq ?_
      refine fi_region ?_
      refine so_move (v := (.v (.ptr i104 0))) rfl ?_
      refine sv_bslice hs eStr ([([97] : List UInt8), ([104, 117, 109] : List UInt8), ([115, 101, 97] : List UInt8), ([122, 122] : List UInt8)] : List (List UInt8)) [[(.str (pk ([97] : List UInt8)))], [(.str (pk ([104, 117, 109] : List UInt8)))], [(.str (pk ([115, 101, 97] : List UInt8)))], [(.str (pk ([122, 122] : List UInt8)))]] F64.te185 F64.sz9 F64.ze9 rfl rfl rfl rfl (fun _ => rfl) rfl (by decide) nofun (fun v240 H241 nv240 hs => ?_)
      replace hs := (Sep.front 1 hs rfl)
      refine sv_call (spec_l00Src_text_ok i104 v0 l0 b236 b237 v240 ([([97] : List UInt8), ([104, 117, 109] : List UInt8), ([115, 101, 97] : List UInt8), ([122, 122] : List UInt8)] : List (List UInt8)) hs (fun _ hs => (g0 _ hs.tl.tl)) (fun _ hs => (hs.shows 0 rfl)) _ h) rfl rfl nofun ?_
      clear h hs
      rintro _ H246 ⟨y243, y244, y245, h, rfl, hs⟩
      refine so_move (v := (.v (.ptr i104 0))) rfl ?_
      refine sv_call (spec_l00Src_pick_ok i104 v0 l0 y244 y245 (900 : Int) hs (fun _ hs => (g0 _ hs.tl.tl)) _ h) rfl rfl nofun ?_
      clear h hs
      rintro _ H250 ⟨y247, y248, y249, h, rfl, hs⟩
      refine so_bin rfl rfl ab_add ?_
      refine so_build F64.bp57 (cps := [(0, [(.str (pk y243))]), (1, [(.int .i64 (IntKind.i64.wrap ((1 : Int) + y247)))])]) rfl (fac (stc rfl stn) (fac (stc rfl stn) fan)) rfl ?_
      refine sv_alloc hs F64.ze57 rfl nofun (fun id251 H252 hs => ?_)
      refine sv_st hs 0 rfl rfl rfl (c := [(.str (pk y243)), (.int .i64 (IntKind.i64.wrap ((1 : Int) + y247))), .nilsl]) rfl F64.sz57 rfl (stc rfl (stc rfl (stc rfl stn))) (leb rfl) (cs' := [(.str (pk y243)), (.int .i64 (IntKind.i64.wrap ((1 : Int) + y247))), .nilsl]) rfl nofun (fun H254 hs => ?_)
      refine so_nil ?_
      refine fi_seq ?_
      refine fi_seq ?_
      refine fi_region ?_
      refine so_move (v := (.v (.ptr i104 0))) rfl ?_
      replace hs := (Sep.front 1 hs rfl)
      refine sv_call (spec_l00Src_pick_ok i104 v0 l0 y248 y249 (7 : Int) hs (fun _ hs => (g0 _ hs.tl.tl.tl)) _ h) rfl rfl nofun ?_
      clear h hs
      rintro _ H258 ⟨y255, y256, y257, h, rfl, hs⟩
      refine so_bin rfl rfl ab_add ?_
      refine so_assign (v := (.v (.int .i64 (IntKind.i64.wrap ((1 : Int) + y255))))) rfl ?_
      refine so_nil ?_
      refine fi_block ?_
      refine fi_loop ?_
      replace hs := hs.del 2
      replace hs := hs.nil 1
      refine fi_at [(3, (.v (.ptr i104 0))), (4, (.v v233)), (5, (.v (.int .i64 n238))), (6, (.v (.ptr id251 0))), (7, (.v (.int .i64 (IntKind.i64.wrap ((1 : Int) + y255)))))] ⟨rfl, rfl, rfl, rfl, rfl, trivial⟩ ?_
      refine h (fun (b303 : Int) (b304 : Int) (b305 : List UInt8) (b306 : Int) (b308 : List (Nat)) (k310 : Int) => ∀ (s : Nat → TV) (H : Heap) (v309 : AV), Sep H (Pc.osl v309 1 (enc (eFlt .f32) b308) :: Pc.box i104 [v0, (.int .i64 b303), (.int .u64 b304)] :: Pc.box id251 [(.str (pk b305)), (.int .i64 b306), v309] :: dpc v233 3 R_s_ii64_LeFlt_f32_poooq out232 ws234 S235 :: fr) → Fin _ _ (updL s [(3, (.v (.ptr i104 0))), (4, (.v v233)), (5, (.v (.int .i64 n238))), (6, (.v (.ptr id251 0))), (7, (.v (.int .i64 k310)))]) H _) ?_ _ _ _ hs
      intro b303 b304 b305 b306 b308 k310 h s347 H348 v309 hs
      refine fi_inLoop ?_
      refine fi_seq ?_
      refine fi_seq ?_
      refine fi_region ?_
      refine so_move (v := (.v (.int .i64 k310))) rfl ?_
      refine so_bin rfl rfl ab_gtr ?_
      refine so_nil ?_
      replace h := ofP h; rcases h with ⟨c311, h⟩ | ⟨c311, h⟩
      · refine fi_true rfl (decide_eq_true c311) ?_
        refine fi_skip ?_
        refine fi_seq ?_
        refine fi_block ?_
        refine fi_seq ?_
        refine fi_region ?_
        refine so_move (v := (.v (.ptr i104 0))) rfl ?_
        replace hs := (Sep.front 1 hs rfl)
        refine sv_call (spec_l00Src_pick_ok i104 v0 l0 b303 b304 (17 : Int) hs (fun _ hs => (g0 _ hs.tl.tl.tl)) _ h) rfl rfl nofun ?_
        clear h hs
        rintro _ H315 ⟨y312, y313, y314, h, rfl, hs⟩
        refine sv_if rfl F64.us2 F64.in25 F64.fl25 ?_
        refine so_bin rfl rfl ab_fquo ?_
        refine so_assign (v := (.v (.flt .f32 (fop .quo .f32 (itof .f32 y312) (cz .f32 1090519040))))) rfl ?_
        refine so_nil ?_
        refine fi_seq ?_
        refine fi_seq ?_
        refine fi_region ?_
        refine so_move (v := (.v (.ptr i104 0))) rfl ?_
        refine sv_call (spec_l00Src_one_ok i104 v0 l0 y313 y314 (20 : Int) hs (fun _ hs => (g0 _ hs.tl.tl.tl)) _ h) rfl rfl nofun ?_
        clear h hs
        rintro _ H319 ⟨y316, y317, y318, h, rfl, hs⟩
        refine so_nil ?_
        replace h := ofT h; rcases h with ⟨c320, h⟩ | ⟨c320, h⟩
        · refine fi_true rfl c320 ?_
          refine fi_region ?_
          refine so_move (v := (.v (.ptr i104 0))) rfl ?_
          refine sv_call (spec_l01DrawFloat_ok i104 v0 l0 y317 y318 hs (fun _ hs => (g0 _ hs.tl.tl.tl)) _ h) rfl rfl nofun ?_
          clear h hs
          rintro _ H324 ⟨y321, y322, y323, h, rfl, hs⟩
          refine so_assign (v := (.v (.flt .f32 y321))) rfl ?_
          refine so_nil ?_
          refine fi_region ?_
          refine so_fieldAddr rfl F64.fd57_2 ?_
          refine sv_ld hs 2 rfl rfl rfl F64.ag37 ?_
          refine so_move (v := (.v (.flt .f32 y321))) rfl ?_
          refine sv_bslice hs (eFlt .f32) ([y321] : List (Nat)) [[(.flt .f32 y321)]] F64.te37 F64.sz25 F64.ze25 rfl rfl rfl rfl (fun _ => rfl) rfl (by decide) nofun (fun v325 H326 nv325 hs => ?_)
          obtain ⟨c330, h⟩ := h
          refine sv_app hs 2 rfl (hs.shows 0 rfl) (fun _ => rfl) (by decide) F64.ta37_37 (by decide) c330 rfl rfl nofun (fun v328 H329 kv328 hs => ?_)
          replace hs := hs.del 0
          refine so_fieldAddr rfl F64.fd57_2 ?_
          refine sv_st hs 2 rfl rfl rfl (c := [v328]) rfl F64.sz37 rfl (stc (hs.shows 1 rfl).stor stn) (leb rfl) (cs' := [(.str (pk b305)), (.int .i64 b306), v328]) rfl nofun (fun H331 hs => ?_)
          refine so_nil ?_
          refine fi_inBlock ?_
          refine fi_region ?_
          refine so_move (v := (.v (.int .i64 k310))) rfl ?_
          refine so_bin rfl rfl ab_sub ?_
          refine so_assign (v := (.v (.int .i64 (IntKind.i64.wrap (k310 - (1 : Int)))))) rfl ?_
          refine so_nil ?_
          exact fi_at [(3, (.v (.ptr i104 0))), (4, (.v v233)), (5, (.v (.int .i64 n238))), (6, (.v (.ptr id251 0))), (7, (.v (.int .i64 (IntKind.i64.wrap (k310 - (1 : Int))))))] ⟨rfl, rfl, rfl, rfl, rfl, trivial⟩ (h _ _ _ (Sep.front 3 (Sep.front 2 (Sep.front 3 (Sep.front 3 hs rfl) rfl) rfl) rfl))
        · refine fi_false rfl c320 ?_
          refine fi_skip ?_
          refine fi_region ?_
          refine so_fieldAddr rfl F64.fd57_2 ?_
          refine sv_ld hs 2 rfl rfl rfl F64.ag37 ?_
          refine so_move (v := (.v (.flt .f32 (fop .quo .f32 (itof .f32 y312) (cz .f32 1090519040))))) rfl ?_
          refine sv_bslice hs (eFlt .f32) ([(fop .quo .f32 (itof .f32 y312) (cz .f32 1090519040))] : List (Nat)) [[(.flt .f32 (fop .quo .f32 (itof .f32 y312) (cz .f32 1090519040)))]] F64.te37 F64.sz25 F64.ze25 rfl rfl rfl rfl (fun _ => rfl) rfl (by decide) nofun (fun v332 H333 nv332 hs => ?_)
          obtain ⟨c337, h⟩ := h
          refine sv_app hs 2 rfl (hs.shows 0 rfl) (fun _ => rfl) (by decide) F64.ta37_37 (by decide) c337 rfl rfl nofun (fun v335 H336 kv335 hs => ?_)
          replace hs := hs.del 0
          refine so_fieldAddr rfl F64.fd57_2 ?_
          refine sv_st hs 2 rfl rfl rfl (c := [v335]) rfl F64.sz37 rfl (stc (hs.shows 1 rfl).stor stn) (leb rfl) (cs' := [(.str (pk b305)), (.int .i64 b306), v335]) rfl nofun (fun H338 hs => ?_)
          refine so_nil ?_
          refine fi_inBlock ?_
          refine fi_region ?_
          refine so_move (v := (.v (.int .i64 k310))) rfl ?_
          refine so_bin rfl rfl ab_sub ?_
          refine so_assign (v := (.v (.int .i64 (IntKind.i64.wrap (k310 - (1 : Int)))))) rfl ?_
          refine so_nil ?_
          exact fi_at [(3, (.v (.ptr i104 0))), (4, (.v v233)), (5, (.v (.int .i64 n238))), (6, (.v (.ptr id251 0))), (7, (.v (.int .i64 (IntKind.i64.wrap (k310 - (1 : Int))))))] ⟨rfl, rfl, rfl, rfl, rfl, trivial⟩ (h _ _ _ (Sep.front 3 (Sep.front 2 (Sep.front 3 (Sep.front 3 hs rfl) rfl) rfl) rfl))
      · refine fi_false rfl (decide_eq_false c311) ?_
        refine fi_exit rfl ?_
        refine fi_region ?_
        refine so_move (v := (.v v233)) rfl ?_
        refine sv_lds hs 2 rfl rfl (leb rfl) rfl F64.ag57 F64.sz57 ?_
        refine sd_bslice hs [[(.str (pk b305)), (.int .i64 b306), v309]] F64.te66 F64.sz57 F64.ze57 rfl rfl rfl (by simp) (fac (stc rfl (stc rfl (stc (hs.shows 0 rfl).stor stn))) fan) (by decide) rfl nofun (fun v339 H340 _ hs => ?_)
        obtain ⟨c342, h⟩ := h
        replace hs := Sep.front 1 hs rfl
        refine sk_app hs 3 rfl (b305, b306, b308) [(.str (pk b305)), (.int .i64 b306), v309] (hs.tl.shows 0 rfl) (fun _ hh => ⟨rfl, hh⟩) rfl (by decide) F64.ta66_66 (by decide) c342 rfl rfl nofun (fun v343 ws344 S345 H346 hs => ?_)
        replace hs := hs.del 0
        refine so_assign (v := (.v v343)) rfl ?_
        refine so_nil ?_
        refine fi_inBlock ?_
        refine fi_region ?_
        refine so_move (v := (.v (.int .i64 n238))) rfl ?_
        refine so_bin rfl rfl ab_sub ?_
        refine so_assign (v := (.v (.int .i64 (IntKind.i64.wrap (n238 - (1 : Int)))))) rfl ?_
        refine so_nil ?_
        exact fi_at [(3, (.v (.ptr i104 0))), (4, (.v v343)), (5, (.v (.int .i64 (IntKind.i64.wrap (n238 - (1 : Int))))))] ⟨rfl, rfl, rfl, trivial⟩ (h _ _ _ _ _ (Sep.del 1 hs))
    · refine fi_false rfl (decide_eq_false c239) ?_
      refine fi_exit rfl ?_
      refine fi_seq ?_
      refine fi_region ?_
      refine so_move (v := (.v v233)) rfl ?_
      refine so_assign (v := (.v v233)) rfl ?_
      refine so_nil ?_
      exact by_ret rfl ⟨_, h, _, _, _, rfl, (Sep.del 0 hs)⟩
  · subst c107
    refine so_assign (v := (.v (.ptr i104 0))) rfl ?_
    refine so_nil ?_
    refine fi_seq ?_
    refine fi_region ?_
    refine sk_empty hs R_s_ii64_LeFlt_f32_poooq F64.te66 F64.sz57 F64.ze57 rfl nofun (fun v351 ws352 S353 H354 _ hs => ?_)
    refine so_assign (v := (.v v351)) rfl ?_
    refine so_nil ?_
    refine fi_seq ?_
    refine fi_seq ?_
    refine fi_region ?_
    refine so_move (v := (.v (.ptr i104 0))) rfl ?_
    replace hs := (Sep.front 1 hs rfl)
    refine sv_call (spec_l00Src_pick_ok i104 .nilsl ([] : List (Int)) y102 y103 (5 : Int) hs (fun _ hs => (.inl ⟨rfl, rfl⟩ : Shows _ .nilsl 1 (enc (eInt .u8) []))) _ h) rfl rfl nofun ?_
    clear h hs
    rintro _ H359 ⟨y356, y357, y358, h, rfl, hs⟩
    refine so_assign (v := (.v (.int .i64 y356))) rfl ?_
    refine so_nil ?_
    refine fi_block ?_
    refine fi_loop ?_
    replace hs := hs.nil 1
    refine fi_at [(3, (.v (.ptr i104 0))), (4, (.v v351)), (5, (.v (.int .i64 y356)))] ⟨rfl, rfl, rfl, trivial⟩ ?_
    refine h (fun (out478 : List ((List UInt8) × (Int) × (List (Nat)))) (b483 : List (Int)) (b485 : Int) (b486 : Int) (n487 : Int) => ∀ (s : Nat → TV) (H : Heap) (v479 : AV) (ws480 : List (List AV)) (S481 : Nat → Prop) (v484 : AV), Sep H (Pc.osl v484 1 (enc (eInt .u8) b483) :: Pc.box i104 [v484, (.int .i64 b485), (.int .u64 b486)] :: dpc v479 3 R_s_ii64_LeFlt_f32_poooq out478 ws480 S481 :: fr) → Fin _ _ (updL s [(3, (.v (.ptr i104 0))), (4, (.v v479)), (5, (.v (.int .i64 n487)))]) H _) ?_ _ _ _ _ _ _ hs
    intro out478 b483 b485 b486 n487 h s598 H599 v479 ws480 S481 v484 hs
    refine fi_inLoop ?_
    refine fi_seq ?_
    refine fi_seq ?_
    refine fi_region ?_
    refine so_move (v := (.v (.int .i64 n487))) rfl ?_
    refine so_bin rfl rfl ab_gtr ?_
    refine so_nil ?_
    replace h := ofP h; rcases h with ⟨c488, h⟩ | ⟨c488, h⟩
    · refine fi_true rfl (decide_eq_true c488) ?_
      refine fi_skip ?_
      refine fi_seq ?_
      refine fi_block ?_
      refine fi_seq ?_
      refine fi_region ?_
      refine so_move (v := (.v (.ptr i104 0))) rfl ?_
      refine sv_bslice hs eStr ([([97] : List UInt8), ([104, 117, 109] : List UInt8), ([115, 101, 97] : List UInt8), ([122, 122] : List UInt8)] : List (List UInt8)) [[(.str (pk ([97] : List UInt8)))], [(.str (pk ([104, 117, 109] : List UInt8)))], [(.str (pk ([115, 101, 97] : List UInt8)))], [(.str (pk ([122, 122] : List UInt8)))]] F64.te185 F64.sz9 F64.ze9 rfl rfl rfl rfl (fun _ => rfl) rfl (by decide) nofun (fun v489 H490 nv489 hs => ?_)
      replace hs := (Sep.front 2 hs rfl)
      refine sv_call (spec_l00Src_text_ok i104 v484 b483 b485 b486 v489 ([([97] : List UInt8), ([104, 117, 109] : List UInt8), ([115, 101, 97] : List UInt8), ([122, 122] : List UInt8)] : List (List UInt8)) hs (fun _ hs => (hs.shows 1 rfl)) (fun _ hs => (hs.shows 0 rfl)) _ h) rfl rfl nofun ?_
      clear h hs
      rintro _ H495 ⟨y492, y493, y494, h, rfl, hs⟩
      refine so_move (v := (.v (.ptr i104 0))) rfl ?_
      refine sv_call (spec_l00Src_pick_ok i104 v484 b483 y493 y494 (900 : Int) hs (fun _ hs => (hs.shows 1 rfl)) _ h) rfl rfl nofun ?_
      clear h hs
      rintro _ H499 ⟨y496, y497, y498, h, rfl, hs⟩
      refine so_bin rfl rfl ab_add ?_
      refine so_build F64.bp57 (cps := [(0, [(.str (pk y492))]), (1, [(.int .i64 (IntKind.i64.wrap ((1 : Int) + y496)))])]) rfl (fac (stc rfl stn) (fac (stc rfl stn) fan)) rfl ?_
      refine sv_alloc hs F64.ze57 rfl nofun (fun id500 H501 hs => ?_)
      refine sv_st hs 0 rfl rfl rfl (c := [(.str (pk y492)), (.int .i64 (IntKind.i64.wrap ((1 : Int) + y496))), .nilsl]) rfl F64.sz57 rfl (stc rfl (stc rfl (stc rfl stn))) (leb rfl) (cs' := [(.str (pk y492)), (.int .i64 (IntKind.i64.wrap ((1 : Int) + y496))), .nilsl]) rfl nofun (fun H503 hs => ?_)
      refine so_nil ?_
      refine fi_seq ?_
      refine fi_seq ?_
      refine fi_region ?_
      refine so_move (v := (.v (.ptr i104 0))) rfl ?_
      replace hs := (Sep.front 1 hs rfl)
      refine sv_call (spec_l00Src_pick_ok i104 v484 b483 y497 y498 (7 : Int) hs (fun _ hs => (hs.shows 2 rfl)) _ h) rfl rfl nofun ?_
      clear h hs
      rintro _ H507 ⟨y504, y505, y506, h, rfl, hs⟩
      refine so_bin rfl rfl ab_add ?_
      refine so_assign (v := (.v (.int .i64 (IntKind.i64.wrap ((1 : Int) + y504))))) rfl ?_
      refine so_nil ?_
      refine fi_block ?_
      refine fi_loop ?_
      replace hs := hs.del 2
      replace hs := hs.nil 1
      refine fi_at [(3, (.v (.ptr i104 0))), (4, (.v v479)), (5, (.v (.int .i64 n487))), (6, (.v (.ptr id500 0))), (7, (.v (.int .i64 (IntKind.i64.wrap ((1 : Int) + y504)))))] ⟨rfl, rfl, rfl, rfl, rfl, trivial⟩ ?_
      refine h (fun (b552 : Int) (b553 : Int) (b554 : List UInt8) (b555 : Int) (b557 : List (Nat)) (k559 : Int) => ∀ (s : Nat → TV) (H : Heap) (v558 : AV), Sep H (Pc.osl v558 1 (enc (eFlt .f32) b557) :: Pc.box i104 [v484, (.int .i64 b552), (.int .u64 b553)] :: Pc.box id500 [(.str (pk b554)), (.int .i64 b555), v558] :: Pc.osl v484 1 (enc (eInt .u8) b483) :: dpc v479 3 R_s_ii64_LeFlt_f32_poooq out478 ws480 S481 :: fr) → Fin _ _ (updL s [(3, (.v (.ptr i104 0))), (4, (.v v479)), (5, (.v (.int .i64 n487))), (6, (.v (.ptr id500 0))), (7, (.v (.int .i64 k559)))]) H _) ?_ _ _ _ hs
      intro b552 b553 b554 b555 b557 k559 h s596 H597 v558 hs
      refine fi_inLoop ?_
      refine fi_seq ?_
      refine fi_seq ?_
      refine fi_region ?_
      refine so_move (v := (.v (.int .i64 k559))) rfl ?_
      refine so_bin rfl rfl ab_gtr ?_
      refine so_nil ?_
      replace h := ofP h; rcases h with ⟨c560, h⟩ | ⟨c560, h⟩
      · refine fi_true rfl (decide_eq_true c560) ?_
        refine fi_skip ?_
        refine fi_seq ?_
        refine fi_block ?_
        refine fi_seq ?_
        refine fi_region ?_
        refine so_move (v := (.v (.ptr i104 0))) rfl ?_
        replace hs := (Sep.front 1 hs rfl)
        refine sv_call (spec_l00Src_pick_ok i104 v484 b483 b552 b553 (17 : Int) hs (fun _ hs => (hs.shows 2 rfl)) _ h) rfl rfl nofun ?_
        clear h hs
        rintro _ H564 ⟨y561, y562, y563, h, rfl, hs⟩
        refine sv_if rfl F64.us2 F64.in25 F64.fl25 ?_
        refine so_bin rfl rfl ab_fquo ?_
        refine so_assign (v := (.v (.flt .f32 (fop .quo .f32 (itof .f32 y561) (cz .f32 1090519040))))) rfl ?_
        refine so_nil ?_
        refine fi_seq ?_
        refine fi_seq ?_
        refine fi_region ?_
        refine so_move (v := (.v (.ptr i104 0))) rfl ?_
        refine sv_call (spec_l00Src_one_ok i104 v484 b483 y562 y563 (20 : Int) hs (fun _ hs => (hs.shows 2 rfl)) _ h) rfl rfl nofun ?_
        clear h hs
        rintro _ H568 ⟨y565, y566, y567, h, rfl, hs⟩
        refine so_nil ?_
        replace h := ofT h; rcases h with ⟨c569, h⟩ | ⟨c569, h⟩
        · refine fi_true rfl c569 ?_
          refine fi_region ?_
          refine so_move (v := (.v (.ptr i104 0))) rfl ?_
          refine sv_call (spec_l01DrawFloat_ok i104 v484 b483 y566 y567 hs (fun _ hs => (hs.shows 2 rfl)) _ h) rfl rfl nofun ?_
          clear h hs
          rintro _ H573 ⟨y570, y571, y572, h, rfl, hs⟩
          refine so_assign (v := (.v (.flt .f32 y570))) rfl ?_
          refine so_nil ?_
          refine fi_region ?_
          refine so_fieldAddr rfl F64.fd57_2 ?_
          refine sv_ld hs 2 rfl rfl rfl F64.ag37 ?_
          refine so_move (v := (.v (.flt .f32 y570))) rfl ?_
          refine sv_bslice hs (eFlt .f32) ([y570] : List (Nat)) [[(.flt .f32 y570)]] F64.te37 F64.sz25 F64.ze25 rfl rfl rfl rfl (fun _ => rfl) rfl (by decide) nofun (fun v574 H575 nv574 hs => ?_)
          obtain ⟨c579, h⟩ := h
          refine sv_app hs 2 rfl (hs.shows 0 rfl) (fun _ => rfl) (by decide) F64.ta37_37 (by decide) c579 rfl rfl nofun (fun v577 H578 kv577 hs => ?_)
          replace hs := hs.del 0
          refine so_fieldAddr rfl F64.fd57_2 ?_
          refine sv_st hs 2 rfl rfl rfl (c := [v577]) rfl F64.sz37 rfl (stc (hs.shows 1 rfl).stor stn) (leb rfl) (cs' := [(.str (pk b554)), (.int .i64 b555), v577]) rfl nofun (fun H580 hs => ?_)
          refine so_nil ?_
          refine fi_inBlock ?_
          refine fi_region ?_
          refine so_move (v := (.v (.int .i64 k559))) rfl ?_
          refine so_bin rfl rfl ab_sub ?_
          refine so_assign (v := (.v (.int .i64 (IntKind.i64.wrap (k559 - (1 : Int)))))) rfl ?_
          refine so_nil ?_
          exact fi_at [(3, (.v (.ptr i104 0))), (4, (.v v479)), (5, (.v (.int .i64 n487))), (6, (.v (.ptr id500 0))), (7, (.v (.int .i64 (IntKind.i64.wrap (k559 - (1 : Int))))))] ⟨rfl, rfl, rfl, rfl, rfl, trivial⟩ (h _ _ _ (Sep.front 4 (Sep.front 3 (Sep.front 4 (Sep.front 4 (Sep.front 4 hs rfl) rfl) rfl) rfl) rfl))
        · refine fi_false rfl c569 ?_
          refine fi_skip ?_
          refine fi_region ?_
          refine so_fieldAddr rfl F64.fd57_2 ?_
          refine sv_ld hs 2 rfl rfl rfl F64.ag37 ?_
          refine so_move (v := (.v (.flt .f32 (fop .quo .f32 (itof .f32 y561) (cz .f32 1090519040))))) rfl ?_
          refine sv_bslice hs (eFlt .f32) ([(fop .quo .f32 (itof .f32 y561) (cz .f32 1090519040))] : List (Nat)) [[(.flt .f32 (fop .quo .f32 (itof .f32 y561) (cz .f32 1090519040)))]] F64.te37 F64.sz25 F64.ze25 rfl rfl rfl rfl (fun _ => rfl) rfl (by decide) nofun (fun v581 H582 nv581 hs => ?_)
          obtain ⟨c586, h⟩ := h
          refine sv_app hs 2 rfl (hs.shows 0 rfl) (fun _ => rfl) (by decide) F64.ta37_37 (by decide) c586 rfl rfl nofun (fun v584 H585 kv584 hs => ?_)
          replace hs := hs.del 0
          refine so_fieldAddr rfl F64.fd57_2 ?_
          refine sv_st hs 2 rfl rfl rfl (c := [v584]) rfl F64.sz37 rfl (stc (hs.shows 1 rfl).stor stn) (leb rfl) (cs' := [(.str (pk b554)), (.int .i64 b555), v584]) rfl nofun (fun H587 hs => ?_)
          refine so_nil ?_
          refine fi_inBlock ?_
          refine fi_region ?_
          refine so_move (v := (.v (.int .i64 k559))) rfl ?_
          refine so_bin rfl rfl ab_sub ?_
          refine so_assign (v := (.v (.int .i64 (IntKind.i64.wrap (k559 - (1 : Int)))))) rfl ?_
          refine so_nil ?_
          exact fi_at [(3, (.v (.ptr i104 0))), (4, (.v v479)), (5, (.v (.int .i64 n487))), (6, (.v (.ptr id500 0))), (7, (.v (.int .i64 (IntKind.i64.wrap (k559 - (1 : Int))))))] ⟨rfl, rfl, rfl, rfl, rfl, trivial⟩ (h _ _ _ (Sep.front 4 (Sep.front 3 (Sep.front 4 (Sep.front 4 (Sep.front 4 hs rfl) rfl) rfl) rfl) rfl))
      · refine fi_false rfl (decide_eq_false c560) ?_
        refine fi_exit rfl ?_
        refine fi_region ?_
        refine so_move (v := (.v v479)) rfl ?_
        refine sv_lds hs 2 rfl rfl (leb rfl) rfl F64.ag57 F64.sz57 ?_
        refine sd_bslice hs [[(.str (pk b554)), (.int .i64 b555), v558]] F64.te66 F64.sz57 F64.ze57 rfl rfl rfl (by simp) (fac (stc rfl (stc rfl (stc (hs.shows 0 rfl).stor stn))) fan) (by decide) rfl nofun (fun v588 H589 _ hs => ?_)
        obtain ⟨c591, h⟩ := h
        replace hs := Sep.front 1 hs rfl
        refine sk_app hs 4 rfl (b554, b555, b557) [(.str (pk b554)), (.int .i64 b555), v558] (hs.tl.shows 0 rfl) (fun _ hh => ⟨rfl, hh⟩) rfl (by decide) F64.ta66_66 (by decide) c591 rfl rfl nofun (fun v592 ws593 S594 H595 hs => ?_)
        replace hs := hs.del 0
        refine so_assign (v := (.v v592)) rfl ?_
        refine so_nil ?_
        refine fi_inBlock ?_
        refine fi_region ?_
        refine so_move (v := (.v (.int .i64 n487))) rfl ?_
        refine so_bin rfl rfl ab_sub ?_
        refine so_assign (v := (.v (.int .i64 (IntKind.i64.wrap (n487 - (1 : Int)))))) rfl ?_
        refine so_nil ?_
        exact fi_at [(3, (.v (.ptr i104 0))), (4, (.v v592)), (5, (.v (.int .i64 (IntKind.i64.wrap (n487 - (1 : Int))))))] ⟨rfl, rfl, rfl, trivial⟩ (h _ _ _ _ _ _ (Sep.front 2 (Sep.front 1 (Sep.front 2 (Sep.del 1 hs) rfl) rfl) rfl))
    · refine fi_false rfl (decide_eq_false c488) ?_
      refine fi_exit rfl ?_
      refine fi_seq ?_
      refine fi_region ?_
      refine so_move (v := (.v v479)) rfl ?_
      refine so_assign (v := (.v v479)) rfl ?_
      refine so_nil ?_
      exact by_ret rfl ⟨_, h, _, _, _, rfl, (Sep.del 0 (Sep.del 0 hs))⟩

end Go.Proofs.Ytpeijfnfffogeaa.G

namespace Go.Proofs.Ytpeijfnfffogeaa.G
open Go Go.Ab Go.Proofs Go.Proofs.Ytpeijfnfffogeaa
set_option maxRecDepth 100000
set_option linter.unusedVariables false
set_option linter.unusedSimpArgs false
set_option maxHeartbeats 1000000
attribute [local irreducible] wops wopf Go.Ab.Fin
theorem F66.ti37 : (telem Try.prog 37).isSome = true := by kernel_rfl
theorem impl_PackTake_ok {fr : List Pc} {H : Heap} (v0 : AV) (l0 : List (Nat)) (hs : Sep H (fr)) (g0 : ∀ H, Sep H fr → Shows H v0 1 (enc (eFlt .f32) l0)) (K : (List UInt8) → Bool → Prop) (h : impl_PackTake.wp l0 K) : OkQ Try.prog 66 [(.v v0)] H (fun r H2 => ∃ (y0 : List UInt8) (y1 : Bool), K y0 y1 ∧ r = (.t [(.v (.str (pk y0))), (.v (.bool y1))]) ∧ Sep H2 (fr)) := by
  unfold impl_PackTake.wp at h
  refine of_body Try.f66 F.hm Try.func66 rfl Try.call66 (by kernel_rfl) (by simp) ?_
  refine fi_seq ?_
  refine fi_region ?_
  refine so_assign (v := (.v (.str (pk ([] : List UInt8))))) rfl ?_
  refine so_assign (v := (.v (.bool false))) rfl ?_
  refine so_nil ?_
  refine fi_seq ?_
  refine fi_seq ?_
  refine fi_region ?_
  refine so_move (v := (.v v0)) rfl ?_
  refine sv_len (g0 _ hs) (fun _ => rfl) (by decide) rfl F66.ti37 ?_
  refine sv_callS (impl_within_ok (l0.length : Int) (1 : Int) (128 : Int) hs  _ h) (fun _ _ ⟨_, _, _, e⟩ => e) rfl rfl ?_
  clear h
  rintro _ _ ⟨y101, h, rfl, rfl⟩
  refine so_un rfl au_not ?_
  refine so_nil ?_
  replace h := ofT h; rcases h with ⟨c103, h⟩ | ⟨c103, h⟩
  · refine fi_false rfl (not_f c103) ?_
    refine fi_skip ?_
    refine fi_seq ?_
    refine fi_region ?_
    refine so_move (v := (.v v0)) rfl ?_
    refine sv_call (impl_packed_ok v0 l0 hs (fun _ hs => (g0 _ hs)) _ h) rfl rfl nofun ?_
    clear h hs
    rintro _ H105 ⟨y104, h, rfl, hs⟩
    refine so_assign (v := (.v (.str (pk y104)))) rfl ?_
    refine so_assign (v := (.v (.bool true))) rfl ?_
    refine so_nil ?_
    exact by_ret rfl ⟨_, _, h, rfl, hs⟩
  · refine fi_true rfl (not_t c103) ?_
    refine fi_seq ?_
    refine fi_region ?_
    refine so_assign (v := (.v (.str (pk ([] : List UInt8))))) rfl ?_
    refine so_assign (v := (.v (.bool false))) rfl ?_
    refine so_nil ?_
    exact by_ret rfl ⟨_, _, h, rfl, hs⟩

end Go.Proofs.Ytpeijfnfffogeaa.G

namespace Go.Proofs.Ytpeijfnfffogeaa.G
open Go Go.Ab Go.Proofs Go.Proofs.Ytpeijfnfffogeaa
set_option maxRecDepth 100000
set_option linter.unusedVariables false
set_option linter.unusedSimpArgs false
set_option maxHeartbeats 1000000
attribute [local irreducible] wops wopf Go.Ab.Fin
theorem F262.xb262 : Try.f262.body = none := rfl
theorem F262.xe262 : Extern.find Try.f262 = some Extern.MathFloatBits.float64bits := by rfl
theorem F262.xf262 : (Extern.findNext Try.f262).isNone = true := by kernel_rfl
theorem F262.xn262 : (Try.f262.name == "runtime.NumGoroutine") = false := by kernel_rfl
theorem math_Float64bits_ok {fr : List Pc} {H : Heap} (x : Nat) (hs : Sep H fr) (K : Int → Prop) (h : math_Float64bits.wp x K) : OkQ Try.prog 262 [(.v (.flt .f64 x))] H (fun r H2 => ∃ y0 : Int, K y0 ∧ r = (.v (.int .u64 y0)) ∧ H = H2) := ⟨_, _, f64bits_ok Try.func262 F262.xn262 F262.xb262 F262.xf262 F262.xe262 x h.1, _, h.2, rfl, rfl⟩

end Go.Proofs.Ytpeijfnfffogeaa.G

namespace Go.Proofs.Ytpeijfnfffogeaa.G
open Go Go.Ab Go.Proofs Go.Proofs.Ytpeijfnfffogeaa
set_option maxRecDepth 100000
set_option linter.unusedVariables false
set_option linter.unusedSimpArgs false
set_option maxHeartbeats 1000000
attribute [local irreducible] wops wopf Go.Ab.Fin
theorem F233.it2 : tint Try.prog 2 = some .i64 := by kernel_rfl
theorem F233.us227 : (Try.prog.underlying 227).isSome = true := by kernel_rfl
theorem math_Signbit_ok {fr : List Pc} {H : Heap} (a0 : Nat) (hs : Sep H (fr))  (K : Bool → Prop) (h : math_Signbit.wp a0 K) : OkQ Try.prog 233 [(.v (.flt .f64 a0))] H (fun r H2 => ∃ (y0 : Bool), K y0 ∧ r = (.v (.bool y0)) ∧ H = H2) := by
  unfold math_Signbit.wp at h
  refine of_body Try.f233 F.hm Try.func233 rfl Try.call233 (by kernel_rfl) (by simp) ?_
  refine fi_seq ?_
  refine fi_region ?_
  refine so_assign (v := (.v (.bool false))) rfl ?_
  refine so_nil ?_
  refine fi_seq ?_
  refine fi_region ?_
  refine so_move (v := (.v (.flt .f64 a0))) rfl ?_
  refine sv_callS (math_Float64bits_ok a0 hs  _ h) (fun _ _ ⟨_, _, _, e⟩ => e) rfl rfl ?_
  clear h
  rintro _ _ ⟨y101, h, rfl, rfl⟩
  refine sv_ii rfl F233.us227 F233.it2 ?_
  refine so_bin rfl rfl ab_lss ?_
  refine so_assign (v := (.v (.bool (decide ((IntKind.i64.wrap y101) < (0 : Int)))))) rfl ?_
  refine so_nil ?_
  exact by_ret rfl ⟨_, h, rfl, rfl⟩

end Go.Proofs.Ytpeijfnfffogeaa.G

namespace Go.Proofs.Ytpeijfnfffogeaa.G
open Go Go.Ab Go.Proofs Go.Proofs.Ytpeijfnfffogeaa
set_option maxRecDepth 100000
set_option linter.unusedVariables false
set_option linter.unusedSimpArgs false
set_option maxHeartbeats 1000000
attribute [local irreducible] wops wopf Go.Ab.Fin
theorem F172.fl32 : tflt Try.prog 32 = some .f64 := by kernel_rfl
theorem F172.in32 : tint Try.prog 32 = none := by kernel_rfl
theorem F172.tb4 : tbool Try.prog 4 = true := by kernel_rfl
theorem F172.us25 : (Try.prog.underlying 25).isSome = true := by kernel_rfl
theorem impl_SameNumber_ok {fr : List Pc} {H : Heap} (a0 : Nat) (a1 : Nat) (hs : Sep H (fr))  (K : Bool → Prop) (h : impl_SameNumber.wp a0 a1 K) : OkQ Try.prog 172 [(.v (.flt .f32 a0)), (.v (.flt .f32 a1))] H (fun r H2 => ∃ (y0 : Bool), K y0 ∧ r = (.v (.bool y0)) ∧ H = H2) := by
  unfold impl_SameNumber.wp at h
  refine of_body Try.f172 F.hm Try.func172 rfl Try.call172 (by kernel_rfl) (by simp) ?_
  refine fi_seq ?_
  refine fi_region ?_
  refine so_assign (v := (.v (.bool false))) rfl ?_
  refine so_nil ?_
  refine fi_seq ?_
  refine fi_seq ?_
  refine fi_region ?_
  refine so_move (v := (.v (.flt .f32 a0))) rfl ?_
  refine so_move (v := (.v (.flt .f32 a0))) rfl ?_
  refine so_bin rfl rfl ab_fneq ?_
  refine so_move (v := (.v (.bool (fcmp .neq .f32 a0 a0)))) rfl ?_
  replace h := ofT h; rcases h with ⟨c101, h⟩ | ⟨c101, h⟩
  · refine so_gno rfl c101 ?_
    refine so_gno rfl c101 ?_
    refine so_gno rfl c101 ?_
    refine so_pick_t (v := (.v (.bool true))) rfl c101 rfl ?_
    refine so_nil ?_
    refine fi_true rfl rfl ?_
    refine fi_seq ?_
    refine fi_region ?_
    refine so_move (v := (.v (.flt .f32 a0))) rfl ?_
    refine so_move (v := (.v (.flt .f32 a0))) rfl ?_
    refine so_bin rfl rfl ab_fneq ?_
    refine so_move (v := (.v (.bool (fcmp .neq .f32 a0 a0)))) rfl ?_
    refine so_gyes rfl c101 ?_
    refine so_move (v := (.v (.flt .f32 a1))) rfl ?_
    refine so_gyes rfl c101 ?_
    refine so_move (v := (.v (.flt .f32 a1))) rfl ?_
    refine so_gyes rfl c101 ?_
    refine so_bin rfl rfl ab_fneq ?_
    refine so_pick_t (v := (.v (.bool (fcmp .neq .f32 a1 a1)))) rfl c101 rfl ?_
    refine so_assign (v := (.v (.bool (fcmp .neq .f32 a1 a1)))) rfl ?_
    refine so_nil ?_
    exact by_ret rfl ⟨_, h, rfl, rfl⟩
  · refine so_gyes rfl c101 ?_
    refine so_move (v := (.v (.flt .f32 a1))) rfl ?_
    refine so_gyes rfl c101 ?_
    refine so_move (v := (.v (.flt .f32 a1))) rfl ?_
    refine so_gyes rfl c101 ?_
    refine so_bin rfl rfl ab_fneq ?_
    refine so_pick_f (v := (.v (.bool (fcmp .neq .f32 a1 a1)))) rfl c101 rfl ?_
    refine so_nil ?_
    replace h := ofT h; rcases h with ⟨c102, h⟩ | ⟨c102, h⟩
    · refine fi_true rfl c102 ?_
      refine fi_seq ?_
      refine fi_region ?_
      refine so_move (v := (.v (.flt .f32 a0))) rfl ?_
      refine so_move (v := (.v (.flt .f32 a0))) rfl ?_
      refine so_bin rfl rfl ab_fneq ?_
      refine so_move (v := (.v (.bool (fcmp .neq .f32 a0 a0)))) rfl ?_
      refine so_gno rfl c101 ?_
      refine so_gno rfl c101 ?_
      refine so_gno rfl c101 ?_
      refine so_pick_f (v := (.v (.bool false))) rfl c101 rfl ?_
      refine so_assign (v := (.v (.bool false))) rfl ?_
      refine so_nil ?_
      exact by_ret rfl ⟨_, h, rfl, rfl⟩
    · refine fi_false rfl c102 ?_
      refine fi_skip ?_
      refine fi_seq ?_
      refine fi_region ?_
      refine so_move (v := (.v (.flt .f32 a0))) rfl ?_
      refine so_move (v := (.v (.flt .f32 a1))) rfl ?_
      refine so_bin rfl rfl ab_feql ?_
      refine so_move (v := (.v (.bool (fcmp .eql .f32 a0 a1)))) rfl ?_
      replace h := ofT h; rcases h with ⟨c103, h⟩ | ⟨c103, h⟩
      · refine so_gyes rfl c103 ?_
        refine so_move (v := (.v (.flt .f32 a0))) rfl ?_
        refine so_gyes rfl c103 ?_
        refine sv_ffw rfl F172.us25 F172.in32 F172.fl32 ?_
        refine so_gyes rfl c103 ?_
        refine sv_callS (math_Signbit_ok (widen a0) hs  _ h) (fun _ _ ⟨_, _, _, e⟩ => e) rfl rfl ?_
        clear h
        rintro _ _ ⟨y104, h, rfl, rfl⟩
        refine so_gyes rfl c103 ?_
        refine so_move (v := (.v (.flt .f32 a1))) rfl ?_
        refine so_gyes rfl c103 ?_
        refine sv_ffw rfl F172.us25 F172.in32 F172.fl32 ?_
        refine so_gyes rfl c103 ?_
        refine sv_callS (math_Signbit_ok (widen a1) hs  _ h) (fun _ _ ⟨_, _, _, e⟩ => e) rfl rfl ?_
        clear h
        rintro _ _ ⟨y106, h, rfl, rfl⟩
        refine so_gyes rfl c103 ?_
        refine so_bin rfl rfl (ab_beql F172.tb4) ?_
        refine so_pick_t (v := (.v (.bool (y104 == y106)))) rfl c103 rfl ?_
        refine so_assign (v := (.v (.bool (y104 == y106)))) rfl ?_
        refine so_nil ?_
        exact by_ret rfl ⟨_, h, rfl, rfl⟩
      · refine so_gno rfl c103 ?_
        refine so_gno rfl c103 ?_
        refine so_gno rfl c103 ?_
        refine so_gno rfl c103 ?_
        refine so_gno rfl c103 ?_
        refine so_gno rfl c103 ?_
        refine so_gno rfl c103 ?_
        refine so_pick_f (v := (.v (.bool false))) rfl c103 rfl ?_
        refine so_assign (v := (.v (.bool false))) rfl ?_
        refine so_nil ?_
        exact by_ret rfl ⟨_, h, rfl, rfl⟩

end Go.Proofs.Ytpeijfnfffogeaa.G

namespace Go.Proofs.Ytpeijfnfffogeaa.G
open Go Go.Ab Go.Proofs Go.Proofs.Ytpeijfnfffogeaa
set_option maxRecDepth 100000
set_option linter.unusedVariables false
set_option linter.unusedSimpArgs false
set_option maxHeartbeats 1000000
attribute [local irreducible] wops wopf Go.Ab.Fin
theorem F92.ag25 : tagg Try.prog 25 = some false := by kernel_rfl
theorem F92.ti37 : (telem Try.prog 37).isSome = true := by kernel_rfl
theorem F92.tl37 : (telem Try.prog 37).bind (tsz Try.prog) = some 1 := by kernel_rfl
theorem impl_sameNumbers_ok {fr : List Pc} {H : Heap} (v0 : AV) (l0 : List (Nat)) (v1 : AV) (l1 : List (Nat)) (hs : Sep H (fr)) (g0 : ∀ H, Sep H fr → Shows H v0 1 (enc (eFlt .f32) l0)) (g1 : ∀ H, Sep H fr → Shows H v1 1 (enc (eFlt .f32) l1)) (K : Bool → Prop) (h : impl_sameNumbers.wp l0 l1 K) : OkQ Try.prog 92 [(.v v0), (.v v1)] H (fun r H2 => ∃ (y0 : Bool), K y0 ∧ r = (.v (.bool y0)) ∧ H = H2) := by
  unfold impl_sameNumbers.wp at h
  refine of_body Try.f92 F.hm Try.func92 rfl Try.call92 (by kernel_rfl) (by simp) ?_
  refine fi_seq ?_
  refine fi_region ?_
  refine so_assign (v := (.v (.bool false))) rfl ?_
  refine so_nil ?_
  refine fi_seq ?_
  refine fi_seq ?_
  refine fi_region ?_
  refine so_move (v := (.v v0)) rfl ?_
  refine sv_len (g0 _ hs) (fun _ => rfl) (by decide) rfl F92.ti37 ?_
  refine so_move (v := (.v v1)) rfl ?_
  refine sv_len (g1 _ hs) (fun _ => rfl) (by decide) rfl F92.ti37 ?_
  refine so_bin rfl rfl ab_neq ?_
  refine so_nil ?_
  replace h := ofP h; rcases h with ⟨c101, h⟩ | ⟨c101, h⟩
  · refine fi_false rfl (not_f (decide_eq_true c101)) ?_
    refine fi_skip ?_
    refine fi_seq ?_
    refine fi_seq ?_
    refine fi_region ?_
    refine so_move (v := (.v v0)) rfl ?_
    refine sv_len (g0 _ hs) (fun _ => rfl) (by decide) rfl F92.ti37 ?_
    refine so_move (v := (.v (.int .i64 (0 : Int)))) rfl ?_
    refine so_nil ?_
    refine fi_block ?_
    refine fi_loop ?_
    refine fi_at [(0, (.v v0)), (1, (.v v1)), (12, (.v (.int .i64 (l0.length : Int)))), (13, (.v (.int .i64 (0 : Int))))] ⟨rfl, rfl, rfl, rfl, trivial⟩ ?_
    refine h (fun (x103 : Int) => ∀ (s : Nat → TV), Fin _ _ (updL s [(0, (.v v0)), (1, (.v v1)), (12, (.v (.int .i64 (l0.length : Int)))), (13, (.v (.int .i64 x103)))]) _ _) ?_ _
    intro x103 h s110
    refine fi_inLoop ?_
    refine fi_seq ?_
    refine fi_region ?_
    refine so_bin rfl rfl ab_lss ?_
    refine so_nil ?_
    refine fi_seq ?_
    replace h := ofP h; rcases h with ⟨c104, h⟩ | ⟨c104, h⟩
    · refine fi_true rfl (decide_eq_true c104) ?_
      refine fi_skip ?_
      refine fi_seq ?_
      refine fi_block ?_
      refine fi_seq ?_
      refine fi_region ?_
      refine so_move (v := (.v (.int .i64 x103))) rfl ?_
      refine so_assign (v := (.v (.int .i64 x103))) rfl ?_
      refine so_nil ?_
      refine fi_seq ?_
      refine fi_region ?_
      refine so_move (v := (.v v0)) rfl ?_
      refine so_move (v := (.v (.int .i64 x103))) rfl ?_
      obtain ⟨c105, h⟩ := h
      refine sv_idx (g0 _ hs) c105 (fun _ => rfl) (by decide) rfl rfl F92.tl37 ?_
      refine sv_cell (g0 _ hs) c105 (0 : Nat) 0 (fun x => (AV.flt .f32 x)) (fun _ => rfl) (fun _ => rfl) rfl F92.ag25 ?_
      refine so_move (v := (.v v1)) rfl ?_
      refine so_move (v := (.v (.int .i64 x103))) rfl ?_
      obtain ⟨c106, h⟩ := h
      refine sv_idx (g1 _ hs) c106 (fun _ => rfl) (by decide) rfl rfl F92.tl37 ?_
      refine sv_cell (g1 _ hs) c106 (0 : Nat) 0 (fun x => (AV.flt .f32 x)) (fun _ => rfl) (fun _ => rfl) rfl F92.ag25 ?_
      refine sv_callS (impl_SameNumber_ok (l0.getD (x103).toNat (0 : Nat)) (l1.getD (x103).toNat (0 : Nat)) hs  _ h) (fun _ _ ⟨_, _, _, e⟩ => e) rfl rfl ?_
      clear h
      rintro _ _ ⟨y107, h, rfl, rfl⟩
      refine so_un rfl au_not ?_
      refine so_nil ?_
      replace h := ofT h; rcases h with ⟨c109, h⟩ | ⟨c109, h⟩
      · refine fi_false rfl (not_f c109) ?_
        refine fi_skip ?_
        refine fi_inBlock ?_
        refine fi_region ?_
        refine so_bin rfl rfl ab_add ?_
        refine so_move (v := (.v (.int .i64 (IntKind.i64.wrap (x103 + (1 : Int)))))) rfl ?_
        refine so_nil ?_
        exact fi_at [(0, (.v v0)), (1, (.v v1)), (12, (.v (.int .i64 (l0.length : Int)))), (13, (.v (.int .i64 (IntKind.i64.wrap (x103 + (1 : Int))))))] ⟨rfl, rfl, rfl, rfl, trivial⟩ (h _)
      · refine fi_true rfl (not_t c109) ?_
        refine fi_seq ?_
        refine fi_region ?_
        refine so_assign (v := (.v (.bool false))) rfl ?_
        refine so_nil ?_
        exact by_ret rfl ⟨_, h, rfl, rfl⟩
    · refine fi_false rfl (decide_eq_false c104) ?_
      refine fi_exit rfl ?_
      refine fi_seq ?_
      refine fi_region ?_
      refine so_assign (v := (.v (.bool true))) rfl ?_
      refine so_nil ?_
      exact by_ret rfl ⟨_, h, rfl, rfl⟩
  · refine fi_true rfl (not_t (decide_eq_false c101)) ?_
    refine fi_seq ?_
    refine fi_region ?_
    refine so_assign (v := (.v (.bool false))) rfl ?_
    refine so_nil ?_
    exact by_ret rfl ⟨_, h, rfl, rfl⟩

end Go.Proofs.Ytpeijfnfffogeaa.G

namespace Go.Proofs.Ytpeijfnfffogeaa.G
open Go Go.Ab Go.Proofs Go.Proofs.Ytpeijfnfffogeaa
set_option maxRecDepth 100000
set_option linter.unusedVariables false
set_option linter.unusedSimpArgs false
set_option maxHeartbeats 1000000
attribute [local irreducible] wops wopf Go.Ab.Fin
theorem F163.ag2 : tagg Try.prog 2 = some false := by kernel_rfl
theorem F163.ag37 : tagg Try.prog 37 = some false := by kernel_rfl
theorem F163.ag9 : tagg Try.prog 9 = some false := by kernel_rfl
theorem F163.fd57_0 : tfield Try.prog 57 0 = some (0, 1, false) := by kernel_rfl
theorem F163.fd57_1 : tfield Try.prog 57 1 = some (1, 1, false) := by kernel_rfl
theorem F163.fd57_2 : tfield Try.prog 57 2 = some (2, 1, false) := by kernel_rfl
theorem F163.inf57 : (Try.prog.info? 57).isSome = true := by kernel_rfl
theorem impl_sameTake_ok {fr : List Pc} {H : Heap} (a0 : List UInt8) (a1 : Int) (v2 : AV) (l2 : List (Nat)) (a3 : List UInt8) (a4 : Int) (v5 : AV) (l5 : List (Nat)) (hs : Sep H (fr)) (g2 : ∀ H, Sep H fr → Shows H v2 1 (enc (eFlt .f32) l2)) (g5 : ∀ H, Sep H fr → Shows H v5 1 (enc (eFlt .f32) l5)) (K : Bool → Prop) (h : impl_sameTake.wp a0 a1 l2 a3 a4 l5 K) : OkQ Try.prog 163 [(.g [(.str (pk a0)), (.int .i64 a1), v2]), (.g [(.str (pk a3)), (.int .i64 a4), v5])] H (fun r H2 => ∃ (y0 : Bool), K y0 ∧ r = (.v (.bool y0)) ∧ Sep H2 (fr)) := by
  unfold impl_sameTake.wp at h
  refine of_body Try.f163 F.hm Try.func163 rfl Try.call163 (by kernel_rfl) (by simp) ?_
  refine fi_seq ?_
  refine fi_region ?_
  refine sv_box hs rfl (c := [(.str (pk a0)), (.int .i64 a1), v2]) rfl F163.inf57 (stc rfl (stc rfl (stc (g2 _ hs).stor stn))) nofun (fun id101 H102 hs => ?_)
  refine sv_box hs rfl (c := [(.str (pk a3)), (.int .i64 a4), v5]) rfl F163.inf57 (stc rfl (stc rfl (stc (g5 _ hs.tl).stor stn))) nofun (fun id104 H105 hs => ?_)
  refine so_assign (v := (.v (.bool false))) rfl ?_
  refine so_nil ?_
  refine fi_seq ?_
  refine fi_region ?_
  refine so_fieldAddr rfl F163.fd57_0 ?_
  refine sv_ld hs 1 rfl rfl rfl F163.ag9 ?_
  refine so_fieldAddr rfl F163.fd57_0 ?_
  refine sv_ld hs 0 rfl rfl rfl F163.ag9 ?_
  refine so_bin rfl rfl ab_seql ?_
  refine so_move (v := (.v (.bool (decide (a0 = a3))))) rfl ?_
  replace h := ofP h; rcases h with ⟨c107, h⟩ | ⟨c107, h⟩
  · refine so_gyes rfl (decide_eq_true c107) ?_
    refine so_fieldAddr rfl F163.fd57_1 ?_
    refine so_gyes rfl (decide_eq_true c107) ?_
    refine sv_ld hs 1 rfl rfl rfl F163.ag2 ?_
    refine so_gyes rfl (decide_eq_true c107) ?_
    refine so_fieldAddr rfl F163.fd57_1 ?_
    refine so_gyes rfl (decide_eq_true c107) ?_
    refine sv_ld hs 0 rfl rfl rfl F163.ag2 ?_
    refine so_gyes rfl (decide_eq_true c107) ?_
    refine so_bin rfl rfl ab_eql ?_
    refine so_pick_t (v := (.v (.bool (decide (a1 = a4))))) rfl (decide_eq_true c107) rfl ?_
    refine so_move (v := (.v (.bool (decide (a1 = a4))))) rfl ?_
    replace h := ofP h; rcases h with ⟨c108, h⟩ | ⟨c108, h⟩
    · refine so_gyes rfl (decide_eq_true c108) ?_
      refine so_fieldAddr rfl F163.fd57_2 ?_
      refine so_gyes rfl (decide_eq_true c108) ?_
      refine sv_ld hs 1 rfl rfl rfl F163.ag37 ?_
      refine so_gyes rfl (decide_eq_true c108) ?_
      refine so_fieldAddr rfl F163.fd57_2 ?_
      refine so_gyes rfl (decide_eq_true c108) ?_
      refine sv_ld hs 0 rfl rfl rfl F163.ag37 ?_
      refine so_gyes rfl (decide_eq_true c108) ?_
      refine sv_callS (impl_sameNumbers_ok v2 l2 v5 l5 hs (fun _ hs => (g2 _ hs.tl.tl)) (fun _ hs => (g5 _ hs.tl.tl)) _ h) (fun _ _ ⟨_, _, _, e⟩ => e) rfl rfl ?_
      clear h
      rintro _ _ ⟨y109, h, rfl, rfl⟩
      refine so_pick_t (v := (.v (.bool y109))) rfl (decide_eq_true c108) rfl ?_
      refine so_assign (v := (.v (.bool y109))) rfl ?_
      refine so_nil ?_
      exact by_ret rfl ⟨_, h, rfl, (Sep.del 0 (Sep.del 0 hs))⟩
    · refine so_gno rfl (decide_eq_false c108) ?_
      refine so_gno rfl (decide_eq_false c108) ?_
      refine so_gno rfl (decide_eq_false c108) ?_
      refine so_gno rfl (decide_eq_false c108) ?_
      refine so_gno rfl (decide_eq_false c108) ?_
      refine so_pick_f (v := (.v (.bool false))) rfl (decide_eq_false c108) rfl ?_
      refine so_assign (v := (.v (.bool false))) rfl ?_
      refine so_nil ?_
      exact by_ret rfl ⟨_, h, rfl, (Sep.del 0 (Sep.del 0 hs))⟩
  · refine so_gno rfl (decide_eq_false c107) ?_
    refine so_gno rfl (decide_eq_false c107) ?_
    refine so_gno rfl (decide_eq_false c107) ?_
    refine so_gno rfl (decide_eq_false c107) ?_
    refine so_gno rfl (decide_eq_false c107) ?_
    refine so_pick_f (v := (.v (.bool false))) rfl (decide_eq_false c107) rfl ?_
    refine so_move (v := (.v (.bool false))) rfl ?_
    refine so_gno rfl rfl ?_
    refine so_gno rfl rfl ?_
    refine so_gno rfl rfl ?_
    refine so_gno rfl rfl ?_
    refine so_gno rfl rfl ?_
    refine so_pick_f (v := (.v (.bool false))) rfl rfl rfl ?_
    refine so_assign (v := (.v (.bool false))) rfl ?_
    refine so_nil ?_
    exact by_ret rfl ⟨_, h, rfl, (Sep.del 0 (Sep.del 0 hs))⟩

end Go.Proofs.Ytpeijfnfffogeaa.G

namespace Go.Proofs.Ytpeijfnfffogeaa.G
open Go Go.Ab Go.Proofs Go.Proofs.Ytpeijfnfffogeaa
set_option maxRecDepth 100000
set_option linter.unusedVariables false
set_option linter.unusedSimpArgs false
set_option maxHeartbeats 1000000
attribute [local irreducible] wops wopf Go.Ab.Fin
theorem F162s163.ag57 : tagg Try.prog 57 = some true := by kernel_rfl
theorem F162s163.sz57 : tsz Try.prog 57 = some 3 := by kernel_rfl
theorem F162s163.ti66 : (telem Try.prog 66).isSome = true := by kernel_rfl
theorem F162s163.tl66 : (telem Try.prog 66).bind (tsz Try.prog) = some 3 := by kernel_rfl
theorem F162s163.ze57 : tzero Try.prog 57 = some [(.str (pk ([] : List UInt8))), (.int .i64 (0 : Int)), .nilsl] := by kernel_rfl
theorem slices_EqualFunc_impl_Take_impl_Take_impl_Take_impl_Take_impl_sameTake_ok {fr : List Pc} {H : Heap} (v0 : AV) (w0 : List (List AV)) (l0 : List ((List UInt8) × (Int) × (List (Nat)))) (v1 : AV) (w1 : List (List AV)) (l1 : List ((List UInt8) × (Int) × (List (Nat)))) (hs : Sep H (fr)) (g0 : ∀ H, Sep H fr → DSh H v0 3 R_s_ii64_LeFlt_f32_poooq l0 w0) (g1 : ∀ H, Sep H fr → DSh H v1 3 R_s_ii64_LeFlt_f32_poooq l1 w1) (K : Bool → Prop) (h : slices_EqualFunc_impl_Take_impl_Take_impl_Take_impl_Take_impl_sameTake.wp l0 l1 K) : OkQ Try.prog 162 [(.v v0), (.v v1), (.v (.fn 163 []))] H (fun r H2 => ∃ (y0 : Bool), K y0 ∧ r = (.v (.bool y0)) ∧ Sep H2 (fr)) := by
  unfold slices_EqualFunc_impl_Take_impl_Take_impl_Take_impl_Take_impl_sameTake.wp at h
  refine of_body Try.f162 F.hm Try.func162 rfl Try.call162 (by kernel_rfl) (by simp) ?_
  refine fi_seq ?_
  refine fi_region ?_
  refine so_assign (v := (.v (.bool false))) rfl ?_
  refine so_nil ?_
  refine fi_seq ?_
  refine fi_seq ?_
  refine fi_region ?_
  refine so_move (v := (.v v0)) rfl ?_
  refine sd_len ((g0 _ hs) : DSh _ _ 3 R_s_ii64_LeFlt_f32_poooq l0 w0) (by decide) rfl F162s163.ti66 ?_
  refine so_move (v := (.v v1)) rfl ?_
  refine sd_len ((g1 _ hs) : DSh _ _ 3 R_s_ii64_LeFlt_f32_poooq l1 w1) (by decide) rfl F162s163.ti66 ?_
  refine so_bin rfl rfl ab_neq ?_
  refine so_nil ?_
  replace h := ofP h; rcases h with ⟨c101, h⟩ | ⟨c101, h⟩
  · refine fi_false rfl (not_f (decide_eq_true c101)) ?_
    refine fi_skip ?_
    refine fi_seq ?_
    refine fi_seq ?_
    refine fi_region ?_
    refine so_move (v := (.v v0)) rfl ?_
    refine sd_len ((g0 _ hs) : DSh _ _ 3 R_s_ii64_LeFlt_f32_poooq l0 w0) (by decide) rfl F162s163.ti66 ?_
    refine so_move (v := (.v (.int .i64 (0 : Int)))) rfl ?_
    refine so_nil ?_
    refine fi_block ?_
    refine fi_loop ?_
    refine fi_at [(1, (.v v1)), (2, (.v (.fn 163 []))), (15, (.v v0)), (16, (.v (.int .i64 (l0.length : Int)))), (17, (.v (.int .i64 (0 : Int))))] ⟨rfl, rfl, rfl, rfl, rfl, trivial⟩ ?_
    refine h (fun (x103 : Int) => ∀ (s : Nat → TV) (H : Heap), Sep H (fr) → Fin _ _ (updL s [(1, (.v v1)), (2, (.v (.fn 163 []))), (15, (.v v0)), (16, (.v (.int .i64 (l0.length : Int)))), (17, (.v (.int .i64 x103)))]) H _) ?_ _ _ hs
    intro x103 h s118 H119 hs
    refine fi_inLoop ?_
    refine fi_seq ?_
    refine fi_region ?_
    refine so_bin rfl rfl ab_lss ?_
    refine so_nil ?_
    refine fi_seq ?_
    replace h := ofP h; rcases h with ⟨c104, h⟩ | ⟨c104, h⟩
    · refine fi_true rfl (decide_eq_true c104) ?_
      refine fi_skip ?_
      refine fi_seq ?_
      refine fi_block ?_
      refine fi_seq ?_
      refine fi_region ?_
      refine so_move (v := (.v (.int .i64 x103))) rfl ?_
      obtain ⟨c105, h⟩ := h
      refine sd_idx ((g0 _ hs) : DSh _ _ 3 R_s_ii64_LeFlt_f32_poooq l0 w0) c105 (([] : List UInt8), (0 : Int), ([] : List (Nat))) (by decide) rfl rfl F162s163.tl66 ?_
      refine su_lds ((((g0 _ hs) : DSh _ _ 3 R_s_ii64_LeFlt_f32_poooq l0 w0)).at (by decide) c105 (([] : List UInt8), (0 : Int), ([] : List (Nat)))).2.2 0 3 (lenc ((((g0 _ hs) : DSh _ _ 3 R_s_ii64_LeFlt_f32_poooq l0 w0)).at (by decide) c105 (([] : List UInt8), (0 : Int), ([] : List (Nat)))).2.1.1 (by simp)) (by decide) (whole ((((g0 _ hs) : DSh _ _ 3 R_s_ii64_LeFlt_f32_poooq l0 w0)).at (by decide) c105 (([] : List UInt8), (0 : Int), ([] : List (Nat)))).2.1.1 (by rfl)) rfl F162s163.ag57 F162s163.sz57 ?_
      refine sv_alloc hs F162s163.ze57 rfl nofun (fun id106 H107 hs => ?_)
      refine so_assign (v := (.v (.int .i64 x103))) rfl ?_
      refine sv_st hs 0 rfl rfl rfl (c := [(.str (pk (l0.getD (x103).toNat (([] : List UInt8), (0 : Int), ([] : List (Nat)))).1)), (.int .i64 (l0.getD (x103).toNat (([] : List UInt8), (0 : Int), ([] : List (Nat)))).2.1), ((w0.getD (x103).toNat []).getD 2 .und)]) rfl F162s163.sz57 rfl (stc rfl (stc rfl (stc ((((g0 _ hs.tl) : DSh _ _ 3 R_s_ii64_LeFlt_f32_poooq l0 w0)).at (by decide) c105 (([] : List UInt8), (0 : Int), ([] : List (Nat)))).2.1.2.stor stn))) (leb rfl) (cs' := [(.str (pk (l0.getD (x103).toNat (([] : List UInt8), (0 : Int), ([] : List (Nat)))).1)), (.int .i64 (l0.getD (x103).toNat (([] : List UInt8), (0 : Int), ([] : List (Nat)))).2.1), ((w0.getD (x103).toNat []).getD 2 .und)]) rfl nofun (fun H109 hs => ?_)
      refine so_nil ?_
      refine fi_seq ?_
      refine fi_region ?_
      refine so_move (v := (.v v1)) rfl ?_
      refine so_move (v := (.v (.int .i64 x103))) rfl ?_
      obtain ⟨c110, h⟩ := h
      refine sd_idx ((g1 _ hs.tl) : DSh _ _ 3 R_s_ii64_LeFlt_f32_poooq l1 w1) c110 (([] : List UInt8), (0 : Int), ([] : List (Nat))) (by decide) rfl rfl F162s163.tl66 ?_
      refine su_lds ((((g1 _ hs.tl) : DSh _ _ 3 R_s_ii64_LeFlt_f32_poooq l1 w1)).at (by decide) c110 (([] : List UInt8), (0 : Int), ([] : List (Nat)))).2.2 0 3 (lenc ((((g1 _ hs.tl) : DSh _ _ 3 R_s_ii64_LeFlt_f32_poooq l1 w1)).at (by decide) c110 (([] : List UInt8), (0 : Int), ([] : List (Nat)))).2.1.1 (by simp)) (by decide) (whole ((((g1 _ hs.tl) : DSh _ _ 3 R_s_ii64_LeFlt_f32_poooq l1 w1)).at (by decide) c110 (([] : List UInt8), (0 : Int), ([] : List (Nat)))).2.1.1 (by rfl)) rfl F162s163.ag57 F162s163.sz57 ?_
      refine sv_alloc hs F162s163.ze57 rfl nofun (fun id111 H112 hs => ?_)
      refine sv_st hs 0 rfl rfl rfl (c := [(.str (pk (l1.getD (x103).toNat (([] : List UInt8), (0 : Int), ([] : List (Nat)))).1)), (.int .i64 (l1.getD (x103).toNat (([] : List UInt8), (0 : Int), ([] : List (Nat)))).2.1), ((w1.getD (x103).toNat []).getD 2 .und)]) rfl F162s163.sz57 rfl (stc rfl (stc rfl (stc ((((g1 _ hs.tl.tl) : DSh _ _ 3 R_s_ii64_LeFlt_f32_poooq l1 w1)).at (by decide) c110 (([] : List UInt8), (0 : Int), ([] : List (Nat)))).2.1.2.stor stn))) (leb rfl) (cs' := [(.str (pk (l1.getD (x103).toNat (([] : List UInt8), (0 : Int), ([] : List (Nat)))).1)), (.int .i64 (l1.getD (x103).toNat (([] : List UInt8), (0 : Int), ([] : List (Nat)))).2.1), ((w1.getD (x103).toNat []).getD 2 .und)]) rfl nofun (fun H114 hs => ?_)
      refine so_nil ?_
      refine fi_seq ?_
      refine fi_region ?_
      refine so_move (v := (.v (.fn 163 []))) rfl ?_
      refine sv_lds hs 1 rfl rfl (leb rfl) rfl F162s163.ag57 F162s163.sz57 ?_
      refine sv_lds hs 0 rfl rfl (leb rfl) rfl F162s163.ag57 F162s163.sz57 ?_
      refine sv_call (impl_sameTake_ok (l0.getD (x103).toNat (([] : List UInt8), (0 : Int), ([] : List (Nat)))).1 (l0.getD (x103).toNat (([] : List UInt8), (0 : Int), ([] : List (Nat)))).2.1 ((w0.getD (x103).toNat []).getD 2 .und) (l0.getD (x103).toNat (([] : List UInt8), (0 : Int), ([] : List (Nat)))).2.2 (l1.getD (x103).toNat (([] : List UInt8), (0 : Int), ([] : List (Nat)))).1 (l1.getD (x103).toNat (([] : List UInt8), (0 : Int), ([] : List (Nat)))).2.1 ((w1.getD (x103).toNat []).getD 2 .und) (l1.getD (x103).toNat (([] : List UInt8), (0 : Int), ([] : List (Nat)))).2.2 hs (fun _ hs => ((((g0 _ hs.tl.tl) : DSh _ _ 3 R_s_ii64_LeFlt_f32_poooq l0 w0)).at (by decide) c105 (([] : List UInt8), (0 : Int), ([] : List (Nat)))).2.1.2) (fun _ hs => ((((g1 _ hs.tl.tl) : DSh _ _ 3 R_s_ii64_LeFlt_f32_poooq l1 w1)).at (by decide) c110 (([] : List UInt8), (0 : Int), ([] : List (Nat)))).2.1.2) _ h) rfl rfl nofun ?_
      clear h hs
      rintro _ H116 ⟨y115, h, rfl, hs⟩
      refine so_un rfl au_not ?_
      refine so_nil ?_
      replace h := ofT h; rcases h with ⟨c117, h⟩ | ⟨c117, h⟩
      · refine fi_false rfl (not_f c117) ?_
        refine fi_skip ?_
        refine fi_inBlock ?_
        refine fi_region ?_
        refine so_bin rfl rfl ab_add ?_
        refine so_move (v := (.v (.int .i64 (IntKind.i64.wrap (x103 + (1 : Int)))))) rfl ?_
        refine so_nil ?_
        exact fi_at [(1, (.v v1)), (2, (.v (.fn 163 []))), (15, (.v v0)), (16, (.v (.int .i64 (l0.length : Int)))), (17, (.v (.int .i64 (IntKind.i64.wrap (x103 + (1 : Int))))))] ⟨rfl, rfl, rfl, rfl, rfl, trivial⟩ (h _ _  (Sep.del 0 (Sep.del 0 hs)))
      · refine fi_true rfl (not_t c117) ?_
        refine fi_seq ?_
        refine fi_region ?_
        refine so_assign (v := (.v (.bool false))) rfl ?_
        refine so_nil ?_
        exact by_ret rfl ⟨_, h, rfl, (Sep.del 0 (Sep.del 0 hs))⟩
    · refine fi_false rfl (decide_eq_false c104) ?_
      refine fi_exit rfl ?_
      refine fi_seq ?_
      refine fi_region ?_
      refine so_assign (v := (.v (.bool true))) rfl ?_
      refine so_nil ?_
      exact by_ret rfl ⟨_, h, rfl, hs⟩
  · refine fi_true rfl (not_t (decide_eq_false c101)) ?_
    refine fi_seq ?_
    refine fi_region ?_
    refine so_assign (v := (.v (.bool false))) rfl ?_
    refine so_nil ?_
    exact by_ret rfl ⟨_, h, rfl, hs⟩

end Go.Proofs.Ytpeijfnfffogeaa.G

namespace Go.Proofs.Ytpeijfnfffogeaa.G
open Go Go.Ab Go.Proofs Go.Proofs.Ytpeijfnfffogeaa
set_option maxRecDepth 100000
set_option linter.unusedVariables false
set_option linter.unusedSimpArgs false
set_option maxHeartbeats 1000000
attribute [local irreducible] wops wopf Go.Ab.Fin
theorem impl_SameTakes_ok {fr : List Pc} {H : Heap} (v0 : AV) (w0 : List (List AV)) (l0 : List ((List UInt8) × (Int) × (List (Nat)))) (v1 : AV) (w1 : List (List AV)) (l1 : List ((List UInt8) × (Int) × (List (Nat)))) (hs : Sep H (fr)) (g0 : ∀ H, Sep H fr → DSh H v0 3 R_s_ii64_LeFlt_f32_poooq l0 w0) (g1 : ∀ H, Sep H fr → DSh H v1 3 R_s_ii64_LeFlt_f32_poooq l1 w1) (K : Bool → Prop) (h : impl_SameTakes.wp l0 l1 K) : OkQ Try.prog 69 [(.v v0), (.v v1)] H (fun r H2 => ∃ (y0 : Bool), K y0 ∧ r = (.v (.bool y0)) ∧ Sep H2 (fr)) := by
  unfold impl_SameTakes.wp at h
  refine of_body Try.f69 F.hm Try.func69 rfl Try.call69 (by kernel_rfl) (by simp) ?_
  refine fi_seq ?_
  refine fi_region ?_
  refine so_assign (v := (.v (.bool false))) rfl ?_
  refine so_nil ?_
  refine fi_seq ?_
  refine fi_region ?_
  refine so_move (v := (.v v0)) rfl ?_
  refine so_move (v := (.v v1)) rfl ?_
  refine sv_call (slices_EqualFunc_impl_Take_impl_Take_impl_Take_impl_Take_impl_sameTake_ok v0 w0 l0 v1 w1 l1 hs (fun _ hs => (g0 _ hs)) (fun _ hs => (g1 _ hs)) _ h) rfl rfl nofun ?_
  clear h hs
  rintro _ H102 ⟨y101, h, rfl, hs⟩
  refine so_assign (v := (.v (.bool y101))) rfl ?_
  refine so_nil ?_
  exact by_ret rfl ⟨_, h, rfl, hs⟩

end Go.Proofs.Ytpeijfnfffogeaa.G

namespace Go.Proofs.Ytpeijfnfffogeaa.G
open Go Go.Ab Go.Proofs Go.Proofs.Ytpeijfnfffogeaa
set_option maxRecDepth 100000
set_option linter.unusedVariables false
set_option linter.unusedSimpArgs false
set_option maxHeartbeats 1000000
attribute [local irreducible] wops wopf Go.Ab.Fin
theorem F232.it2 : tint Try.prog 2 = some .i64 := by kernel_rfl
theorem F232.us240 : (Try.prog.underlying 240).isSome = true := by kernel_rfl
theorem spec_l01Bits_ok {fr : List Pc} {H : Heap} (a0 : Nat) (hs : Sep H (fr))  (K : Int → Prop) (h : spec_l01Bits.wp a0 K) : OkQ Try.prog 232 [(.v (.flt .f32 a0))] H (fun r H2 => ∃ (y0 : Int), K y0 ∧ r = (.v (.int .i64 y0)) ∧ H = H2) := by
  unfold spec_l01Bits.wp at h
  refine of_body Try.f232 F.hm Try.func232 rfl Try.call232 (by kernel_rfl) (by simp) ?_
  refine fi_seq ?_
  refine fi_region ?_
  refine so_assign (v := (.v (.int .i64 (0 : Int)))) rfl ?_
  refine so_nil ?_
  refine fi_seq ?_
  refine fi_seq ?_
  refine fi_region ?_
  refine so_move (v := (.v (.flt .f32 a0))) rfl ?_
  refine so_move (v := (.v (.flt .f32 a0))) rfl ?_
  refine so_bin rfl rfl ab_fneq ?_
  refine so_nil ?_
  replace h := ofT h; rcases h with ⟨c101, h⟩ | ⟨c101, h⟩
  · refine fi_true rfl c101 ?_
    refine fi_seq ?_
    refine fi_region ?_
    refine so_assign (v := (.v (.int .i64 (2143289344 : Int)))) rfl ?_
    refine so_nil ?_
    exact by_ret rfl ⟨_, h, rfl, rfl⟩
  · refine fi_false rfl c101 ?_
    refine fi_skip ?_
    refine fi_seq ?_
    refine fi_region ?_
    refine so_move (v := (.v (.flt .f32 a0))) rfl ?_
    refine sv_callS (math_Float32bits_ok a0 hs  _ h) (fun _ _ ⟨_, _, _, e⟩ => e) rfl rfl ?_
    clear h
    rintro _ _ ⟨y102, h, rfl, rfl⟩
    refine sv_ii rfl F232.us240 F232.it2 ?_
    refine so_assign (v := (.v (.int .i64 (IntKind.i64.wrap y102)))) rfl ?_
    refine so_nil ?_
    exact by_ret rfl ⟨_, h, rfl, rfl⟩

end Go.Proofs.Ytpeijfnfffogeaa.G

namespace Go.Proofs.Ytpeijfnfffogeaa.G
open Go Go.Ab Go.Proofs Go.Proofs.Ytpeijfnfffogeaa
set_option maxRecDepth 100000
set_option linter.unusedVariables false
set_option linter.unusedSimpArgs false
set_option maxHeartbeats 1000000
attribute [local irreducible] wops wopf Go.Ab.Fin
theorem spec_l01Same_ok {fr : List Pc} {H : Heap} (a0 : Nat) (a1 : Nat) (hs : Sep H (fr))  (K : Bool → Prop) (h : spec_l01Same.wp a0 a1 K) : OkQ Try.prog 170 [(.v (.flt .f32 a0)), (.v (.flt .f32 a1))] H (fun r H2 => ∃ (y0 : Bool), K y0 ∧ r = (.v (.bool y0)) ∧ H = H2) := by
  unfold spec_l01Same.wp at h
  refine of_body Try.f170 F.hm Try.func170 rfl Try.call170 (by kernel_rfl) (by simp) ?_
  refine fi_seq ?_
  refine fi_region ?_
  refine so_assign (v := (.v (.bool false))) rfl ?_
  refine so_nil ?_
  refine fi_seq ?_
  refine fi_region ?_
  refine so_move (v := (.v (.flt .f32 a0))) rfl ?_
  refine sv_callS (spec_l01Bits_ok a0 hs  _ h) (fun _ _ ⟨_, _, _, e⟩ => e) rfl rfl ?_
  clear h
  rintro _ _ ⟨y101, h, rfl, rfl⟩
  refine so_move (v := (.v (.flt .f32 a1))) rfl ?_
  refine sv_callS (spec_l01Bits_ok a1 hs  _ h) (fun _ _ ⟨_, _, _, e⟩ => e) rfl rfl ?_
  clear h
  rintro _ _ ⟨y103, h, rfl, rfl⟩
  refine so_bin rfl rfl ab_eql ?_
  refine so_assign (v := (.v (.bool (decide (y101 = y103))))) rfl ?_
  refine so_nil ?_
  exact by_ret rfl ⟨_, h, rfl, rfl⟩

end Go.Proofs.Ytpeijfnfffogeaa.G

namespace Go.Proofs.Ytpeijfnfffogeaa.G
open Go Go.Ab Go.Proofs Go.Proofs.Ytpeijfnfffogeaa
set_option maxRecDepth 100000
set_option linter.unusedVariables false
set_option linter.unusedSimpArgs false
set_option maxHeartbeats 1000000
attribute [local irreducible] wops wopf Go.Ab.Fin
theorem spec_SameNumber_ok {fr : List Pc} {H : Heap} (a0 : Nat) (a1 : Nat) (hs : Sep H (fr))  (K : Bool → Prop) (h : spec_SameNumber.wp a0 a1 K) : OkQ Try.prog 164 [(.v (.flt .f32 a0)), (.v (.flt .f32 a1))] H (fun r H2 => ∃ (y0 : Bool), K y0 ∧ r = (.v (.bool y0)) ∧ H = H2) := by
  unfold spec_SameNumber.wp at h
  refine of_body Try.f164 F.hm Try.func164 rfl Try.call164 (by kernel_rfl) (by simp) ?_
  refine fi_seq ?_
  refine fi_region ?_
  refine so_assign (v := (.v (.bool false))) rfl ?_
  refine so_nil ?_
  refine fi_seq ?_
  refine fi_region ?_
  refine so_move (v := (.v (.flt .f32 a0))) rfl ?_
  refine so_move (v := (.v (.flt .f32 a1))) rfl ?_
  refine sv_callS (spec_l01Same_ok a0 a1 hs  _ h) (fun _ _ ⟨_, _, _, e⟩ => e) rfl rfl ?_
  clear h
  rintro _ _ ⟨y101, h, rfl, rfl⟩
  refine so_assign (v := (.v (.bool y101))) rfl ?_
  refine so_nil ?_
  exact by_ret rfl ⟨_, h, rfl, rfl⟩

end Go.Proofs.Ytpeijfnfffogeaa.G

namespace Go.Proofs.Ytpeijfnfffogeaa.G
open Go Go.Ab Go.Proofs Go.Proofs.Ytpeijfnfffogeaa
set_option maxRecDepth 100000
set_option linter.unusedVariables false
set_option linter.unusedSimpArgs false
set_option maxHeartbeats 1000000
attribute [local irreducible] wops wopf Go.Ab.Fin
theorem F70.ag25 : tagg Try.prog 25 = some false := by kernel_rfl
theorem F70.ti37 : (telem Try.prog 37).isSome = true := by kernel_rfl
theorem F70.tl37 : (telem Try.prog 37).bind (tsz Try.prog) = some 1 := by kernel_rfl
theorem laws_b10List_ok {fr : List Pc} {H : Heap} (v0 : AV) (l0 : List (Nat)) (v1 : AV) (l1 : List (Nat)) (hs : Sep H (fr)) (g0 : ∀ H, Sep H fr → Shows H v0 1 (enc (eFlt .f32) l0)) (g1 : ∀ H, Sep H fr → Shows H v1 1 (enc (eFlt .f32) l1)) (K : Bool → Prop) (h : laws_b10List.wp l0 l1 K) : OkQ Try.prog 70 [(.v v0), (.v v1)] H (fun r H2 => ∃ (y0 : Bool), K y0 ∧ r = (.v (.bool y0)) ∧ H = H2) := by
  unfold laws_b10List.wp at h
  refine of_body Try.f70 F.hm Try.func70 rfl Try.call70 (by kernel_rfl) (by simp) ?_
  refine fi_seq ?_
  refine fi_region ?_
  refine so_assign (v := (.v (.bool false))) rfl ?_
  refine so_nil ?_
  refine fi_seq ?_
  refine fi_seq ?_
  refine fi_region ?_
  refine so_move (v := (.v v0)) rfl ?_
  refine sv_len (g0 _ hs) (fun _ => rfl) (by decide) rfl F70.ti37 ?_
  refine so_move (v := (.v v1)) rfl ?_
  refine sv_len (g1 _ hs) (fun _ => rfl) (by decide) rfl F70.ti37 ?_
  refine so_bin rfl rfl ab_neq ?_
  refine so_nil ?_
  replace h := ofP h; rcases h with ⟨c101, h⟩ | ⟨c101, h⟩
  · refine fi_false rfl (not_f (decide_eq_true c101)) ?_
    refine fi_skip ?_
    refine fi_seq ?_
    refine fi_seq ?_
    refine fi_region ?_
    refine so_move (v := (.v v0)) rfl ?_
    refine sv_len (g0 _ hs) (fun _ => rfl) (by decide) rfl F70.ti37 ?_
    refine so_move (v := (.v (.int .i64 (0 : Int)))) rfl ?_
    refine so_nil ?_
    refine fi_block ?_
    refine fi_loop ?_
    refine fi_at [(0, (.v v0)), (1, (.v v1)), (12, (.v (.int .i64 (l0.length : Int)))), (13, (.v (.int .i64 (0 : Int))))] ⟨rfl, rfl, rfl, rfl, trivial⟩ ?_
    refine h (fun (x103 : Int) => ∀ (s : Nat → TV), Fin _ _ (updL s [(0, (.v v0)), (1, (.v v1)), (12, (.v (.int .i64 (l0.length : Int)))), (13, (.v (.int .i64 x103)))]) _ _) ?_ _
    intro x103 h s110
    refine fi_inLoop ?_
    refine fi_seq ?_
    refine fi_region ?_
    refine so_bin rfl rfl ab_lss ?_
    refine so_nil ?_
    refine fi_seq ?_
    replace h := ofP h; rcases h with ⟨c104, h⟩ | ⟨c104, h⟩
    · refine fi_true rfl (decide_eq_true c104) ?_
      refine fi_skip ?_
      refine fi_seq ?_
      refine fi_block ?_
      refine fi_seq ?_
      refine fi_region ?_
      refine so_move (v := (.v (.int .i64 x103))) rfl ?_
      refine so_assign (v := (.v (.int .i64 x103))) rfl ?_
      refine so_nil ?_
      refine fi_seq ?_
      refine fi_region ?_
      refine so_move (v := (.v v0)) rfl ?_
      refine so_move (v := (.v (.int .i64 x103))) rfl ?_
      obtain ⟨c105, h⟩ := h
      refine sv_idx (g0 _ hs) c105 (fun _ => rfl) (by decide) rfl rfl F70.tl37 ?_
      refine sv_cell (g0 _ hs) c105 (0 : Nat) 0 (fun x => (AV.flt .f32 x)) (fun _ => rfl) (fun _ => rfl) rfl F70.ag25 ?_
      refine so_move (v := (.v v1)) rfl ?_
      refine so_move (v := (.v (.int .i64 x103))) rfl ?_
      obtain ⟨c106, h⟩ := h
      refine sv_idx (g1 _ hs) c106 (fun _ => rfl) (by decide) rfl rfl F70.tl37 ?_
      refine sv_cell (g1 _ hs) c106 (0 : Nat) 0 (fun x => (AV.flt .f32 x)) (fun _ => rfl) (fun _ => rfl) rfl F70.ag25 ?_
      refine sv_callS (spec_SameNumber_ok (l0.getD (x103).toNat (0 : Nat)) (l1.getD (x103).toNat (0 : Nat)) hs  _ h) (fun _ _ ⟨_, _, _, e⟩ => e) rfl rfl ?_
      clear h
      rintro _ _ ⟨y107, h, rfl, rfl⟩
      refine so_un rfl au_not ?_
      refine so_nil ?_
      replace h := ofT h; rcases h with ⟨c109, h⟩ | ⟨c109, h⟩
      · refine fi_false rfl (not_f c109) ?_
        refine fi_skip ?_
        refine fi_inBlock ?_
        refine fi_region ?_
        refine so_bin rfl rfl ab_add ?_
        refine so_move (v := (.v (.int .i64 (IntKind.i64.wrap (x103 + (1 : Int)))))) rfl ?_
        refine so_nil ?_
        exact fi_at [(0, (.v v0)), (1, (.v v1)), (12, (.v (.int .i64 (l0.length : Int)))), (13, (.v (.int .i64 (IntKind.i64.wrap (x103 + (1 : Int))))))] ⟨rfl, rfl, rfl, rfl, trivial⟩ (h _)
      · refine fi_true rfl (not_t c109) ?_
        refine fi_seq ?_
        refine fi_region ?_
        refine so_assign (v := (.v (.bool false))) rfl ?_
        refine so_nil ?_
        exact by_ret rfl ⟨_, h, rfl, rfl⟩
    · refine fi_false rfl (decide_eq_false c104) ?_
      refine fi_exit rfl ?_
      refine fi_seq ?_
      refine fi_region ?_
      refine so_assign (v := (.v (.bool true))) rfl ?_
      refine so_nil ?_
      exact by_ret rfl ⟨_, h, rfl, rfl⟩
  · refine fi_true rfl (not_t (decide_eq_false c101)) ?_
    refine fi_seq ?_
    refine fi_region ?_
    refine so_assign (v := (.v (.bool false))) rfl ?_
    refine so_nil ?_
    exact by_ret rfl ⟨_, h, rfl, rfl⟩

end Go.Proofs.Ytpeijfnfffogeaa.G

namespace Go.Proofs.Ytpeijfnfffogeaa.G
open Go Go.Ab Go.Proofs Go.Proofs.Ytpeijfnfffogeaa
set_option maxRecDepth 100000
set_option linter.unusedVariables false
set_option linter.unusedSimpArgs false
set_option maxHeartbeats 1000000
attribute [local irreducible] wops wopf Go.Ab.Fin
theorem F71.ag57 : tagg Try.prog 57 = some true := by kernel_rfl
theorem F71.sz57 : tsz Try.prog 57 = some 3 := by kernel_rfl
theorem F71.ti66 : (telem Try.prog 66).isSome = true := by kernel_rfl
theorem F71.tl66 : (telem Try.prog 66).bind (tsz Try.prog) = some 3 := by kernel_rfl
theorem F71.ze57 : tzero Try.prog 57 = some [(.str (pk ([] : List UInt8))), (.int .i64 (0 : Int)), .nilsl] := by kernel_rfl
theorem impl_StoreTakes_ok {fr : List Pc} {H : Heap} (v0 : AV) (w0 : List (List AV)) (l0 : List ((List UInt8) × (Int) × (List (Nat)))) (hs : Sep H (fr)) (g0 : ∀ H, Sep H fr → DSh H v0 3 R_s_ii64_LeFlt_f32_poooq l0 w0) (K : (List UInt8) → Bool → Prop) (h : impl_StoreTakes.wp l0 K) : OkQ Try.prog 71 [(.v v0)] H (fun r H2 => ∃ (y0 : List UInt8) (y1 : Bool), K y0 y1 ∧ r = (.t [(.v (.str (pk y0))), (.v (.bool y1))]) ∧ Sep H2 (fr)) := by
  unfold impl_StoreTakes.wp at h
  refine of_body Try.f71 F.hm Try.func71 rfl Try.call71 (by kernel_rfl) (by simp) ?_
  refine fi_seq ?_
  refine fi_region ?_
  refine so_assign (v := (.v (.str (pk ([] : List UInt8))))) rfl ?_
  refine so_assign (v := (.v (.bool false))) rfl ?_
  refine so_nil ?_
  refine fi_seq ?_
  refine fi_seq ?_
  refine fi_region ?_
  refine so_move (v := (.v v0)) rfl ?_
  refine sd_len ((g0 _ hs) : DSh _ _ 3 R_s_ii64_LeFlt_f32_poooq l0 w0) (by decide) rfl F71.ti66 ?_
  refine so_bin rfl rfl ab_gtr ?_
  refine so_nil ?_
  replace h := ofP h; rcases h with ⟨c101, h⟩ | ⟨c101, h⟩
  · refine fi_true rfl (decide_eq_true c101) ?_
    refine fi_seq ?_
    refine fi_region ?_
    refine so_assign (v := (.v (.str (pk ([] : List UInt8))))) rfl ?_
    refine so_assign (v := (.v (.bool false))) rfl ?_
    refine so_nil ?_
    exact by_ret rfl ⟨_, _, h, rfl, hs⟩
  · refine fi_false rfl (decide_eq_false c101) ?_
    refine fi_skip ?_
    refine fi_seq ?_
    refine fi_region ?_
    refine so_assign (v := (.v (.str (pk ([] : List UInt8))))) rfl ?_
    refine so_nil ?_
    refine fi_seq ?_
    refine fi_seq ?_
    refine fi_region ?_
    refine so_move (v := (.v v0)) rfl ?_
    refine sd_len ((g0 _ hs) : DSh _ _ 3 R_s_ii64_LeFlt_f32_poooq l0 w0) (by decide) rfl F71.ti66 ?_
    refine so_move (v := (.v (.int .i64 (0 : Int)))) rfl ?_
    refine so_nil ?_
    refine fi_block ?_
    refine fi_loop ?_
    refine fi_at [(4, (.v (.str (pk ([] : List UInt8))))), (12, (.v v0)), (13, (.v (.int .i64 (l0.length : Int)))), (14, (.v (.int .i64 (0 : Int))))] ⟨rfl, rfl, rfl, rfl, trivial⟩ ?_
    refine h (fun (out103 : List UInt8) (x104 : Int) => ∀ (s : Nat → TV) (H : Heap), Sep H (fr) → Fin _ _ (updL s [(4, (.v (.str (pk out103)))), (12, (.v v0)), (13, (.v (.int .i64 (l0.length : Int)))), (14, (.v (.int .i64 x104)))]) H _) ?_ _ _ hs
    intro out103 x104 h s116 H117 hs
    refine fi_inLoop ?_
    refine fi_seq ?_
    refine fi_region ?_
    refine so_bin rfl rfl ab_lss ?_
    refine so_nil ?_
    refine fi_seq ?_
    replace h := ofP h; rcases h with ⟨c105, h⟩ | ⟨c105, h⟩
    · refine fi_true rfl (decide_eq_true c105) ?_
      refine fi_skip ?_
      refine fi_seq ?_
      refine fi_block ?_
      refine fi_seq ?_
      refine fi_region ?_
      obtain ⟨c106, h⟩ := h
      refine sd_idx ((g0 _ hs) : DSh _ _ 3 R_s_ii64_LeFlt_f32_poooq l0 w0) c106 (([] : List UInt8), (0 : Int), ([] : List (Nat))) (by decide) rfl rfl F71.tl66 ?_
      refine su_lds ((((g0 _ hs) : DSh _ _ 3 R_s_ii64_LeFlt_f32_poooq l0 w0)).at (by decide) c106 (([] : List UInt8), (0 : Int), ([] : List (Nat)))).2.2 0 3 (lenc ((((g0 _ hs) : DSh _ _ 3 R_s_ii64_LeFlt_f32_poooq l0 w0)).at (by decide) c106 (([] : List UInt8), (0 : Int), ([] : List (Nat)))).2.1.1 (by simp)) (by decide) (whole ((((g0 _ hs) : DSh _ _ 3 R_s_ii64_LeFlt_f32_poooq l0 w0)).at (by decide) c106 (([] : List UInt8), (0 : Int), ([] : List (Nat)))).2.1.1 (by rfl)) rfl F71.ag57 F71.sz57 ?_
      refine sv_alloc hs F71.ze57 rfl nofun (fun id107 H108 hs => ?_)
      refine sv_st hs 0 rfl rfl rfl (c := [(.str (pk (l0.getD (x104).toNat (([] : List UInt8), (0 : Int), ([] : List (Nat)))).1)), (.int .i64 (l0.getD (x104).toNat (([] : List UInt8), (0 : Int), ([] : List (Nat)))).2.1), ((w0.getD (x104).toNat []).getD 2 .und)]) rfl F71.sz57 rfl (stc rfl (stc rfl (stc ((((g0 _ hs.tl) : DSh _ _ 3 R_s_ii64_LeFlt_f32_poooq l0 w0)).at (by decide) c106 (([] : List UInt8), (0 : Int), ([] : List (Nat)))).2.1.2.stor stn))) (leb rfl) (cs' := [(.str (pk (l0.getD (x104).toNat (([] : List UInt8), (0 : Int), ([] : List (Nat)))).1)), (.int .i64 (l0.getD (x104).toNat (([] : List UInt8), (0 : Int), ([] : List (Nat)))).2.1), ((w0.getD (x104).toNat []).getD 2 .und)]) rfl nofun (fun H110 hs => ?_)
      refine so_nil ?_
      refine fi_seq ?_
      refine fi_region ?_
      refine sv_lds hs 0 rfl rfl (leb rfl) rfl F71.ag57 F71.sz57 ?_
      refine sv_call (impl_StoreTake_ok (l0.getD (x104).toNat (([] : List UInt8), (0 : Int), ([] : List (Nat)))).1 (l0.getD (x104).toNat (([] : List UInt8), (0 : Int), ([] : List (Nat)))).2.1 ((w0.getD (x104).toNat []).getD 2 .und) (l0.getD (x104).toNat (([] : List UInt8), (0 : Int), ([] : List (Nat)))).2.2 hs (fun _ hs => ((((g0 _ hs.tl) : DSh _ _ 3 R_s_ii64_LeFlt_f32_poooq l0 w0)).at (by decide) c106 (([] : List UInt8), (0 : Int), ([] : List (Nat)))).2.1.2) _ h) rfl rfl nofun ?_
      clear h hs
      rintro _ H113 ⟨y111, y112, h, rfl, hs⟩
      refine so_move (v := (.t [(.v (.str (pk y111))), (.v (.bool y112))])) rfl ?_
      refine so_extract rfl rfl rfl ?_
      refine so_extract rfl rfl rfl ?_
      refine so_assign (v := (.v (.str (pk y111)))) rfl ?_
      refine so_assign (v := (.v (.bool y112))) rfl ?_
      refine so_nil ?_
      refine fi_seq ?_
      refine fi_seq ?_
      refine fi_region ?_
      refine so_move (v := (.v (.bool y112))) rfl ?_
      refine so_un rfl au_not ?_
      refine so_nil ?_
      replace h := ofT h; rcases h with ⟨c114, h⟩ | ⟨c114, h⟩
      · refine fi_false rfl (not_f c114) ?_
        refine fi_skip ?_
        refine fi_region ?_
        refine so_move (v := (.v (.str (pk out103)))) rfl ?_
        refine so_move (v := (.v (.str (pk y111)))) rfl ?_
        obtain ⟨c115, h⟩ := h
        refine so_bin rfl rfl (ab_sadd c115) ?_
        refine so_assign (v := (.v (.str (pk (out103 ++ y111))))) rfl ?_
        refine so_nil ?_
        refine fi_inBlock ?_
        refine fi_region ?_
        refine so_bin rfl rfl ab_add ?_
        refine so_move (v := (.v (.int .i64 (IntKind.i64.wrap (x104 + (1 : Int)))))) rfl ?_
        refine so_nil ?_
        exact fi_at [(4, (.v (.str (pk (out103 ++ y111))))), (12, (.v v0)), (13, (.v (.int .i64 (l0.length : Int)))), (14, (.v (.int .i64 (IntKind.i64.wrap (x104 + (1 : Int))))))] ⟨rfl, rfl, rfl, rfl, trivial⟩ (h _ _  (Sep.del 0 hs))
      · refine fi_true rfl (not_t c114) ?_
        refine fi_seq ?_
        refine fi_region ?_
        refine so_assign (v := (.v (.str (pk ([] : List UInt8))))) rfl ?_
        refine so_assign (v := (.v (.bool false))) rfl ?_
        refine so_nil ?_
        exact by_ret rfl ⟨_, _, h, rfl, (Sep.del 0 hs)⟩
    · refine fi_false rfl (decide_eq_false c105) ?_
      refine fi_exit rfl ?_
      refine fi_seq ?_
      refine fi_region ?_
      refine so_move (v := (.v (.str (pk out103)))) rfl ?_
      refine so_assign (v := (.v (.str (pk out103)))) rfl ?_
      refine so_assign (v := (.v (.bool true))) rfl ?_
      refine so_nil ?_
      exact by_ret rfl ⟨_, _, h, rfl, hs⟩

end Go.Proofs.Ytpeijfnfffogeaa.G

namespace Go.Proofs.Ytpeijfnfffogeaa.G
open Go Go.Ab Go.Proofs Go.Proofs.Ytpeijfnfffogeaa
set_option maxRecDepth 100000
set_option linter.unusedVariables false
set_option linter.unusedSimpArgs false
set_option maxHeartbeats 1000000
attribute [local irreducible] wops wopf Go.Ab.Fin
theorem F72.ag5 : tagg Try.prog 5 = some false := by kernel_rfl
theorem F72.it2 : tint Try.prog 2 = some .i64 := by kernel_rfl
theorem F72.ti98 : (telem Try.prog 98).isSome = true := by kernel_rfl
theorem F72.tl98 : (telem Try.prog 98).bind (tsz Try.prog) = some 1 := by kernel_rfl
theorem F72.us5 : (Try.prog.underlying 5).isSome = true := by kernel_rfl
theorem laws_b10At_ok {fr : List Pc} {H : Heap} (v0 : AV) (l0 : List (Int)) (a1 : Int) (a2 : Int) (hs : Sep H (fr)) (g0 : ∀ H, Sep H fr → Shows H v0 1 (enc (eInt .u8) l0)) (K : Int → Prop) (h : laws_b10At.wp l0 a1 a2 K) : OkQ Try.prog 72 [(.v v0), (.v (.int .i64 a1)), (.v (.int .i64 a2))] H (fun r H2 => ∃ (y0 : Int), K y0 ∧ r = (.v (.int .i64 y0)) ∧ H = H2) := by
  unfold laws_b10At.wp at h
  refine of_body Try.f72 F.hm Try.func72 rfl Try.call72 (by kernel_rfl) (by simp) ?_
  refine fi_seq ?_
  refine fi_region ?_
  refine so_assign (v := (.v (.int .i64 (0 : Int)))) rfl ?_
  refine so_nil ?_
  refine fi_seq ?_
  refine fi_seq ?_
  refine fi_region ?_
  refine so_move (v := (.v (.int .i64 a2))) rfl ?_
  refine so_bin rfl rfl ab_leq ?_
  refine so_nil ?_
  replace h := ofP h; rcases h with ⟨c101, h⟩ | ⟨c101, h⟩
  · refine fi_true rfl (decide_eq_true c101) ?_
    refine fi_seq ?_
    refine fi_region ?_
    refine so_assign (v := (.v (.int .i64 (0 : Int)))) rfl ?_
    refine so_nil ?_
    exact by_ret rfl ⟨_, h, rfl, rfl⟩
  · refine fi_false rfl (decide_eq_false c101) ?_
    refine fi_skip ?_
    refine fi_seq ?_
    refine fi_seq ?_
    refine fi_region ?_
    refine so_move (v := (.v (.int .i64 a1))) rfl ?_
    refine so_move (v := (.v v0)) rfl ?_
    refine sv_len (g0 _ hs) (fun _ => rfl) (by decide) rfl F72.ti98 ?_
    refine so_bin rfl rfl ab_lss ?_
    refine so_nil ?_
    replace h := ofP h; rcases h with ⟨c102, h⟩ | ⟨c102, h⟩
    · refine fi_true rfl (decide_eq_true c102) ?_
      refine fi_seq ?_
      refine fi_region ?_
      refine so_move (v := (.v v0)) rfl ?_
      refine so_move (v := (.v (.int .i64 a1))) rfl ?_
      obtain ⟨c103, h⟩ := h
      refine sv_idx (g0 _ hs) c103 (fun _ => rfl) (by decide) rfl rfl F72.tl98 ?_
      refine sv_cell (g0 _ hs) c103 (0 : Int) 0 (fun x => (AV.int .u8 x)) (fun _ => rfl) (fun _ => rfl) rfl F72.ag5 ?_
      refine sv_ii rfl F72.us5 F72.it2 ?_
      refine so_move (v := (.v (.int .i64 a2))) rfl ?_
      obtain ⟨c104, h⟩ := h
      refine so_bin rfl rfl (ab_rem c104) ?_
      refine so_assign (v := (.v (.int .i64 (Int.tmod (IntKind.i64.wrap (l0.getD (a1).toNat (0 : Int))) a2)))) rfl ?_
      refine so_nil ?_
      exact by_ret rfl ⟨_, h, rfl, rfl⟩
    · refine fi_false rfl (decide_eq_false c102) ?_
      refine fi_skip ?_
      refine fi_seq ?_
      refine fi_region ?_
      refine so_move (v := (.v (.int .i64 a1))) rfl ?_
      refine so_bin rfl rfl ab_mul ?_
      refine so_bin rfl rfl ab_add ?_
      refine so_move (v := (.v (.int .i64 a2))) rfl ?_
      obtain ⟨c105, h⟩ := h
      refine so_bin rfl rfl (ab_rem c105) ?_
      refine so_assign (v := (.v (.int .i64 (Int.tmod (IntKind.i64.wrap ((IntKind.i64.wrap (a1 * (37 : Int))) + (11 : Int))) a2)))) rfl ?_
      refine so_nil ?_
      exact by_ret rfl ⟨_, h, rfl, rfl⟩

end Go.Proofs.Ytpeijfnfffogeaa.G

