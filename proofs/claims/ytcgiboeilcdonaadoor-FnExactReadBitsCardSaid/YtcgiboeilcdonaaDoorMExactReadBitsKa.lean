/-
  The model ends so. Printed by a program of the session; nothing here is trusted.
-/
import Derived.Test.YtcgiboeilcdonaaDoorProg
import Derived.KernelRfl
import Derived.Test.YtcgiboeilcdonaaDoorMExactReadBitsWa
import Derived.Test.YtcgiboeilcdonaaDoorShelf
namespace Go.Proofs.YtcgiboeilcdonaaDoor.F
open Go Go.Ab Go.Proofs
set_option maxRecDepth 100000
set_option linter.unusedVariables false
set_option linter.unusedSimpArgs false
set_option maxHeartbeats 1000000
theorem hm : Tryd.prog.follows .mixedOrders = true := by kernel_rfl
def tab4 : Obj → Prop := showsTab Tryd.prog "internal/strconv.uint64pow10" .u64 Lib.pow10Tab 4
def tab8 : Obj → Prop := showsTab Tryd.prog "math/bits.deBruijn64tab" .u8 (Lib.deBruijn64tab.map Int.ofNat) 8
end Go.Proofs.YtcgiboeilcdonaaDoor.F

namespace Go.Proofs.YtcgiboeilcdonaaDoor.G
open Go Go.Ab Go.Proofs Go.Proofs.YtcgiboeilcdonaaDoor
set_option maxRecDepth 100000
set_option linter.unusedVariables false
set_option linter.unusedSimpArgs false
set_option maxHeartbeats 1000000
attribute [local irreducible] wops wopf Go.Ab.Fin
theorem F48.sr9 : tstr Tryd.prog 9 = true := by kernel_rfl
theorem F48.sz4 : tsz Tryd.prog 4 = some 1 := by kernel_rfl
theorem F48.ta22_22 : tapp Tryd.prog 22 22 = some (1, 1) := by kernel_rfl
theorem F48.te22 : telem Tryd.prog 22 = some 4 := by kernel_rfl
theorem F48.ze4 : tzero Tryd.prog 4 = some [(.bool false)] := by kernel_rfl
theorem spec_l06Read_ok {fr : List Pc} {H : Heap} (a0 : List UInt8) (hs : Sep H (fr))  (K : (List (Bool)) → Bool → Prop) (h : spec_l06Read.wp a0 K) : OkQ Tryd.prog 48 [(.v (.str (pk a0)))] H (fun r H2 => ∃ (y0 : List (Bool)) (y1 : Bool), K y0 y1 ∧ ∃ (w0_ : AV), r = (.t [(.v w0_), (.v (.bool y1))]) ∧ Sep H2 (Pc.osl w0_ 1 (enc eBool y0) :: fr)) := by
  unfold spec_l06Read.wp at h
  refine of_body Tryd.f48 F.hm Tryd.func48 rfl Tryd.call48 (by kernel_rfl) (by simp) ?_
  refine fi_seq ?_
  refine fi_region ?_
  refine so_assign (v := (.v .nilsl)) rfl ?_
  refine so_assign (v := (.v (.bool false))) rfl ?_
  refine so_nil ?_
  refine fi_seq ?_
  refine fi_region ?_
  refine sv_bslice hs eBool ([] : List (Bool)) [] F48.te22 F48.sz4 F48.ze4 rfl rfl rfl rfl (fun _ => rfl) rfl (by decide) nofun (fun v101 H102 nv101 hs => ?_)
  refine so_assign (v := (.v v101)) rfl ?_
  refine so_nil ?_
  refine fi_seq ?_
  refine fi_seq ?_
  refine fi_region ?_
  refine so_assign (v := (.v (.int .i64 (0 : Int)))) rfl ?_
  refine so_nil ?_
  refine fi_block ?_
  refine fi_loop ?_
  refine fi_at [(0, (.v (.str (pk a0)))), (4, (.v v101)), (5, (.v (.int .i64 (0 : Int))))] ⟨rfl, rfl, rfl, trivial⟩ ?_
  refine h (fun (out128 : List (Bool)) (i130 : Int) => ∀ (s : Nat → TV) (H : Heap) (v129 : AV) (nv129 : v129 ≠ .nilsl), Sep H (Pc.osl v129 1 (enc eBool out128) :: fr) → Fin _ _ (updL s [(0, (.v (.str (pk a0)))), (4, (.v v129)), (5, (.v (.int .i64 i130)))]) H _) ?_ _ _ _ nv101 hs
  intro out128 i130 h s150 H151 v129 nv129 hs
  refine fi_inLoop ?_
  refine fi_seq ?_
  refine fi_seq ?_
  refine fi_region ?_
  refine so_move (v := (.v (.int .i64 i130))) rfl ?_
  refine so_move (v := (.v (.str (pk a0)))) rfl ?_
  refine so_slen rfl F48.sr9 ?_
  refine so_bin rfl rfl ab_lss ?_
  refine so_move (v := (.v (.bool (decide (i130 < (a0.length : Int)))))) rfl ?_
  replace h := ofP h; rcases h with ⟨c131, h⟩ | ⟨c131, h⟩
  · refine so_gyes rfl (decide_eq_true c131) ?_
    refine so_move (v := (.v (.str (pk a0)))) rfl ?_
    refine so_gyes rfl (decide_eq_true c131) ?_
    refine so_slen rfl F48.sr9 ?_
    refine so_gyes rfl (decide_eq_true c131) ?_
    refine so_bin rfl rfl ab_leq ?_
    refine so_pick_t (v := (.v (.bool (decide ((a0.length : Int) ≤ (32768 : Int)))))) rfl (decide_eq_true c131) rfl ?_
    refine so_nil ?_
    replace h := ofP h; rcases h with ⟨c132, h⟩ | ⟨c132, h⟩
    · refine fi_true rfl (decide_eq_true c132) ?_
      refine fi_skip ?_
      refine fi_seq ?_
      refine fi_block ?_
      refine fi_seq ?_
      refine fi_seq ?_
      refine fi_region ?_
      refine so_move (v := (.v (.str (pk a0)))) rfl ?_
      refine so_move (v := (.v (.int .i64 i130))) rfl ?_
      obtain ⟨c133, h⟩ := h
      refine so_index rfl rfl F48.sr9 c133 ?_
      refine so_bin rfl rfl ab_neq ?_
      refine so_move (v := (.v (.bool (!(decide ((bt a0 i130) = (48 : Int))))))) rfl ?_
      replace h := ofP h; rcases h with ⟨c134, h⟩ | ⟨c134, h⟩
      · refine so_gno rfl (not_f (decide_eq_true c134)) ?_
        refine so_gno rfl (not_f (decide_eq_true c134)) ?_
        refine so_gno rfl (not_f (decide_eq_true c134)) ?_
        refine so_gno rfl (not_f (decide_eq_true c134)) ?_
        refine so_pick_f (v := (.v (.bool false))) rfl (not_f (decide_eq_true c134)) rfl ?_
        refine so_nil ?_
        refine fi_false rfl rfl ?_
        refine fi_skip ?_
        refine fi_region ?_
        refine so_move (v := (.v v129)) rfl ?_
        refine so_move (v := (.v (.str (pk a0)))) rfl ?_
        refine so_move (v := (.v (.int .i64 i130))) rfl ?_
        refine so_index rfl rfl F48.sr9 c133 ?_
        refine so_bin rfl rfl ab_eql ?_
        refine sv_bslice hs eBool ([(decide ((bt a0 i130) = (49 : Int)))] : List (Bool)) [[(.bool (decide ((bt a0 i130) = (49 : Int))))]] F48.te22 F48.sz4 F48.ze4 rfl rfl rfl rfl (fun _ => rfl) rfl (by decide) nofun (fun v135 H136 nv135 hs => ?_)
        obtain ⟨c140, h⟩ := h
        refine sv_app hs 1 rfl (hs.shows 0 rfl) (fun _ => rfl) (by decide) F48.ta22_22 (by decide) c140 rfl rfl nofun (fun v138 H139 kv138 hs => ?_)
        replace hs := hs.del 0
        have nv138 := kv138 nv129
        refine so_assign (v := (.v v138)) rfl ?_
        refine so_nil ?_
        refine fi_inBlock ?_
        refine fi_region ?_
        refine so_move (v := (.v (.int .i64 i130))) rfl ?_
        refine so_bin rfl rfl ab_add ?_
        refine so_assign (v := (.v (.int .i64 (IntKind.i64.wrap (i130 + (1 : Int)))))) rfl ?_
        refine so_nil ?_
        exact fi_at [(0, (.v (.str (pk a0)))), (4, (.v v138)), (5, (.v (.int .i64 (IntKind.i64.wrap (i130 + (1 : Int))))))] ⟨rfl, rfl, rfl, trivial⟩ (h _ _ _ nv138 hs)
      · refine so_gyes rfl (not_t (decide_eq_false c134)) ?_
        refine so_move (v := (.v (.str (pk a0)))) rfl ?_
        refine so_gyes rfl (not_t (decide_eq_false c134)) ?_
        refine so_move (v := (.v (.int .i64 i130))) rfl ?_
        refine so_gyes rfl (not_t (decide_eq_false c134)) ?_
        refine so_index rfl rfl F48.sr9 c133 ?_
        refine so_gyes rfl (not_t (decide_eq_false c134)) ?_
        refine so_bin rfl rfl ab_neq ?_
        refine so_pick_t (v := (.v (.bool (!(decide ((bt a0 i130) = (49 : Int))))))) rfl (not_t (decide_eq_false c134)) rfl ?_
        refine so_nil ?_
        replace h := ofP h; rcases h with ⟨c141, h⟩ | ⟨c141, h⟩
        · refine fi_false rfl (not_f (decide_eq_true c141)) ?_
          refine fi_skip ?_
          refine fi_region ?_
          refine so_move (v := (.v v129)) rfl ?_
          refine so_move (v := (.v (.str (pk a0)))) rfl ?_
          refine so_move (v := (.v (.int .i64 i130))) rfl ?_
          refine so_index rfl rfl F48.sr9 c133 ?_
          refine so_bin rfl rfl ab_eql ?_
          refine sv_bslice hs eBool ([(decide ((bt a0 i130) = (49 : Int)))] : List (Bool)) [[(.bool (decide ((bt a0 i130) = (49 : Int))))]] F48.te22 F48.sz4 F48.ze4 rfl rfl rfl rfl (fun _ => rfl) rfl (by decide) nofun (fun v142 H143 nv142 hs => ?_)
          obtain ⟨c147, h⟩ := h
          refine sv_app hs 1 rfl (hs.shows 0 rfl) (fun _ => rfl) (by decide) F48.ta22_22 (by decide) c147 rfl rfl nofun (fun v145 H146 kv145 hs => ?_)
          replace hs := hs.del 0
          have nv145 := kv145 nv129
          refine so_assign (v := (.v v145)) rfl ?_
          refine so_nil ?_
          refine fi_inBlock ?_
          refine fi_region ?_
          refine so_move (v := (.v (.int .i64 i130))) rfl ?_
          refine so_bin rfl rfl ab_add ?_
          refine so_assign (v := (.v (.int .i64 (IntKind.i64.wrap (i130 + (1 : Int)))))) rfl ?_
          refine so_nil ?_
          exact fi_at [(0, (.v (.str (pk a0)))), (4, (.v v145)), (5, (.v (.int .i64 (IntKind.i64.wrap (i130 + (1 : Int))))))] ⟨rfl, rfl, rfl, trivial⟩ (h _ _ _ nv145 hs)
        · refine fi_true rfl (not_t (decide_eq_false c141)) ?_
          refine fi_seq ?_
          refine fi_region ?_
          refine so_assign (v := (.v .nilsl)) rfl ?_
          refine so_assign (v := (.v (.bool false))) rfl ?_
          refine so_nil ?_
          exact by_ret rfl ⟨_, _, h, _, rfl, (Sep.nil (Sep.del 0 hs) 1)⟩
    · refine fi_false rfl (decide_eq_false c132) ?_
      refine fi_exit rfl ?_
      refine fi_seq ?_
      refine fi_seq ?_
      refine fi_region ?_
      refine so_move (v := (.v (.str (pk a0)))) rfl ?_
      refine so_slen rfl F48.sr9 ?_
      refine so_bin rfl rfl ab_gtr ?_
      refine so_nil ?_
      replace h := ofP h; rcases h with ⟨c148, h⟩ | ⟨c148, h⟩
      · refine fi_true rfl (decide_eq_true c148) ?_
        refine fi_seq ?_
        refine fi_region ?_
        refine so_assign (v := (.v .nilsl)) rfl ?_
        refine so_assign (v := (.v (.bool false))) rfl ?_
        refine so_nil ?_
        exact by_ret rfl ⟨_, _, h, _, rfl, (Sep.nil (Sep.del 0 hs) 1)⟩
      · refine fi_false rfl (decide_eq_false c148) ?_
        refine fi_skip ?_
        refine fi_seq ?_
        refine fi_region ?_
        refine so_move (v := (.v v129)) rfl ?_
        refine so_assign (v := (.v v129)) rfl ?_
        refine so_assign (v := (.v (.bool true))) rfl ?_
        refine so_nil ?_
        exact by_ret rfl ⟨_, _, h, _, rfl, hs⟩
  · refine so_gno rfl (decide_eq_false c131) ?_
    refine so_gno rfl (decide_eq_false c131) ?_
    refine so_gno rfl (decide_eq_false c131) ?_
    refine so_pick_f (v := (.v (.bool false))) rfl (decide_eq_false c131) rfl ?_
    refine so_nil ?_
    refine fi_false rfl rfl ?_
    refine fi_exit rfl ?_
    refine fi_seq ?_
    refine fi_seq ?_
    refine fi_region ?_
    refine so_move (v := (.v (.str (pk a0)))) rfl ?_
    refine so_slen rfl F48.sr9 ?_
    refine so_bin rfl rfl ab_gtr ?_
    refine so_nil ?_
    replace h := ofP h; rcases h with ⟨c149, h⟩ | ⟨c149, h⟩
    · refine fi_true rfl (decide_eq_true c149) ?_
      refine fi_seq ?_
      refine fi_region ?_
      refine so_assign (v := (.v .nilsl)) rfl ?_
      refine so_assign (v := (.v (.bool false))) rfl ?_
      refine so_nil ?_
      exact by_ret rfl ⟨_, _, h, _, rfl, (Sep.nil (Sep.del 0 hs) 1)⟩
    · refine fi_false rfl (decide_eq_false c149) ?_
      refine fi_skip ?_
      refine fi_seq ?_
      refine fi_region ?_
      refine so_move (v := (.v v129)) rfl ?_
      refine so_assign (v := (.v v129)) rfl ?_
      refine so_assign (v := (.v (.bool true))) rfl ?_
      refine so_nil ?_
      exact by_ret rfl ⟨_, _, h, _, rfl, hs⟩

end Go.Proofs.YtcgiboeilcdonaaDoor.G

namespace Go.Proofs.YtcgiboeilcdonaaDoor.G
open Go Go.Ab Go.Proofs Go.Proofs.YtcgiboeilcdonaaDoor
set_option maxRecDepth 100000
set_option linter.unusedVariables false
set_option linter.unusedSimpArgs false
set_option maxHeartbeats 1000000
attribute [local irreducible] wops wopf Go.Ab.Fin
theorem spec_ReadBits_ok {fr : List Pc} {H : Heap} (a0 : List UInt8) (hs : Sep H (fr))  (K : (List (Bool)) → Bool → Prop) (h : spec_ReadBits.wp a0 K) : OkQ Tryd.prog 11 [(.v (.str (pk a0)))] H (fun r H2 => ∃ (y0 : List (Bool)) (y1 : Bool), K y0 y1 ∧ ∃ (w0_ : AV), r = (.t [(.v w0_), (.v (.bool y1))]) ∧ Sep H2 (Pc.osl w0_ 1 (enc eBool y0) :: fr)) := by
  unfold spec_ReadBits.wp at h
  refine of_body Tryd.f11 F.hm Tryd.func11 rfl Tryd.call11 (by kernel_rfl) (by simp) ?_
  refine fi_seq ?_
  refine fi_region ?_
  refine so_assign (v := (.v .nilsl)) rfl ?_
  refine so_assign (v := (.v (.bool false))) rfl ?_
  refine so_nil ?_
  refine fi_seq ?_
  refine fi_region ?_
  refine so_move (v := (.v (.str (pk a0)))) rfl ?_
  refine sv_call (spec_l06Read_ok a0 hs  _ h) rfl rfl nofun ?_
  clear h hs
  rintro _ H105 ⟨y101, y104, h, v102, rfl, hs⟩
  refine so_extract rfl rfl rfl ?_
  refine so_extract rfl rfl rfl ?_
  refine so_assign (v := (.v v102)) rfl ?_
  refine so_assign (v := (.v (.bool y104))) rfl ?_
  refine so_nil ?_
  exact by_ret rfl ⟨_, _, h, _, rfl, hs⟩

end Go.Proofs.YtcgiboeilcdonaaDoor.G

namespace Go.Proofs.YtcgiboeilcdonaaDoor.G
open Go Go.Ab Go.Proofs Go.Proofs.YtcgiboeilcdonaaDoor
set_option maxRecDepth 100000
set_option linter.unusedVariables false
set_option linter.unusedSimpArgs false
set_option maxHeartbeats 1000000
attribute [local irreducible] wops wopf Go.Ab.Fin
theorem strings_Trim_ok {fr : List Pc} {H : Heap} (a0 : List UInt8) (a1 : List UInt8) (hs : Sep H fr) (K : List UInt8 → Prop) (h : strings_Trim.wp a0 a1 K) : OkQ Tryd.prog 49 [.v (.str (pk a0)), .v (.str (pk a1))] H (fun r H2 => ∃ (y0 : List UInt8), K y0 ∧ r = (.v (.str (pk y0))) ∧ H = H2) :=
  ⟨.v (.str (pk (Lib.trimS a0 a1))), _, ok_lib2 [.string (pk a0), .string (pk a1)] (.string (pk (Lib.trimS a0 a1))) Tryd.call49 (args_ss _ _) (fun β => rfl) (fun w => Any.strings_Trim_laid Tryd.lays160 (by kernel_rfl) (pk a0) (pk a1) w (by rw [pk_size]; have := h.1.1; omega) (by rw [pk_size]; have := h.1.2.1; omega) (ascii_of_all h.1.2.2)), _, h.2, rfl, rfl⟩

end Go.Proofs.YtcgiboeilcdonaaDoor.G

namespace Go.Proofs.YtcgiboeilcdonaaDoor.G
open Go Go.Ab Go.Proofs Go.Proofs.YtcgiboeilcdonaaDoor
set_option maxRecDepth 100000
set_option linter.unusedVariables false
set_option linter.unusedSimpArgs false
set_option maxHeartbeats 1000000
attribute [local irreducible] wops wopf Go.Ab.Fin
theorem F12.sr9 : tstr Tryd.prog 9 = true := by kernel_rfl
theorem F12.sz4 : tsz Tryd.prog 4 = some 1 := by kernel_rfl
theorem F12.ta22_22 : tapp Tryd.prog 22 22 = some (1, 1) := by kernel_rfl
theorem F12.te22 : telem Tryd.prog 22 = some 4 := by kernel_rfl
theorem F12.ze4 : tzero Tryd.prog 4 = some [(.bool false)] := by kernel_rfl
theorem impl_ReadBits_ok {fr : List Pc} {H : Heap} (a0 : List UInt8) (hs : Sep H (fr))  (K : (List (Bool)) → Bool → Prop) (h : impl_ReadBits.wp a0 K) : OkQ Tryd.prog 12 [(.v (.str (pk a0)))] H (fun r H2 => ∃ (y0 : List (Bool)) (y1 : Bool), K y0 y1 ∧ ∃ (w0_ : AV), r = (.t [(.v w0_), (.v (.bool y1))]) ∧ Sep H2 (Pc.osl w0_ 1 (enc eBool y0) :: fr)) := by
  unfold impl_ReadBits.wp at h
  refine of_body Tryd.f12 F.hm Tryd.func12 rfl Tryd.call12 (by kernel_rfl) (by simp) ?_
  refine fi_seq ?_
  refine fi_region ?_
  refine so_assign (v := (.v .nilsl)) rfl ?_
  refine so_assign (v := (.v (.bool false))) rfl ?_
  refine so_nil ?_
  refine fi_seq ?_
  refine fi_seq ?_
  refine fi_region ?_
  refine so_move (v := (.v (.str (pk a0)))) rfl ?_
  refine so_slen rfl F12.sr9 ?_
  refine so_bin rfl rfl ab_gtr ?_
  refine so_move (v := (.v (.bool (decide ((32768 : Int) < (a0.length : Int)))))) rfl ?_
  replace h := ofP h; rcases h with ⟨c101, h⟩ | ⟨c101, h⟩
  · refine so_gno rfl (decide_eq_true c101) ?_
    refine so_gno rfl (decide_eq_true c101) ?_
    refine so_gno rfl (decide_eq_true c101) ?_
    refine so_pick_t (v := (.v (.bool true))) rfl (decide_eq_true c101) rfl ?_
    refine so_nil ?_
    refine fi_true rfl rfl ?_
    refine fi_seq ?_
    refine fi_region ?_
    refine so_assign (v := (.v .nilsl)) rfl ?_
    refine so_assign (v := (.v (.bool false))) rfl ?_
    refine so_nil ?_
    exact by_ret rfl ⟨_, _, h, _, rfl, (Sep.nil hs 1)⟩
  · refine so_gyes rfl (decide_eq_false c101) ?_
    refine so_move (v := (.v (.str (pk a0)))) rfl ?_
    refine so_gyes rfl (decide_eq_false c101) ?_
    refine sv_callS (strings_Trim_ok a0 ([48, 49] : List UInt8) hs  _ h) (fun _ _ ⟨_, _, _, e⟩ => e) rfl rfl ?_
    clear h
    rintro _ _ ⟨y102, h, rfl, rfl⟩
    refine so_gyes rfl (decide_eq_false c101) ?_
    refine so_bin rfl rfl ab_sneq ?_
    refine so_pick_f (v := (.v (.bool (!(decide (y102 = ([] : List UInt8))))))) rfl (decide_eq_false c101) rfl ?_
    refine so_nil ?_
    replace h := ofP h; rcases h with ⟨c104, h⟩ | ⟨c104, h⟩
    · refine fi_false rfl (not_f (decide_eq_true c104)) ?_
      refine fi_skip ?_
      refine fi_seq ?_
      refine fi_region ?_
      refine sv_bslice hs eBool ([] : List (Bool)) [] F12.te22 F12.sz4 F12.ze4 rfl rfl rfl rfl (fun _ => rfl) rfl (by decide) nofun (fun v105 H106 nv105 hs => ?_)
      refine so_assign (v := (.v v105)) rfl ?_
      refine so_nil ?_
      refine fi_seq ?_
      refine fi_seq ?_
      refine fi_region ?_
      refine so_move (v := (.v (.str (pk a0)))) rfl ?_
      refine so_slen rfl F12.sr9 ?_
      refine so_move (v := (.v (.int .i64 (0 : Int)))) rfl ?_
      refine so_nil ?_
      refine fi_block ?_
      refine fi_loop ?_
      refine fi_at [(0, (.v (.str (pk a0)))), (4, (.v v105)), (16, (.v (.int .i64 (a0.length : Int)))), (17, (.v (.int .i64 (0 : Int))))] ⟨rfl, rfl, rfl, rfl, trivial⟩ ?_
      refine h (fun (out121 : List (Bool)) (x123 : Int) => ∀ (s : Nat → TV) (H : Heap) (v122 : AV) (nv122 : v122 ≠ .nilsl), Sep H (Pc.osl v122 1 (enc eBool out121) :: fr) → Fin _ _ (updL s [(0, (.v (.str (pk a0)))), (4, (.v v122)), (16, (.v (.int .i64 (a0.length : Int)))), (17, (.v (.int .i64 x123)))]) H _) ?_ _ _ _ nv105 hs
      intro out121 x123 h s132 H133 v122 nv122 hs
      refine fi_inLoop ?_
      refine fi_seq ?_
      refine fi_region ?_
      refine so_bin rfl rfl ab_lss ?_
      refine so_nil ?_
      refine fi_seq ?_
      replace h := ofP h; rcases h with ⟨c124, h⟩ | ⟨c124, h⟩
      · refine fi_true rfl (decide_eq_true c124) ?_
        refine fi_skip ?_
        refine fi_seq ?_
        refine fi_block ?_
        refine fi_seq ?_
        refine fi_region ?_
        refine so_move (v := (.v (.int .i64 x123))) rfl ?_
        refine so_assign (v := (.v (.int .i64 x123))) rfl ?_
        refine so_nil ?_
        refine fi_region ?_
        refine so_move (v := (.v v122)) rfl ?_
        refine so_move (v := (.v (.str (pk a0)))) rfl ?_
        refine so_move (v := (.v (.int .i64 x123))) rfl ?_
        obtain ⟨c125, h⟩ := h
        refine so_index rfl rfl F12.sr9 c125 ?_
        refine so_bin rfl rfl ab_eql ?_
        refine sv_bslice hs eBool ([(decide ((bt a0 x123) = (49 : Int)))] : List (Bool)) [[(.bool (decide ((bt a0 x123) = (49 : Int))))]] F12.te22 F12.sz4 F12.ze4 rfl rfl rfl rfl (fun _ => rfl) rfl (by decide) nofun (fun v126 H127 nv126 hs => ?_)
        obtain ⟨c131, h⟩ := h
        refine sv_app hs 1 rfl (hs.shows 0 rfl) (fun _ => rfl) (by decide) F12.ta22_22 (by decide) c131 rfl rfl nofun (fun v129 H130 kv129 hs => ?_)
        replace hs := hs.del 0
        have nv129 := kv129 nv122
        refine so_assign (v := (.v v129)) rfl ?_
        refine so_nil ?_
        refine fi_inBlock ?_
        refine fi_region ?_
        refine so_bin rfl rfl ab_add ?_
        refine so_move (v := (.v (.int .i64 (IntKind.i64.wrap (x123 + (1 : Int)))))) rfl ?_
        refine so_nil ?_
        exact fi_at [(0, (.v (.str (pk a0)))), (4, (.v v129)), (16, (.v (.int .i64 (a0.length : Int)))), (17, (.v (.int .i64 (IntKind.i64.wrap (x123 + (1 : Int))))))] ⟨rfl, rfl, rfl, rfl, trivial⟩ (h _ _ _ nv129 hs)
      · refine fi_false rfl (decide_eq_false c124) ?_
        refine fi_exit rfl ?_
        refine fi_seq ?_
        refine fi_region ?_
        refine so_move (v := (.v v122)) rfl ?_
        refine so_assign (v := (.v v122)) rfl ?_
        refine so_assign (v := (.v (.bool true))) rfl ?_
        refine so_nil ?_
        exact by_ret rfl ⟨_, _, h, _, rfl, hs⟩
    · refine fi_true rfl (not_t (decide_eq_false c104)) ?_
      refine fi_seq ?_
      refine fi_region ?_
      refine so_assign (v := (.v .nilsl)) rfl ?_
      refine so_assign (v := (.v (.bool false))) rfl ?_
      refine so_nil ?_
      exact by_ret rfl ⟨_, _, h, _, rfl, (Sep.nil hs 1)⟩

end Go.Proofs.YtcgiboeilcdonaaDoor.G

namespace Go.Proofs.YtcgiboeilcdonaaDoor.G
open Go Go.Ab Go.Proofs Go.Proofs.YtcgiboeilcdonaaDoor
set_option maxRecDepth 100000
set_option linter.unusedVariables false
set_option linter.unusedSimpArgs false
set_option maxHeartbeats 1000000
attribute [local irreducible] wops wopf Go.Ab.Fin
theorem F13.ag4 : tagg Tryd.prog 4 = some false := by kernel_rfl
theorem F13.tb4 : tbool Tryd.prog 4 = true := by kernel_rfl
theorem F13.ti22 : (telem Tryd.prog 22).isSome = true := by kernel_rfl
theorem F13.tl22 : (telem Tryd.prog 22).bind (tsz Tryd.prog) = some 1 := by kernel_rfl
theorem laws_eqBoolS_ok {fr : List Pc} {H : Heap} (v0 : AV) (l0 : List (Bool)) (v1 : AV) (l1 : List (Bool)) (hs : Sep H (fr)) (g0 : ∀ H, Sep H fr → Shows H v0 1 (enc eBool l0)) (g1 : ∀ H, Sep H fr → Shows H v1 1 (enc eBool l1)) (K : Bool → Prop) (h : laws_eqBoolS.wp l0 l1 K) : OkQ Tryd.prog 13 [(.v v0), (.v v1)] H (fun r H2 => ∃ (y0 : Bool), K y0 ∧ r = (.v (.bool y0)) ∧ H = H2) := by
  unfold laws_eqBoolS.wp at h
  refine of_body Tryd.f13 F.hm Tryd.func13 rfl Tryd.call13 (by kernel_rfl) (by simp) ?_
  refine fi_seq ?_
  refine fi_region ?_
  refine so_assign (v := (.v (.bool false))) rfl ?_
  refine so_nil ?_
  refine fi_seq ?_
  refine fi_seq ?_
  refine fi_region ?_
  refine so_move (v := (.v v0)) rfl ?_
  refine sv_len (g0 _ hs) (fun _ => rfl) (by decide) rfl F13.ti22 ?_
  refine so_move (v := (.v v1)) rfl ?_
  refine sv_len (g1 _ hs) (fun _ => rfl) (by decide) rfl F13.ti22 ?_
  refine so_bin rfl rfl ab_neq ?_
  refine so_nil ?_
  replace h := ofP h; rcases h with ⟨c101, h⟩ | ⟨c101, h⟩
  · refine fi_false rfl (not_f (decide_eq_true c101)) ?_
    refine fi_skip ?_
    refine fi_seq ?_
    refine fi_seq ?_
    refine fi_region ?_
    refine so_assign (v := (.v (.int .i64 (0 : Int)))) rfl ?_
    refine so_nil ?_
    refine fi_block ?_
    refine fi_loop ?_
    refine fi_at [(0, (.v v0)), (1, (.v v1)), (5, (.v (.int .i64 (0 : Int))))] ⟨rfl, rfl, rfl, trivial⟩ ?_
    refine h (fun (i103 : Int) => ∀ (s : Nat → TV), Fin _ _ (updL s [(0, (.v v0)), (1, (.v v1)), (5, (.v (.int .i64 i103)))]) _ _) ?_ _
    intro i103 h s108
    refine fi_inLoop ?_
    refine fi_seq ?_
    refine fi_seq ?_
    refine fi_region ?_
    refine so_move (v := (.v (.int .i64 i103))) rfl ?_
    refine so_move (v := (.v v0)) rfl ?_
    refine sv_len (g0 _ hs) (fun _ => rfl) (by decide) rfl F13.ti22 ?_
    refine so_bin rfl rfl ab_lss ?_
    refine so_nil ?_
    replace h := ofP h; rcases h with ⟨c104, h⟩ | ⟨c104, h⟩
    · refine fi_true rfl (decide_eq_true c104) ?_
      refine fi_skip ?_
      refine fi_seq ?_
      refine fi_block ?_
      refine fi_seq ?_
      refine fi_region ?_
      refine so_move (v := (.v v0)) rfl ?_
      refine so_move (v := (.v (.int .i64 i103))) rfl ?_
      obtain ⟨c105, h⟩ := h
      refine sv_idx (g0 _ hs) c105 (fun _ => rfl) (by decide) rfl rfl F13.tl22 ?_
      refine sv_cell (g0 _ hs) c105 false 0 (fun x => (AV.bool x)) (fun _ => rfl) (fun _ => rfl) rfl F13.ag4 ?_
      refine so_move (v := (.v v1)) rfl ?_
      refine so_move (v := (.v (.int .i64 i103))) rfl ?_
      obtain ⟨c106, h⟩ := h
      refine sv_idx (g1 _ hs) c106 (fun _ => rfl) (by decide) rfl rfl F13.tl22 ?_
      refine sv_cell (g1 _ hs) c106 false 0 (fun x => (AV.bool x)) (fun _ => rfl) (fun _ => rfl) rfl F13.ag4 ?_
      refine so_bin rfl rfl (ab_bneq F13.tb4) ?_
      refine so_nil ?_
      replace h := ofT h; rcases h with ⟨c107, h⟩ | ⟨c107, h⟩
      · refine fi_false rfl (not_f c107) ?_
        refine fi_skip ?_
        refine fi_inBlock ?_
        refine fi_region ?_
        refine so_move (v := (.v (.int .i64 i103))) rfl ?_
        refine so_bin rfl rfl ab_add ?_
        refine so_assign (v := (.v (.int .i64 (IntKind.i64.wrap (i103 + (1 : Int)))))) rfl ?_
        refine so_nil ?_
        exact fi_at [(0, (.v v0)), (1, (.v v1)), (5, (.v (.int .i64 (IntKind.i64.wrap (i103 + (1 : Int))))))] ⟨rfl, rfl, rfl, trivial⟩ (h _)
      · refine fi_true rfl (not_t c107) ?_
        refine fi_seq ?_
        refine fi_region ?_
        refine so_assign (v := (.v (.bool false))) rfl ?_
        refine so_nil ?_
        exact by_ret rfl ⟨_, h, rfl, rfl⟩
    · refine fi_false rfl (decide_eq_false c104) ?_
      refine fi_exit rfl ?_
      refine fi_seq ?_
      refine fi_region ?_
      refine so_assign (v := (.v (.bool true))) rfl ?_
      refine so_nil ?_
      exact by_ret rfl ⟨_, h, rfl, rfl⟩
  · refine fi_true rfl (not_t (decide_eq_false c101)) ?_
    refine fi_seq ?_
    refine fi_region ?_
    refine so_assign (v := (.v (.bool false))) rfl ?_
    refine so_nil ?_
    exact by_ret rfl ⟨_, h, rfl, rfl⟩

end Go.Proofs.YtcgiboeilcdonaaDoor.G

namespace Go.Proofs.YtcgiboeilcdonaaDoor.G
open Go Go.Ab Go.Proofs Go.Proofs.YtcgiboeilcdonaaDoor
set_option maxRecDepth 100000
set_option linter.unusedVariables false
set_option linter.unusedSimpArgs false
set_option maxHeartbeats 1000000
attribute [local irreducible] wops wopf Go.Ab.Fin
theorem F14.sz4 : tsz Tryd.prog 4 = some 1 := by kernel_rfl
theorem F14.ti22 : (telem Tryd.prog 22).isSome = true := by kernel_rfl
theorem F14.tl22 : (telem Tryd.prog 22).bind (tsz Tryd.prog) = some 1 := by kernel_rfl
theorem laws_markBoolS_ok {fr : List Pc} {H : Heap} (v0 : AV) (l0 : List (Bool)) (a1 : Int) (hs : Sep H (Pc.osl v0 1 (enc eBool l0) :: fr))  (K : Int → (List (Bool)) → Prop) (h : laws_markBoolS.wp l0 a1 K) : OkQ Tryd.prog 14 [(.v v0), (.v (.int .i64 a1))] H (fun r H2 => ∃ (y0 : Int) (y1 : List (Bool)), K y0 y1 ∧ r = (.v (.int .i64 y0)) ∧ Sep H2 (Pc.osl v0 1 (enc eBool y1) :: fr)) := by
  unfold laws_markBoolS.wp at h
  refine of_body Tryd.f14 F.hm Tryd.func14 rfl Tryd.call14 (by kernel_rfl) (by simp) ?_
  refine fi_seq ?_
  refine fi_region ?_
  refine so_assign (v := (.v (.int .i64 (0 : Int)))) rfl ?_
  refine so_nil ?_
  refine fi_seq ?_
  refine fi_seq ?_
  refine fi_region ?_
  refine so_assign (v := (.v (.int .i64 (0 : Int)))) rfl ?_
  refine so_nil ?_
  refine fi_block ?_
  refine fi_loop ?_
  refine fi_at [(0, (.v v0)), (1, (.v (.int .i64 a1))), (5, (.v (.int .i64 (0 : Int))))] ⟨rfl, rfl, rfl, trivial⟩ ?_
  refine h (fun (a109 : List (Bool)) (k110 : Int) (i111 : Int) => ∀ (s : Nat → TV) (H : Heap), Sep H (Pc.osl v0 1 (enc eBool a109) :: fr) → Fin _ _ (updL s [(0, (.v v0)), (1, (.v (.int .i64 k110))), (5, (.v (.int .i64 i111)))]) H _) ?_ _ _ hs
  intro a109 k110 i111 h s115 H116 hs
  refine fi_inLoop ?_
  refine fi_seq ?_
  refine fi_seq ?_
  refine fi_region ?_
  refine so_move (v := (.v (.int .i64 i111))) rfl ?_
  refine so_move (v := (.v v0)) rfl ?_
  refine sv_len (hs.shows 0 rfl) (fun _ => rfl) (by decide) rfl F14.ti22 ?_
  refine so_bin rfl rfl ab_lss ?_
  refine so_nil ?_
  replace h := ofP h; rcases h with ⟨c112, h⟩ | ⟨c112, h⟩
  · refine fi_true rfl (decide_eq_true c112) ?_
    refine fi_skip ?_
    refine fi_seq ?_
    refine fi_block ?_
    refine fi_seq ?_
    refine fi_region ?_
    refine so_move (v := (.v v0)) rfl ?_
    refine so_move (v := (.v (.int .i64 i111))) rfl ?_
    refine so_move (v := (.v (.int .i64 k110))) rfl ?_
    refine so_bin rfl rfl (ab_rem (by decide)) ?_
    refine so_bin rfl rfl ab_eql ?_
    obtain ⟨c113, h⟩ := h
    refine sv_idx (hs.shows 0 rfl) c113 (fun _ => rfl) (by decide) rfl rfl F14.tl22 ?_
    refine sv_set hs 0 rfl c113 (decide ((Int.tmod k110 (3 : Int)) = (0 : Int))) (fun _ => rfl) (by decide) rfl rfl rfl rfl F14.sz4 nofun (fun H114 hs => ?_)
    refine so_nil ?_
    refine fi_region ?_
    refine so_move (v := (.v (.int .i64 k110))) rfl ?_
    refine so_bin rfl rfl ab_add ?_
    refine so_assign (v := (.v (.int .i64 (IntKind.i64.wrap (k110 + (1 : Int)))))) rfl ?_
    refine so_nil ?_
    refine fi_inBlock ?_
    refine fi_region ?_
    refine so_move (v := (.v (.int .i64 i111))) rfl ?_
    refine so_bin rfl rfl ab_add ?_
    refine so_assign (v := (.v (.int .i64 (IntKind.i64.wrap (i111 + (1 : Int)))))) rfl ?_
    refine so_nil ?_
    exact fi_at [(0, (.v v0)), (1, (.v (.int .i64 (IntKind.i64.wrap (k110 + (1 : Int)))))), (5, (.v (.int .i64 (IntKind.i64.wrap (i111 + (1 : Int))))))] ⟨rfl, rfl, rfl, trivial⟩ (h _ _  hs)
  · refine fi_false rfl (decide_eq_false c112) ?_
    refine fi_exit rfl ?_
    refine fi_seq ?_
    refine fi_region ?_
    refine so_move (v := (.v (.int .i64 k110))) rfl ?_
    refine so_assign (v := (.v (.int .i64 k110))) rfl ?_
    refine so_nil ?_
    exact by_ret rfl ⟨_, _, h, rfl, hs⟩

end Go.Proofs.YtcgiboeilcdonaaDoor.G

namespace Go.Proofs.YtcgiboeilcdonaaDoor.G
open Go Go.Ab Go.Proofs Go.Proofs.YtcgiboeilcdonaaDoor
set_option maxRecDepth 100000
set_option linter.unusedVariables false
set_option linter.unusedSimpArgs false
set_option maxHeartbeats 1000000
attribute [local irreducible] wops wopf Go.Ab.Fin
theorem F15.ag4 : tagg Tryd.prog 4 = some false := by kernel_rfl
theorem F15.tb4 : tbool Tryd.prog 4 = true := by kernel_rfl
theorem F15.ti22 : (telem Tryd.prog 22).isSome = true := by kernel_rfl
theorem F15.tl22 : (telem Tryd.prog 22).bind (tsz Tryd.prog) = some 1 := by kernel_rfl
theorem laws_heldBoolS_ok {fr : List Pc} {H : Heap} (v0 : AV) (l0 : List (Bool)) (a1 : Int) (hs : Sep H (fr)) (g0 : ∀ H, Sep H fr → Shows H v0 1 (enc eBool l0)) (K : Int → Prop) (h : laws_heldBoolS.wp l0 a1 K) : OkQ Tryd.prog 15 [(.v v0), (.v (.int .i64 a1))] H (fun r H2 => ∃ (y0 : Int), K y0 ∧ r = (.v (.int .i64 y0)) ∧ H = H2) := by
  unfold laws_heldBoolS.wp at h
  refine of_body Tryd.f15 F.hm Tryd.func15 rfl Tryd.call15 (by kernel_rfl) (by simp) ?_
  refine fi_seq ?_
  refine fi_region ?_
  refine so_assign (v := (.v (.int .i64 (0 : Int)))) rfl ?_
  refine so_nil ?_
  refine fi_seq ?_
  refine fi_seq ?_
  refine fi_region ?_
  refine so_assign (v := (.v (.int .i64 (0 : Int)))) rfl ?_
  refine so_nil ?_
  refine fi_block ?_
  refine fi_loop ?_
  refine fi_at [(0, (.v v0)), (1, (.v (.int .i64 a1))), (5, (.v (.int .i64 (0 : Int))))] ⟨rfl, rfl, rfl, trivial⟩ ?_
  refine h (fun (k102 : Int) (i103 : Int) => ∀ (s : Nat → TV), Fin _ _ (updL s [(0, (.v v0)), (1, (.v (.int .i64 k102))), (5, (.v (.int .i64 i103)))]) _ _) ?_ _
  intro k102 i103 h s107
  refine fi_inLoop ?_
  refine fi_seq ?_
  refine fi_seq ?_
  refine fi_region ?_
  refine so_move (v := (.v (.int .i64 i103))) rfl ?_
  refine so_move (v := (.v v0)) rfl ?_
  refine sv_len (g0 _ hs) (fun _ => rfl) (by decide) rfl F15.ti22 ?_
  refine so_bin rfl rfl ab_lss ?_
  refine so_nil ?_
  replace h := ofP h; rcases h with ⟨c104, h⟩ | ⟨c104, h⟩
  · refine fi_true rfl (decide_eq_true c104) ?_
    refine fi_skip ?_
    refine fi_seq ?_
    refine fi_block ?_
    refine fi_seq ?_
    refine fi_seq ?_
    refine fi_region ?_
    refine so_move (v := (.v v0)) rfl ?_
    refine so_move (v := (.v (.int .i64 i103))) rfl ?_
    obtain ⟨c105, h⟩ := h
    refine sv_idx (g0 _ hs) c105 (fun _ => rfl) (by decide) rfl rfl F15.tl22 ?_
    refine sv_cell (g0 _ hs) c105 false 0 (fun x => (AV.bool x)) (fun _ => rfl) (fun _ => rfl) rfl F15.ag4 ?_
    refine so_move (v := (.v (.int .i64 k102))) rfl ?_
    refine so_bin rfl rfl (ab_rem (by decide)) ?_
    refine so_bin rfl rfl ab_eql ?_
    refine so_bin rfl rfl (ab_bneq F15.tb4) ?_
    refine so_nil ?_
    replace h := ofT h; rcases h with ⟨c106, h⟩ | ⟨c106, h⟩
    · refine fi_false rfl (not_f c106) ?_
      refine fi_skip ?_
      refine fi_region ?_
      refine so_move (v := (.v (.int .i64 k102))) rfl ?_
      refine so_bin rfl rfl ab_add ?_
      refine so_assign (v := (.v (.int .i64 (IntKind.i64.wrap (k102 + (1 : Int)))))) rfl ?_
      refine so_nil ?_
      refine fi_inBlock ?_
      refine fi_region ?_
      refine so_move (v := (.v (.int .i64 i103))) rfl ?_
      refine so_bin rfl rfl ab_add ?_
      refine so_assign (v := (.v (.int .i64 (IntKind.i64.wrap (i103 + (1 : Int)))))) rfl ?_
      refine so_nil ?_
      exact fi_at [(0, (.v v0)), (1, (.v (.int .i64 (IntKind.i64.wrap (k102 + (1 : Int)))))), (5, (.v (.int .i64 (IntKind.i64.wrap (i103 + (1 : Int))))))] ⟨rfl, rfl, rfl, trivial⟩ (h _)
    · refine fi_true rfl (not_t c106) ?_
      refine fi_seq ?_
      refine fi_region ?_
      refine so_assign (v := (.v (.int .i64 (-1 : Int)))) rfl ?_
      refine so_nil ?_
      exact by_ret rfl ⟨_, h, rfl, rfl⟩
  · refine fi_false rfl (decide_eq_false c104) ?_
    refine fi_exit rfl ?_
    refine fi_seq ?_
    refine fi_region ?_
    refine so_move (v := (.v (.int .i64 k102))) rfl ?_
    refine so_assign (v := (.v (.int .i64 k102))) rfl ?_
    refine so_nil ?_
    exact by_ret rfl ⟨_, h, rfl, rfl⟩

end Go.Proofs.YtcgiboeilcdonaaDoor.G

namespace Go.Proofs.YtcgiboeilcdonaaDoor.G
open Go Go.Ab Go.Proofs Go.Proofs.YtcgiboeilcdonaaDoor
set_option maxRecDepth 100000
set_option linter.unusedVariables false
set_option linter.unusedSimpArgs false
set_option maxHeartbeats 1000000
attribute [local irreducible] wops wopf Go.Ab.Fin
theorem F3.sr9 : tstr Tryd.prog 9 = true := by kernel_rfl
theorem F3.tb4 : tbool Tryd.prog 4 = true := by kernel_rfl
theorem laws_FnExactReadBits_ok {fr : List Pc} {H : Heap} (a0 : List UInt8) (hs : Sep H (fr))  (K : Bool → Prop) (h : laws_FnExactReadBits.wp a0 K) : OkQ Tryd.prog 3 [(.v (.str (pk a0)))] H (fun r H2 => ∃ (y0 : Bool), K y0 ∧ r = (.v (.bool y0)) ∧ Sep H2 (fr)) := by
  unfold laws_FnExactReadBits.wp at h
  refine of_body Tryd.f3 F.hm Tryd.func3 rfl Tryd.call3 (by kernel_rfl) (by simp) ?_
  refine fi_seq ?_
  refine fi_region ?_
  refine so_assign (v := (.v (.bool false))) rfl ?_
  refine so_nil ?_
  refine fi_seq ?_
  refine fi_seq ?_
  refine fi_region ?_
  refine so_move (v := (.v (.str (pk a0)))) rfl ?_
  refine so_slen rfl F3.sr9 ?_
  refine so_bin rfl rfl ab_gtr ?_
  refine so_nil ?_
  replace h := ofP h; rcases h with ⟨c101, h⟩ | ⟨c101, h⟩
  · refine fi_true rfl (decide_eq_true c101) ?_
    refine fi_seq ?_
    refine fi_region ?_
    refine so_assign (v := (.v (.bool true))) rfl ?_
    refine so_nil ?_
    exact by_ret rfl ⟨_, h, rfl, hs⟩
  · refine fi_false rfl (decide_eq_false c101) ?_
    refine fi_skip ?_
    refine fi_seq ?_
    refine fi_region ?_
    refine so_move (v := (.v (.str (pk a0)))) rfl ?_
    refine sv_call (spec_ReadBits_ok a0 hs  _ h) rfl rfl nofun ?_
    clear h hs
    rintro _ H106 ⟨y102, y105, h, v103, rfl, hs⟩
    refine so_move (v := (.t [(.v v103), (.v (.bool y105))])) rfl ?_
    refine so_extract rfl rfl rfl ?_
    refine so_extract rfl rfl rfl ?_
    refine so_assign (v := (.v v103)) rfl ?_
    refine so_assign (v := (.v (.bool y105))) rfl ?_
    refine so_nil ?_
    refine fi_seq ?_
    refine fi_region ?_
    refine so_move (v := (.v (.str (pk a0)))) rfl ?_
    refine sv_call (impl_ReadBits_ok a0 hs  _ h) rfl rfl nofun ?_
    clear h hs
    rintro _ H111 ⟨y107, y110, h, v108, rfl, hs⟩
    refine so_move (v := (.t [(.v v108), (.v (.bool y110))])) rfl ?_
    refine so_extract rfl rfl rfl ?_
    refine so_extract rfl rfl rfl ?_
    refine so_assign (v := (.v v108)) rfl ?_
    refine so_assign (v := (.v (.bool y110))) rfl ?_
    refine so_nil ?_
    refine fi_seq ?_
    refine fi_seq ?_
    refine fi_region ?_
    refine so_move (v := (.v v108)) rfl ?_
    refine so_move (v := (.v v103)) rfl ?_
    refine sv_callS (laws_eqBoolS_ok v108 y107 v103 y102 hs (fun _ hs => (hs.shows 0 rfl)) (fun _ hs => (hs.shows 1 rfl)) _ h) (fun _ _ ⟨_, _, _, e⟩ => e) rfl rfl ?_
    clear h
    rintro _ _ ⟨y112, h, rfl, rfl⟩
    refine so_un rfl au_not ?_
    refine so_move (v := (.v (.bool (!y112)))) rfl ?_
    replace h := ofT h; rcases h with ⟨c114, h⟩ | ⟨c114, h⟩
    · refine so_gyes rfl (not_f c114) ?_
      refine so_move (v := (.v (.bool y110))) rfl ?_
      refine so_gyes rfl (not_f c114) ?_
      refine so_move (v := (.v (.bool y105))) rfl ?_
      refine so_gyes rfl (not_f c114) ?_
      refine so_bin rfl rfl (ab_bneq F3.tb4) ?_
      refine so_pick_f (v := (.v (.bool (!(y110 == y105))))) rfl (not_f c114) rfl ?_
      refine so_nil ?_
      replace h := ofT h; rcases h with ⟨c115, h⟩ | ⟨c115, h⟩
      · refine fi_false rfl (not_f c115) ?_
        refine fi_skip ?_
        refine fi_seq ?_
        refine fi_region ?_
        refine so_assign (v := (.v (.int .i64 (1 : Int)))) rfl ?_
        refine so_nil ?_
        refine fi_seq ?_
        refine fi_region ?_
        refine so_move (v := (.v v108)) rfl ?_
        refine so_move (v := (.v (.int .i64 (1 : Int)))) rfl ?_
        refine sv_call (laws_markBoolS_ok v108 y107 (1 : Int) hs  _ h) rfl rfl nofun ?_
        clear h hs
        rintro _ H118 ⟨y116, y117, h, rfl, hs⟩
        refine so_assign (v := (.v (.int .i64 y116))) rfl ?_
        refine so_nil ?_
        refine fi_seq ?_
        refine fi_region ?_
        refine so_assign (v := (.v (.int .i64 (1 : Int)))) rfl ?_
        refine so_nil ?_
        refine fi_seq ?_
        refine fi_region ?_
        refine so_move (v := (.v v108)) rfl ?_
        refine so_move (v := (.v (.int .i64 (1 : Int)))) rfl ?_
        refine sv_callS (laws_heldBoolS_ok v108 y117 (1 : Int) hs (fun _ hs => (hs.shows 0 rfl)) _ h) (fun _ _ ⟨_, _, _, e⟩ => e) rfl rfl ?_
        clear h
        rintro _ _ ⟨y119, h, rfl, rfl⟩
        refine so_assign (v := (.v (.int .i64 y119))) rfl ?_
        refine so_nil ?_
        refine fi_seq ?_
        refine fi_seq ?_
        refine fi_region ?_
        refine so_move (v := (.v (.int .i64 y119))) rfl ?_
        refine so_bin rfl rfl ab_lss ?_
        refine so_nil ?_
        replace h := ofP h; rcases h with ⟨c121, h⟩ | ⟨c121, h⟩
        · refine fi_true rfl (decide_eq_true c121) ?_
          refine fi_seq ?_
          refine fi_region ?_
          refine so_assign (v := (.v (.bool false))) rfl ?_
          refine so_nil ?_
          exact by_ret rfl ⟨_, h, rfl, (Sep.del 0 (Sep.del 0 hs))⟩
        · refine fi_false rfl (decide_eq_false c121) ?_
          refine fi_skip ?_
          refine fi_seq ?_
          refine fi_seq ?_
          refine fi_region ?_
          refine so_move (v := (.v (.int .i64 y119))) rfl ?_
          refine so_move (v := (.v (.int .i64 y116))) rfl ?_
          refine so_bin rfl rfl ab_neq ?_
          refine so_nil ?_
          replace h := ofP h; rcases h with ⟨c122, h⟩ | ⟨c122, h⟩
          · refine fi_false rfl (not_f (decide_eq_true c122)) ?_
            refine fi_skip ?_
            refine fi_seq ?_
            refine fi_region ?_
            refine so_move (v := (.v (.str (pk a0)))) rfl ?_
            refine sv_call (impl_ReadBits_ok a0 hs  _ h) rfl rfl nofun ?_
            clear h hs
            rintro _ H127 ⟨y123, y126, h, v124, rfl, hs⟩
            refine so_move (v := (.t [(.v v124), (.v (.bool y126))])) rfl ?_
            refine so_extract rfl rfl rfl ?_
            refine so_extract rfl rfl rfl ?_
            refine so_assign (v := (.v v124)) rfl ?_
            refine so_assign (v := (.v (.bool y126))) rfl ?_
            refine so_nil ?_
            refine fi_seq ?_
            refine fi_seq ?_
            refine fi_region ?_
            refine so_move (v := (.v v124)) rfl ?_
            refine so_move (v := (.v v103)) rfl ?_
            refine sv_callS (laws_eqBoolS_ok v124 y123 v103 y102 hs (fun _ hs => (hs.shows 0 rfl)) (fun _ hs => (hs.shows 2 rfl)) _ h) (fun _ _ ⟨_, _, _, e⟩ => e) rfl rfl ?_
            clear h
            rintro _ _ ⟨y128, h, rfl, rfl⟩
            refine so_un rfl au_not ?_
            refine so_move (v := (.v (.bool (!y128)))) rfl ?_
            replace h := ofT h; rcases h with ⟨c130, h⟩ | ⟨c130, h⟩
            · refine so_gyes rfl (not_f c130) ?_
              refine so_move (v := (.v (.bool y126))) rfl ?_
              refine so_gyes rfl (not_f c130) ?_
              refine so_move (v := (.v (.bool y105))) rfl ?_
              refine so_gyes rfl (not_f c130) ?_
              refine so_bin rfl rfl (ab_bneq F3.tb4) ?_
              refine so_pick_f (v := (.v (.bool (!(y126 == y105))))) rfl (not_f c130) rfl ?_
              refine so_nil ?_
              replace h := ofT h; rcases h with ⟨c131, h⟩ | ⟨c131, h⟩
              · refine fi_false rfl (not_f c131) ?_
                refine fi_skip ?_
                refine fi_seq ?_
                refine fi_region ?_
                refine so_assign (v := (.v (.int .i64 (1 : Int)))) rfl ?_
                refine so_nil ?_
                refine fi_seq ?_
                refine fi_region ?_
                refine so_move (v := (.v v108)) rfl ?_
                refine so_move (v := (.v (.int .i64 (1 : Int)))) rfl ?_
                refine sv_callS (laws_heldBoolS_ok v108 y117 (1 : Int) hs (fun _ hs => (hs.shows 1 rfl)) _ h) (fun _ _ ⟨_, _, _, e⟩ => e) rfl rfl ?_
                clear h
                rintro _ _ ⟨y132, h, rfl, rfl⟩
                refine so_assign (v := (.v (.int .i64 y132))) rfl ?_
                refine so_nil ?_
                refine fi_seq ?_
                refine fi_seq ?_
                refine fi_region ?_
                refine so_move (v := (.v (.int .i64 y132))) rfl ?_
                refine so_bin rfl rfl ab_lss ?_
                refine so_nil ?_
                replace h := ofP h; rcases h with ⟨c134, h⟩ | ⟨c134, h⟩
                · refine fi_true rfl (decide_eq_true c134) ?_
                  refine fi_seq ?_
                  refine fi_region ?_
                  refine so_assign (v := (.v (.bool false))) rfl ?_
                  refine so_nil ?_
                  exact by_ret rfl ⟨_, h, rfl, (Sep.del 0 (Sep.del 0 (Sep.del 0 hs)))⟩
                · refine fi_false rfl (decide_eq_false c134) ?_
                  refine fi_skip ?_
                  refine fi_seq ?_
                  refine fi_seq ?_
                  refine fi_region ?_
                  refine so_move (v := (.v (.int .i64 y132))) rfl ?_
                  refine so_move (v := (.v (.int .i64 y116))) rfl ?_
                  refine so_bin rfl rfl ab_neq ?_
                  refine so_nil ?_
                  replace h := ofP h; rcases h with ⟨c135, h⟩ | ⟨c135, h⟩
                  · refine fi_false rfl (not_f (decide_eq_true c135)) ?_
                    refine fi_skip ?_
                    refine fi_seq ?_
                    refine fi_region ?_
                    refine so_assign (v := (.v (.bool true))) rfl ?_
                    refine so_nil ?_
                    exact by_ret rfl ⟨_, h, rfl, (Sep.del 0 (Sep.del 0 (Sep.del 0 hs)))⟩
                  · refine fi_true rfl (not_t (decide_eq_false c135)) ?_
                    refine fi_seq ?_
                    refine fi_region ?_
                    refine so_assign (v := (.v (.bool false))) rfl ?_
                    refine so_nil ?_
                    exact by_ret rfl ⟨_, h, rfl, (Sep.del 0 (Sep.del 0 (Sep.del 0 hs)))⟩
              · refine fi_true rfl (not_t c131) ?_
                refine fi_seq ?_
                refine fi_region ?_
                refine so_assign (v := (.v (.bool false))) rfl ?_
                refine so_nil ?_
                exact by_ret rfl ⟨_, h, rfl, (Sep.del 0 (Sep.del 0 (Sep.del 0 hs)))⟩
            · refine so_gno rfl (not_t c130) ?_
              refine so_gno rfl (not_t c130) ?_
              refine so_gno rfl (not_t c130) ?_
              refine so_pick_t (v := (.v (.bool true))) rfl (not_t c130) rfl ?_
              refine so_nil ?_
              refine fi_true rfl rfl ?_
              refine fi_seq ?_
              refine fi_region ?_
              refine so_assign (v := (.v (.bool false))) rfl ?_
              refine so_nil ?_
              exact by_ret rfl ⟨_, h, rfl, (Sep.del 0 (Sep.del 0 (Sep.del 0 hs)))⟩
          · refine fi_true rfl (not_t (decide_eq_false c122)) ?_
            refine fi_seq ?_
            refine fi_region ?_
            refine so_assign (v := (.v (.bool false))) rfl ?_
            refine so_nil ?_
            exact by_ret rfl ⟨_, h, rfl, (Sep.del 0 (Sep.del 0 hs))⟩
      · refine fi_true rfl (not_t c115) ?_
        refine fi_seq ?_
        refine fi_region ?_
        refine so_assign (v := (.v (.bool false))) rfl ?_
        refine so_nil ?_
        exact by_ret rfl ⟨_, h, rfl, (Sep.del 0 (Sep.del 0 hs))⟩
    · refine so_gno rfl (not_t c114) ?_
      refine so_gno rfl (not_t c114) ?_
      refine so_gno rfl (not_t c114) ?_
      refine so_pick_t (v := (.v (.bool true))) rfl (not_t c114) rfl ?_
      refine so_nil ?_
      refine fi_true rfl rfl ?_
      refine fi_seq ?_
      refine fi_region ?_
      refine so_assign (v := (.v (.bool false))) rfl ?_
      refine so_nil ?_
      exact by_ret rfl ⟨_, h, rfl, (Sep.del 0 (Sep.del 0 hs))⟩

end Go.Proofs.YtcgiboeilcdonaaDoor.G

