/-
  The model ends so. Printed by a program of the session; nothing here is trusted.
-/
import Derived.Test.YtcgiboeilcdonaaDoorProg
import Derived.KernelRfl
import Derived.Test.YtcgiboeilcdonaaDoorMExactReadSchemeWa
import Derived.Test.YtcgiboeilcdonaaDoorShelf
import Derived.Test.YtcgiboeilcdonaaDoorMExactReadSchemeKa
namespace Go.Proofs.YtcgiboeilcdonaaDoor.G
open Go Go.Ab Go.Proofs Go.Proofs.YtcgiboeilcdonaaDoor
set_option maxRecDepth 100000
set_option linter.unusedVariables false
set_option linter.unusedSimpArgs false
set_option maxHeartbeats 1000000
attribute [local irreducible] wops wopf Go.Ab.Fin
theorem F153.ar191 : tarr Tryd.prog 191 = some (65, 5) := by kernel_rfl
theorem F153.it163 : tint Tryd.prog 163 = some .u64 := by kernel_rfl
theorem F153.it170 : tint Tryd.prog 170 = some .u64 := by kernel_rfl
theorem F153.it5 : tint Tryd.prog 5 = some .u8 := by kernel_rfl
theorem F153.sr9 : tstr Tryd.prog 9 = true := by kernel_rfl
theorem F153.sz5 : tsz Tryd.prog 5 = some 1 := by kernel_rfl
theorem F153.te72 : telem Tryd.prog 72 = some 5 := by kernel_rfl
theorem F153.us3 : (Tryd.prog.underlying 3).isSome = true := by kernel_rfl
theorem F153.us72 : (Tryd.prog.underlying 72).isSome = true := by kernel_rfl
theorem F153.za191 : tzero Tryd.prog 191 = some (List.replicate 65 (.int .u8 (0 : Int))) := by kernel_rfl
theorem internal_strconv_formatBits_ok {fr : List Pc} {H : Heap} (v0 : AV) (l0 : List (Int)) (a1 : Int) (a2 : Int) (a3 : Bool) (a4 : Bool) (hs : Sep H (fr)) (g0 : ∀ H, Sep H fr → Shows H v0 1 (enc (eInt .u8) l0)) (gt8 : ∀ H, Sep H fr → HasTab 8 F.tab8 H) (K : (List (Int)) → (List UInt8) → Prop) (h : internal_strconv_formatBits.wp l0 a1 a2 a3 a4 K) : OkQ Tryd.prog 153 [(.v v0), (.v (.int .u64 a1)), (.v (.int .i64 a2)), (.v (.bool a3)), (.v (.bool a4))] H (fun r H2 => ∃ (y0 : List (Int)) (y1 : List UInt8), K y0 y1 ∧ ∃ (w0_ : AV), r = (.t [(.v w0_), (.v (.str (pk y1)))]) ∧ Sep H2 (Pc.osl w0_ 1 (enc (eInt .u8) y0) :: fr)) := by
  unfold internal_strconv_formatBits.wp at h
  refine of_body Tryd.f153 F.hm Tryd.func153 rfl Tryd.call153 (by kernel_rfl) (by simp) ?_
  refine fi_seq ?_
  refine fi_region ?_
  refine so_assign (v := (.v .nilsl)) rfl ?_
  refine so_assign (v := (.v (.str (pk ([] : List UInt8))))) rfl ?_
  refine so_nil ?_
  refine fi_seq ?_
  refine fi_seq ?_
  refine fi_region ?_
  refine so_move (v := (.v (.int .i64 a2))) rfl ?_
  refine so_bin rfl rfl ab_lss ?_
  refine so_move (v := (.v (.bool (decide (a2 < (2 : Int)))))) rfl ?_
  replace h := ofP h; rcases h with ⟨c101, h⟩ | ⟨c101, h⟩
  · refine so_gno rfl (decide_eq_true c101) ?_
    refine so_gno rfl (decide_eq_true c101) ?_
    refine so_pick_t (v := (.v (.bool true))) rfl (decide_eq_true c101) rfl ?_
    refine so_move (v := (.v (.bool true))) rfl ?_
    refine so_gno rfl rfl ?_
    refine so_gno rfl rfl ?_
    refine so_pick_t (v := (.v (.bool true))) rfl rfl rfl ?_
    refine so_nil ?_
    refine fi_true rfl rfl ?_
    refine fi_region ?_
    exact h.elim
  · refine so_gyes rfl (decide_eq_false c101) ?_
    refine so_move (v := (.v (.int .i64 a2))) rfl ?_
    refine so_gyes rfl (decide_eq_false c101) ?_
    refine so_bin rfl rfl ab_eql ?_
    refine so_pick_f (v := (.v (.bool (decide (a2 = (10 : Int)))))) rfl (decide_eq_false c101) rfl ?_
    refine so_move (v := (.v (.bool (decide (a2 = (10 : Int)))))) rfl ?_
    replace h := ofP h; rcases h with ⟨c102, h⟩ | ⟨c102, h⟩
    · refine so_gno rfl (decide_eq_true c102) ?_
      refine so_gno rfl (decide_eq_true c102) ?_
      refine so_pick_t (v := (.v (.bool true))) rfl (decide_eq_true c102) rfl ?_
      refine so_nil ?_
      refine fi_true rfl rfl ?_
      refine fi_region ?_
      exact h.elim
    · refine so_gyes rfl (decide_eq_false c102) ?_
      refine so_move (v := (.v (.int .i64 a2))) rfl ?_
      refine so_gyes rfl (decide_eq_false c102) ?_
      refine so_bin rfl rfl ab_gtr ?_
      refine so_pick_f (v := (.v (.bool (decide ((36 : Int) < a2))))) rfl (decide_eq_false c102) rfl ?_
      refine so_nil ?_
      replace h := ofP h; rcases h with ⟨c103, h⟩ | ⟨c103, h⟩
      · refine fi_true rfl (decide_eq_true c103) ?_
        refine fi_region ?_
        exact h.elim
      · refine fi_false rfl (decide_eq_false c103) ?_
        refine fi_skip ?_
        refine fi_seq ?_
        refine fi_region ?_
        refine sv_allocA hs 65 (eInt .u8) (0 : Int) (fun _ => rfl) F153.za191 (by rfl) (by rfl) nofun (fun v104 H105 nv104 av104 hs => ?_)
        refine so_nil ?_
        refine fi_seq ?_
        refine fi_region ?_
        refine so_assign (v := (.v (.int .i64 (65 : Int)))) rfl ?_
        refine so_nil ?_
        refine fi_seq ?_
        refine fi_seq ?_
        refine fi_region ?_
        refine so_move (v := (.v (.bool a3))) rfl ?_
        refine so_nil ?_
        replace h := ofT h; rcases h with ⟨c107, h⟩ | ⟨c107, h⟩
        · refine fi_true rfl c107 ?_
          refine fi_region ?_
          refine so_move (v := (.v (.int .u64 a1))) rfl ?_
          refine so_un rfl au_neg ?_
          refine so_assign (v := (.v (.int .u64 (IntKind.u64.wrap (0 - a1))))) rfl ?_
          refine so_nil ?_
          refine fi_seq ?_
          refine fi_seq ?_
          refine fi_region ?_
          refine so_move (v := (.v (.int .i64 a2))) rfl ?_
          refine sv_callS (internal_strconv_isPowerOfTwo_ok a2 hs  _ h) (fun _ _ ⟨_, _, _, e⟩ => e) rfl rfl ?_
          clear h
          rintro _ _ ⟨y108, h, rfl, rfl⟩
          refine so_nil ?_
          replace h := ofT h; rcases h with ⟨c110, h⟩ | ⟨c110, h⟩
          · refine fi_true rfl c110 ?_
            refine fi_seq ?_
            refine fi_region ?_
            refine so_move (v := (.v (.int .i64 a2))) rfl ?_
            refine sv_ii rfl F153.us3 F153.it170 ?_
            refine sv_callS (math_bits_TrailingZeros_ok (IntKind.u64.wrap a2) hs (fun _ hs => gt8 _ hs.tl) _ h) (fun _ _ ⟨_, _, _, e⟩ => e) rfl rfl ?_
            clear h
            rintro _ _ ⟨y111, h, rfl, rfl⟩
            refine sv_ii rfl F153.us3 F153.it170 ?_
            refine so_assign (v := (.v (.int .u64 (IntKind.u64.wrap y111)))) rfl ?_
            refine so_nil ?_
            refine fi_seq ?_
            refine fi_region ?_
            refine so_move (v := (.v (.int .i64 a2))) rfl ?_
            refine sv_ii rfl F153.us3 F153.it163 ?_
            refine so_assign (v := (.v (.int .u64 (IntKind.u64.wrap a2)))) rfl ?_
            refine so_nil ?_
            refine fi_seq ?_
            refine fi_region ?_
            refine so_move (v := (.v (.int .i64 a2))) rfl ?_
            refine sv_ii rfl F153.us3 F153.it170 ?_
            refine so_bin rfl rfl ab_sub ?_
            refine so_assign (v := (.v (.int .u64 (IntKind.u64.wrap ((IntKind.u64.wrap a2) - (1 : Int)))))) rfl ?_
            refine so_nil ?_
            refine fi_seq ?_
            refine fi_block ?_
            refine fi_loop ?_
            refine fi_at [(0, (.v v0)), (1, (.v (.int .u64 (IntKind.u64.wrap (0 - a1))))), (3, (.v (.bool a3))), (4, (.v (.bool a4))), (10, (.v .nilsl)), (11, (.v (.str (pk ([] : List UInt8))))), (12, (.v (.ptr v104.id0 0))), (13, (.v (.int .i64 (65 : Int)))), (14, (.v (.int .u64 (IntKind.u64.wrap y111)))), (15, (.v (.int .u64 (IntKind.u64.wrap a2)))), (16, (.v (.int .u64 (IntKind.u64.wrap ((IntKind.u64.wrap a2) - (1 : Int))))))] ⟨rfl, rfl, rfl, rfl, rfl, rfl, rfl, rfl, rfl, rfl, rfl, trivial⟩ ?_
            refine h (fun (l130 : List (Int)) (u131 : Int) (i132 : Int) => ∀ (s : Nat → TV) (H : Heap), Sep H (Pc.osl v104 1 (enc (eInt .u8) l130) :: fr) → Fin _ _ (updL s [(0, (.v v0)), (1, (.v (.int .u64 u131))), (3, (.v (.bool a3))), (4, (.v (.bool a4))), (10, (.v .nilsl)), (11, (.v (.str (pk ([] : List UInt8))))), (12, (.v (.ptr v104.id0 0))), (13, (.v (.int .i64 i132))), (14, (.v (.int .u64 (IntKind.u64.wrap y111)))), (15, (.v (.int .u64 (IntKind.u64.wrap a2)))), (16, (.v (.int .u64 (IntKind.u64.wrap ((IntKind.u64.wrap a2) - (1 : Int))))))]) H _) ?_ _ _ hs
            intro l130 u131 i132 h s146 H147 hs
            refine fi_inLoop ?_
            refine fi_seq ?_
            refine fi_seq ?_
            refine fi_region ?_
            refine so_move (v := (.v (.int .u64 u131))) rfl ?_
            refine so_move (v := (.v (.int .u64 (IntKind.u64.wrap a2)))) rfl ?_
            refine so_bin rfl rfl ab_geq ?_
            refine so_nil ?_
            replace h := ofP h; rcases h with ⟨c133, h⟩ | ⟨c133, h⟩
            · refine fi_true rfl (decide_eq_true c133) ?_
              refine fi_skip ?_
              refine fi_block ?_
              refine fi_seq ?_
              refine fi_region ?_
              refine so_move (v := (.v (.int .i64 i132))) rfl ?_
              refine so_bin rfl rfl ab_sub ?_
              refine so_assign (v := (.v (.int .i64 (IntKind.i64.wrap (i132 - (1 : Int)))))) rfl ?_
              refine so_nil ?_
              refine fi_seq ?_
              refine fi_region ?_
              refine so_move (v := (.v (.int .i64 (IntKind.i64.wrap (i132 - (1 : Int)))))) rfl ?_
              refine so_move (v := (.v (.int .u64 u131))) rfl ?_
              refine so_move (v := (.v (.int .u64 (IntKind.u64.wrap ((IntKind.u64.wrap a2) - (1 : Int)))))) rfl ?_
              refine so_bin rfl rfl ab_and ?_
              obtain ⟨c134, h⟩ := h
              refine so_index rfl rfl F153.sr9 c134 ?_
              obtain ⟨c135, h⟩ := h
              refine sv_idxA hs 0 rfl av104 c135 (fun _ => rfl) (by decide) rfl rfl F153.ar191 F153.sz5 ?_
              refine sv_set hs 0 rfl c135 (bt ([48, 49, 50, 51, 52, 53, 54, 55, 56, 57, 97, 98, 99, 100, 101, 102, 103, 104, 105, 106, 107, 108, 109, 110, 111, 112, 113, 114, 115, 116, 117, 118, 119, 120, 121, 122] : List UInt8) (ibits .and .u64 u131 (IntKind.u64.wrap ((IntKind.u64.wrap a2) - (1 : Int))))) (fun _ => rfl) (by decide) rfl rfl rfl rfl F153.sz5 nofun (fun H136 hs => ?_)
              refine so_nil ?_
              refine fi_region ?_
              refine so_move (v := (.v (.int .u64 u131))) rfl ?_
              refine so_move (v := (.v (.int .u64 (IntKind.u64.wrap y111)))) rfl ?_
              obtain ⟨c137, h⟩ := h
              refine so_bin rfl rfl (ab_shr c137) ?_
              refine so_assign (v := (.v (.int .u64 (Int.fdiv u131 (2 ^ (min ((IntKind.u64.wrap y111)).toNat IntKind.u64.bits)))))) rfl ?_
              refine so_nil ?_
              refine fi_inBlock ?_
              exact fi_at [(0, (.v v0)), (1, (.v (.int .u64 (Int.fdiv u131 (2 ^ (min ((IntKind.u64.wrap y111)).toNat IntKind.u64.bits)))))), (3, (.v (.bool a3))), (4, (.v (.bool a4))), (10, (.v .nilsl)), (11, (.v (.str (pk ([] : List UInt8))))), (12, (.v (.ptr v104.id0 0))), (13, (.v (.int .i64 (IntKind.i64.wrap (i132 - (1 : Int)))))), (14, (.v (.int .u64 (IntKind.u64.wrap y111)))), (15, (.v (.int .u64 (IntKind.u64.wrap a2)))), (16, (.v (.int .u64 (IntKind.u64.wrap ((IntKind.u64.wrap a2) - (1 : Int))))))] ⟨rfl, rfl, rfl, rfl, rfl, rfl, rfl, rfl, rfl, rfl, rfl, trivial⟩ (h _ _  hs)
            · refine fi_false rfl (decide_eq_false c133) ?_
              refine fi_exit rfl ?_
              refine fi_seq ?_
              refine fi_region ?_
              refine so_move (v := (.v (.int .i64 i132))) rfl ?_
              refine so_bin rfl rfl ab_sub ?_
              refine so_assign (v := (.v (.int .i64 (IntKind.i64.wrap (i132 - (1 : Int)))))) rfl ?_
              refine so_nil ?_
              refine fi_region ?_
              refine so_move (v := (.v (.int .i64 (IntKind.i64.wrap (i132 - (1 : Int)))))) rfl ?_
              refine so_move (v := (.v (.int .u64 u131))) rfl ?_
              obtain ⟨c138, h⟩ := h
              refine so_index rfl rfl F153.sr9 c138 ?_
              obtain ⟨c139, h⟩ := h
              refine sv_idxA hs 0 rfl av104 c139 (fun _ => rfl) (by decide) rfl rfl F153.ar191 F153.sz5 ?_
              refine sv_set hs 0 rfl c139 (bt ([48, 49, 50, 51, 52, 53, 54, 55, 56, 57, 97, 98, 99, 100, 101, 102, 103, 104, 105, 106, 107, 108, 109, 110, 111, 112, 113, 114, 115, 116, 117, 118, 119, 120, 121, 122] : List UInt8) u131) (fun _ => rfl) (by decide) rfl rfl rfl rfl F153.sz5 nofun (fun H140 hs => ?_)
              refine so_nil ?_
              refine fi_seq ?_
              refine fi_seq ?_
              refine fi_region ?_
              refine so_move (v := (.v (.bool a3))) rfl ?_
              refine so_nil ?_
              refine fi_true rfl c107 ?_
              refine fi_seq ?_
              refine fi_region ?_
              refine so_move (v := (.v (.int .i64 (IntKind.i64.wrap (i132 - (1 : Int)))))) rfl ?_
              refine so_bin rfl rfl ab_sub ?_
              refine so_assign (v := (.v (.int .i64 (IntKind.i64.wrap ((IntKind.i64.wrap (i132 - (1 : Int))) - (1 : Int)))))) rfl ?_
              refine so_nil ?_
              refine fi_region ?_
              refine so_move (v := (.v (.int .i64 (IntKind.i64.wrap ((IntKind.i64.wrap (i132 - (1 : Int))) - (1 : Int)))))) rfl ?_
              obtain ⟨c141, h⟩ := h
              refine sv_idxA hs 0 rfl av104 c141 (fun _ => rfl) (by decide) rfl rfl F153.ar191 F153.sz5 ?_
              refine sv_set hs 0 rfl c141 (45 : Int) (fun _ => rfl) (by decide) rfl rfl rfl rfl F153.sz5 nofun (fun H142 hs => ?_)
              refine so_nil ?_
              refine fi_seq ?_
              refine fi_seq ?_
              refine fi_region ?_
              refine so_move (v := (.v (.bool a4))) rfl ?_
              refine so_nil ?_
              replace h := ofT h; rcases h with ⟨c143, h⟩ | ⟨c143, h⟩
              · exact h.elim
              · refine fi_false rfl c143 ?_
                refine fi_skip ?_
                refine fi_seq ?_
                refine fi_region ?_
                refine so_move (v := (.v (.int .i64 (IntKind.i64.wrap ((IntKind.i64.wrap (i132 - (1 : Int))) - (1 : Int)))))) rfl ?_
                obtain ⟨c145, h⟩ := h
                refine sv_sliceA hs 0 rfl av104 c145 (fun _ => rfl) (by decide) rfl rfl rfl rfl rfl F153.ar191 F153.sz5 ?_
                refine sv_bs (Shows.cut (e := (eInt .u8)) (n := 1) (fun _ => rfl) (hs.shows 0 rfl) (by decide) (cutok c145)) (cut_nn nv104) rfl F153.te72 F153.it5 F153.sr9 ?_
                refine so_assign (v := (.v (.str (pk (byts ((((l130.set ((IntKind.i64.wrap (i132 - (1 : Int)))).toNat (bt ([48, 49, 50, 51, 52, 53, 54, 55, 56, 57, 97, 98, 99, 100, 101, 102, 103, 104, 105, 106, 107, 108, 109, 110, 111, 112, 113, 114, 115, 116, 117, 118, 119, 120, 121, 122] : List UInt8) u131)).set ((IntKind.i64.wrap ((IntKind.i64.wrap (i132 - (1 : Int))) - (1 : Int)))).toNat (45 : Int)).drop ((IntKind.i64.wrap ((IntKind.i64.wrap (i132 - (1 : Int))) - (1 : Int)))).toNat).take (((((l130.set ((IntKind.i64.wrap (i132 - (1 : Int)))).toNat (bt ([48, 49, 50, 51, 52, 53, 54, 55, 56, 57, 97, 98, 99, 100, 101, 102, 103, 104, 105, 106, 107, 108, 109, 110, 111, 112, 113, 114, 115, 116, 117, 118, 119, 120, 121, 122] : List UInt8) u131)).set ((IntKind.i64.wrap ((IntKind.i64.wrap (i132 - (1 : Int))) - (1 : Int)))).toNat (45 : Int)).length : Int)).toNat - ((IntKind.i64.wrap ((IntKind.i64.wrap (i132 - (1 : Int))) - (1 : Int)))).toNat))))))) rfl ?_
                refine so_nil ?_
                exact by_ret rfl ⟨_, _, h, _, rfl, (Sep.nil (Sep.del 0 hs) 1)⟩
          · refine fi_false rfl c110 ?_
            refine fi_seq ?_
            refine fi_region ?_
            refine so_move (v := (.v (.int .i64 a2))) rfl ?_
            refine sv_ii rfl F153.us3 F153.it163 ?_
            refine so_assign (v := (.v (.int .u64 (IntKind.u64.wrap a2)))) rfl ?_
            refine so_nil ?_
            refine fi_seq ?_
            refine fi_block ?_
            refine fi_loop ?_
            refine fi_at [(0, (.v v0)), (1, (.v (.int .u64 (IntKind.u64.wrap (0 - a1))))), (3, (.v (.bool a3))), (4, (.v (.bool a4))), (10, (.v .nilsl)), (11, (.v (.str (pk ([] : List UInt8))))), (12, (.v (.ptr v104.id0 0))), (13, (.v (.int .i64 (65 : Int)))), (17, (.v (.int .u64 (IntKind.u64.wrap a2))))] ⟨rfl, rfl, rfl, rfl, rfl, rfl, rfl, rfl, rfl, trivial⟩ ?_
            refine h (fun (l165 : List (Int)) (u166 : Int) (i167 : Int) => ∀ (s : Nat → TV) (H : Heap), Sep H (Pc.osl v104 1 (enc (eInt .u8) l165) :: fr) → Fin _ _ (updL s [(0, (.v v0)), (1, (.v (.int .u64 u166))), (3, (.v (.bool a3))), (4, (.v (.bool a4))), (10, (.v .nilsl)), (11, (.v (.str (pk ([] : List UInt8))))), (12, (.v (.ptr v104.id0 0))), (13, (.v (.int .i64 i167))), (17, (.v (.int .u64 (IntKind.u64.wrap a2))))]) H _) ?_ _ _ hs
            intro l165 u166 i167 h s181 H182 hs
            refine fi_inLoop ?_
            refine fi_seq ?_
            refine fi_seq ?_
            refine fi_region ?_
            refine so_move (v := (.v (.int .u64 u166))) rfl ?_
            refine so_move (v := (.v (.int .u64 (IntKind.u64.wrap a2)))) rfl ?_
            refine so_bin rfl rfl ab_geq ?_
            refine so_nil ?_
            replace h := ofP h; rcases h with ⟨c168, h⟩ | ⟨c168, h⟩
            · refine fi_true rfl (decide_eq_true c168) ?_
              refine fi_skip ?_
              refine fi_block ?_
              refine fi_seq ?_
              refine fi_region ?_
              refine so_move (v := (.v (.int .i64 i167))) rfl ?_
              refine so_bin rfl rfl ab_sub ?_
              refine so_assign (v := (.v (.int .i64 (IntKind.i64.wrap (i167 - (1 : Int)))))) rfl ?_
              refine so_nil ?_
              refine fi_seq ?_
              refine fi_region ?_
              refine so_move (v := (.v (.int .u64 u166))) rfl ?_
              refine so_move (v := (.v (.int .u64 (IntKind.u64.wrap a2)))) rfl ?_
              obtain ⟨c169, h⟩ := h
              refine so_bin rfl rfl (ab_quo c169) ?_
              refine so_assign (v := (.v (.int .u64 (IntKind.u64.wrap (Int.tdiv u166 (IntKind.u64.wrap a2)))))) rfl ?_
              refine so_nil ?_
              refine fi_seq ?_
              refine fi_region ?_
              refine so_move (v := (.v (.int .i64 (IntKind.i64.wrap (i167 - (1 : Int)))))) rfl ?_
              refine so_move (v := (.v (.int .u64 u166))) rfl ?_
              refine so_move (v := (.v (.int .u64 (IntKind.u64.wrap (Int.tdiv u166 (IntKind.u64.wrap a2)))))) rfl ?_
              refine so_move (v := (.v (.int .u64 (IntKind.u64.wrap a2)))) rfl ?_
              refine so_bin rfl rfl ab_mul ?_
              refine so_bin rfl rfl ab_sub ?_
              obtain ⟨c170, h⟩ := h
              refine so_index rfl rfl F153.sr9 c170 ?_
              obtain ⟨c171, h⟩ := h
              refine sv_idxA hs 0 rfl av104 c171 (fun _ => rfl) (by decide) rfl rfl F153.ar191 F153.sz5 ?_
              refine sv_set hs 0 rfl c171 (bt ([48, 49, 50, 51, 52, 53, 54, 55, 56, 57, 97, 98, 99, 100, 101, 102, 103, 104, 105, 106, 107, 108, 109, 110, 111, 112, 113, 114, 115, 116, 117, 118, 119, 120, 121, 122] : List UInt8) (IntKind.u64.wrap (u166 - (IntKind.u64.wrap ((IntKind.u64.wrap (Int.tdiv u166 (IntKind.u64.wrap a2))) * (IntKind.u64.wrap a2)))))) (fun _ => rfl) (by decide) rfl rfl rfl rfl F153.sz5 nofun (fun H172 hs => ?_)
              refine so_nil ?_
              refine fi_region ?_
              refine so_move (v := (.v (.int .u64 (IntKind.u64.wrap (Int.tdiv u166 (IntKind.u64.wrap a2)))))) rfl ?_
              refine so_assign (v := (.v (.int .u64 (IntKind.u64.wrap (Int.tdiv u166 (IntKind.u64.wrap a2)))))) rfl ?_
              refine so_nil ?_
              refine fi_inBlock ?_
              exact fi_at [(0, (.v v0)), (1, (.v (.int .u64 (IntKind.u64.wrap (Int.tdiv u166 (IntKind.u64.wrap a2)))))), (3, (.v (.bool a3))), (4, (.v (.bool a4))), (10, (.v .nilsl)), (11, (.v (.str (pk ([] : List UInt8))))), (12, (.v (.ptr v104.id0 0))), (13, (.v (.int .i64 (IntKind.i64.wrap (i167 - (1 : Int)))))), (17, (.v (.int .u64 (IntKind.u64.wrap a2))))] ⟨rfl, rfl, rfl, rfl, rfl, rfl, rfl, rfl, rfl, trivial⟩ (h _ _  hs)
            · refine fi_false rfl (decide_eq_false c168) ?_
              refine fi_exit rfl ?_
              refine fi_seq ?_
              refine fi_region ?_
              refine so_move (v := (.v (.int .i64 i167))) rfl ?_
              refine so_bin rfl rfl ab_sub ?_
              refine so_assign (v := (.v (.int .i64 (IntKind.i64.wrap (i167 - (1 : Int)))))) rfl ?_
              refine so_nil ?_
              refine fi_region ?_
              refine so_move (v := (.v (.int .i64 (IntKind.i64.wrap (i167 - (1 : Int)))))) rfl ?_
              refine so_move (v := (.v (.int .u64 u166))) rfl ?_
              obtain ⟨c173, h⟩ := h
              refine so_index rfl rfl F153.sr9 c173 ?_
              obtain ⟨c174, h⟩ := h
              refine sv_idxA hs 0 rfl av104 c174 (fun _ => rfl) (by decide) rfl rfl F153.ar191 F153.sz5 ?_
              refine sv_set hs 0 rfl c174 (bt ([48, 49, 50, 51, 52, 53, 54, 55, 56, 57, 97, 98, 99, 100, 101, 102, 103, 104, 105, 106, 107, 108, 109, 110, 111, 112, 113, 114, 115, 116, 117, 118, 119, 120, 121, 122] : List UInt8) u166) (fun _ => rfl) (by decide) rfl rfl rfl rfl F153.sz5 nofun (fun H175 hs => ?_)
              refine so_nil ?_
              refine fi_seq ?_
              refine fi_seq ?_
              refine fi_region ?_
              refine so_move (v := (.v (.bool a3))) rfl ?_
              refine so_nil ?_
              refine fi_true rfl c107 ?_
              refine fi_seq ?_
              refine fi_region ?_
              refine so_move (v := (.v (.int .i64 (IntKind.i64.wrap (i167 - (1 : Int)))))) rfl ?_
              refine so_bin rfl rfl ab_sub ?_
              refine so_assign (v := (.v (.int .i64 (IntKind.i64.wrap ((IntKind.i64.wrap (i167 - (1 : Int))) - (1 : Int)))))) rfl ?_
              refine so_nil ?_
              refine fi_region ?_
              refine so_move (v := (.v (.int .i64 (IntKind.i64.wrap ((IntKind.i64.wrap (i167 - (1 : Int))) - (1 : Int)))))) rfl ?_
              obtain ⟨c176, h⟩ := h
              refine sv_idxA hs 0 rfl av104 c176 (fun _ => rfl) (by decide) rfl rfl F153.ar191 F153.sz5 ?_
              refine sv_set hs 0 rfl c176 (45 : Int) (fun _ => rfl) (by decide) rfl rfl rfl rfl F153.sz5 nofun (fun H177 hs => ?_)
              refine so_nil ?_
              refine fi_seq ?_
              refine fi_seq ?_
              refine fi_region ?_
              refine so_move (v := (.v (.bool a4))) rfl ?_
              refine so_nil ?_
              replace h := ofT h; rcases h with ⟨c178, h⟩ | ⟨c178, h⟩
              · exact h.elim
              · refine fi_false rfl c178 ?_
                refine fi_skip ?_
                refine fi_seq ?_
                refine fi_region ?_
                refine so_move (v := (.v (.int .i64 (IntKind.i64.wrap ((IntKind.i64.wrap (i167 - (1 : Int))) - (1 : Int)))))) rfl ?_
                obtain ⟨c180, h⟩ := h
                refine sv_sliceA hs 0 rfl av104 c180 (fun _ => rfl) (by decide) rfl rfl rfl rfl rfl F153.ar191 F153.sz5 ?_
                refine sv_bs (Shows.cut (e := (eInt .u8)) (n := 1) (fun _ => rfl) (hs.shows 0 rfl) (by decide) (cutok c180)) (cut_nn nv104) rfl F153.te72 F153.it5 F153.sr9 ?_
                refine so_assign (v := (.v (.str (pk (byts ((((l165.set ((IntKind.i64.wrap (i167 - (1 : Int)))).toNat (bt ([48, 49, 50, 51, 52, 53, 54, 55, 56, 57, 97, 98, 99, 100, 101, 102, 103, 104, 105, 106, 107, 108, 109, 110, 111, 112, 113, 114, 115, 116, 117, 118, 119, 120, 121, 122] : List UInt8) u166)).set ((IntKind.i64.wrap ((IntKind.i64.wrap (i167 - (1 : Int))) - (1 : Int)))).toNat (45 : Int)).drop ((IntKind.i64.wrap ((IntKind.i64.wrap (i167 - (1 : Int))) - (1 : Int)))).toNat).take (((((l165.set ((IntKind.i64.wrap (i167 - (1 : Int)))).toNat (bt ([48, 49, 50, 51, 52, 53, 54, 55, 56, 57, 97, 98, 99, 100, 101, 102, 103, 104, 105, 106, 107, 108, 109, 110, 111, 112, 113, 114, 115, 116, 117, 118, 119, 120, 121, 122] : List UInt8) u166)).set ((IntKind.i64.wrap ((IntKind.i64.wrap (i167 - (1 : Int))) - (1 : Int)))).toNat (45 : Int)).length : Int)).toNat - ((IntKind.i64.wrap ((IntKind.i64.wrap (i167 - (1 : Int))) - (1 : Int)))).toNat))))))) rfl ?_
                refine so_nil ?_
                exact by_ret rfl ⟨_, _, h, _, rfl, (Sep.nil (Sep.del 0 hs) 1)⟩
        · refine fi_false rfl c107 ?_
          refine fi_skip ?_
          refine fi_seq ?_
          refine fi_seq ?_
          refine fi_region ?_
          refine so_move (v := (.v (.int .i64 a2))) rfl ?_
          refine sv_callS (internal_strconv_isPowerOfTwo_ok a2 hs  _ h) (fun _ _ ⟨_, _, _, e⟩ => e) rfl rfl ?_
          clear h
          rintro _ _ ⟨y183, h, rfl, rfl⟩
          refine so_nil ?_
          replace h := ofT h; rcases h with ⟨c185, h⟩ | ⟨c185, h⟩
          · refine fi_true rfl c185 ?_
            refine fi_seq ?_
            refine fi_region ?_
            refine so_move (v := (.v (.int .i64 a2))) rfl ?_
            refine sv_ii rfl F153.us3 F153.it170 ?_
            refine sv_callS (math_bits_TrailingZeros_ok (IntKind.u64.wrap a2) hs (fun _ hs => gt8 _ hs.tl) _ h) (fun _ _ ⟨_, _, _, e⟩ => e) rfl rfl ?_
            clear h
            rintro _ _ ⟨y186, h, rfl, rfl⟩
            refine sv_ii rfl F153.us3 F153.it170 ?_
            refine so_assign (v := (.v (.int .u64 (IntKind.u64.wrap y186)))) rfl ?_
            refine so_nil ?_
            refine fi_seq ?_
            refine fi_region ?_
            refine so_move (v := (.v (.int .i64 a2))) rfl ?_
            refine sv_ii rfl F153.us3 F153.it163 ?_
            refine so_assign (v := (.v (.int .u64 (IntKind.u64.wrap a2)))) rfl ?_
            refine so_nil ?_
            refine fi_seq ?_
            refine fi_region ?_
            refine so_move (v := (.v (.int .i64 a2))) rfl ?_
            refine sv_ii rfl F153.us3 F153.it170 ?_
            refine so_bin rfl rfl ab_sub ?_
            refine so_assign (v := (.v (.int .u64 (IntKind.u64.wrap ((IntKind.u64.wrap a2) - (1 : Int)))))) rfl ?_
            refine so_nil ?_
            refine fi_seq ?_
            refine fi_block ?_
            refine fi_loop ?_
            refine fi_at [(0, (.v v0)), (1, (.v (.int .u64 a1))), (3, (.v (.bool a3))), (4, (.v (.bool a4))), (10, (.v .nilsl)), (11, (.v (.str (pk ([] : List UInt8))))), (12, (.v (.ptr v104.id0 0))), (13, (.v (.int .i64 (65 : Int)))), (14, (.v (.int .u64 (IntKind.u64.wrap y186)))), (15, (.v (.int .u64 (IntKind.u64.wrap a2)))), (16, (.v (.int .u64 (IntKind.u64.wrap ((IntKind.u64.wrap a2) - (1 : Int))))))] ⟨rfl, rfl, rfl, rfl, rfl, rfl, rfl, rfl, rfl, rfl, rfl, trivial⟩ ?_
            refine h (fun (l203 : List (Int)) (u204 : Int) (i205 : Int) => ∀ (s : Nat → TV) (H : Heap), Sep H (Pc.osl v104 1 (enc (eInt .u8) l203) :: fr) → Fin _ _ (updL s [(0, (.v v0)), (1, (.v (.int .u64 u204))), (3, (.v (.bool a3))), (4, (.v (.bool a4))), (10, (.v .nilsl)), (11, (.v (.str (pk ([] : List UInt8))))), (12, (.v (.ptr v104.id0 0))), (13, (.v (.int .i64 i205))), (14, (.v (.int .u64 (IntKind.u64.wrap y186)))), (15, (.v (.int .u64 (IntKind.u64.wrap a2)))), (16, (.v (.int .u64 (IntKind.u64.wrap ((IntKind.u64.wrap a2) - (1 : Int))))))]) H _) ?_ _ _ hs
            intro l203 u204 i205 h s217 H218 hs
            refine fi_inLoop ?_
            refine fi_seq ?_
            refine fi_seq ?_
            refine fi_region ?_
            refine so_move (v := (.v (.int .u64 u204))) rfl ?_
            refine so_move (v := (.v (.int .u64 (IntKind.u64.wrap a2)))) rfl ?_
            refine so_bin rfl rfl ab_geq ?_
            refine so_nil ?_
            replace h := ofP h; rcases h with ⟨c206, h⟩ | ⟨c206, h⟩
            · refine fi_true rfl (decide_eq_true c206) ?_
              refine fi_skip ?_
              refine fi_block ?_
              refine fi_seq ?_
              refine fi_region ?_
              refine so_move (v := (.v (.int .i64 i205))) rfl ?_
              refine so_bin rfl rfl ab_sub ?_
              refine so_assign (v := (.v (.int .i64 (IntKind.i64.wrap (i205 - (1 : Int)))))) rfl ?_
              refine so_nil ?_
              refine fi_seq ?_
              refine fi_region ?_
              refine so_move (v := (.v (.int .i64 (IntKind.i64.wrap (i205 - (1 : Int)))))) rfl ?_
              refine so_move (v := (.v (.int .u64 u204))) rfl ?_
              refine so_move (v := (.v (.int .u64 (IntKind.u64.wrap ((IntKind.u64.wrap a2) - (1 : Int)))))) rfl ?_
              refine so_bin rfl rfl ab_and ?_
              obtain ⟨c207, h⟩ := h
              refine so_index rfl rfl F153.sr9 c207 ?_
              obtain ⟨c208, h⟩ := h
              refine sv_idxA hs 0 rfl av104 c208 (fun _ => rfl) (by decide) rfl rfl F153.ar191 F153.sz5 ?_
              refine sv_set hs 0 rfl c208 (bt ([48, 49, 50, 51, 52, 53, 54, 55, 56, 57, 97, 98, 99, 100, 101, 102, 103, 104, 105, 106, 107, 108, 109, 110, 111, 112, 113, 114, 115, 116, 117, 118, 119, 120, 121, 122] : List UInt8) (ibits .and .u64 u204 (IntKind.u64.wrap ((IntKind.u64.wrap a2) - (1 : Int))))) (fun _ => rfl) (by decide) rfl rfl rfl rfl F153.sz5 nofun (fun H209 hs => ?_)
              refine so_nil ?_
              refine fi_region ?_
              refine so_move (v := (.v (.int .u64 u204))) rfl ?_
              refine so_move (v := (.v (.int .u64 (IntKind.u64.wrap y186)))) rfl ?_
              obtain ⟨c210, h⟩ := h
              refine so_bin rfl rfl (ab_shr c210) ?_
              refine so_assign (v := (.v (.int .u64 (Int.fdiv u204 (2 ^ (min ((IntKind.u64.wrap y186)).toNat IntKind.u64.bits)))))) rfl ?_
              refine so_nil ?_
              refine fi_inBlock ?_
              exact fi_at [(0, (.v v0)), (1, (.v (.int .u64 (Int.fdiv u204 (2 ^ (min ((IntKind.u64.wrap y186)).toNat IntKind.u64.bits)))))), (3, (.v (.bool a3))), (4, (.v (.bool a4))), (10, (.v .nilsl)), (11, (.v (.str (pk ([] : List UInt8))))), (12, (.v (.ptr v104.id0 0))), (13, (.v (.int .i64 (IntKind.i64.wrap (i205 - (1 : Int)))))), (14, (.v (.int .u64 (IntKind.u64.wrap y186)))), (15, (.v (.int .u64 (IntKind.u64.wrap a2)))), (16, (.v (.int .u64 (IntKind.u64.wrap ((IntKind.u64.wrap a2) - (1 : Int))))))] ⟨rfl, rfl, rfl, rfl, rfl, rfl, rfl, rfl, rfl, rfl, rfl, trivial⟩ (h _ _  hs)
            · refine fi_false rfl (decide_eq_false c206) ?_
              refine fi_exit rfl ?_
              refine fi_seq ?_
              refine fi_region ?_
              refine so_move (v := (.v (.int .i64 i205))) rfl ?_
              refine so_bin rfl rfl ab_sub ?_
              refine so_assign (v := (.v (.int .i64 (IntKind.i64.wrap (i205 - (1 : Int)))))) rfl ?_
              refine so_nil ?_
              refine fi_region ?_
              refine so_move (v := (.v (.int .i64 (IntKind.i64.wrap (i205 - (1 : Int)))))) rfl ?_
              refine so_move (v := (.v (.int .u64 u204))) rfl ?_
              obtain ⟨c211, h⟩ := h
              refine so_index rfl rfl F153.sr9 c211 ?_
              obtain ⟨c212, h⟩ := h
              refine sv_idxA hs 0 rfl av104 c212 (fun _ => rfl) (by decide) rfl rfl F153.ar191 F153.sz5 ?_
              refine sv_set hs 0 rfl c212 (bt ([48, 49, 50, 51, 52, 53, 54, 55, 56, 57, 97, 98, 99, 100, 101, 102, 103, 104, 105, 106, 107, 108, 109, 110, 111, 112, 113, 114, 115, 116, 117, 118, 119, 120, 121, 122] : List UInt8) u204) (fun _ => rfl) (by decide) rfl rfl rfl rfl F153.sz5 nofun (fun H213 hs => ?_)
              refine so_nil ?_
              refine fi_seq ?_
              refine fi_seq ?_
              refine fi_region ?_
              refine so_move (v := (.v (.bool a3))) rfl ?_
              refine so_nil ?_
              refine fi_false rfl c107 ?_
              refine fi_skip ?_
              refine fi_seq ?_
              refine fi_seq ?_
              refine fi_region ?_
              refine so_move (v := (.v (.bool a4))) rfl ?_
              refine so_nil ?_
              replace h := ofT h; rcases h with ⟨c214, h⟩ | ⟨c214, h⟩
              · exact h.elim
              · refine fi_false rfl c214 ?_
                refine fi_skip ?_
                refine fi_seq ?_
                refine fi_region ?_
                refine so_move (v := (.v (.int .i64 (IntKind.i64.wrap (i205 - (1 : Int)))))) rfl ?_
                obtain ⟨c216, h⟩ := h
                refine sv_sliceA hs 0 rfl av104 c216 (fun _ => rfl) (by decide) rfl rfl rfl rfl rfl F153.ar191 F153.sz5 ?_
                refine sv_bs (Shows.cut (e := (eInt .u8)) (n := 1) (fun _ => rfl) (hs.shows 0 rfl) (by decide) (cutok c216)) (cut_nn nv104) rfl F153.te72 F153.it5 F153.sr9 ?_
                refine so_assign (v := (.v (.str (pk (byts (((l203.set ((IntKind.i64.wrap (i205 - (1 : Int)))).toNat (bt ([48, 49, 50, 51, 52, 53, 54, 55, 56, 57, 97, 98, 99, 100, 101, 102, 103, 104, 105, 106, 107, 108, 109, 110, 111, 112, 113, 114, 115, 116, 117, 118, 119, 120, 121, 122] : List UInt8) u204)).drop ((IntKind.i64.wrap (i205 - (1 : Int)))).toNat).take ((((l203.set ((IntKind.i64.wrap (i205 - (1 : Int)))).toNat (bt ([48, 49, 50, 51, 52, 53, 54, 55, 56, 57, 97, 98, 99, 100, 101, 102, 103, 104, 105, 106, 107, 108, 109, 110, 111, 112, 113, 114, 115, 116, 117, 118, 119, 120, 121, 122] : List UInt8) u204)).length : Int)).toNat - ((IntKind.i64.wrap (i205 - (1 : Int)))).toNat))))))) rfl ?_
                refine so_nil ?_
                exact by_ret rfl ⟨_, _, h, _, rfl, (Sep.nil (Sep.del 0 hs) 1)⟩
          · refine fi_false rfl c185 ?_
            refine fi_seq ?_
            refine fi_region ?_
            refine so_move (v := (.v (.int .i64 a2))) rfl ?_
            refine sv_ii rfl F153.us3 F153.it163 ?_
            refine so_assign (v := (.v (.int .u64 (IntKind.u64.wrap a2)))) rfl ?_
            refine so_nil ?_
            refine fi_seq ?_
            refine fi_block ?_
            refine fi_loop ?_
            refine fi_at [(0, (.v v0)), (1, (.v (.int .u64 a1))), (3, (.v (.bool a3))), (4, (.v (.bool a4))), (10, (.v .nilsl)), (11, (.v (.str (pk ([] : List UInt8))))), (12, (.v (.ptr v104.id0 0))), (13, (.v (.int .i64 (65 : Int)))), (17, (.v (.int .u64 (IntKind.u64.wrap a2))))] ⟨rfl, rfl, rfl, rfl, rfl, rfl, rfl, rfl, rfl, trivial⟩ ?_
            refine h (fun (l234 : List (Int)) (u235 : Int) (i236 : Int) => ∀ (s : Nat → TV) (H : Heap), Sep H (Pc.osl v104 1 (enc (eInt .u8) l234) :: fr) → Fin _ _ (updL s [(0, (.v v0)), (1, (.v (.int .u64 u235))), (3, (.v (.bool a3))), (4, (.v (.bool a4))), (10, (.v .nilsl)), (11, (.v (.str (pk ([] : List UInt8))))), (12, (.v (.ptr v104.id0 0))), (13, (.v (.int .i64 i236))), (17, (.v (.int .u64 (IntKind.u64.wrap a2))))]) H _) ?_ _ _ hs
            intro l234 u235 i236 h s248 H249 hs
            refine fi_inLoop ?_
            refine fi_seq ?_
            refine fi_seq ?_
            refine fi_region ?_
            refine so_move (v := (.v (.int .u64 u235))) rfl ?_
            refine so_move (v := (.v (.int .u64 (IntKind.u64.wrap a2)))) rfl ?_
            refine so_bin rfl rfl ab_geq ?_
            refine so_nil ?_
            replace h := ofP h; rcases h with ⟨c237, h⟩ | ⟨c237, h⟩
            · refine fi_true rfl (decide_eq_true c237) ?_
              refine fi_skip ?_
              refine fi_block ?_
              refine fi_seq ?_
              refine fi_region ?_
              refine so_move (v := (.v (.int .i64 i236))) rfl ?_
              refine so_bin rfl rfl ab_sub ?_
              refine so_assign (v := (.v (.int .i64 (IntKind.i64.wrap (i236 - (1 : Int)))))) rfl ?_
              refine so_nil ?_
              refine fi_seq ?_
              refine fi_region ?_
              refine so_move (v := (.v (.int .u64 u235))) rfl ?_
              refine so_move (v := (.v (.int .u64 (IntKind.u64.wrap a2)))) rfl ?_
              obtain ⟨c238, h⟩ := h
              refine so_bin rfl rfl (ab_quo c238) ?_
              refine so_assign (v := (.v (.int .u64 (IntKind.u64.wrap (Int.tdiv u235 (IntKind.u64.wrap a2)))))) rfl ?_
              refine so_nil ?_
              refine fi_seq ?_
              refine fi_region ?_
              refine so_move (v := (.v (.int .i64 (IntKind.i64.wrap (i236 - (1 : Int)))))) rfl ?_
              refine so_move (v := (.v (.int .u64 u235))) rfl ?_
              refine so_move (v := (.v (.int .u64 (IntKind.u64.wrap (Int.tdiv u235 (IntKind.u64.wrap a2)))))) rfl ?_
              refine so_move (v := (.v (.int .u64 (IntKind.u64.wrap a2)))) rfl ?_
              refine so_bin rfl rfl ab_mul ?_
              refine so_bin rfl rfl ab_sub ?_
              obtain ⟨c239, h⟩ := h
              refine so_index rfl rfl F153.sr9 c239 ?_
              obtain ⟨c240, h⟩ := h
              refine sv_idxA hs 0 rfl av104 c240 (fun _ => rfl) (by decide) rfl rfl F153.ar191 F153.sz5 ?_
              refine sv_set hs 0 rfl c240 (bt ([48, 49, 50, 51, 52, 53, 54, 55, 56, 57, 97, 98, 99, 100, 101, 102, 103, 104, 105, 106, 107, 108, 109, 110, 111, 112, 113, 114, 115, 116, 117, 118, 119, 120, 121, 122] : List UInt8) (IntKind.u64.wrap (u235 - (IntKind.u64.wrap ((IntKind.u64.wrap (Int.tdiv u235 (IntKind.u64.wrap a2))) * (IntKind.u64.wrap a2)))))) (fun _ => rfl) (by decide) rfl rfl rfl rfl F153.sz5 nofun (fun H241 hs => ?_)
              refine so_nil ?_
              refine fi_region ?_
              refine so_move (v := (.v (.int .u64 (IntKind.u64.wrap (Int.tdiv u235 (IntKind.u64.wrap a2)))))) rfl ?_
              refine so_assign (v := (.v (.int .u64 (IntKind.u64.wrap (Int.tdiv u235 (IntKind.u64.wrap a2)))))) rfl ?_
              refine so_nil ?_
              refine fi_inBlock ?_
              exact fi_at [(0, (.v v0)), (1, (.v (.int .u64 (IntKind.u64.wrap (Int.tdiv u235 (IntKind.u64.wrap a2)))))), (3, (.v (.bool a3))), (4, (.v (.bool a4))), (10, (.v .nilsl)), (11, (.v (.str (pk ([] : List UInt8))))), (12, (.v (.ptr v104.id0 0))), (13, (.v (.int .i64 (IntKind.i64.wrap (i236 - (1 : Int)))))), (17, (.v (.int .u64 (IntKind.u64.wrap a2))))] ⟨rfl, rfl, rfl, rfl, rfl, rfl, rfl, rfl, rfl, trivial⟩ (h _ _  hs)
            · refine fi_false rfl (decide_eq_false c237) ?_
              refine fi_exit rfl ?_
              refine fi_seq ?_
              refine fi_region ?_
              refine so_move (v := (.v (.int .i64 i236))) rfl ?_
              refine so_bin rfl rfl ab_sub ?_
              refine so_assign (v := (.v (.int .i64 (IntKind.i64.wrap (i236 - (1 : Int)))))) rfl ?_
              refine so_nil ?_
              refine fi_region ?_
              refine so_move (v := (.v (.int .i64 (IntKind.i64.wrap (i236 - (1 : Int)))))) rfl ?_
              refine so_move (v := (.v (.int .u64 u235))) rfl ?_
              obtain ⟨c242, h⟩ := h
              refine so_index rfl rfl F153.sr9 c242 ?_
              obtain ⟨c243, h⟩ := h
              refine sv_idxA hs 0 rfl av104 c243 (fun _ => rfl) (by decide) rfl rfl F153.ar191 F153.sz5 ?_
              refine sv_set hs 0 rfl c243 (bt ([48, 49, 50, 51, 52, 53, 54, 55, 56, 57, 97, 98, 99, 100, 101, 102, 103, 104, 105, 106, 107, 108, 109, 110, 111, 112, 113, 114, 115, 116, 117, 118, 119, 120, 121, 122] : List UInt8) u235) (fun _ => rfl) (by decide) rfl rfl rfl rfl F153.sz5 nofun (fun H244 hs => ?_)
              refine so_nil ?_
              refine fi_seq ?_
              refine fi_seq ?_
              refine fi_region ?_
              refine so_move (v := (.v (.bool a3))) rfl ?_
              refine so_nil ?_
              refine fi_false rfl c107 ?_
              refine fi_skip ?_
              refine fi_seq ?_
              refine fi_seq ?_
              refine fi_region ?_
              refine so_move (v := (.v (.bool a4))) rfl ?_
              refine so_nil ?_
              replace h := ofT h; rcases h with ⟨c245, h⟩ | ⟨c245, h⟩
              · exact h.elim
              · refine fi_false rfl c245 ?_
                refine fi_skip ?_
                refine fi_seq ?_
                refine fi_region ?_
                refine so_move (v := (.v (.int .i64 (IntKind.i64.wrap (i236 - (1 : Int)))))) rfl ?_
                obtain ⟨c247, h⟩ := h
                refine sv_sliceA hs 0 rfl av104 c247 (fun _ => rfl) (by decide) rfl rfl rfl rfl rfl F153.ar191 F153.sz5 ?_
                refine sv_bs (Shows.cut (e := (eInt .u8)) (n := 1) (fun _ => rfl) (hs.shows 0 rfl) (by decide) (cutok c247)) (cut_nn nv104) rfl F153.te72 F153.it5 F153.sr9 ?_
                refine so_assign (v := (.v (.str (pk (byts (((l234.set ((IntKind.i64.wrap (i236 - (1 : Int)))).toNat (bt ([48, 49, 50, 51, 52, 53, 54, 55, 56, 57, 97, 98, 99, 100, 101, 102, 103, 104, 105, 106, 107, 108, 109, 110, 111, 112, 113, 114, 115, 116, 117, 118, 119, 120, 121, 122] : List UInt8) u235)).drop ((IntKind.i64.wrap (i236 - (1 : Int)))).toNat).take ((((l234.set ((IntKind.i64.wrap (i236 - (1 : Int)))).toNat (bt ([48, 49, 50, 51, 52, 53, 54, 55, 56, 57, 97, 98, 99, 100, 101, 102, 103, 104, 105, 106, 107, 108, 109, 110, 111, 112, 113, 114, 115, 116, 117, 118, 119, 120, 121, 122] : List UInt8) u235)).length : Int)).toNat - ((IntKind.i64.wrap (i236 - (1 : Int)))).toNat))))))) rfl ?_
                refine so_nil ?_
                exact by_ret rfl ⟨_, _, h, _, rfl, (Sep.nil (Sep.del 0 hs) 1)⟩

end Go.Proofs.YtcgiboeilcdonaaDoor.G

namespace Go.Proofs.YtcgiboeilcdonaaDoor.G
open Go Go.Ab Go.Proofs Go.Proofs.YtcgiboeilcdonaaDoor
set_option maxRecDepth 100000
set_option linter.unusedVariables false
set_option linter.unusedSimpArgs false
set_option maxHeartbeats 1000000
attribute [local irreducible] wops wopf Go.Ab.Fin
theorem F128.it163 : tint Tryd.prog 163 = some .u64 := by kernel_rfl
theorem F128.us2 : (Tryd.prog.underlying 2).isSome = true := by kernel_rfl
theorem F128.za171 : tzero Tryd.prog 171 = some (List.replicate 24 (.int .u8 (0 : Int))) := by kernel_rfl
theorem internal_strconv_FormatIntW_ok {fr : List Pc} {H : Heap} (a0 : Int) (a1 : Int) (hs : Sep H (fr)) (gt8 : ∀ H, Sep H fr → HasTab 8 F.tab8 H) (K : (List UInt8) → Prop) (h : internal_strconv_FormatIntW.wp a0 a1 K) : OkQ Tryd.prog 128 [(.v (.int .i64 a0)), (.v (.int .i64 a1))] H (fun r H2 => ∃ (y0 : List UInt8), K y0 ∧ r = (.v (.str (pk y0))) ∧ Sep H2 (fr)) := by
  unfold internal_strconv_FormatIntW.wp at h
  refine of_body Tryd.f128 F.hm Tryd.func128 rfl Tryd.call128 (by kernel_rfl) (by simp) ?_
  refine fi_seq ?_
  refine fi_region ?_
  refine so_assign (v := (.v (.str (pk ([] : List UInt8))))) rfl ?_
  refine so_nil ?_
  refine fi_seq ?_
  refine fi_seq ?_
  refine fi_region ?_
  refine so_move (v := (.v (.int .i64 a1))) rfl ?_
  refine so_bin rfl rfl ab_eql ?_
  refine so_nil ?_
  replace h := ofP h; rcases h with ⟨c101, h⟩ | ⟨c101, h⟩
  · refine fi_true rfl (decide_eq_true c101) ?_
    refine fi_seq ?_
    refine fi_seq ?_
    refine fi_region ?_
    refine so_move (v := (.v (.int .i64 a0))) rfl ?_
    refine so_bin rfl rfl ab_leq ?_
    refine so_move (v := (.v (.bool (decide ((0 : Int) ≤ a0))))) rfl ?_
    replace h := ofP h; rcases h with ⟨c102, h⟩ | ⟨c102, h⟩
    · refine so_gyes rfl (decide_eq_true c102) ?_
      refine so_move (v := (.v (.int .i64 a0))) rfl ?_
      refine so_gyes rfl (decide_eq_true c102) ?_
      refine so_bin rfl rfl ab_lss ?_
      refine so_pick_t (v := (.v (.bool (decide (a0 < (100 : Int)))))) rfl (decide_eq_true c102) rfl ?_
      refine so_nil ?_
      replace h := ofP h; rcases h with ⟨c103, h⟩ | ⟨c103, h⟩
      · refine fi_true rfl (decide_eq_true c103) ?_
        refine fi_seq ?_
        refine fi_region ?_
        refine so_move (v := (.v (.int .i64 a0))) rfl ?_
        refine sv_callS (internal_strconv_small_ok a0 hs  _ h) (fun _ _ ⟨_, _, _, e⟩ => e) rfl rfl ?_
        clear h
        rintro _ _ ⟨y104, h, rfl, rfl⟩
        refine so_assign (v := (.v (.str (pk y104)))) rfl ?_
        refine so_nil ?_
        exact by_ret rfl ⟨_, h, rfl, hs⟩
      · refine fi_false rfl (decide_eq_false c103) ?_
        refine fi_skip ?_
        refine fi_seq ?_
        refine fi_region ?_
        refine sv_allocA hs 24 (eInt .u8) (0 : Int) (fun _ => rfl) F128.za171 (by rfl) (by rfl) nofun (fun v106 H107 nv106 av106 hs => ?_)
        refine so_nil ?_
        refine fi_seq ?_
        refine fi_region ?_
        refine so_move (v := (.v (.int .i64 a0))) rfl ?_
        refine sv_ii rfl F128.us2 F128.it163 ?_
        refine so_assign (v := (.v (.int .u64 (IntKind.u64.wrap a0)))) rfl ?_
        refine so_nil ?_
        refine fi_seq ?_
        refine fi_seq ?_
        refine fi_region ?_
        refine so_move (v := (.v (.int .i64 a0))) rfl ?_
        refine so_bin rfl rfl ab_lss ?_
        refine so_nil ?_
        replace h := ofP h; rcases h with ⟨c109, h⟩ | ⟨c109, h⟩
        · exact h.elim
        · exact h.elim
    · refine so_gno rfl (decide_eq_false c102) ?_
      refine so_gno rfl (decide_eq_false c102) ?_
      refine so_pick_f (v := (.v (.bool false))) rfl (decide_eq_false c102) rfl ?_
      refine so_nil ?_
      refine fi_false rfl rfl ?_
      refine fi_skip ?_
      refine fi_seq ?_
      refine fi_region ?_
      refine sv_allocA hs 24 (eInt .u8) (0 : Int) (fun _ => rfl) F128.za171 (by rfl) (by rfl) nofun (fun v110 H111 nv110 av110 hs => ?_)
      refine so_nil ?_
      refine fi_seq ?_
      refine fi_region ?_
      refine so_move (v := (.v (.int .i64 a0))) rfl ?_
      refine sv_ii rfl F128.us2 F128.it163 ?_
      refine so_assign (v := (.v (.int .u64 (IntKind.u64.wrap a0)))) rfl ?_
      refine so_nil ?_
      refine fi_seq ?_
      refine fi_seq ?_
      refine fi_region ?_
      refine so_move (v := (.v (.int .i64 a0))) rfl ?_
      refine so_bin rfl rfl ab_lss ?_
      refine so_nil ?_
      replace h := ofP h; rcases h with ⟨c113, h⟩ | ⟨c113, h⟩
      · exact h.elim
      · exact h.elim
  · refine fi_false rfl (decide_eq_false c101) ?_
    refine fi_skip ?_
    refine fi_seq ?_
    refine fi_region ?_
    refine so_move (v := (.v (.int .i64 a0))) rfl ?_
    refine sv_ii rfl F128.us2 F128.it163 ?_
    refine so_move (v := (.v (.int .i64 a1))) rfl ?_
    refine so_move (v := (.v (.int .i64 a0))) rfl ?_
    refine so_bin rfl rfl ab_lss ?_
    refine sv_call (internal_strconv_formatBits_ok .nilsl ([] : List (Int)) (IntKind.u64.wrap a0) a1 (decide (a0 < (0 : Int))) false hs (fun _ hs => (.inl ⟨rfl, rfl⟩ : Shows _ .nilsl 1 (enc (eInt .u8) []))) (fun _ hs => gt8 _ hs) _ h) rfl rfl nofun ?_
    clear h hs
    rintro _ H118 ⟨y114, y117, h, v115, rfl, hs⟩
    refine so_move (v := (.t [(.v v115), (.v (.str (pk y117)))])) rfl ?_
    refine so_extract rfl rfl rfl ?_
    refine so_extract rfl rfl rfl ?_
    refine so_assign (v := (.v v115)) rfl ?_
    refine so_assign (v := (.v (.str (pk y117)))) rfl ?_
    refine so_nil ?_
    refine fi_seq ?_
    refine fi_region ?_
    refine so_move (v := (.v (.str (pk y117)))) rfl ?_
    refine so_assign (v := (.v (.str (pk y117)))) rfl ?_
    refine so_nil ?_
    exact by_ret rfl ⟨_, h, rfl, (Sep.del 0 hs)⟩
theorem internal_strconv_FormatIntW_okS {fr : List Pc} {H : Heap} (a0 : Int) (a1 : Int) (hs : Sep H fr) (gt8 : ∀ H, Sep H fr → HasTab 8 F.tab8 H) (K : (List UInt8) → Prop) (h : internal_strconv_FormatIntW.wp a0 a1 K) : OkQ Tryd.prog 128 [(.v (.int .i64 a0)), (.v (.int .i64 a1))] H (fun r H2 => ∃ (y0 : List UInt8), K y0 ∧ r = (.v (.str (pk y0))) ∧ H = H2) := by
  obtain ⟨r, H2, h1, y0, hK, hr, hsep⟩ := internal_strconv_FormatIntW_ok (fr := came H) (H := H) a0 a1 (came_sep H) (came_tab (gt8 H hs)) K h
  have hk : H.n ≤ H2.n ∧ ∀ i, i < H.n → H2.f i = H.f i := hsep.1.2.1
  exact ⟨r, H, h1.forget hk.1 hk.2 (by subst hr; rfl), y0, hK, hr, rfl⟩
theorem internal_strconv_FormatIntH_ok {fr : List Pc} {H : Heap} (a0 : Int) (a1 : Int) (hs : Sep H fr) (gt4 : ∀ H, Sep H fr → HasTab 4 F.tab4 H) (K : List UInt8 → Prop) (h : internal_strconv_FormatIntH.wp a0 a1 K) : OkQ Tryd.prog 128 [.v (.int .i64 a0), .v (.int .i64 a1)] H (fun r H2 => ∃ (y0 : List UInt8), K y0 ∧ r = (.v (.str (pk y0))) ∧ H = H2) := by
  obtain ⟨rfl, h0, h⟩ := h
  exact ⟨.v (.str (pk (Lib.itoa a0))), _, ok_libG [.int .i64 a0, .int .i64 10] (.string (pk (Lib.itoa a0))) Tryd.call128 (args_ii _ _ _ _) (fun β => rfl) (fun β w hw => by
    obtain ⟨o, ho1, ho2⟩ := (gt4 H hs).heap hw
    exact Any.internal_strconv_FormatInt_10 Tryd.laysM246 a0 h0.1 h0.2 w (ho2 w ho1)), _, h, rfl, rfl⟩
theorem internal_strconv_FormatInt_ok {fr : List Pc} {H : Heap} (a0 : Int) (a1 : Int) (hs : Sep H fr) (gt4 : ∀ H, Sep H fr → HasTab 4 F.tab4 H) (gt8 : ∀ H, Sep H fr → HasTab 8 F.tab8 H) (K : List UInt8 → Prop) (h : internal_strconv_FormatInt.wp a0 a1 K) : OkQ Tryd.prog 128 [.v (.int .i64 a0), .v (.int .i64 a1)] H (fun r H2 => ∃ (y0 : List UInt8), K y0 ∧ r = (.v (.str (pk y0))) ∧ H = H2) := by
  rcases h with h | h
  · exact internal_strconv_FormatIntH_ok a0 a1 hs gt4 K h
  · exact internal_strconv_FormatIntW_okS a0 a1 hs gt8 K h

end Go.Proofs.YtcgiboeilcdonaaDoor.G

namespace Go.Proofs.YtcgiboeilcdonaaDoor.G
open Go Go.Ab Go.Proofs Go.Proofs.YtcgiboeilcdonaaDoor
set_option maxRecDepth 100000
set_option linter.unusedVariables false
set_option linter.unusedSimpArgs false
set_option maxHeartbeats 1000000
attribute [local irreducible] wops wopf Go.Ab.Fin
theorem strconv_FormatInt_ok {fr : List Pc} {H : Heap} (a0 : Int) (a1 : Int) (hs : Sep H (fr)) (gt4 : ∀ H, Sep H fr → HasTab 4 F.tab4 H) (gt8 : ∀ H, Sep H fr → HasTab 8 F.tab8 H) (K : (List UInt8) → Prop) (h : strconv_FormatInt.wp a0 a1 K) : OkQ Tryd.prog 98 [(.v (.int .i64 a0)), (.v (.int .i64 a1))] H (fun r H2 => ∃ (y0 : List UInt8), K y0 ∧ r = (.v (.str (pk y0))) ∧ H = H2) := by
  unfold strconv_FormatInt.wp at h
  refine of_body Tryd.f98 F.hm Tryd.func98 rfl Tryd.call98 (by kernel_rfl) (by simp) ?_
  refine fi_seq ?_
  refine fi_region ?_
  refine so_assign (v := (.v (.str (pk ([] : List UInt8))))) rfl ?_
  refine so_nil ?_
  refine fi_seq ?_
  refine fi_region ?_
  refine so_move (v := (.v (.int .i64 a0))) rfl ?_
  refine so_move (v := (.v (.int .i64 a1))) rfl ?_
  refine sv_callS (internal_strconv_FormatInt_ok a0 a1 hs (fun _ hs => gt4 _ hs) (fun _ hs => gt8 _ hs) _ h) (fun _ _ ⟨_, _, _, e⟩ => e) rfl rfl ?_
  clear h
  rintro _ _ ⟨y101, h, rfl, rfl⟩
  refine so_assign (v := (.v (.str (pk y101)))) rfl ?_
  refine so_nil ?_
  exact by_ret rfl ⟨_, h, rfl, rfl⟩

end Go.Proofs.YtcgiboeilcdonaaDoor.G

namespace Go.Proofs.YtcgiboeilcdonaaDoor.G
open Go Go.Ab Go.Proofs Go.Proofs.YtcgiboeilcdonaaDoor
set_option maxRecDepth 100000
set_option linter.unusedVariables false
set_option linter.unusedSimpArgs false
set_option maxHeartbeats 1000000
attribute [local irreducible] wops wopf Go.Ab.Fin
theorem F115.sr9 : tstr Tryd.prog 9 = true := by kernel_rfl
theorem impl_hexOf_ok {fr : List Pc} {H : Heap} (a0 : Nat) (hs : Sep H (fr)) (gt4 : ∀ H, Sep H fr → HasTab 4 F.tab4 H) (gt8 : ∀ H, Sep H fr → HasTab 8 F.tab8 H) (K : (List UInt8) → Prop) (h : impl_hexOf.wp a0 K) : OkQ Tryd.prog 115 [(.v (.flt .f32 a0))] H (fun r H2 => ∃ (y0 : List UInt8), K y0 ∧ r = (.v (.str (pk y0))) ∧ H = H2) := by
  unfold impl_hexOf.wp at h
  refine of_body Tryd.f115 F.hm Tryd.func115 rfl Tryd.call115 (by kernel_rfl) (by simp) ?_
  refine fi_seq ?_
  refine fi_region ?_
  refine so_assign (v := (.v (.str (pk ([] : List UInt8))))) rfl ?_
  refine so_nil ?_
  refine fi_seq ?_
  refine fi_region ?_
  refine so_move (v := (.v (.flt .f32 a0))) rfl ?_
  refine sv_callS (impl_BitsOf_ok a0 hs  _ h) (fun _ _ ⟨_, _, _, e⟩ => e) rfl rfl ?_
  clear h
  rintro _ _ ⟨y101, h, rfl, rfl⟩
  refine sv_callS (strconv_FormatInt_ok y101 (16 : Int) hs (fun _ hs => gt4 _ hs) (fun _ hs => gt8 _ hs) _ h) (fun _ _ ⟨_, _, _, e⟩ => e) rfl rfl ?_
  clear h
  rintro _ _ ⟨y103, h, rfl, rfl⟩
  refine so_assign (v := (.v (.str (pk y103)))) rfl ?_
  refine so_nil ?_
  refine fi_seq ?_
  refine fi_region ?_
  refine so_move (v := (.v (.str (pk y103)))) rfl ?_
  refine so_slen rfl F115.sr9 ?_
  refine so_bin rfl rfl ab_sub ?_
  refine sv_callS (strings_Repeat_ok ([48] : List UInt8) (IntKind.i64.wrap ((8 : Int) - (y103.length : Int))) hs  _ h) (fun _ _ ⟨_, _, _, e⟩ => e) rfl rfl ?_
  clear h
  rintro _ _ ⟨y105, h, rfl, rfl⟩
  refine so_move (v := (.v (.str (pk y103)))) rfl ?_
  obtain ⟨c107, h⟩ := h
  refine so_bin rfl rfl (ab_sadd c107) ?_
  refine so_assign (v := (.v (.str (pk (y105 ++ y103))))) rfl ?_
  refine so_nil ?_
  exact by_ret rfl ⟨_, h, rfl, rfl⟩

end Go.Proofs.YtcgiboeilcdonaaDoor.G

namespace Go.Proofs.YtcgiboeilcdonaaDoor.G
open Go Go.Ab Go.Proofs Go.Proofs.YtcgiboeilcdonaaDoor
set_option maxRecDepth 100000
set_option linter.unusedVariables false
set_option linter.unusedSimpArgs false
set_option maxHeartbeats 1000000
attribute [local irreducible] wops wopf Go.Ab.Fin
theorem strings_Join_ok {fr : List Pc} {H : Heap} (v0 : AV) (l0 : List (List UInt8)) (a1 : List UInt8) (hs : Sep H fr) (g0 : ∀ H, Sep H fr → Shows H v0 1 (enc eStr l0)) (K : List UInt8 → Prop) (h : strings_Join.wp l0 a1 K) : OkQ Tryd.prog 138 [.v v0, .v (.str (pk a1))] H (fun r H2 => ∃ (y0 : List UInt8), K y0 ∧ r = (.v (.str (pk y0))) ∧ H = H2) :=
  ⟨_, _, ok_join Tryd.call138 (fun a c sep w => Any.strings_Join_none Tryd.lays156 Tryd.Builder_Extra_156 a c sep w) (fun bk o c xs sep w h1 h2 h3 h4 h5 => Any.strings_Join Tryd.lays156 Tryd.Builder_Extra_156 bk o c xs sep w h1 h2 h3 h4 h5) (g0 H hs) h.1, _, h.2, rfl, rfl⟩

end Go.Proofs.YtcgiboeilcdonaaDoor.G

namespace Go.Proofs.YtcgiboeilcdonaaDoor.G
open Go Go.Ab Go.Proofs Go.Proofs.YtcgiboeilcdonaaDoor
set_option maxRecDepth 100000
set_option linter.unusedVariables false
set_option linter.unusedSimpArgs false
set_option maxHeartbeats 1000000
attribute [local irreducible] wops wopf Go.Ab.Fin
theorem F116.ti28 : (telem Tryd.prog 28).isSome = true := by kernel_rfl
theorem impl_joined_ok {fr : List Pc} {H : Heap} (v0 : AV) (l0 : List (List UInt8)) (hs : Sep H (fr)) (g0 : ∀ H, Sep H fr → Shows H v0 1 (enc eStr l0)) (K : (List UInt8) → Prop) (h : impl_joined.wp l0 K) : OkQ Tryd.prog 116 [(.v v0)] H (fun r H2 => ∃ (y0 : List UInt8), K y0 ∧ r = (.v (.str (pk y0))) ∧ H = H2) := by
  unfold impl_joined.wp at h
  refine of_body Tryd.f116 F.hm Tryd.func116 rfl Tryd.call116 (by kernel_rfl) (by simp) ?_
  refine fi_seq ?_
  refine fi_region ?_
  refine so_assign (v := (.v (.str (pk ([] : List UInt8))))) rfl ?_
  refine so_nil ?_
  refine fi_seq ?_
  refine fi_seq ?_
  refine fi_region ?_
  refine so_move (v := (.v v0)) rfl ?_
  refine sv_len (g0 _ hs) (fun _ => rfl) (by decide) rfl F116.ti28 ?_
  refine so_bin rfl rfl ab_eql ?_
  refine so_nil ?_
  replace h := ofP h; rcases h with ⟨c101, h⟩ | ⟨c101, h⟩
  · refine fi_true rfl (decide_eq_true c101) ?_
    refine fi_seq ?_
    refine fi_region ?_
    refine so_assign (v := (.v (.str (pk ([110, 111, 110, 101] : List UInt8))))) rfl ?_
    refine so_nil ?_
    exact by_ret rfl ⟨_, h, rfl, rfl⟩
  · refine fi_false rfl (decide_eq_false c101) ?_
    refine fi_skip ?_
    refine fi_seq ?_
    refine fi_region ?_
    refine so_move (v := (.v v0)) rfl ?_
    refine sv_callS (strings_Join_ok v0 l0 ([44] : List UInt8) hs (fun _ hs => (g0 _ hs)) _ h) (fun _ _ ⟨_, _, _, e⟩ => e) rfl rfl ?_
    clear h
    rintro _ _ ⟨y102, h, rfl, rfl⟩
    refine so_assign (v := (.v (.str (pk y102)))) rfl ?_
    refine so_nil ?_
    exact by_ret rfl ⟨_, h, rfl, rfl⟩

end Go.Proofs.YtcgiboeilcdonaaDoor.G

namespace Go.Proofs.YtcgiboeilcdonaaDoor.G
open Go Go.Ab Go.Proofs Go.Proofs.YtcgiboeilcdonaaDoor
set_option maxRecDepth 100000
set_option linter.unusedVariables false
set_option linter.unusedSimpArgs false
set_option maxHeartbeats 1000000
attribute [local irreducible] wops wopf Go.Ab.Fin
theorem F75.ag49 : tagg Tryd.prog 49 = some false := by kernel_rfl
theorem F75.sz9 : tsz Tryd.prog 9 = some 1 := by kernel_rfl
theorem F75.ta28_28 : tapp Tryd.prog 28 28 = some (1, 16) := by kernel_rfl
theorem F75.te28 : telem Tryd.prog 28 = some 9 := by kernel_rfl
theorem F75.ti48 : (telem Tryd.prog 48).isSome = true := by kernel_rfl
theorem F75.tl48 : (telem Tryd.prog 48).bind (tsz Tryd.prog) = some 1 := by kernel_rfl
theorem F75.ze9 : tzero Tryd.prog 9 = some [(.str (pk ([] : List UInt8)))] := by kernel_rfl
theorem impl_NumbersText_ok {fr : List Pc} {H : Heap} (v0 : AV) (l0 : List (Nat)) (hs : Sep H (fr)) (g0 : ∀ H, Sep H fr → Shows H v0 1 (enc (eFlt .f32) l0)) (gt4 : ∀ H, Sep H fr → HasTab 4 F.tab4 H) (gt8 : ∀ H, Sep H fr → HasTab 8 F.tab8 H) (K : (List UInt8) → Bool → Prop) (h : impl_NumbersText.wp l0 K) : OkQ Tryd.prog 75 [(.v v0)] H (fun r H2 => ∃ (y0 : List UInt8) (y1 : Bool), K y0 y1 ∧ r = (.t [(.v (.str (pk y0))), (.v (.bool y1))]) ∧ Sep H2 (fr)) := by
  unfold impl_NumbersText.wp at h
  refine of_body Tryd.f75 F.hm Tryd.func75 rfl Tryd.call75 (by kernel_rfl) (by simp) ?_
  refine fi_seq ?_
  refine fi_region ?_
  refine so_assign (v := (.v (.str (pk ([] : List UInt8))))) rfl ?_
  refine so_assign (v := (.v (.bool false))) rfl ?_
  refine so_nil ?_
  refine fi_seq ?_
  refine fi_seq ?_
  refine fi_region ?_
  refine so_move (v := (.v v0)) rfl ?_
  refine sv_len (g0 _ hs) (fun _ => rfl) (by decide) rfl F75.ti48 ?_
  refine so_bin rfl rfl ab_gtr ?_
  refine so_nil ?_
  replace h := ofP h; rcases h with ⟨c101, h⟩ | ⟨c101, h⟩
  · refine fi_true rfl (decide_eq_true c101) ?_
    refine fi_seq ?_
    refine fi_region ?_
    refine so_assign (v := (.v (.str (pk ([] : List UInt8))))) rfl ?_
    refine so_assign (v := (.v (.bool false))) rfl ?_
    refine so_nil ?_
    exact by_ret rfl ⟨_, _, h, rfl, hs⟩
  · refine fi_false rfl (decide_eq_false c101) ?_
    refine fi_skip ?_
    refine fi_seq ?_
    refine fi_region ?_
    refine sv_bslice hs eStr ([] : List (List UInt8)) [] F75.te28 F75.sz9 F75.ze9 rfl rfl rfl rfl (fun _ => rfl) rfl (by decide) nofun (fun v102 H103 nv102 hs => ?_)
    refine so_assign (v := (.v v102)) rfl ?_
    refine so_nil ?_
    refine fi_seq ?_
    refine fi_seq ?_
    refine fi_region ?_
    refine so_move (v := (.v v0)) rfl ?_
    refine sv_len (g0 _ hs.tl) (fun _ => rfl) (by decide) rfl F75.ti48 ?_
    refine so_move (v := (.v (.int .i64 (0 : Int)))) rfl ?_
    refine so_nil ?_
    refine fi_block ?_
    refine fi_loop ?_
    refine fi_at [(4, (.v v102)), (11, (.v v0)), (12, (.v (.int .i64 (l0.length : Int)))), (13, (.v (.int .i64 (0 : Int))))] ⟨rfl, rfl, rfl, rfl, trivial⟩ ?_
    refine h (fun (texts122 : List (List UInt8)) (x124 : Int) => ∀ (s : Nat → TV) (H : Heap) (v123 : AV) (nv123 : v123 ≠ .nilsl), Sep H (Pc.osl v123 1 (enc eStr texts122) :: fr) → Fin _ _ (updL s [(4, (.v v123)), (11, (.v v0)), (12, (.v (.int .i64 (l0.length : Int)))), (13, (.v (.int .i64 x124)))]) H _) ?_ _ _ _ nv102 hs
    intro texts122 x124 h s137 H138 v123 nv123 hs
    refine fi_inLoop ?_
    refine fi_seq ?_
    refine fi_region ?_
    refine so_bin rfl rfl ab_lss ?_
    refine so_nil ?_
    refine fi_seq ?_
    replace h := ofP h; rcases h with ⟨c125, h⟩ | ⟨c125, h⟩
    · refine fi_true rfl (decide_eq_true c125) ?_
      refine fi_skip ?_
      refine fi_seq ?_
      refine fi_block ?_
      refine fi_seq ?_
      refine fi_region ?_
      obtain ⟨c126, h⟩ := h
      refine sv_idx (g0 _ hs.tl) c126 (fun _ => rfl) (by decide) rfl rfl F75.tl48 ?_
      refine sv_cell (g0 _ hs.tl) c126 (0 : Nat) 0 (fun x => (AV.flt .f32 x)) (fun _ => rfl) (fun _ => rfl) rfl F75.ag49 ?_
      refine so_assign (v := (.v (.flt .f32 (l0.getD (x124).toNat (0 : Nat))))) rfl ?_
      refine so_nil ?_
      refine fi_region ?_
      refine so_move (v := (.v v123)) rfl ?_
      refine so_move (v := (.v (.flt .f32 (l0.getD (x124).toNat (0 : Nat))))) rfl ?_
      refine sv_callS (impl_hexOf_ok (l0.getD (x124).toNat (0 : Nat)) hs (fun _ hs => gt4 _ hs.tl) (fun _ hs => gt8 _ hs.tl) _ h) (fun _ _ ⟨_, _, _, e⟩ => e) rfl rfl ?_
      clear h
      rintro _ _ ⟨y127, h, rfl, rfl⟩
      refine sv_bslice hs eStr ([y127] : List (List UInt8)) [[(.str (pk y127))]] F75.te28 F75.sz9 F75.ze9 rfl rfl rfl rfl (fun _ => rfl) rfl (by decide) nofun (fun v129 H130 nv129 hs => ?_)
      obtain ⟨c134, h⟩ := h
      refine sv_app hs 1 rfl (hs.shows 0 rfl) (fun _ => rfl) (by decide) F75.ta28_28 (by decide) c134 rfl rfl nofun (fun v132 H133 kv132 hs => ?_)
      replace hs := hs.del 0
      have nv132 := kv132 nv123
      refine so_assign (v := (.v v132)) rfl ?_
      refine so_nil ?_
      refine fi_inBlock ?_
      refine fi_region ?_
      refine so_bin rfl rfl ab_add ?_
      refine so_move (v := (.v (.int .i64 (IntKind.i64.wrap (x124 + (1 : Int)))))) rfl ?_
      refine so_nil ?_
      exact fi_at [(4, (.v v132)), (11, (.v v0)), (12, (.v (.int .i64 (l0.length : Int)))), (13, (.v (.int .i64 (IntKind.i64.wrap (x124 + (1 : Int))))))] ⟨rfl, rfl, rfl, rfl, trivial⟩ (h _ _ _ nv132 hs)
    · refine fi_false rfl (decide_eq_false c125) ?_
      refine fi_exit rfl ?_
      refine fi_seq ?_
      refine fi_region ?_
      refine so_move (v := (.v v123)) rfl ?_
      refine sv_callS (impl_joined_ok v123 texts122 hs (fun _ hs => (hs.shows 0 rfl)) _ h) (fun _ _ ⟨_, _, _, e⟩ => e) rfl rfl ?_
      clear h
      rintro _ _ ⟨y135, h, rfl, rfl⟩
      refine so_assign (v := (.v (.str (pk y135)))) rfl ?_
      refine so_assign (v := (.v (.bool true))) rfl ?_
      refine so_nil ?_
      exact by_ret rfl ⟨_, _, h, rfl, (Sep.del 0 hs)⟩
theorem impl_NumbersText_okS {fr : List Pc} {H : Heap} (v0 : AV) (l0 : List (Nat)) (hs : Sep H fr) (g0 : ∀ H, Sep H fr → Shows H v0 1 (enc (eFlt .f32) l0)) (gt4 : ∀ H, Sep H fr → HasTab 4 F.tab4 H) (gt8 : ∀ H, Sep H fr → HasTab 8 F.tab8 H) (K : (List UInt8) → Bool → Prop) (h : impl_NumbersText.wp l0 K) : OkQ Tryd.prog 75 [(.v v0)] H (fun r H2 => ∃ (y0 : List UInt8) (y1 : Bool), K y0 y1 ∧ r = (.t [(.v (.str (pk y0))), (.v (.bool y1))]) ∧ H = H2) := by
  obtain ⟨r, H2, h1, y0, y1, hK, hr, hsep⟩ := impl_NumbersText_ok (fr := came H) (H := H) v0 l0 (came_sep H) (came_shows (g0 H hs)) (came_tab (gt4 H hs)) (came_tab (gt8 H hs)) K h
  have hk : H.n ≤ H2.n ∧ ∀ i, i < H.n → H2.f i = H.f i := hsep.1.2.1
  exact ⟨r, H, h1.forget hk.1 hk.2 (by subst hr; rfl), y0, y1, hK, hr, rfl⟩

end Go.Proofs.YtcgiboeilcdonaaDoor.G

namespace Go.Proofs.YtcgiboeilcdonaaDoor.G
open Go Go.Ab Go.Proofs Go.Proofs.YtcgiboeilcdonaaDoor
set_option maxRecDepth 100000
set_option linter.unusedVariables false
set_option linter.unusedSimpArgs false
set_option maxHeartbeats 1000000
attribute [local irreducible] wops wopf Go.Ab.Fin
theorem F82.ag9 : tagg Tryd.prog 9 = some false := by kernel_rfl
theorem F82.sr9 : tstr Tryd.prog 9 = true := by kernel_rfl
theorem F82.sz49 : tsz Tryd.prog 49 = some 1 := by kernel_rfl
theorem F82.ta48_48 : tapp Tryd.prog 48 48 = some (1, 4) := by kernel_rfl
theorem F82.te48 : telem Tryd.prog 48 = some 49 := by kernel_rfl
theorem F82.ti28 : (telem Tryd.prog 28).isSome = true := by kernel_rfl
theorem F82.ti48 : (telem Tryd.prog 48).isSome = true := by kernel_rfl
theorem F82.tl28 : (telem Tryd.prog 28).bind (tsz Tryd.prog) = some 1 := by kernel_rfl
theorem F82.ze49 : tzero Tryd.prog 49 = some [(.flt .f32 (0 : Nat))] := by kernel_rfl
theorem impl_ReadNumbers_ok {fr : List Pc} {H : Heap} (a0 : List UInt8) (hs : Sep H (fr)) (gt4 : ∀ H, Sep H fr → HasTab 4 F.tab4 H) (gt5 : ∀ H, Sep H fr → HasTab 5 F.tab5 H) (gt8 : ∀ H, Sep H fr → HasTab 8 F.tab8 H) (K : (List (Nat)) → Bool → Prop) (h : impl_ReadNumbers.wp a0 K) : OkQ Tryd.prog 82 [(.v (.str (pk a0)))] H (fun r H2 => ∃ (y0 : List (Nat)) (y1 : Bool), K y0 y1 ∧ ∃ (w0_ : AV), r = (.t [(.v w0_), (.v (.bool y1))]) ∧ Sep H2 (Pc.osl w0_ 1 (enc (eFlt .f32) y0) :: fr)) := by
  unfold impl_ReadNumbers.wp at h
  refine of_body Tryd.f82 F.hm Tryd.func82 rfl Tryd.call82 (by kernel_rfl) (by simp) ?_
  refine fi_seq ?_
  refine fi_region ?_
  refine so_assign (v := (.v .nilsl)) rfl ?_
  refine so_assign (v := (.v (.bool false))) rfl ?_
  refine so_nil ?_
  refine fi_seq ?_
  refine fi_region ?_
  refine sv_bslice hs (eFlt .f32) ([] : List (Nat)) [] F82.te48 F82.sz49 F82.ze49 rfl rfl rfl rfl (fun _ => rfl) rfl (by decide) nofun (fun v101 H102 nv101 hs => ?_)
  refine so_assign (v := (.v v101)) rfl ?_
  refine so_nil ?_
  refine fi_seq ?_
  refine fi_seq ?_
  refine fi_region ?_
  refine so_move (v := (.v (.str (pk a0)))) rfl ?_
  refine sv_call (impl_pieces_ok a0 hs  _ h) rfl rfl nofun ?_
  clear h hs
  rintro _ H107 ⟨y104, h, v105, rfl, hs⟩
  refine sv_len (hs.rshows 0 rfl) (fun _ => rfl) (by decide) rfl F82.ti28 ?_
  refine so_move (v := (.v (.int .i64 (0 : Int)))) rfl ?_
  refine so_nil ?_
  refine fi_block ?_
  refine fi_loop ?_
  refine fi_at [(0, (.v (.str (pk a0)))), (4, (.v v101)), (11, (.v v105)), (12, (.v (.int .i64 (y104.length : Int)))), (13, (.v (.int .i64 (0 : Int))))] ⟨rfl, rfl, rfl, rfl, rfl, trivial⟩ ?_
  refine h (fun (out130 : List (Nat)) (x132 : Int) => ∀ (s : Nat → TV) (H : Heap) (v131 : AV) (nv131 : v131 ≠ .nilsl), Sep H (rdp v105 1 (enc eStr y104) :: Pc.osl v131 1 (enc (eFlt .f32) out130) :: fr) → Fin _ _ (updL s [(0, (.v (.str (pk a0)))), (4, (.v v131)), (11, (.v v105)), (12, (.v (.int .i64 (y104.length : Int)))), (13, (.v (.int .i64 x132)))]) H _) ?_ _ _ _ nv101 hs
  intro out130 x132 h s150 H151 v131 nv131 hs
  refine fi_inLoop ?_
  refine fi_seq ?_
  refine fi_region ?_
  refine so_bin rfl rfl ab_lss ?_
  refine so_nil ?_
  refine fi_seq ?_
  replace h := ofP h; rcases h with ⟨c133, h⟩ | ⟨c133, h⟩
  · refine fi_true rfl (decide_eq_true c133) ?_
    refine fi_skip ?_
    refine fi_seq ?_
    refine fi_block ?_
    refine fi_seq ?_
    refine fi_region ?_
    obtain ⟨c134, h⟩ := h
    refine sv_idx (hs.rshows 0 rfl) c134 (fun _ => rfl) (by decide) rfl rfl F82.tl28 ?_
    refine sv_cell (hs.rshows 0 rfl) c134 ([] : List UInt8) 0 (fun x => (AV.str (pk x))) (fun _ => rfl) (fun _ => rfl) rfl F82.ag9 ?_
    refine so_assign (v := (.v (.str (pk (y104.getD (x132).toNat ([] : List UInt8)))))) rfl ?_
    refine so_nil ?_
    refine fi_seq ?_
    refine fi_seq ?_
    refine fi_region ?_
    refine so_move (v := (.v (.str (pk (y104.getD (x132).toNat ([] : List UInt8)))))) rfl ?_
    refine so_slen rfl F82.sr9 ?_
    refine so_bin rfl rfl ab_neq ?_
    refine so_move (v := (.v (.bool (!(decide (((y104.getD (x132).toNat ([] : List UInt8)).length : Int) = (8 : Int))))))) rfl ?_
    replace h := ofP h; rcases h with ⟨c135, h⟩ | ⟨c135, h⟩
    · refine so_gyes rfl (not_f (decide_eq_true c135)) ?_
      refine so_move (v := (.v v131)) rfl ?_
      refine so_gyes rfl (not_f (decide_eq_true c135)) ?_
      refine sv_len (hs.shows 1 rfl) (fun _ => rfl) (by decide) rfl F82.ti48 ?_
      refine so_gyes rfl (not_f (decide_eq_true c135)) ?_
      refine so_bin rfl rfl ab_eql ?_
      refine so_pick_f (v := (.v (.bool (decide ((out130.length : Int) = (256 : Int)))))) rfl (not_f (decide_eq_true c135)) rfl ?_
      refine so_nil ?_
      replace h := ofP h; rcases h with ⟨c136, h⟩ | ⟨c136, h⟩
      · refine fi_true rfl (decide_eq_true c136) ?_
        refine fi_seq ?_
        refine fi_region ?_
        refine so_assign (v := (.v .nilsl)) rfl ?_
        refine so_assign (v := (.v (.bool false))) rfl ?_
        refine so_nil ?_
        exact by_ret rfl ⟨_, _, h, _, rfl, (Sep.nil (Sep.del 0 (Sep.del 0 hs)) 1)⟩
      · refine fi_false rfl (decide_eq_false c136) ?_
        refine fi_skip ?_
        refine fi_region ?_
        refine so_move (v := (.v v131)) rfl ?_
        refine so_move (v := (.v (.str (pk (y104.getD (x132).toNat ([] : List UInt8)))))) rfl ?_
        refine sv_callS (impl_readHex_ok (y104.getD (x132).toNat ([] : List UInt8)) hs (fun _ hs => gt5 _ hs.tl.tl) _ h) (fun _ _ ⟨_, _, _, e⟩ => e) rfl rfl ?_
        clear h
        rintro _ _ ⟨y137, h, rfl, rfl⟩
        refine sv_bslice hs (eFlt .f32) ([y137] : List (Nat)) [[(.flt .f32 y137)]] F82.te48 F82.sz49 F82.ze49 rfl rfl rfl rfl (fun _ => rfl) rfl (by decide) nofun (fun v139 H140 nv139 hs => ?_)
        obtain ⟨c144, h⟩ := h
        refine sv_app hs 2 rfl (hs.shows 0 rfl) (fun _ => rfl) (by decide) F82.ta48_48 (by decide) c144 rfl rfl nofun (fun v142 H143 kv142 hs => ?_)
        replace hs := hs.del 0
        have nv142 := kv142 nv131
        refine so_assign (v := (.v v142)) rfl ?_
        refine so_nil ?_
        refine fi_inBlock ?_
        refine fi_region ?_
        refine so_bin rfl rfl ab_add ?_
        refine so_move (v := (.v (.int .i64 (IntKind.i64.wrap (x132 + (1 : Int)))))) rfl ?_
        refine so_nil ?_
        exact fi_at [(0, (.v (.str (pk a0)))), (4, (.v v142)), (11, (.v v105)), (12, (.v (.int .i64 (y104.length : Int)))), (13, (.v (.int .i64 (IntKind.i64.wrap (x132 + (1 : Int))))))] ⟨rfl, rfl, rfl, rfl, rfl, trivial⟩ (h _ _ _ nv142 hs)
    · refine so_gno rfl (not_t (decide_eq_false c135)) ?_
      refine so_gno rfl (not_t (decide_eq_false c135)) ?_
      refine so_gno rfl (not_t (decide_eq_false c135)) ?_
      refine so_pick_t (v := (.v (.bool true))) rfl (not_t (decide_eq_false c135)) rfl ?_
      refine so_nil ?_
      refine fi_true rfl rfl ?_
      refine fi_seq ?_
      refine fi_region ?_
      refine so_assign (v := (.v .nilsl)) rfl ?_
      refine so_assign (v := (.v (.bool false))) rfl ?_
      refine so_nil ?_
      exact by_ret rfl ⟨_, _, h, _, rfl, (Sep.nil (Sep.del 0 (Sep.del 0 hs)) 1)⟩
  · refine fi_false rfl (decide_eq_false c133) ?_
    refine fi_exit rfl ?_
    refine fi_seq ?_
    refine fi_seq ?_
    refine fi_region ?_
    refine so_move (v := (.v v131)) rfl ?_
    refine sv_callS (impl_NumbersText_okS v131 out130 hs (fun _ hs => (hs.shows 1 rfl)) (fun _ hs => gt4 _ hs.tl.tl) (fun _ hs => gt8 _ hs.tl.tl) _ h) (fun _ _ ⟨_, _, _, _, e⟩ => e) rfl rfl ?_
    clear h
    rintro _ _ ⟨y145, y146, h, rfl, rfl⟩
    refine so_move (v := (.t [(.v (.str (pk y145))), (.v (.bool y146))])) rfl ?_
    refine so_extract rfl rfl rfl ?_
    refine so_extract rfl rfl rfl ?_
    refine so_assign (v := (.v (.str (pk y145)))) rfl ?_
    refine so_assign (v := (.v (.bool y146))) rfl ?_
    refine so_nil ?_
    refine fi_seq ?_
    refine fi_region ?_
    refine so_move (v := (.v (.bool y146))) rfl ?_
    refine so_un rfl au_not ?_
    refine so_move (v := (.v (.bool (!y146)))) rfl ?_
    replace h := ofT h; rcases h with ⟨c148, h⟩ | ⟨c148, h⟩
    · refine so_gyes rfl (not_f c148) ?_
      refine so_move (v := (.v (.str (pk y145)))) rfl ?_
      refine so_gyes rfl (not_f c148) ?_
      refine so_move (v := (.v (.str (pk a0)))) rfl ?_
      refine so_gyes rfl (not_f c148) ?_
      refine so_bin rfl rfl ab_sneq ?_
      refine so_pick_f (v := (.v (.bool (!(decide (y145 = a0)))))) rfl (not_f c148) rfl ?_
      refine so_nil ?_
      replace h := ofP h; rcases h with ⟨c149, h⟩ | ⟨c149, h⟩
      · refine fi_false rfl (not_f (decide_eq_true c149)) ?_
        refine fi_skip ?_
        refine fi_seq ?_
        refine fi_region ?_
        refine so_move (v := (.v v131)) rfl ?_
        refine so_assign (v := (.v v131)) rfl ?_
        refine so_assign (v := (.v (.bool true))) rfl ?_
        refine so_nil ?_
        exact by_ret rfl ⟨_, _, h, _, rfl, (Sep.del 0 hs)⟩
      · refine fi_true rfl (not_t (decide_eq_false c149)) ?_
        refine fi_seq ?_
        refine fi_region ?_
        refine so_assign (v := (.v .nilsl)) rfl ?_
        refine so_assign (v := (.v (.bool false))) rfl ?_
        refine so_nil ?_
        exact by_ret rfl ⟨_, _, h, _, rfl, (Sep.nil (Sep.del 0 (Sep.del 0 hs)) 1)⟩
    · refine so_gno rfl (not_t c148) ?_
      refine so_gno rfl (not_t c148) ?_
      refine so_gno rfl (not_t c148) ?_
      refine so_pick_t (v := (.v (.bool true))) rfl (not_t c148) rfl ?_
      refine so_nil ?_
      refine fi_true rfl rfl ?_
      refine fi_seq ?_
      refine fi_region ?_
      refine so_assign (v := (.v .nilsl)) rfl ?_
      refine so_assign (v := (.v (.bool false))) rfl ?_
      refine so_nil ?_
      exact by_ret rfl ⟨_, _, h, _, rfl, (Sep.nil (Sep.del 0 (Sep.del 0 hs)) 1)⟩

end Go.Proofs.YtcgiboeilcdonaaDoor.G

namespace Go.Proofs.YtcgiboeilcdonaaDoor.G
open Go Go.Ab Go.Proofs Go.Proofs.YtcgiboeilcdonaaDoor
set_option maxRecDepth 100000
set_option linter.unusedVariables false
set_option linter.unusedSimpArgs false
set_option maxHeartbeats 1000000
attribute [local irreducible] wops wopf Go.Ab.Fin
theorem F83.ag49 : tagg Tryd.prog 49 = some false := by kernel_rfl
theorem F83.ti48 : (telem Tryd.prog 48).isSome = true := by kernel_rfl
theorem F83.tl48 : (telem Tryd.prog 48).bind (tsz Tryd.prog) = some 1 := by kernel_rfl
theorem impl_readOne_ok {fr : List Pc} {H : Heap} (a0 : List UInt8) (hs : Sep H (fr)) (gt4 : ∀ H, Sep H fr → HasTab 4 F.tab4 H) (gt5 : ∀ H, Sep H fr → HasTab 5 F.tab5 H) (gt8 : ∀ H, Sep H fr → HasTab 8 F.tab8 H) (K : Nat → Bool → Prop) (h : impl_readOne.wp a0 K) : OkQ Tryd.prog 83 [(.v (.str (pk a0)))] H (fun r H2 => ∃ (y0 : Nat) (y1 : Bool), K y0 y1 ∧ r = (.t [(.v (.flt .f32 y0)), (.v (.bool y1))]) ∧ Sep H2 (fr)) := by
  unfold impl_readOne.wp at h
  refine of_body Tryd.f83 F.hm Tryd.func83 rfl Tryd.call83 (by kernel_rfl) (by simp) ?_
  refine fi_seq ?_
  refine fi_region ?_
  refine so_assign (v := (.v (.flt .f32 (cz .f32 0)))) rfl ?_
  refine so_assign (v := (.v (.bool false))) rfl ?_
  refine so_nil ?_
  refine fi_seq ?_
  refine fi_region ?_
  refine so_move (v := (.v (.str (pk a0)))) rfl ?_
  refine sv_call (impl_ReadNumbers_ok a0 hs (fun _ hs => gt4 _ hs) (fun _ hs => gt5 _ hs) (fun _ hs => gt8 _ hs) _ h) rfl rfl nofun ?_
  clear h hs
  rintro _ H105 ⟨y101, y104, h, v102, rfl, hs⟩
  refine so_move (v := (.t [(.v v102), (.v (.bool y104))])) rfl ?_
  refine so_extract rfl rfl rfl ?_
  refine so_extract rfl rfl rfl ?_
  refine so_assign (v := (.v v102)) rfl ?_
  refine so_assign (v := (.v (.bool y104))) rfl ?_
  refine so_nil ?_
  refine fi_seq ?_
  refine fi_seq ?_
  refine fi_region ?_
  refine so_move (v := (.v (.bool y104))) rfl ?_
  refine so_un rfl au_not ?_
  refine so_move (v := (.v (.bool (!y104)))) rfl ?_
  replace h := ofT h; rcases h with ⟨c106, h⟩ | ⟨c106, h⟩
  · refine so_gyes rfl (not_f c106) ?_
    refine so_move (v := (.v v102)) rfl ?_
    refine so_gyes rfl (not_f c106) ?_
    refine sv_len (hs.shows 0 rfl) (fun _ => rfl) (by decide) rfl F83.ti48 ?_
    refine so_gyes rfl (not_f c106) ?_
    refine so_bin rfl rfl ab_neq ?_
    refine so_pick_f (v := (.v (.bool (!(decide ((y101.length : Int) = (1 : Int))))))) rfl (not_f c106) rfl ?_
    refine so_nil ?_
    replace h := ofP h; rcases h with ⟨c107, h⟩ | ⟨c107, h⟩
    · refine fi_false rfl (not_f (decide_eq_true c107)) ?_
      refine fi_skip ?_
      refine fi_seq ?_
      refine fi_region ?_
      refine so_move (v := (.v v102)) rfl ?_
      obtain ⟨c108, h⟩ := h
      refine sv_idx (hs.shows 0 rfl) c108 (fun _ => rfl) (by decide) rfl rfl F83.tl48 ?_
      refine sv_cell (hs.shows 0 rfl) c108 (0 : Nat) 0 (fun x => (AV.flt .f32 x)) (fun _ => rfl) (fun _ => rfl) rfl F83.ag49 ?_
      refine so_assign (v := (.v (.flt .f32 (y101.getD ((0 : Int)).toNat (0 : Nat))))) rfl ?_
      refine so_assign (v := (.v (.bool true))) rfl ?_
      refine so_nil ?_
      exact by_ret rfl ⟨_, _, h, rfl, (Sep.del 0 hs)⟩
    · refine fi_true rfl (not_t (decide_eq_false c107)) ?_
      refine fi_seq ?_
      refine fi_region ?_
      refine so_assign (v := (.v (.flt .f32 (cz .f32 0)))) rfl ?_
      refine so_assign (v := (.v (.bool false))) rfl ?_
      refine so_nil ?_
      exact by_ret rfl ⟨_, _, h, rfl, (Sep.del 0 hs)⟩
  · refine so_gno rfl (not_t c106) ?_
    refine so_gno rfl (not_t c106) ?_
    refine so_gno rfl (not_t c106) ?_
    refine so_pick_t (v := (.v (.bool true))) rfl (not_t c106) rfl ?_
    refine so_nil ?_
    refine fi_true rfl rfl ?_
    refine fi_seq ?_
    refine fi_region ?_
    refine so_assign (v := (.v (.flt .f32 (cz .f32 0)))) rfl ?_
    refine so_assign (v := (.v (.bool false))) rfl ?_
    refine so_nil ?_
    exact by_ret rfl ⟨_, _, h, rfl, (Sep.del 0 hs)⟩
theorem impl_readOne_okS {fr : List Pc} {H : Heap} (a0 : List UInt8) (hs : Sep H fr) (gt4 : ∀ H, Sep H fr → HasTab 4 F.tab4 H) (gt5 : ∀ H, Sep H fr → HasTab 5 F.tab5 H) (gt8 : ∀ H, Sep H fr → HasTab 8 F.tab8 H) (K : Nat → Bool → Prop) (h : impl_readOne.wp a0 K) : OkQ Tryd.prog 83 [(.v (.str (pk a0)))] H (fun r H2 => ∃ (y0 : Nat) (y1 : Bool), K y0 y1 ∧ r = (.t [(.v (.flt .f32 y0)), (.v (.bool y1))]) ∧ H = H2) := by
  obtain ⟨r, H2, h1, y0, y1, hK, hr, hsep⟩ := impl_readOne_ok (fr := came H) (H := H) a0 (came_sep H) (came_tab (gt4 H hs)) (came_tab (gt5 H hs)) (came_tab (gt8 H hs)) K h
  have hk : H.n ≤ H2.n ∧ ∀ i, i < H.n → H2.f i = H.f i := hsep.1.2.1
  exact ⟨r, H, h1.forget hk.1 hk.2 (by subst hr; rfl), y0, y1, hK, hr, rfl⟩

end Go.Proofs.YtcgiboeilcdonaaDoor.G

namespace Go.Proofs.YtcgiboeilcdonaaDoor.G
open Go Go.Ab Go.Proofs Go.Proofs.YtcgiboeilcdonaaDoor
set_option maxRecDepth 100000
set_option linter.unusedVariables false
set_option linter.unusedSimpArgs false
set_option maxHeartbeats 1000000
attribute [local irreducible] wops wopf Go.Ab.Fin
theorem F45.ag54 : tagg Tryd.prog 54 = some true := by kernel_rfl
theorem F45.bp54 : bplan Tryd.prog 54 = some ([.nilsl, (.flt .f32 (0 : Nat))], [(0, 1), (1, 1)]) := by kernel_rfl
theorem F45.sz54 : tsz Tryd.prog 54 = some 2 := by kernel_rfl
theorem F45.ze54 : tzero Tryd.prog 54 = some [.nilsl, (.flt .f32 (0 : Nat))] := by kernel_rfl
theorem impl_ReadScheme_ok {fr : List Pc} {H : Heap} (a0 : List UInt8) (hs : Sep H (fr)) (gt4 : ∀ H, Sep H fr → HasTab 4 F.tab4 H) (gt5 : ∀ H, Sep H fr → HasTab 5 F.tab5 H) (gt8 : ∀ H, Sep H fr → HasTab 8 F.tab8 H) (K : (List (Nat)) → Nat → Bool → Prop) (h : impl_ReadScheme.wp a0 K) : OkQ Tryd.prog 45 [(.v (.str (pk a0)))] H (fun r H2 => ∃ (y0 : List (Nat)) (y1 : Nat) (y2 : Bool), K y0 y1 y2 ∧ ∃ (w0_ : AV), r = (.t [(.g [w0_, (.flt .f32 y1)]), (.v (.bool y2))]) ∧ Sep H2 (Pc.osl w0_ 1 (enc (eFlt .f32) y0) :: fr)) := by
  unfold impl_ReadScheme.wp at h
  refine of_body Tryd.f45 F.hm Tryd.func45 rfl Tryd.call45 (by kernel_rfl) (by simp) ?_
  refine fi_seq ?_
  refine fi_region ?_
  refine sv_alloc hs F45.ze54 rfl nofun (fun id101 H102 hs => ?_)
  refine so_assign (v := (.v (.bool false))) rfl ?_
  refine so_nil ?_
  refine fi_seq ?_
  refine fi_region ?_
  refine so_move (v := (.v (.str (pk a0)))) rfl ?_
  refine sv_callS (strings_Cut_ok a0 ([59] : List UInt8) hs  _ h) (fun _ _ ⟨_, _, _, _, _, e⟩ => e) rfl rfl ?_
  clear h
  rintro _ _ ⟨y104, y105, y106, h, rfl, rfl⟩
  refine so_move (v := (.t [(.v (.str (pk y104))), (.v (.str (pk y105))), (.v (.bool y106))])) rfl ?_
  refine so_extract rfl rfl rfl ?_
  refine so_extract rfl rfl rfl ?_
  refine so_extract rfl rfl rfl ?_
  refine so_assign (v := (.v (.str (pk y104)))) rfl ?_
  refine so_assign (v := (.v (.str (pk y105)))) rfl ?_
  refine so_assign (v := (.v (.bool y106))) rfl ?_
  refine so_nil ?_
  refine fi_seq ?_
  refine fi_region ?_
  refine so_move (v := (.v (.str (pk y104)))) rfl ?_
  refine sv_call (impl_ReadNumbers_ok y104 hs (fun _ hs => gt4 _ hs.tl) (fun _ hs => gt5 _ hs.tl) (fun _ hs => gt8 _ hs.tl) _ h) rfl rfl nofun ?_
  clear h hs
  rintro _ H112 ⟨y108, y111, h, v109, rfl, hs⟩
  refine so_move (v := (.t [(.v v109), (.v (.bool y111))])) rfl ?_
  refine so_extract rfl rfl rfl ?_
  refine so_extract rfl rfl rfl ?_
  refine so_assign (v := (.v v109)) rfl ?_
  refine so_assign (v := (.v (.bool y111))) rfl ?_
  refine so_nil ?_
  refine fi_seq ?_
  refine fi_region ?_
  refine so_move (v := (.v (.str (pk y105)))) rfl ?_
  refine sv_callS (impl_readOne_okS y105 hs (fun _ hs => gt4 _ hs.tl.tl) (fun _ hs => gt5 _ hs.tl.tl) (fun _ hs => gt8 _ hs.tl.tl) _ h) (fun _ _ ⟨_, _, _, _, e⟩ => e) rfl rfl ?_
  clear h
  rintro _ _ ⟨y113, y114, h, rfl, rfl⟩
  refine so_move (v := (.t [(.v (.flt .f32 y113)), (.v (.bool y114))])) rfl ?_
  refine so_extract rfl rfl rfl ?_
  refine so_extract rfl rfl rfl ?_
  refine so_assign (v := (.v (.flt .f32 y113))) rfl ?_
  refine so_assign (v := (.v (.bool y114))) rfl ?_
  refine so_nil ?_
  refine fi_seq ?_
  refine fi_region ?_
  refine so_move (v := (.v v109)) rfl ?_
  refine so_move (v := (.v (.flt .f32 y113))) rfl ?_
  refine so_build F45.bp54 (cps := [(0, [v109]), (1, [(.flt .f32 y113)])]) rfl (fac (stc (hs.shows 0 rfl).stor stn) (fac (stc rfl stn) fan)) rfl ?_
  refine sv_alloc hs F45.ze54 rfl nofun (fun id116 H117 hs => ?_)
  refine sv_st hs 0 rfl rfl rfl (c := [v109, (.flt .f32 y113)]) rfl F45.sz54 rfl (stc (hs.shows 1 rfl).stor (stc rfl stn)) (leb rfl) (cs' := [v109, (.flt .f32 y113)]) rfl nofun (fun H119 hs => ?_)
  refine so_nil ?_
  refine fi_seq ?_
  refine fi_seq ?_
  refine fi_region ?_
  refine so_move (v := (.v (.bool y106))) rfl ?_
  refine so_un rfl au_not ?_
  refine so_move (v := (.v (.bool (!y106)))) rfl ?_
  replace h := ofT h; rcases h with ⟨c120, h⟩ | ⟨c120, h⟩
  · refine so_gyes rfl (not_f c120) ?_
    refine so_move (v := (.v (.bool y111))) rfl ?_
    refine so_gyes rfl (not_f c120) ?_
    refine so_un rfl au_not ?_
    refine so_pick_f (v := (.v (.bool (!y111)))) rfl (not_f c120) rfl ?_
    refine so_move (v := (.v (.bool (!y111)))) rfl ?_
    replace h := ofT h; rcases h with ⟨c121, h⟩ | ⟨c121, h⟩
    · refine so_gyes rfl (not_f c121) ?_
      refine so_move (v := (.v (.bool y114))) rfl ?_
      refine so_gyes rfl (not_f c121) ?_
      refine so_un rfl au_not ?_
      refine so_pick_f (v := (.v (.bool (!y114)))) rfl (not_f c121) rfl ?_
      refine so_move (v := (.v (.bool (!y114)))) rfl ?_
      replace h := ofT h; rcases h with ⟨c122, h⟩ | ⟨c122, h⟩
      · refine so_gyes rfl (not_f c122) ?_
        refine sv_lds hs 0 rfl rfl (leb rfl) rfl F45.ag54 F45.sz54 ?_
        refine so_gyes rfl (not_f c122) ?_
        refine sv_callS (impl_ValidScheme_okS v109 y108 y113 hs (fun _ hs => (hs.shows 1 rfl)) _ h) (fun _ _ ⟨_, _, _, e⟩ => e) rfl rfl ?_
        clear h
        rintro _ _ ⟨y123, h, rfl, rfl⟩
        refine so_gyes rfl (not_f c122) ?_
        refine so_un rfl au_not ?_
        refine so_pick_f (v := (.v (.bool (!y123)))) rfl (not_f c122) rfl ?_
        refine so_nil ?_
        replace h := ofT h; rcases h with ⟨c125, h⟩ | ⟨c125, h⟩
        · refine fi_false rfl (not_f c125) ?_
          refine fi_skip ?_
          refine fi_seq ?_
          refine fi_region ?_
          refine sv_lds hs 0 rfl rfl (leb rfl) rfl F45.ag54 F45.sz54 ?_
          refine sv_st hs 2 rfl rfl rfl (c := [v109, (.flt .f32 y113)]) rfl F45.sz54 rfl (stc (hs.shows 1 rfl).stor (stc rfl stn)) (leb rfl) (cs' := [v109, (.flt .f32 y113)]) rfl nofun (fun H126 hs => ?_)
          refine so_assign (v := (.v (.bool true))) rfl ?_
          refine so_nil ?_
          exact by_ret (res_mk (ar_cells rfl F45.ag54 F45.sz54 (hs.lds 2 rfl (leb rfl) rfl) (ar_tmp rfl ar_nil)) rfl) ⟨_, _, _, h, _, rfl, (Sep.del 1 (Sep.del 0 hs))⟩
        · refine fi_true rfl (not_t c125) ?_
          refine fi_seq ?_
          refine fi_region ?_
          refine so_build F45.bp54 (cps := []) rfl fan rfl ?_
          refine sv_st hs 2 rfl rfl rfl (c := [.nilsl, (.flt .f32 (0 : Nat))]) rfl F45.sz54 rfl (stc rfl (stc rfl stn)) (leb rfl) (cs' := [.nilsl, (.flt .f32 (0 : Nat))]) rfl nofun (fun H127 hs => ?_)
          refine so_assign (v := (.v (.bool false))) rfl ?_
          refine so_nil ?_
          exact by_ret (res_mk (ar_cells rfl F45.ag54 F45.sz54 (hs.lds 2 rfl (leb rfl) rfl) (ar_tmp rfl ar_nil)) rfl) ⟨_, _, _, h, _, rfl, (Sep.nil (Sep.del 0 (Sep.del 0 (Sep.del 0 hs))) 1)⟩
      · refine so_gno rfl (not_t c122) ?_
        refine so_gno rfl (not_t c122) ?_
        refine so_gno rfl (not_t c122) ?_
        refine so_pick_t (v := (.v (.bool true))) rfl (not_t c122) rfl ?_
        refine so_nil ?_
        refine fi_true rfl rfl ?_
        refine fi_seq ?_
        refine fi_region ?_
        refine so_build F45.bp54 (cps := []) rfl fan rfl ?_
        refine sv_st hs 2 rfl rfl rfl (c := [.nilsl, (.flt .f32 (0 : Nat))]) rfl F45.sz54 rfl (stc rfl (stc rfl stn)) (leb rfl) (cs' := [.nilsl, (.flt .f32 (0 : Nat))]) rfl nofun (fun H128 hs => ?_)
        refine so_assign (v := (.v (.bool false))) rfl ?_
        refine so_nil ?_
        exact by_ret (res_mk (ar_cells rfl F45.ag54 F45.sz54 (hs.lds 2 rfl (leb rfl) rfl) (ar_tmp rfl ar_nil)) rfl) ⟨_, _, _, h, _, rfl, (Sep.nil (Sep.del 0 (Sep.del 0 (Sep.del 0 hs))) 1)⟩
    · refine so_gno rfl (not_t c121) ?_
      refine so_gno rfl (not_t c121) ?_
      refine so_pick_t (v := (.v (.bool true))) rfl (not_t c121) rfl ?_
      refine so_move (v := (.v (.bool true))) rfl ?_
      refine so_gno rfl rfl ?_
      refine so_gno rfl rfl ?_
      refine so_gno rfl rfl ?_
      refine so_pick_t (v := (.v (.bool true))) rfl rfl rfl ?_
      refine so_nil ?_
      refine fi_true rfl rfl ?_
      refine fi_seq ?_
      refine fi_region ?_
      refine so_build F45.bp54 (cps := []) rfl fan rfl ?_
      refine sv_st hs 2 rfl rfl rfl (c := [.nilsl, (.flt .f32 (0 : Nat))]) rfl F45.sz54 rfl (stc rfl (stc rfl stn)) (leb rfl) (cs' := [.nilsl, (.flt .f32 (0 : Nat))]) rfl nofun (fun H129 hs => ?_)
      refine so_assign (v := (.v (.bool false))) rfl ?_
      refine so_nil ?_
      exact by_ret (res_mk (ar_cells rfl F45.ag54 F45.sz54 (hs.lds 2 rfl (leb rfl) rfl) (ar_tmp rfl ar_nil)) rfl) ⟨_, _, _, h, _, rfl, (Sep.nil (Sep.del 0 (Sep.del 0 (Sep.del 0 hs))) 1)⟩
  · refine so_gno rfl (not_t c120) ?_
    refine so_gno rfl (not_t c120) ?_
    refine so_pick_t (v := (.v (.bool true))) rfl (not_t c120) rfl ?_
    refine so_move (v := (.v (.bool true))) rfl ?_
    refine so_gno rfl rfl ?_
    refine so_gno rfl rfl ?_
    refine so_pick_t (v := (.v (.bool true))) rfl rfl rfl ?_
    refine so_move (v := (.v (.bool true))) rfl ?_
    refine so_gno rfl rfl ?_
    refine so_gno rfl rfl ?_
    refine so_gno rfl rfl ?_
    refine so_pick_t (v := (.v (.bool true))) rfl rfl rfl ?_
    refine so_nil ?_
    refine fi_true rfl rfl ?_
    refine fi_seq ?_
    refine fi_region ?_
    refine so_build F45.bp54 (cps := []) rfl fan rfl ?_
    refine sv_st hs 2 rfl rfl rfl (c := [.nilsl, (.flt .f32 (0 : Nat))]) rfl F45.sz54 rfl (stc rfl (stc rfl stn)) (leb rfl) (cs' := [.nilsl, (.flt .f32 (0 : Nat))]) rfl nofun (fun H130 hs => ?_)
    refine so_assign (v := (.v (.bool false))) rfl ?_
    refine so_nil ?_
    exact by_ret (res_mk (ar_cells rfl F45.ag54 F45.sz54 (hs.lds 2 rfl (leb rfl) rfl) (ar_tmp rfl ar_nil)) rfl) ⟨_, _, _, h, _, rfl, (Sep.nil (Sep.del 0 (Sep.del 0 (Sep.del 0 hs))) 1)⟩

end Go.Proofs.YtcgiboeilcdonaaDoor.G

namespace Go.Proofs.YtcgiboeilcdonaaDoor.G
open Go Go.Ab Go.Proofs Go.Proofs.YtcgiboeilcdonaaDoor
set_option maxRecDepth 100000
set_option linter.unusedVariables false
set_option linter.unusedSimpArgs false
set_option maxHeartbeats 1000000
attribute [local irreducible] wops wopf Go.Ab.Fin
theorem F84.fl49 : tflt Tryd.prog 49 = some .f32 := by kernel_rfl
theorem F84.in49 : tint Tryd.prog 49 = none := by kernel_rfl
theorem F84.sz49 : tsz Tryd.prog 49 = some 1 := by kernel_rfl
theorem F84.ti48 : (telem Tryd.prog 48).isSome = true := by kernel_rfl
theorem F84.tl48 : (telem Tryd.prog 48).bind (tsz Tryd.prog) = some 1 := by kernel_rfl
theorem F84.us3 : (Tryd.prog.underlying 3).isSome = true := by kernel_rfl
theorem laws_markFloat32S_ok {fr : List Pc} {H : Heap} (v0 : AV) (l0 : List (Nat)) (a1 : Int) (hs : Sep H (Pc.osl v0 1 (enc (eFlt .f32) l0) :: fr))  (K : Int → (List (Nat)) → Prop) (h : laws_markFloat32S.wp l0 a1 K) : OkQ Tryd.prog 84 [(.v v0), (.v (.int .i64 a1))] H (fun r H2 => ∃ (y0 : Int) (y1 : List (Nat)), K y0 y1 ∧ r = (.v (.int .i64 y0)) ∧ Sep H2 (Pc.osl v0 1 (enc (eFlt .f32) y1) :: fr)) := by
  unfold laws_markFloat32S.wp at h
  refine of_body Tryd.f84 F.hm Tryd.func84 rfl Tryd.call84 (by kernel_rfl) (by simp) ?_
  refine fi_seq ?_
  refine fi_region ?_
  refine so_assign (v := (.v (.int .i64 (0 : Int)))) rfl ?_
  refine so_nil ?_
  refine fi_seq ?_
  refine fi_seq ?_
  refine fi_region ?_
  refine so_assign (v := (.v (.int .i64 (0 : Int)))) rfl ?_
  refine so_nil ?_
  refine fi_block ?_
  refine fi_loop ?_
  refine fi_at [(0, (.v v0)), (1, (.v (.int .i64 a1))), (5, (.v (.int .i64 (0 : Int))))] ⟨rfl, rfl, rfl, trivial⟩ ?_
  refine h (fun (a109 : List (Nat)) (k110 : Int) (i111 : Int) => ∀ (s : Nat → TV) (H : Heap), Sep H (Pc.osl v0 1 (enc (eFlt .f32) a109) :: fr) → Fin _ _ (updL s [(0, (.v v0)), (1, (.v (.int .i64 k110))), (5, (.v (.int .i64 i111)))]) H _) ?_ _ _ hs
  intro a109 k110 i111 h s115 H116 hs
  refine fi_inLoop ?_
  refine fi_seq ?_
  refine fi_seq ?_
  refine fi_region ?_
  refine so_move (v := (.v (.int .i64 i111))) rfl ?_
  refine so_move (v := (.v v0)) rfl ?_
  refine sv_len (hs.shows 0 rfl) (fun _ => rfl) (by decide) rfl F84.ti48 ?_
  refine so_bin rfl rfl ab_lss ?_
  refine so_nil ?_
  replace h := ofP h; rcases h with ⟨c112, h⟩ | ⟨c112, h⟩
  · refine fi_true rfl (decide_eq_true c112) ?_
    refine fi_skip ?_
    refine fi_seq ?_
    refine fi_block ?_
    refine fi_seq ?_
    refine fi_region ?_
    refine so_move (v := (.v v0)) rfl ?_
    refine so_move (v := (.v (.int .i64 i111))) rfl ?_
    refine so_move (v := (.v (.int .i64 k110))) rfl ?_
    refine sv_if rfl F84.us3 F84.in49 F84.fl49 ?_
    obtain ⟨c113, h⟩ := h
    refine sv_idx (hs.shows 0 rfl) c113 (fun _ => rfl) (by decide) rfl rfl F84.tl48 ?_
    refine sv_set hs 0 rfl c113 (itof .f32 k110) (fun _ => rfl) (by decide) rfl rfl rfl rfl F84.sz49 nofun (fun H114 hs => ?_)
    refine so_nil ?_
    refine fi_region ?_
    refine so_move (v := (.v (.int .i64 k110))) rfl ?_
    refine so_bin rfl rfl ab_add ?_
    refine so_assign (v := (.v (.int .i64 (IntKind.i64.wrap (k110 + (1 : Int)))))) rfl ?_
    refine so_nil ?_
    refine fi_inBlock ?_
    refine fi_region ?_
    refine so_move (v := (.v (.int .i64 i111))) rfl ?_
    refine so_bin rfl rfl ab_add ?_
    refine so_assign (v := (.v (.int .i64 (IntKind.i64.wrap (i111 + (1 : Int)))))) rfl ?_
    refine so_nil ?_
    exact fi_at [(0, (.v v0)), (1, (.v (.int .i64 (IntKind.i64.wrap (k110 + (1 : Int)))))), (5, (.v (.int .i64 (IntKind.i64.wrap (i111 + (1 : Int))))))] ⟨rfl, rfl, rfl, trivial⟩ (h _ _  hs)
  · refine fi_false rfl (decide_eq_false c112) ?_
    refine fi_exit rfl ?_
    refine fi_seq ?_
    refine fi_region ?_
    refine so_move (v := (.v (.int .i64 k110))) rfl ?_
    refine so_assign (v := (.v (.int .i64 k110))) rfl ?_
    refine so_nil ?_
    exact by_ret rfl ⟨_, _, h, rfl, hs⟩

end Go.Proofs.YtcgiboeilcdonaaDoor.G

namespace Go.Proofs.YtcgiboeilcdonaaDoor.G
open Go Go.Ab Go.Proofs Go.Proofs.YtcgiboeilcdonaaDoor
set_option maxRecDepth 100000
set_option linter.unusedVariables false
set_option linter.unusedSimpArgs false
set_option maxHeartbeats 1000000
attribute [local irreducible] wops wopf Go.Ab.Fin
theorem F46.ag48 : tagg Tryd.prog 48 = some false := by kernel_rfl
theorem F46.fd54_0 : tfield Tryd.prog 54 0 = some (0, 1, false) := by kernel_rfl
theorem F46.inf54 : (Tryd.prog.info? 54).isSome = true := by kernel_rfl
theorem laws_markScheme_ok {fr : List Pc} {H : Heap} (v0 : AV) (l0 : List (Nat)) (a1 : Nat) (a2 : Int) (hs : Sep H (Pc.osl v0 1 (enc (eFlt .f32) l0) :: fr))  (K : Int → (List (Nat)) → Prop) (h : laws_markScheme.wp l0 a1 a2 K) : OkQ Tryd.prog 46 [(.g [v0, (.flt .f32 a1)]), (.v (.int .i64 a2))] H (fun r H2 => ∃ (y0 : Int) (y1 : List (Nat)), K y0 y1 ∧ r = (.v (.int .i64 y0)) ∧ Sep H2 (Pc.osl v0 1 (enc (eFlt .f32) y1) :: fr)) := by
  unfold laws_markScheme.wp at h
  refine of_body Tryd.f46 F.hm Tryd.func46 rfl Tryd.call46 (by kernel_rfl) (by simp) ?_
  refine fi_seq ?_
  refine fi_region ?_
  refine sv_box hs rfl (c := [v0, (.flt .f32 a1)]) rfl F46.inf54 (stc (hs.shows 0 rfl).stor (stc rfl stn)) nofun (fun id102 H103 hs => ?_)
  refine so_assign (v := (.v (.int .i64 (0 : Int)))) rfl ?_
  refine so_nil ?_
  refine fi_seq ?_
  refine fi_region ?_
  refine so_fieldAddr rfl F46.fd54_0 ?_
  refine sv_ld hs 0 rfl rfl rfl F46.ag48 ?_
  refine so_move (v := (.v (.int .i64 a2))) rfl ?_
  replace hs := (Sep.front 1 hs rfl)
  refine sv_call (laws_markFloat32S_ok v0 l0 a2 hs  _ h) rfl rfl nofun ?_
  clear h hs
  rintro _ H107 ⟨y105, y106, h, rfl, hs⟩
  refine so_assign (v := (.v (.int .i64 y105))) rfl ?_
  refine so_nil ?_
  refine fi_seq ?_
  refine fi_region ?_
  refine so_move (v := (.v (.int .i64 y105))) rfl ?_
  refine so_assign (v := (.v (.int .i64 y105))) rfl ?_
  refine so_nil ?_
  exact by_ret rfl ⟨_, _, h, rfl, (Sep.del 1 hs)⟩

end Go.Proofs.YtcgiboeilcdonaaDoor.G

namespace Go.Proofs.YtcgiboeilcdonaaDoor.G
open Go Go.Ab Go.Proofs Go.Proofs.YtcgiboeilcdonaaDoor
set_option maxRecDepth 100000
set_option linter.unusedVariables false
set_option linter.unusedSimpArgs false
set_option maxHeartbeats 1000000
attribute [local irreducible] wops wopf Go.Ab.Fin
theorem F85.ag49 : tagg Tryd.prog 49 = some false := by kernel_rfl
theorem F85.fl49 : tflt Tryd.prog 49 = some .f32 := by kernel_rfl
theorem F85.in49 : tint Tryd.prog 49 = none := by kernel_rfl
theorem F85.ti48 : (telem Tryd.prog 48).isSome = true := by kernel_rfl
theorem F85.tl48 : (telem Tryd.prog 48).bind (tsz Tryd.prog) = some 1 := by kernel_rfl
theorem F85.us3 : (Tryd.prog.underlying 3).isSome = true := by kernel_rfl
theorem laws_heldFloat32S_ok {fr : List Pc} {H : Heap} (v0 : AV) (l0 : List (Nat)) (a1 : Int) (hs : Sep H (fr)) (g0 : ∀ H, Sep H fr → Shows H v0 1 (enc (eFlt .f32) l0)) (K : Int → Prop) (h : laws_heldFloat32S.wp l0 a1 K) : OkQ Tryd.prog 85 [(.v v0), (.v (.int .i64 a1))] H (fun r H2 => ∃ (y0 : Int), K y0 ∧ r = (.v (.int .i64 y0)) ∧ H = H2) := by
  unfold laws_heldFloat32S.wp at h
  refine of_body Tryd.f85 F.hm Tryd.func85 rfl Tryd.call85 (by kernel_rfl) (by simp) ?_
  refine fi_seq ?_
  refine fi_region ?_
  refine so_assign (v := (.v (.int .i64 (0 : Int)))) rfl ?_
  refine so_nil ?_
  refine fi_seq ?_
  refine fi_seq ?_
  refine fi_region ?_
  refine so_assign (v := (.v (.int .i64 (0 : Int)))) rfl ?_
  refine so_nil ?_
  refine fi_block ?_
  refine fi_loop ?_
  refine fi_at [(0, (.v v0)), (1, (.v (.int .i64 a1))), (5, (.v (.int .i64 (0 : Int))))] ⟨rfl, rfl, rfl, trivial⟩ ?_
  refine h (fun (k102 : Int) (i103 : Int) => ∀ (s : Nat → TV), Fin _ _ (updL s [(0, (.v v0)), (1, (.v (.int .i64 k102))), (5, (.v (.int .i64 i103)))]) _ _) ?_ _
  intro k102 i103 h s107
  refine fi_inLoop ?_
  refine fi_seq ?_
  refine fi_seq ?_
  refine fi_region ?_
  refine so_move (v := (.v (.int .i64 i103))) rfl ?_
  refine so_move (v := (.v v0)) rfl ?_
  refine sv_len (g0 _ hs) (fun _ => rfl) (by decide) rfl F85.ti48 ?_
  refine so_bin rfl rfl ab_lss ?_
  refine so_nil ?_
  replace h := ofP h; rcases h with ⟨c104, h⟩ | ⟨c104, h⟩
  · refine fi_true rfl (decide_eq_true c104) ?_
    refine fi_skip ?_
    refine fi_seq ?_
    refine fi_block ?_
    refine fi_seq ?_
    refine fi_seq ?_
    refine fi_region ?_
    refine so_move (v := (.v v0)) rfl ?_
    refine so_move (v := (.v (.int .i64 i103))) rfl ?_
    obtain ⟨c105, h⟩ := h
    refine sv_idx (g0 _ hs) c105 (fun _ => rfl) (by decide) rfl rfl F85.tl48 ?_
    refine sv_cell (g0 _ hs) c105 (0 : Nat) 0 (fun x => (AV.flt .f32 x)) (fun _ => rfl) (fun _ => rfl) rfl F85.ag49 ?_
    refine so_move (v := (.v (.int .i64 k102))) rfl ?_
    refine sv_if rfl F85.us3 F85.in49 F85.fl49 ?_
    refine so_bin rfl rfl ab_fneq ?_
    refine so_nil ?_
    replace h := ofT h; rcases h with ⟨c106, h⟩ | ⟨c106, h⟩
    · refine fi_true rfl c106 ?_
      refine fi_seq ?_
      refine fi_region ?_
      refine so_assign (v := (.v (.int .i64 (-1 : Int)))) rfl ?_
      refine so_nil ?_
      exact by_ret rfl ⟨_, h, rfl, rfl⟩
    · refine fi_false rfl c106 ?_
      refine fi_skip ?_
      refine fi_region ?_
      refine so_move (v := (.v (.int .i64 k102))) rfl ?_
      refine so_bin rfl rfl ab_add ?_
      refine so_assign (v := (.v (.int .i64 (IntKind.i64.wrap (k102 + (1 : Int)))))) rfl ?_
      refine so_nil ?_
      refine fi_inBlock ?_
      refine fi_region ?_
      refine so_move (v := (.v (.int .i64 i103))) rfl ?_
      refine so_bin rfl rfl ab_add ?_
      refine so_assign (v := (.v (.int .i64 (IntKind.i64.wrap (i103 + (1 : Int)))))) rfl ?_
      refine so_nil ?_
      exact fi_at [(0, (.v v0)), (1, (.v (.int .i64 (IntKind.i64.wrap (k102 + (1 : Int)))))), (5, (.v (.int .i64 (IntKind.i64.wrap (i103 + (1 : Int))))))] ⟨rfl, rfl, rfl, trivial⟩ (h _)
  · refine fi_false rfl (decide_eq_false c104) ?_
    refine fi_exit rfl ?_
    refine fi_seq ?_
    refine fi_region ?_
    refine so_move (v := (.v (.int .i64 k102))) rfl ?_
    refine so_assign (v := (.v (.int .i64 k102))) rfl ?_
    refine so_nil ?_
    exact by_ret rfl ⟨_, h, rfl, rfl⟩

end Go.Proofs.YtcgiboeilcdonaaDoor.G

namespace Go.Proofs.YtcgiboeilcdonaaDoor.G
open Go Go.Ab Go.Proofs Go.Proofs.YtcgiboeilcdonaaDoor
set_option maxRecDepth 100000
set_option linter.unusedVariables false
set_option linter.unusedSimpArgs false
set_option maxHeartbeats 1000000
attribute [local irreducible] wops wopf Go.Ab.Fin
theorem F47.ag48 : tagg Tryd.prog 48 = some false := by kernel_rfl
theorem F47.fd54_0 : tfield Tryd.prog 54 0 = some (0, 1, false) := by kernel_rfl
theorem F47.inf54 : (Tryd.prog.info? 54).isSome = true := by kernel_rfl
theorem laws_heldScheme_ok {fr : List Pc} {H : Heap} (v0 : AV) (l0 : List (Nat)) (a1 : Nat) (a2 : Int) (hs : Sep H (fr)) (g0 : ∀ H, Sep H fr → Shows H v0 1 (enc (eFlt .f32) l0)) (K : Int → Prop) (h : laws_heldScheme.wp l0 a1 a2 K) : OkQ Tryd.prog 47 [(.g [v0, (.flt .f32 a1)]), (.v (.int .i64 a2))] H (fun r H2 => ∃ (y0 : Int), K y0 ∧ r = (.v (.int .i64 y0)) ∧ Sep H2 (fr)) := by
  unfold laws_heldScheme.wp at h
  refine of_body Tryd.f47 F.hm Tryd.func47 rfl Tryd.call47 (by kernel_rfl) (by simp) ?_
  refine fi_seq ?_
  refine fi_region ?_
  refine sv_box hs rfl (c := [v0, (.flt .f32 a1)]) rfl F47.inf54 (stc (g0 _ hs).stor (stc rfl stn)) nofun (fun id101 H102 hs => ?_)
  refine so_assign (v := (.v (.int .i64 (0 : Int)))) rfl ?_
  refine so_nil ?_
  refine fi_seq ?_
  refine fi_region ?_
  refine so_fieldAddr rfl F47.fd54_0 ?_
  refine sv_ld hs 0 rfl rfl rfl F47.ag48 ?_
  refine so_move (v := (.v (.int .i64 a2))) rfl ?_
  refine sv_callS (laws_heldFloat32S_ok v0 l0 a2 hs (fun _ hs => (g0 _ hs.tl)) _ h) (fun _ _ ⟨_, _, _, e⟩ => e) rfl rfl ?_
  clear h
  rintro _ _ ⟨y104, h, rfl, rfl⟩
  refine so_assign (v := (.v (.int .i64 y104))) rfl ?_
  refine so_nil ?_
  refine fi_seq ?_
  refine fi_seq ?_
  refine fi_region ?_
  refine so_move (v := (.v (.int .i64 y104))) rfl ?_
  refine so_bin rfl rfl ab_lss ?_
  refine so_nil ?_
  replace h := ofP h; rcases h with ⟨c106, h⟩ | ⟨c106, h⟩
  · refine fi_true rfl (decide_eq_true c106) ?_
    refine fi_seq ?_
    refine fi_region ?_
    refine so_assign (v := (.v (.int .i64 (-1 : Int)))) rfl ?_
    refine so_nil ?_
    exact by_ret rfl ⟨_, h, rfl, (Sep.del 0 hs)⟩
  · refine fi_false rfl (decide_eq_false c106) ?_
    refine fi_skip ?_
    refine fi_seq ?_
    refine fi_region ?_
    refine so_move (v := (.v (.int .i64 y104))) rfl ?_
    refine so_assign (v := (.v (.int .i64 y104))) rfl ?_
    refine so_nil ?_
    exact by_ret rfl ⟨_, h, rfl, (Sep.del 0 hs)⟩
theorem laws_heldScheme_okS {fr : List Pc} {H : Heap} (v0 : AV) (l0 : List (Nat)) (a1 : Nat) (a2 : Int) (hs : Sep H fr) (g0 : ∀ H, Sep H fr → Shows H v0 1 (enc (eFlt .f32) l0)) (K : Int → Prop) (h : laws_heldScheme.wp l0 a1 a2 K) : OkQ Tryd.prog 47 [(.g [v0, (.flt .f32 a1)]), (.v (.int .i64 a2))] H (fun r H2 => ∃ (y0 : Int), K y0 ∧ r = (.v (.int .i64 y0)) ∧ H = H2) := by
  obtain ⟨r, H2, h1, y0, hK, hr, hsep⟩ := laws_heldScheme_ok (fr := came H) (H := H) v0 l0 a1 a2 (came_sep H) (came_shows (g0 H hs)) K h
  have hk : H.n ≤ H2.n ∧ ∀ i, i < H.n → H2.f i = H.f i := hsep.1.2.1
  exact ⟨r, H, h1.forget hk.1 hk.2 (by subst hr; rfl), y0, hK, hr, rfl⟩

end Go.Proofs.YtcgiboeilcdonaaDoor.G

namespace Go.Proofs.YtcgiboeilcdonaaDoor.G
open Go Go.Ab Go.Proofs Go.Proofs.YtcgiboeilcdonaaDoor
set_option maxRecDepth 100000
set_option linter.unusedVariables false
set_option linter.unusedSimpArgs false
set_option maxHeartbeats 1000000
attribute [local irreducible] wops wopf Go.Ab.Fin
theorem F10.ag54 : tagg Tryd.prog 54 = some true := by kernel_rfl
theorem F10.sr9 : tstr Tryd.prog 9 = true := by kernel_rfl
theorem F10.sz54 : tsz Tryd.prog 54 = some 2 := by kernel_rfl
theorem F10.tb4 : tbool Tryd.prog 4 = true := by kernel_rfl
theorem F10.ze54 : tzero Tryd.prog 54 = some [.nilsl, (.flt .f32 (0 : Nat))] := by kernel_rfl
theorem laws_FnExactReadScheme_ok {fr : List Pc} {H : Heap} (a0 : List UInt8) (hs : Sep H (fr)) (gt4 : ∀ H, Sep H fr → HasTab 4 F.tab4 H) (gt5 : ∀ H, Sep H fr → HasTab 5 F.tab5 H) (gt8 : ∀ H, Sep H fr → HasTab 8 F.tab8 H) (K : Bool → Prop) (h : laws_FnExactReadScheme.wp a0 K) : OkQ Tryd.prog 10 [(.v (.str (pk a0)))] H (fun r H2 => ∃ (y0 : Bool), K y0 ∧ r = (.v (.bool y0)) ∧ Sep H2 (fr)) := by
  unfold laws_FnExactReadScheme.wp at h
  refine of_body Tryd.f10 F.hm Tryd.func10 rfl Tryd.call10 (by kernel_rfl) (by simp) ?_
  refine fi_seq ?_
  refine fi_region ?_
  refine so_assign (v := (.v (.bool false))) rfl ?_
  refine so_nil ?_
  refine fi_seq ?_
  refine fi_seq ?_
  refine fi_region ?_
  refine so_move (v := (.v (.str (pk a0)))) rfl ?_
  refine so_slen rfl F10.sr9 ?_
  refine so_bin rfl rfl ab_gtr ?_
  refine so_nil ?_
  replace h := ofP h; rcases h with ⟨c101, h⟩ | ⟨c101, h⟩
  · refine fi_true rfl (decide_eq_true c101) ?_
    refine fi_seq ?_
    refine fi_region ?_
    refine so_assign (v := (.v (.bool true))) rfl ?_
    refine so_nil ?_
    exact by_ret rfl ⟨_, h, rfl, hs⟩
  · refine fi_false rfl (decide_eq_false c101) ?_
    refine fi_skip ?_
    refine fi_seq ?_
    refine fi_region ?_
    refine so_move (v := (.v (.str (pk a0)))) rfl ?_
    refine sv_call (spec_ReadScheme_ok a0 hs  _ h) rfl rfl nofun ?_
    clear h hs
    rintro _ H107 ⟨y102, y105, y106, h, v103, rfl, hs⟩
    refine so_move (v := (.t [(.g [v103, (.flt .f32 y105)]), (.v (.bool y106))])) rfl ?_
    refine so_extract rfl rfl rfl ?_
    refine so_extract rfl rfl rfl ?_
    refine sv_alloc hs F10.ze54 rfl nofun (fun id108 H109 hs => ?_)
    refine sv_st hs 0 rfl rfl rfl (c := [v103, (.flt .f32 y105)]) rfl F10.sz54 rfl (stc (hs.shows 1 rfl).stor (stc rfl stn)) (leb rfl) (cs' := [v103, (.flt .f32 y105)]) rfl nofun (fun H111 hs => ?_)
    refine so_assign (v := (.v (.bool y106))) rfl ?_
    refine so_nil ?_
    refine fi_seq ?_
    refine fi_region ?_
    refine so_move (v := (.v (.str (pk a0)))) rfl ?_
    refine sv_call (impl_ReadScheme_ok a0 hs (fun _ hs => gt4 _ hs.tl.tl) (fun _ hs => gt5 _ hs.tl.tl) (fun _ hs => gt8 _ hs.tl.tl) _ h) rfl rfl nofun ?_
    clear h hs
    rintro _ H117 ⟨y112, y115, y116, h, v113, rfl, hs⟩
    refine so_move (v := (.t [(.g [v113, (.flt .f32 y115)]), (.v (.bool y116))])) rfl ?_
    refine so_extract rfl rfl rfl ?_
    refine so_extract rfl rfl rfl ?_
    refine sv_alloc hs F10.ze54 rfl nofun (fun id118 H119 hs => ?_)
    refine sv_st hs 0 rfl rfl rfl (c := [v113, (.flt .f32 y115)]) rfl F10.sz54 rfl (stc (hs.shows 1 rfl).stor (stc rfl stn)) (leb rfl) (cs' := [v113, (.flt .f32 y115)]) rfl nofun (fun H121 hs => ?_)
    refine so_assign (v := (.v (.bool y116))) rfl ?_
    refine so_nil ?_
    refine fi_seq ?_
    refine fi_seq ?_
    refine fi_region ?_
    refine sv_lds hs 0 rfl rfl (leb rfl) rfl F10.ag54 F10.sz54 ?_
    refine sv_lds hs 2 rfl rfl (leb rfl) rfl F10.ag54 F10.sz54 ?_
    refine sv_callS (laws_eqScheme_okS v113 y112 y115 v103 y102 y105 hs (fun _ hs => (hs.shows 1 rfl)) (fun _ hs => (hs.shows 3 rfl)) _ h) (fun _ _ ⟨_, _, _, e⟩ => e) rfl rfl ?_
    clear h
    rintro _ _ ⟨y122, h, rfl, rfl⟩
    refine so_un rfl au_not ?_
    refine so_move (v := (.v (.bool (!y122)))) rfl ?_
    replace h := ofT h; rcases h with ⟨c124, h⟩ | ⟨c124, h⟩
    · refine so_gyes rfl (not_f c124) ?_
      refine so_move (v := (.v (.bool y116))) rfl ?_
      refine so_gyes rfl (not_f c124) ?_
      refine so_move (v := (.v (.bool y106))) rfl ?_
      refine so_gyes rfl (not_f c124) ?_
      refine so_bin rfl rfl (ab_bneq F10.tb4) ?_
      refine so_pick_f (v := (.v (.bool (!(y116 == y106))))) rfl (not_f c124) rfl ?_
      refine so_nil ?_
      replace h := ofT h; rcases h with ⟨c125, h⟩ | ⟨c125, h⟩
      · refine fi_false rfl (not_f c125) ?_
        refine fi_skip ?_
        refine fi_seq ?_
        refine fi_region ?_
        refine so_assign (v := (.v (.int .i64 (1 : Int)))) rfl ?_
        refine so_nil ?_
        refine fi_seq ?_
        refine fi_region ?_
        refine sv_lds hs 0 rfl rfl (leb rfl) rfl F10.ag54 F10.sz54 ?_
        refine so_move (v := (.v (.int .i64 (1 : Int)))) rfl ?_
        replace hs := (Sep.front 1 hs rfl)
        refine sv_call (laws_markScheme_ok v113 y112 y115 (1 : Int) hs  _ h) rfl rfl nofun ?_
        clear h hs
        rintro _ H128 ⟨y126, y127, h, rfl, hs⟩
        refine so_assign (v := (.v (.int .i64 y126))) rfl ?_
        refine so_nil ?_
        refine fi_seq ?_
        refine fi_region ?_
        refine so_assign (v := (.v (.int .i64 (1 : Int)))) rfl ?_
        refine so_nil ?_
        refine fi_seq ?_
        refine fi_region ?_
        refine sv_lds hs 1 rfl rfl (leb rfl) rfl F10.ag54 F10.sz54 ?_
        refine so_move (v := (.v (.int .i64 (1 : Int)))) rfl ?_
        refine sv_callS (laws_heldScheme_okS v113 y127 y115 (1 : Int) hs (fun _ hs => (hs.shows 0 rfl)) _ h) (fun _ _ ⟨_, _, _, e⟩ => e) rfl rfl ?_
        clear h
        rintro _ _ ⟨y129, h, rfl, rfl⟩
        refine so_assign (v := (.v (.int .i64 y129))) rfl ?_
        refine so_nil ?_
        refine fi_seq ?_
        refine fi_seq ?_
        refine fi_region ?_
        refine so_move (v := (.v (.int .i64 y129))) rfl ?_
        refine so_bin rfl rfl ab_lss ?_
        refine so_nil ?_
        replace h := ofP h; rcases h with ⟨c131, h⟩ | ⟨c131, h⟩
        · refine fi_true rfl (decide_eq_true c131) ?_
          refine fi_seq ?_
          refine fi_region ?_
          refine so_assign (v := (.v (.bool false))) rfl ?_
          refine so_nil ?_
          exact by_ret rfl ⟨_, h, rfl, (Sep.dropn 4 hs)⟩
        · refine fi_false rfl (decide_eq_false c131) ?_
          refine fi_skip ?_
          refine fi_seq ?_
          refine fi_seq ?_
          refine fi_region ?_
          refine so_move (v := (.v (.int .i64 y129))) rfl ?_
          refine so_move (v := (.v (.int .i64 y126))) rfl ?_
          refine so_bin rfl rfl ab_neq ?_
          refine so_nil ?_
          replace h := ofP h; rcases h with ⟨c132, h⟩ | ⟨c132, h⟩
          · refine fi_false rfl (not_f (decide_eq_true c132)) ?_
            refine fi_skip ?_
            refine fi_seq ?_
            refine fi_region ?_
            refine so_move (v := (.v (.str (pk a0)))) rfl ?_
            refine sv_call (impl_ReadScheme_ok a0 hs (fun _ hs => gt4 _ hs.tl.tl.tl.tl) (fun _ hs => gt5 _ hs.tl.tl.tl.tl) (fun _ hs => gt8 _ hs.tl.tl.tl.tl) _ h) rfl rfl nofun ?_
            clear h hs
            rintro _ H138 ⟨y133, y136, y137, h, v134, rfl, hs⟩
            refine so_move (v := (.t [(.g [v134, (.flt .f32 y136)]), (.v (.bool y137))])) rfl ?_
            refine so_extract rfl rfl rfl ?_
            refine so_extract rfl rfl rfl ?_
            refine sv_alloc hs F10.ze54 rfl nofun (fun id139 H140 hs => ?_)
            refine sv_st hs 0 rfl rfl rfl (c := [v134, (.flt .f32 y136)]) rfl F10.sz54 rfl (stc (hs.shows 1 rfl).stor (stc rfl stn)) (leb rfl) (cs' := [v134, (.flt .f32 y136)]) rfl nofun (fun H142 hs => ?_)
            refine so_assign (v := (.v (.bool y137))) rfl ?_
            refine so_nil ?_
            refine fi_seq ?_
            refine fi_seq ?_
            refine fi_region ?_
            refine sv_lds hs 0 rfl rfl (leb rfl) rfl F10.ag54 F10.sz54 ?_
            refine sv_lds hs 4 rfl rfl (leb rfl) rfl F10.ag54 F10.sz54 ?_
            refine sv_callS (laws_eqScheme_okS v134 y133 y136 v103 y102 y105 hs (fun _ hs => (hs.shows 1 rfl)) (fun _ hs => (hs.shows 5 rfl)) _ h) (fun _ _ ⟨_, _, _, e⟩ => e) rfl rfl ?_
            clear h
            rintro _ _ ⟨y143, h, rfl, rfl⟩
            refine so_un rfl au_not ?_
            refine so_move (v := (.v (.bool (!y143)))) rfl ?_
            replace h := ofT h; rcases h with ⟨c145, h⟩ | ⟨c145, h⟩
            · refine so_gyes rfl (not_f c145) ?_
              refine so_move (v := (.v (.bool y137))) rfl ?_
              refine so_gyes rfl (not_f c145) ?_
              refine so_move (v := (.v (.bool y106))) rfl ?_
              refine so_gyes rfl (not_f c145) ?_
              refine so_bin rfl rfl (ab_bneq F10.tb4) ?_
              refine so_pick_f (v := (.v (.bool (!(y137 == y106))))) rfl (not_f c145) rfl ?_
              refine so_nil ?_
              replace h := ofT h; rcases h with ⟨c146, h⟩ | ⟨c146, h⟩
              · refine fi_false rfl (not_f c146) ?_
                refine fi_skip ?_
                refine fi_seq ?_
                refine fi_region ?_
                refine so_assign (v := (.v (.int .i64 (1 : Int)))) rfl ?_
                refine so_nil ?_
                refine fi_seq ?_
                refine fi_region ?_
                refine sv_lds hs 3 rfl rfl (leb rfl) rfl F10.ag54 F10.sz54 ?_
                refine so_move (v := (.v (.int .i64 (1 : Int)))) rfl ?_
                refine sv_callS (laws_heldScheme_okS v113 y127 y115 (1 : Int) hs (fun _ hs => (hs.shows 2 rfl)) _ h) (fun _ _ ⟨_, _, _, e⟩ => e) rfl rfl ?_
                clear h
                rintro _ _ ⟨y147, h, rfl, rfl⟩
                refine so_assign (v := (.v (.int .i64 y147))) rfl ?_
                refine so_nil ?_
                refine fi_seq ?_
                refine fi_seq ?_
                refine fi_region ?_
                refine so_move (v := (.v (.int .i64 y147))) rfl ?_
                refine so_bin rfl rfl ab_lss ?_
                refine so_nil ?_
                replace h := ofP h; rcases h with ⟨c149, h⟩ | ⟨c149, h⟩
                · refine fi_true rfl (decide_eq_true c149) ?_
                  refine fi_seq ?_
                  refine fi_region ?_
                  refine so_assign (v := (.v (.bool false))) rfl ?_
                  refine so_nil ?_
                  exact by_ret rfl ⟨_, h, rfl, (Sep.dropn 6 hs)⟩
                · refine fi_false rfl (decide_eq_false c149) ?_
                  refine fi_skip ?_
                  refine fi_seq ?_
                  refine fi_seq ?_
                  refine fi_region ?_
                  refine so_move (v := (.v (.int .i64 y147))) rfl ?_
                  refine so_move (v := (.v (.int .i64 y126))) rfl ?_
                  refine so_bin rfl rfl ab_neq ?_
                  refine so_nil ?_
                  replace h := ofP h; rcases h with ⟨c150, h⟩ | ⟨c150, h⟩
                  · refine fi_false rfl (not_f (decide_eq_true c150)) ?_
                    refine fi_skip ?_
                    refine fi_seq ?_
                    refine fi_region ?_
                    refine so_assign (v := (.v (.bool true))) rfl ?_
                    refine so_nil ?_
                    exact by_ret rfl ⟨_, h, rfl, (Sep.dropn 6 hs)⟩
                  · refine fi_true rfl (not_t (decide_eq_false c150)) ?_
                    refine fi_seq ?_
                    refine fi_region ?_
                    refine so_assign (v := (.v (.bool false))) rfl ?_
                    refine so_nil ?_
                    exact by_ret rfl ⟨_, h, rfl, (Sep.dropn 6 hs)⟩
              · refine fi_true rfl (not_t c146) ?_
                refine fi_seq ?_
                refine fi_region ?_
                refine so_assign (v := (.v (.bool false))) rfl ?_
                refine so_nil ?_
                exact by_ret rfl ⟨_, h, rfl, (Sep.dropn 6 hs)⟩
            · refine so_gno rfl (not_t c145) ?_
              refine so_gno rfl (not_t c145) ?_
              refine so_gno rfl (not_t c145) ?_
              refine so_pick_t (v := (.v (.bool true))) rfl (not_t c145) rfl ?_
              refine so_nil ?_
              refine fi_true rfl rfl ?_
              refine fi_seq ?_
              refine fi_region ?_
              refine so_assign (v := (.v (.bool false))) rfl ?_
              refine so_nil ?_
              exact by_ret rfl ⟨_, h, rfl, (Sep.dropn 6 hs)⟩
          · refine fi_true rfl (not_t (decide_eq_false c132)) ?_
            refine fi_seq ?_
            refine fi_region ?_
            refine so_assign (v := (.v (.bool false))) rfl ?_
            refine so_nil ?_
            exact by_ret rfl ⟨_, h, rfl, (Sep.dropn 4 hs)⟩
      · refine fi_true rfl (not_t c125) ?_
        refine fi_seq ?_
        refine fi_region ?_
        refine so_assign (v := (.v (.bool false))) rfl ?_
        refine so_nil ?_
        exact by_ret rfl ⟨_, h, rfl, (Sep.dropn 4 hs)⟩
    · refine so_gno rfl (not_t c124) ?_
      refine so_gno rfl (not_t c124) ?_
      refine so_gno rfl (not_t c124) ?_
      refine so_pick_t (v := (.v (.bool true))) rfl (not_t c124) rfl ?_
      refine so_nil ?_
      refine fi_true rfl rfl ?_
      refine fi_seq ?_
      refine fi_region ?_
      refine so_assign (v := (.v (.bool false))) rfl ?_
      refine so_nil ?_
      exact by_ret rfl ⟨_, h, rfl, (Sep.dropn 4 hs)⟩

end Go.Proofs.YtcgiboeilcdonaaDoor.G

