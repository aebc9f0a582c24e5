/-
  The model ends so. Printed by a program of the session; nothing here is trusted.
-/
import Derived.Test.YtmbkjkcolmoioaaGreatDoorProg
import Derived.KernelRfl
import Derived.Test.YtmbkjkcolmoioaaGreatDoorMExactReadPictureWa
import Derived.Test.YtmbkjkcolmoioaaGreatDoorShelf
import Derived.Test.YtmbkjkcolmoioaaGreatDoorMExactReadPictureKa
namespace Go.Proofs.YtmbkjkcolmoioaaGreatDoor.G
open Go Go.Ab Go.Proofs Go.Proofs.YtmbkjkcolmoioaaGreatDoor
set_option maxRecDepth 100000
set_option linter.unusedVariables false
set_option linter.unusedSimpArgs false
set_option maxHeartbeats 1000000
attribute [local irreducible] wops wopf Go.Ab.Fin
theorem F181.ag5 : tagg Tryz.prog 5 = some false := by kernel_rfl
theorem F181.it138 : tint Tryz.prog 138 = some .u64 := by kernel_rfl
theorem F181.it182 : tint Tryz.prog 182 = some .u64 := by kernel_rfl
theorem F181.it255 : tint Tryz.prog 255 = some .i64 := by kernel_rfl
theorem F181.it5 : tint Tryz.prog 5 = some .u8 := by kernel_rfl
theorem F181.ns30 : tstr Tryz.prog 30 = false := by kernel_rfl
theorem F181.te30 : telem Tryz.prog 30 = some 5 := by kernel_rfl
theorem F181.ti30 : (telem Tryz.prog 30).isSome = true := by kernel_rfl
theorem F181.tl30 : (telem Tryz.prog 30).bind (tsz Tryz.prog) = some 1 := by kernel_rfl
theorem F181.us3 : (Tryz.prog.underlying 3).isSome = true := by kernel_rfl
theorem F181.us5 : (Tryz.prog.underlying 5).isSome = true := by kernel_rfl
theorem F181.us9 : (Tryz.prog.underlying 9).isSome = true := by kernel_rfl
theorem internal_strconv_ParseUintC_ok {fr : List Pc} {H : Heap} (a0 : List UInt8) (hs : Sep H (fr))  (K : Int → IfV → Prop) (h : internal_strconv_ParseUintC.wp a0 K) : OkQ Tryz.prog 181 [(.v (.str (pk a0))), (.v (.int .i64 (16 : Int))), (.v (.int .i64 (32 : Int)))] H (fun r H2 => ∃ (y0 : Int) (y1 : IfV), K y0 y1 ∧ r = (.t [(.v (.int .u64 y0)), (.v (.ifc y1))]) ∧ Sep H2 (fr)) := by
  unfold internal_strconv_ParseUintC.wp at h
  refine of_body Tryz.f181 F.hm Tryz.func181 rfl Tryz.call181 (by kernel_rfl) (by simp) ?_
  refine fi_seq ?_
  refine fi_region ?_
  refine so_assign (v := (.v (.int .u64 (0 : Int)))) rfl ?_
  refine so_assign (v := (.v (.ifc IfV.nil))) rfl ?_
  refine so_nil ?_
  refine fi_seq ?_
  refine fi_seq ?_
  refine fi_region ?_
  refine so_move (v := (.v (.str (pk a0)))) rfl ?_
  refine so_bin rfl rfl ab_seql ?_
  refine so_nil ?_
  replace h := ofP h; rcases h with ⟨c101, h⟩ | ⟨c101, h⟩
  · refine fi_true rfl (decide_eq_true c101) ?_
    refine fi_seq ?_
    refine fi_region ?_
    refine so_mkif rfl F181.it255 ?_
    refine so_assign (v := (.v (.int .u64 (0 : Int)))) rfl ?_
    refine so_assign (v := (.v (.ifc (IfV.num 255 .i64 (2 : Int))))) rfl ?_
    refine so_nil ?_
    exact by_ret rfl ⟨_, _, h, rfl, hs⟩
  · refine fi_false rfl (decide_eq_false c101) ?_
    refine fi_skip ?_
    refine fi_seq ?_
    refine fi_region ?_
    refine so_move (v := (.v (.int .i64 (16 : Int)))) rfl ?_
    refine so_bin rfl rfl ab_eql ?_
    refine so_assign (v := (.v (.bool (decide ((16 : Int) = (0 : Int)))))) rfl ?_
    refine so_nil ?_
    refine fi_seq ?_
    refine fi_region ?_
    refine so_move (v := (.v (.str (pk a0)))) rfl ?_
    refine so_assign (v := (.v (.str (pk a0)))) rfl ?_
    refine so_nil ?_
    refine fi_seq ?_
    refine fi_block ?_
    refine fi_seq ?_
    refine fi_region ?_
    refine so_move (v := (.v (.int .i64 (16 : Int)))) rfl ?_
    refine so_bin rfl rfl ab_leq ?_
    refine so_move (v := (.v (.bool (decide ((2 : Int) ≤ (16 : Int)))))) rfl ?_
    refine so_gyes rfl (decide_eq_true (by decide)) ?_
    refine so_move (v := (.v (.int .i64 (16 : Int)))) rfl ?_
    refine so_gyes rfl (decide_eq_true (by decide)) ?_
    refine so_bin rfl rfl ab_leq ?_
    refine so_pick_t (v := (.v (.bool (decide ((16 : Int) ≤ (36 : Int)))))) rfl (decide_eq_true (by decide)) rfl ?_
    refine so_assign (v := (.v (.bool (decide ((16 : Int) ≤ (36 : Int)))))) rfl ?_
    refine so_nil ?_
    refine fi_true rfl (decide_eq_true (by decide)) ?_
    refine fi_skip ?_
    refine fi_inBlock ?_
    refine fi_seq ?_
    refine fi_seq ?_
    refine fi_region ?_
    refine so_move (v := (.v (.int .i64 (32 : Int)))) rfl ?_
    refine so_bin rfl rfl ab_eql ?_
    refine so_nil ?_
    refine fi_false rfl (decide_eq_false (by decide)) ?_
    refine fi_seq ?_
    refine fi_region ?_
    refine so_move (v := (.v (.int .i64 (32 : Int)))) rfl ?_
    refine so_bin rfl rfl ab_lss ?_
    refine so_move (v := (.v (.bool (decide ((32 : Int) < (0 : Int)))))) rfl ?_
    refine so_gyes rfl (decide_eq_false (by decide)) ?_
    refine so_move (v := (.v (.int .i64 (32 : Int)))) rfl ?_
    refine so_gyes rfl (decide_eq_false (by decide)) ?_
    refine so_bin rfl rfl ab_gtr ?_
    refine so_pick_f (v := (.v (.bool (decide ((64 : Int) < (32 : Int)))))) rfl (decide_eq_false (by decide)) rfl ?_
    refine so_nil ?_
    refine fi_false rfl (decide_eq_false (by decide)) ?_
    refine fi_skip ?_
    refine fi_seq ?_
    refine fi_region ?_
    refine so_assign (v := (.v (.int .u64 (0 : Int)))) rfl ?_
    refine so_nil ?_
    refine fi_seq ?_
    refine fi_seq ?_
    refine fi_region ?_
    refine so_move (v := (.v (.int .i64 (16 : Int)))) rfl ?_
    refine so_nil ?_
    refine fi_block ?_
    refine fi_seq ?_
    refine fi_region ?_
    refine so_bin rfl rfl ab_eql ?_
    refine so_assign (v := (.v (.bool (decide ((16 : Int) = (10 : Int)))))) rfl ?_
    refine so_nil ?_
    refine fi_false rfl (decide_eq_false (by decide)) ?_
    refine fi_seq ?_
    refine fi_region ?_
    refine so_bin rfl rfl ab_eql ?_
    refine so_assign (v := (.v (.bool (decide ((16 : Int) = (16 : Int)))))) rfl ?_
    refine so_nil ?_
    refine fi_true rfl (decide_eq_true (by decide)) ?_
    refine fi_region ?_
    refine so_assign (v := (.v (.int .u64 (1152921504606846976 : Int)))) rfl ?_
    refine so_nil ?_
    refine fi_inBlock ?_
    refine fi_seq ?_
    refine fi_region ?_
    refine so_move (v := (.v (.int .i64 (32 : Int)))) rfl ?_
    refine sv_ii rfl F181.us3 F181.it182 ?_
    obtain ⟨c102, h⟩ := h
    refine so_bin rfl rfl (ab_shl c102) ?_
    refine so_bin rfl rfl ab_sub ?_
    refine so_assign (v := (.v (.int .u64 (IntKind.u64.wrap ((IntKind.u64.wrap ((1 : Int) * (2 ^ (min ((IntKind.u64.wrap (32 : Int))).toNat IntKind.u64.bits)))) - (1 : Int)))))) rfl ?_
    refine so_nil ?_
    refine fi_seq ?_
    refine fi_region ?_
    refine so_assign (v := (.v (.bool false))) rfl ?_
    refine so_nil ?_
    refine fi_seq ?_
    refine fi_region ?_
    refine so_assign (v := (.v (.int .u64 (0 : Int)))) rfl ?_
    refine so_nil ?_
    refine fi_seq ?_
    refine fi_seq ?_
    refine fi_region ?_
    refine so_move (v := (.v (.str (pk a0)))) rfl ?_
    refine sv_sb hs rfl F181.us9 F181.ns30 F181.te30 F181.it5 nofun (fun v103 H104 nv103 hs => ?_)
    refine sv_len (hs.shows 0 rfl) (fun _ => rfl) (by decide) rfl F181.ti30 ?_
    refine so_move (v := (.v (.int .i64 (0 : Int)))) rfl ?_
    refine so_nil ?_
    refine fi_block ?_
    refine fi_loop ?_
    refine fi_at [(1, (.v (.int .i64 (16 : Int)))), (8, (.v (.bool (decide ((16 : Int) = (0 : Int)))))), (9, (.v (.str (pk a0)))), (10, (.v (.int .u64 (1152921504606846976 : Int)))), (11, (.v (.int .u64 (IntKind.u64.wrap ((IntKind.u64.wrap ((1 : Int) * (2 ^ (min ((IntKind.u64.wrap (32 : Int))).toNat IntKind.u64.bits)))) - (1 : Int)))))), (12, (.v (.bool false))), (13, (.v (.int .u64 (0 : Int)))), (99, (.v v103)), (100, (.v (.int .i64 ((nums a0).length : Int)))), (101, (.v (.int .i64 (0 : Int))))] ⟨rfl, rfl, rfl, rfl, rfl, rfl, rfl, rfl, rfl, rfl, trivial⟩ ?_
    refine h (fun (underscores107 : Bool) (n108 : Int) (x109 : Int) => ∀ (s : Nat → TV) (H : Heap), Sep H (Pc.osl v103 1 (enc (eInt .u8) (nums a0)) :: fr) → Fin _ _ (updL s [(1, (.v (.int .i64 (16 : Int)))), (8, (.v (.bool (decide ((16 : Int) = (0 : Int)))))), (9, (.v (.str (pk a0)))), (10, (.v (.int .u64 (1152921504606846976 : Int)))), (11, (.v (.int .u64 (IntKind.u64.wrap ((IntKind.u64.wrap ((1 : Int) * (2 ^ (min ((IntKind.u64.wrap (32 : Int))).toNat IntKind.u64.bits)))) - (1 : Int)))))), (12, (.v (.bool underscores107))), (13, (.v (.int .u64 n108))), (99, (.v v103)), (100, (.v (.int .i64 ((nums a0).length : Int)))), (101, (.v (.int .i64 x109)))]) H _) ?_ _ _ hs
    intro underscores107 n108 x109 h s177 H178 hs
    refine fi_inLoop ?_
    refine fi_seq ?_
    refine fi_region ?_
    refine so_bin rfl rfl ab_lss ?_
    refine so_nil ?_
    refine fi_seq ?_
    replace h := ofP h; rcases h with ⟨c110, h⟩ | ⟨c110, h⟩
    · refine fi_true rfl (decide_eq_true c110) ?_
      refine fi_skip ?_
      refine fi_seq ?_
      refine fi_block ?_
      refine fi_seq ?_
      refine fi_region ?_
      obtain ⟨c111, h⟩ := h
      refine sv_idx (hs.shows 0 rfl) c111 (fun _ => rfl) (by decide) rfl rfl F181.tl30 ?_
      refine sv_cell (hs.shows 0 rfl) c111 (0 : Int) 0 (fun x => (AV.int .u8 x)) (fun _ => rfl) (fun _ => rfl) rfl F181.ag5 ?_
      refine so_assign (v := (.v (.int .u8 ((nums a0).getD (x109).toNat (0 : Int))))) rfl ?_
      refine so_nil ?_
      refine fi_seq ?_
      refine fi_region ?_
      refine so_assign (v := (.v (.int .u8 (0 : Int)))) rfl ?_
      refine so_nil ?_
      refine fi_seq ?_
      refine fi_block ?_
      refine fi_seq ?_
      refine fi_region ?_
      refine so_move (v := (.v (.int .u8 ((nums a0).getD (x109).toNat (0 : Int))))) rfl ?_
      refine so_bin rfl rfl ab_eql ?_
      refine so_move (v := (.v (.bool (decide (((nums a0).getD (x109).toNat (0 : Int)) = (95 : Int)))))) rfl ?_
      replace h := ofP h; rcases h with ⟨c112, h⟩ | ⟨c112, h⟩
      · refine so_gyes rfl (decide_eq_true c112) ?_
        refine so_move (v := (.v (.bool (decide ((16 : Int) = (0 : Int)))))) rfl ?_
        refine so_pick_t (v := (.v (.bool (decide ((16 : Int) = (0 : Int)))))) rfl (decide_eq_true c112) rfl ?_
        refine so_assign (v := (.v (.bool (decide ((16 : Int) = (0 : Int)))))) rfl ?_
        refine so_nil ?_
        refine fi_false rfl (decide_eq_false (by decide)) ?_
        refine fi_seq ?_
        refine fi_region ?_
        refine so_move (v := (.v (.int .u8 ((nums a0).getD (x109).toNat (0 : Int))))) rfl ?_
        refine so_bin rfl rfl ab_leq ?_
        refine so_move (v := (.v (.bool (decide ((48 : Int) ≤ ((nums a0).getD (x109).toNat (0 : Int))))))) rfl ?_
        replace h := ofP h; rcases h with ⟨c113, h⟩ | ⟨c113, h⟩
        · refine so_gyes rfl (decide_eq_true c113) ?_
          refine so_move (v := (.v (.int .u8 ((nums a0).getD (x109).toNat (0 : Int))))) rfl ?_
          refine so_gyes rfl (decide_eq_true c113) ?_
          refine so_bin rfl rfl ab_leq ?_
          refine so_pick_t (v := (.v (.bool (decide (((nums a0).getD (x109).toNat (0 : Int)) ≤ (57 : Int)))))) rfl (decide_eq_true c113) rfl ?_
          refine so_assign (v := (.v (.bool (decide (((nums a0).getD (x109).toNat (0 : Int)) ≤ (57 : Int)))))) rfl ?_
          refine so_nil ?_
          replace h := ofP h; rcases h with ⟨c114, h⟩ | ⟨c114, h⟩
          · refine fi_true rfl (decide_eq_true c114) ?_
            refine fi_region ?_
            refine so_move (v := (.v (.int .u8 ((nums a0).getD (x109).toNat (0 : Int))))) rfl ?_
            refine so_bin rfl rfl ab_sub ?_
            refine so_assign (v := (.v (.int .u8 (IntKind.u8.wrap (((nums a0).getD (x109).toNat (0 : Int)) - (48 : Int)))))) rfl ?_
            refine so_nil ?_
            refine fi_inBlock ?_
            refine fi_seq ?_
            refine fi_seq ?_
            refine fi_region ?_
            refine so_move (v := (.v (.int .u8 (IntKind.u8.wrap (((nums a0).getD (x109).toNat (0 : Int)) - (48 : Int)))))) rfl ?_
            refine so_move (v := (.v (.int .i64 (16 : Int)))) rfl ?_
            refine sv_ii rfl F181.us3 F181.it5 ?_
            refine so_bin rfl rfl ab_geq ?_
            refine so_nil ?_
            replace h := ofP h; rcases h with ⟨c115, h⟩ | ⟨c115, h⟩
            · refine fi_true rfl (decide_eq_true c115) ?_
              refine fi_seq ?_
              refine fi_region ?_
              refine so_mkif rfl F181.it255 ?_
              refine so_assign (v := (.v (.int .u64 (0 : Int)))) rfl ?_
              refine so_assign (v := (.v (.ifc (IfV.num 255 .i64 (2 : Int))))) rfl ?_
              refine so_nil ?_
              exact by_ret rfl ⟨_, _, h, rfl, (Sep.del 0 hs)⟩
            · refine fi_false rfl (decide_eq_false c115) ?_
              refine fi_skip ?_
              refine fi_seq ?_
              refine fi_seq ?_
              refine fi_region ?_
              refine so_move (v := (.v (.int .u64 n108))) rfl ?_
              refine so_move (v := (.v (.int .u64 (1152921504606846976 : Int)))) rfl ?_
              refine so_bin rfl rfl ab_geq ?_
              refine so_nil ?_
              replace h := ofP h; rcases h with ⟨c116, h⟩ | ⟨c116, h⟩
              · refine fi_true rfl (decide_eq_true c116) ?_
                refine fi_seq ?_
                refine fi_region ?_
                refine so_move (v := (.v (.int .u64 (IntKind.u64.wrap ((IntKind.u64.wrap ((1 : Int) * (2 ^ (min ((IntKind.u64.wrap (32 : Int))).toNat IntKind.u64.bits)))) - (1 : Int)))))) rfl ?_
                refine so_mkif rfl F181.it255 ?_
                refine so_assign (v := (.v (.int .u64 (IntKind.u64.wrap ((IntKind.u64.wrap ((1 : Int) * (2 ^ (min ((IntKind.u64.wrap (32 : Int))).toNat IntKind.u64.bits)))) - (1 : Int)))))) rfl ?_
                refine so_assign (v := (.v (.ifc (IfV.num 255 .i64 (1 : Int))))) rfl ?_
                refine so_nil ?_
                exact by_ret rfl ⟨_, _, h, rfl, (Sep.del 0 hs)⟩
              · refine fi_false rfl (decide_eq_false c116) ?_
                refine fi_skip ?_
                refine fi_seq ?_
                refine fi_region ?_
                refine so_move (v := (.v (.int .u64 n108))) rfl ?_
                refine so_move (v := (.v (.int .i64 (16 : Int)))) rfl ?_
                refine sv_ii rfl F181.us3 F181.it138 ?_
                refine so_bin rfl rfl ab_mul ?_
                refine so_assign (v := (.v (.int .u64 (IntKind.u64.wrap (n108 * (IntKind.u64.wrap (16 : Int))))))) rfl ?_
                refine so_nil ?_
                refine fi_seq ?_
                refine fi_region ?_
                refine so_move (v := (.v (.int .u64 (IntKind.u64.wrap (n108 * (IntKind.u64.wrap (16 : Int))))))) rfl ?_
                refine so_move (v := (.v (.int .u8 (IntKind.u8.wrap (((nums a0).getD (x109).toNat (0 : Int)) - (48 : Int)))))) rfl ?_
                refine sv_ii rfl F181.us5 F181.it138 ?_
                refine so_bin rfl rfl ab_add ?_
                refine so_assign (v := (.v (.int .u64 (IntKind.u64.wrap ((IntKind.u64.wrap (n108 * (IntKind.u64.wrap (16 : Int)))) + (IntKind.u64.wrap (IntKind.u8.wrap (((nums a0).getD (x109).toNat (0 : Int)) - (48 : Int))))))))) rfl ?_
                refine so_nil ?_
                refine fi_seq ?_
                refine fi_seq ?_
                refine fi_region ?_
                refine so_move (v := (.v (.int .u64 (IntKind.u64.wrap ((IntKind.u64.wrap (n108 * (IntKind.u64.wrap (16 : Int)))) + (IntKind.u64.wrap (IntKind.u8.wrap (((nums a0).getD (x109).toNat (0 : Int)) - (48 : Int))))))))) rfl ?_
                refine so_move (v := (.v (.int .u64 (IntKind.u64.wrap (n108 * (IntKind.u64.wrap (16 : Int))))))) rfl ?_
                refine so_bin rfl rfl ab_lss ?_
                refine so_move (v := (.v (.bool (decide ((IntKind.u64.wrap ((IntKind.u64.wrap (n108 * (IntKind.u64.wrap (16 : Int)))) + (IntKind.u64.wrap (IntKind.u8.wrap (((nums a0).getD (x109).toNat (0 : Int)) - (48 : Int)))))) < (IntKind.u64.wrap (n108 * (IntKind.u64.wrap (16 : Int))))))))) rfl ?_
                replace h := ofP h; rcases h with ⟨c117, h⟩ | ⟨c117, h⟩
                · refine so_gno rfl (decide_eq_true c117) ?_
                  refine so_gno rfl (decide_eq_true c117) ?_
                  refine so_gno rfl (decide_eq_true c117) ?_
                  refine so_pick_t (v := (.v (.bool true))) rfl (decide_eq_true c117) rfl ?_
                  refine so_nil ?_
                  refine fi_true rfl rfl ?_
                  refine fi_seq ?_
                  refine fi_region ?_
                  refine so_move (v := (.v (.int .u64 (IntKind.u64.wrap ((IntKind.u64.wrap ((1 : Int) * (2 ^ (min ((IntKind.u64.wrap (32 : Int))).toNat IntKind.u64.bits)))) - (1 : Int)))))) rfl ?_
                  refine so_mkif rfl F181.it255 ?_
                  refine so_assign (v := (.v (.int .u64 (IntKind.u64.wrap ((IntKind.u64.wrap ((1 : Int) * (2 ^ (min ((IntKind.u64.wrap (32 : Int))).toNat IntKind.u64.bits)))) - (1 : Int)))))) rfl ?_
                  refine so_assign (v := (.v (.ifc (IfV.num 255 .i64 (1 : Int))))) rfl ?_
                  refine so_nil ?_
                  exact by_ret rfl ⟨_, _, h, rfl, (Sep.del 0 hs)⟩
                · refine so_gyes rfl (decide_eq_false c117) ?_
                  refine so_move (v := (.v (.int .u64 (IntKind.u64.wrap ((IntKind.u64.wrap (n108 * (IntKind.u64.wrap (16 : Int)))) + (IntKind.u64.wrap (IntKind.u8.wrap (((nums a0).getD (x109).toNat (0 : Int)) - (48 : Int))))))))) rfl ?_
                  refine so_gyes rfl (decide_eq_false c117) ?_
                  refine so_move (v := (.v (.int .u64 (IntKind.u64.wrap ((IntKind.u64.wrap ((1 : Int) * (2 ^ (min ((IntKind.u64.wrap (32 : Int))).toNat IntKind.u64.bits)))) - (1 : Int)))))) rfl ?_
                  refine so_gyes rfl (decide_eq_false c117) ?_
                  refine so_bin rfl rfl ab_gtr ?_
                  refine so_pick_f (v := (.v (.bool (decide ((IntKind.u64.wrap ((IntKind.u64.wrap ((1 : Int) * (2 ^ (min ((IntKind.u64.wrap (32 : Int))).toNat IntKind.u64.bits)))) - (1 : Int))) < (IntKind.u64.wrap ((IntKind.u64.wrap (n108 * (IntKind.u64.wrap (16 : Int)))) + (IntKind.u64.wrap (IntKind.u8.wrap (((nums a0).getD (x109).toNat (0 : Int)) - (48 : Int))))))))))) rfl (decide_eq_false c117) rfl ?_
                  refine so_nil ?_
                  replace h := ofP h; rcases h with ⟨c118, h⟩ | ⟨c118, h⟩
                  · refine fi_true rfl (decide_eq_true c118) ?_
                    refine fi_seq ?_
                    refine fi_region ?_
                    refine so_move (v := (.v (.int .u64 (IntKind.u64.wrap ((IntKind.u64.wrap ((1 : Int) * (2 ^ (min ((IntKind.u64.wrap (32 : Int))).toNat IntKind.u64.bits)))) - (1 : Int)))))) rfl ?_
                    refine so_mkif rfl F181.it255 ?_
                    refine so_assign (v := (.v (.int .u64 (IntKind.u64.wrap ((IntKind.u64.wrap ((1 : Int) * (2 ^ (min ((IntKind.u64.wrap (32 : Int))).toNat IntKind.u64.bits)))) - (1 : Int)))))) rfl ?_
                    refine so_assign (v := (.v (.ifc (IfV.num 255 .i64 (1 : Int))))) rfl ?_
                    refine so_nil ?_
                    exact by_ret rfl ⟨_, _, h, rfl, (Sep.del 0 hs)⟩
                  · refine fi_false rfl (decide_eq_false c118) ?_
                    refine fi_skip ?_
                    refine fi_region ?_
                    refine so_move (v := (.v (.int .u64 (IntKind.u64.wrap ((IntKind.u64.wrap (n108 * (IntKind.u64.wrap (16 : Int)))) + (IntKind.u64.wrap (IntKind.u8.wrap (((nums a0).getD (x109).toNat (0 : Int)) - (48 : Int))))))))) rfl ?_
                    refine so_assign (v := (.v (.int .u64 (IntKind.u64.wrap ((IntKind.u64.wrap (n108 * (IntKind.u64.wrap (16 : Int)))) + (IntKind.u64.wrap (IntKind.u8.wrap (((nums a0).getD (x109).toNat (0 : Int)) - (48 : Int))))))))) rfl ?_
                    refine so_nil ?_
                    refine fi_inBlock ?_
                    refine fi_region ?_
                    refine so_bin rfl rfl ab_add ?_
                    refine so_move (v := (.v (.int .i64 (IntKind.i64.wrap (x109 + (1 : Int)))))) rfl ?_
                    refine so_nil ?_
                    exact fi_at [(1, (.v (.int .i64 (16 : Int)))), (8, (.v (.bool (decide ((16 : Int) = (0 : Int)))))), (9, (.v (.str (pk a0)))), (10, (.v (.int .u64 (1152921504606846976 : Int)))), (11, (.v (.int .u64 (IntKind.u64.wrap ((IntKind.u64.wrap ((1 : Int) * (2 ^ (min ((IntKind.u64.wrap (32 : Int))).toNat IntKind.u64.bits)))) - (1 : Int)))))), (12, (.v (.bool underscores107))), (13, (.v (.int .u64 (IntKind.u64.wrap ((IntKind.u64.wrap (n108 * (IntKind.u64.wrap (16 : Int)))) + (IntKind.u64.wrap (IntKind.u8.wrap (((nums a0).getD (x109).toNat (0 : Int)) - (48 : Int))))))))), (99, (.v v103)), (100, (.v (.int .i64 ((nums a0).length : Int)))), (101, (.v (.int .i64 (IntKind.i64.wrap (x109 + (1 : Int))))))] ⟨rfl, rfl, rfl, rfl, rfl, rfl, rfl, rfl, rfl, rfl, trivial⟩ (h _ _  hs)
          · refine fi_false rfl (decide_eq_false c114) ?_
            refine fi_seq ?_
            refine fi_region ?_
            refine so_move (v := (.v (.int .u8 ((nums a0).getD (x109).toNat (0 : Int))))) rfl ?_
            refine sv_callS (internal_strconv_lower_ok ((nums a0).getD (x109).toNat (0 : Int)) hs  _ h) (fun _ _ ⟨_, _, _, e⟩ => e) rfl rfl ?_
            clear h
            rintro _ _ ⟨y119, h, rfl, rfl⟩
            refine so_bin rfl rfl ab_leq ?_
            refine so_move (v := (.v (.bool (decide ((97 : Int) ≤ y119))))) rfl ?_
            replace h := ofP h; rcases h with ⟨c121, h⟩ | ⟨c121, h⟩
            · refine so_gyes rfl (decide_eq_true c121) ?_
              refine so_move (v := (.v (.int .u8 ((nums a0).getD (x109).toNat (0 : Int))))) rfl ?_
              refine so_gyes rfl (decide_eq_true c121) ?_
              refine sv_callS (internal_strconv_lower_ok ((nums a0).getD (x109).toNat (0 : Int)) hs  _ h) (fun _ _ ⟨_, _, _, e⟩ => e) rfl rfl ?_
              clear h
              rintro _ _ ⟨y122, h, rfl, rfl⟩
              refine so_gyes rfl (decide_eq_true c121) ?_
              refine so_bin rfl rfl ab_leq ?_
              refine so_pick_t (v := (.v (.bool (decide (y122 ≤ (122 : Int)))))) rfl (decide_eq_true c121) rfl ?_
              refine so_assign (v := (.v (.bool (decide (y122 ≤ (122 : Int)))))) rfl ?_
              refine so_nil ?_
              replace h := ofP h; rcases h with ⟨c124, h⟩ | ⟨c124, h⟩
              · refine fi_true rfl (decide_eq_true c124) ?_
                refine fi_region ?_
                refine so_move (v := (.v (.int .u8 ((nums a0).getD (x109).toNat (0 : Int))))) rfl ?_
                refine sv_callS (internal_strconv_lower_ok ((nums a0).getD (x109).toNat (0 : Int)) hs  _ h) (fun _ _ ⟨_, _, _, e⟩ => e) rfl rfl ?_
                clear h
                rintro _ _ ⟨y125, h, rfl, rfl⟩
                refine so_bin rfl rfl ab_sub ?_
                refine so_bin rfl rfl ab_add ?_
                refine so_assign (v := (.v (.int .u8 (IntKind.u8.wrap ((IntKind.u8.wrap (y125 - (97 : Int))) + (10 : Int)))))) rfl ?_
                refine so_nil ?_
                refine fi_inBlock ?_
                refine fi_seq ?_
                refine fi_seq ?_
                refine fi_region ?_
                refine so_move (v := (.v (.int .u8 (IntKind.u8.wrap ((IntKind.u8.wrap (y125 - (97 : Int))) + (10 : Int)))))) rfl ?_
                refine so_move (v := (.v (.int .i64 (16 : Int)))) rfl ?_
                refine sv_ii rfl F181.us3 F181.it5 ?_
                refine so_bin rfl rfl ab_geq ?_
                refine so_nil ?_
                replace h := ofP h; rcases h with ⟨c127, h⟩ | ⟨c127, h⟩
                · refine fi_true rfl (decide_eq_true c127) ?_
                  refine fi_seq ?_
                  refine fi_region ?_
                  refine so_mkif rfl F181.it255 ?_
                  refine so_assign (v := (.v (.int .u64 (0 : Int)))) rfl ?_
                  refine so_assign (v := (.v (.ifc (IfV.num 255 .i64 (2 : Int))))) rfl ?_
                  refine so_nil ?_
                  exact by_ret rfl ⟨_, _, h, rfl, (Sep.del 0 hs)⟩
                · refine fi_false rfl (decide_eq_false c127) ?_
                  refine fi_skip ?_
                  refine fi_seq ?_
                  refine fi_seq ?_
                  refine fi_region ?_
                  refine so_move (v := (.v (.int .u64 n108))) rfl ?_
                  refine so_move (v := (.v (.int .u64 (1152921504606846976 : Int)))) rfl ?_
                  refine so_bin rfl rfl ab_geq ?_
                  refine so_nil ?_
                  replace h := ofP h; rcases h with ⟨c128, h⟩ | ⟨c128, h⟩
                  · refine fi_true rfl (decide_eq_true c128) ?_
                    refine fi_seq ?_
                    refine fi_region ?_
                    refine so_move (v := (.v (.int .u64 (IntKind.u64.wrap ((IntKind.u64.wrap ((1 : Int) * (2 ^ (min ((IntKind.u64.wrap (32 : Int))).toNat IntKind.u64.bits)))) - (1 : Int)))))) rfl ?_
                    refine so_mkif rfl F181.it255 ?_
                    refine so_assign (v := (.v (.int .u64 (IntKind.u64.wrap ((IntKind.u64.wrap ((1 : Int) * (2 ^ (min ((IntKind.u64.wrap (32 : Int))).toNat IntKind.u64.bits)))) - (1 : Int)))))) rfl ?_
                    refine so_assign (v := (.v (.ifc (IfV.num 255 .i64 (1 : Int))))) rfl ?_
                    refine so_nil ?_
                    exact by_ret rfl ⟨_, _, h, rfl, (Sep.del 0 hs)⟩
                  · refine fi_false rfl (decide_eq_false c128) ?_
                    refine fi_skip ?_
                    refine fi_seq ?_
                    refine fi_region ?_
                    refine so_move (v := (.v (.int .u64 n108))) rfl ?_
                    refine so_move (v := (.v (.int .i64 (16 : Int)))) rfl ?_
                    refine sv_ii rfl F181.us3 F181.it138 ?_
                    refine so_bin rfl rfl ab_mul ?_
                    refine so_assign (v := (.v (.int .u64 (IntKind.u64.wrap (n108 * (IntKind.u64.wrap (16 : Int))))))) rfl ?_
                    refine so_nil ?_
                    refine fi_seq ?_
                    refine fi_region ?_
                    refine so_move (v := (.v (.int .u64 (IntKind.u64.wrap (n108 * (IntKind.u64.wrap (16 : Int))))))) rfl ?_
                    refine so_move (v := (.v (.int .u8 (IntKind.u8.wrap ((IntKind.u8.wrap (y125 - (97 : Int))) + (10 : Int)))))) rfl ?_
                    refine sv_ii rfl F181.us5 F181.it138 ?_
                    refine so_bin rfl rfl ab_add ?_
                    refine so_assign (v := (.v (.int .u64 (IntKind.u64.wrap ((IntKind.u64.wrap (n108 * (IntKind.u64.wrap (16 : Int)))) + (IntKind.u64.wrap (IntKind.u8.wrap ((IntKind.u8.wrap (y125 - (97 : Int))) + (10 : Int))))))))) rfl ?_
                    refine so_nil ?_
                    refine fi_seq ?_
                    refine fi_seq ?_
                    refine fi_region ?_
                    refine so_move (v := (.v (.int .u64 (IntKind.u64.wrap ((IntKind.u64.wrap (n108 * (IntKind.u64.wrap (16 : Int)))) + (IntKind.u64.wrap (IntKind.u8.wrap ((IntKind.u8.wrap (y125 - (97 : Int))) + (10 : Int))))))))) rfl ?_
                    refine so_move (v := (.v (.int .u64 (IntKind.u64.wrap (n108 * (IntKind.u64.wrap (16 : Int))))))) rfl ?_
                    refine so_bin rfl rfl ab_lss ?_
                    refine so_move (v := (.v (.bool (decide ((IntKind.u64.wrap ((IntKind.u64.wrap (n108 * (IntKind.u64.wrap (16 : Int)))) + (IntKind.u64.wrap (IntKind.u8.wrap ((IntKind.u8.wrap (y125 - (97 : Int))) + (10 : Int)))))) < (IntKind.u64.wrap (n108 * (IntKind.u64.wrap (16 : Int))))))))) rfl ?_
                    replace h := ofP h; rcases h with ⟨c129, h⟩ | ⟨c129, h⟩
                    · refine so_gno rfl (decide_eq_true c129) ?_
                      refine so_gno rfl (decide_eq_true c129) ?_
                      refine so_gno rfl (decide_eq_true c129) ?_
                      refine so_pick_t (v := (.v (.bool true))) rfl (decide_eq_true c129) rfl ?_
                      refine so_nil ?_
                      refine fi_true rfl rfl ?_
                      refine fi_seq ?_
                      refine fi_region ?_
                      refine so_move (v := (.v (.int .u64 (IntKind.u64.wrap ((IntKind.u64.wrap ((1 : Int) * (2 ^ (min ((IntKind.u64.wrap (32 : Int))).toNat IntKind.u64.bits)))) - (1 : Int)))))) rfl ?_
                      refine so_mkif rfl F181.it255 ?_
                      refine so_assign (v := (.v (.int .u64 (IntKind.u64.wrap ((IntKind.u64.wrap ((1 : Int) * (2 ^ (min ((IntKind.u64.wrap (32 : Int))).toNat IntKind.u64.bits)))) - (1 : Int)))))) rfl ?_
                      refine so_assign (v := (.v (.ifc (IfV.num 255 .i64 (1 : Int))))) rfl ?_
                      refine so_nil ?_
                      exact by_ret rfl ⟨_, _, h, rfl, (Sep.del 0 hs)⟩
                    · refine so_gyes rfl (decide_eq_false c129) ?_
                      refine so_move (v := (.v (.int .u64 (IntKind.u64.wrap ((IntKind.u64.wrap (n108 * (IntKind.u64.wrap (16 : Int)))) + (IntKind.u64.wrap (IntKind.u8.wrap ((IntKind.u8.wrap (y125 - (97 : Int))) + (10 : Int))))))))) rfl ?_
                      refine so_gyes rfl (decide_eq_false c129) ?_
                      refine so_move (v := (.v (.int .u64 (IntKind.u64.wrap ((IntKind.u64.wrap ((1 : Int) * (2 ^ (min ((IntKind.u64.wrap (32 : Int))).toNat IntKind.u64.bits)))) - (1 : Int)))))) rfl ?_
                      refine so_gyes rfl (decide_eq_false c129) ?_
                      refine so_bin rfl rfl ab_gtr ?_
                      refine so_pick_f (v := (.v (.bool (decide ((IntKind.u64.wrap ((IntKind.u64.wrap ((1 : Int) * (2 ^ (min ((IntKind.u64.wrap (32 : Int))).toNat IntKind.u64.bits)))) - (1 : Int))) < (IntKind.u64.wrap ((IntKind.u64.wrap (n108 * (IntKind.u64.wrap (16 : Int)))) + (IntKind.u64.wrap (IntKind.u8.wrap ((IntKind.u8.wrap (y125 - (97 : Int))) + (10 : Int))))))))))) rfl (decide_eq_false c129) rfl ?_
                      refine so_nil ?_
                      replace h := ofP h; rcases h with ⟨c130, h⟩ | ⟨c130, h⟩
                      · refine fi_true rfl (decide_eq_true c130) ?_
                        refine fi_seq ?_
                        refine fi_region ?_
                        refine so_move (v := (.v (.int .u64 (IntKind.u64.wrap ((IntKind.u64.wrap ((1 : Int) * (2 ^ (min ((IntKind.u64.wrap (32 : Int))).toNat IntKind.u64.bits)))) - (1 : Int)))))) rfl ?_
                        refine so_mkif rfl F181.it255 ?_
                        refine so_assign (v := (.v (.int .u64 (IntKind.u64.wrap ((IntKind.u64.wrap ((1 : Int) * (2 ^ (min ((IntKind.u64.wrap (32 : Int))).toNat IntKind.u64.bits)))) - (1 : Int)))))) rfl ?_
                        refine so_assign (v := (.v (.ifc (IfV.num 255 .i64 (1 : Int))))) rfl ?_
                        refine so_nil ?_
                        exact by_ret rfl ⟨_, _, h, rfl, (Sep.del 0 hs)⟩
                      · refine fi_false rfl (decide_eq_false c130) ?_
                        refine fi_skip ?_
                        refine fi_region ?_
                        refine so_move (v := (.v (.int .u64 (IntKind.u64.wrap ((IntKind.u64.wrap (n108 * (IntKind.u64.wrap (16 : Int)))) + (IntKind.u64.wrap (IntKind.u8.wrap ((IntKind.u8.wrap (y125 - (97 : Int))) + (10 : Int))))))))) rfl ?_
                        refine so_assign (v := (.v (.int .u64 (IntKind.u64.wrap ((IntKind.u64.wrap (n108 * (IntKind.u64.wrap (16 : Int)))) + (IntKind.u64.wrap (IntKind.u8.wrap ((IntKind.u8.wrap (y125 - (97 : Int))) + (10 : Int))))))))) rfl ?_
                        refine so_nil ?_
                        refine fi_inBlock ?_
                        refine fi_region ?_
                        refine so_bin rfl rfl ab_add ?_
                        refine so_move (v := (.v (.int .i64 (IntKind.i64.wrap (x109 + (1 : Int)))))) rfl ?_
                        refine so_nil ?_
                        exact fi_at [(1, (.v (.int .i64 (16 : Int)))), (8, (.v (.bool (decide ((16 : Int) = (0 : Int)))))), (9, (.v (.str (pk a0)))), (10, (.v (.int .u64 (1152921504606846976 : Int)))), (11, (.v (.int .u64 (IntKind.u64.wrap ((IntKind.u64.wrap ((1 : Int) * (2 ^ (min ((IntKind.u64.wrap (32 : Int))).toNat IntKind.u64.bits)))) - (1 : Int)))))), (12, (.v (.bool underscores107))), (13, (.v (.int .u64 (IntKind.u64.wrap ((IntKind.u64.wrap (n108 * (IntKind.u64.wrap (16 : Int)))) + (IntKind.u64.wrap (IntKind.u8.wrap ((IntKind.u8.wrap (y125 - (97 : Int))) + (10 : Int))))))))), (99, (.v v103)), (100, (.v (.int .i64 ((nums a0).length : Int)))), (101, (.v (.int .i64 (IntKind.i64.wrap (x109 + (1 : Int))))))] ⟨rfl, rfl, rfl, rfl, rfl, rfl, rfl, rfl, rfl, rfl, trivial⟩ (h _ _  hs)
              · refine fi_false rfl (decide_eq_false c124) ?_
                refine fi_seq ?_
                refine fi_region ?_
                refine so_mkif rfl F181.it255 ?_
                refine so_assign (v := (.v (.int .u64 (0 : Int)))) rfl ?_
                refine so_assign (v := (.v (.ifc (IfV.num 255 .i64 (2 : Int))))) rfl ?_
                refine so_nil ?_
                exact by_ret rfl ⟨_, _, h, rfl, (Sep.del 0 hs)⟩
            · refine so_gno rfl (decide_eq_false c121) ?_
              refine so_gno rfl (decide_eq_false c121) ?_
              refine so_gno rfl (decide_eq_false c121) ?_
              refine so_pick_f (v := (.v (.bool false))) rfl (decide_eq_false c121) rfl ?_
              refine so_assign (v := (.v (.bool false))) rfl ?_
              refine so_nil ?_
              refine fi_false rfl rfl ?_
              refine fi_seq ?_
              refine fi_region ?_
              refine so_mkif rfl F181.it255 ?_
              refine so_assign (v := (.v (.int .u64 (0 : Int)))) rfl ?_
              refine so_assign (v := (.v (.ifc (IfV.num 255 .i64 (2 : Int))))) rfl ?_
              refine so_nil ?_
              exact by_ret rfl ⟨_, _, h, rfl, (Sep.del 0 hs)⟩
        · refine so_gno rfl (decide_eq_false c113) ?_
          refine so_gno rfl (decide_eq_false c113) ?_
          refine so_pick_f (v := (.v (.bool false))) rfl (decide_eq_false c113) rfl ?_
          refine so_assign (v := (.v (.bool false))) rfl ?_
          refine so_nil ?_
          refine fi_false rfl rfl ?_
          refine fi_seq ?_
          refine fi_region ?_
          refine so_move (v := (.v (.int .u8 ((nums a0).getD (x109).toNat (0 : Int))))) rfl ?_
          refine sv_callS (internal_strconv_lower_ok ((nums a0).getD (x109).toNat (0 : Int)) hs  _ h) (fun _ _ ⟨_, _, _, e⟩ => e) rfl rfl ?_
          clear h
          rintro _ _ ⟨y131, h, rfl, rfl⟩
          refine so_bin rfl rfl ab_leq ?_
          refine so_move (v := (.v (.bool (decide ((97 : Int) ≤ y131))))) rfl ?_
          replace h := ofP h; rcases h with ⟨c133, h⟩ | ⟨c133, h⟩
          · refine so_gyes rfl (decide_eq_true c133) ?_
            refine so_move (v := (.v (.int .u8 ((nums a0).getD (x109).toNat (0 : Int))))) rfl ?_
            refine so_gyes rfl (decide_eq_true c133) ?_
            refine sv_callS (internal_strconv_lower_ok ((nums a0).getD (x109).toNat (0 : Int)) hs  _ h) (fun _ _ ⟨_, _, _, e⟩ => e) rfl rfl ?_
            clear h
            rintro _ _ ⟨y134, h, rfl, rfl⟩
            refine so_gyes rfl (decide_eq_true c133) ?_
            refine so_bin rfl rfl ab_leq ?_
            refine so_pick_t (v := (.v (.bool (decide (y134 ≤ (122 : Int)))))) rfl (decide_eq_true c133) rfl ?_
            refine so_assign (v := (.v (.bool (decide (y134 ≤ (122 : Int)))))) rfl ?_
            refine so_nil ?_
            replace h := ofP h; rcases h with ⟨c136, h⟩ | ⟨c136, h⟩
            · refine fi_true rfl (decide_eq_true c136) ?_
              refine fi_region ?_
              refine so_move (v := (.v (.int .u8 ((nums a0).getD (x109).toNat (0 : Int))))) rfl ?_
              refine sv_callS (internal_strconv_lower_ok ((nums a0).getD (x109).toNat (0 : Int)) hs  _ h) (fun _ _ ⟨_, _, _, e⟩ => e) rfl rfl ?_
              clear h
              rintro _ _ ⟨y137, h, rfl, rfl⟩
              refine so_bin rfl rfl ab_sub ?_
              refine so_bin rfl rfl ab_add ?_
              refine so_assign (v := (.v (.int .u8 (IntKind.u8.wrap ((IntKind.u8.wrap (y137 - (97 : Int))) + (10 : Int)))))) rfl ?_
              refine so_nil ?_
              refine fi_inBlock ?_
              refine fi_seq ?_
              refine fi_seq ?_
              refine fi_region ?_
              refine so_move (v := (.v (.int .u8 (IntKind.u8.wrap ((IntKind.u8.wrap (y137 - (97 : Int))) + (10 : Int)))))) rfl ?_
              refine so_move (v := (.v (.int .i64 (16 : Int)))) rfl ?_
              refine sv_ii rfl F181.us3 F181.it5 ?_
              refine so_bin rfl rfl ab_geq ?_
              refine so_nil ?_
              replace h := ofP h; rcases h with ⟨c139, h⟩ | ⟨c139, h⟩
              · refine fi_true rfl (decide_eq_true c139) ?_
                refine fi_seq ?_
                refine fi_region ?_
                refine so_mkif rfl F181.it255 ?_
                refine so_assign (v := (.v (.int .u64 (0 : Int)))) rfl ?_
                refine so_assign (v := (.v (.ifc (IfV.num 255 .i64 (2 : Int))))) rfl ?_
                refine so_nil ?_
                exact by_ret rfl ⟨_, _, h, rfl, (Sep.del 0 hs)⟩
              · refine fi_false rfl (decide_eq_false c139) ?_
                refine fi_skip ?_
                refine fi_seq ?_
                refine fi_seq ?_
                refine fi_region ?_
                refine so_move (v := (.v (.int .u64 n108))) rfl ?_
                refine so_move (v := (.v (.int .u64 (1152921504606846976 : Int)))) rfl ?_
                refine so_bin rfl rfl ab_geq ?_
                refine so_nil ?_
                replace h := ofP h; rcases h with ⟨c140, h⟩ | ⟨c140, h⟩
                · refine fi_true rfl (decide_eq_true c140) ?_
                  refine fi_seq ?_
                  refine fi_region ?_
                  refine so_move (v := (.v (.int .u64 (IntKind.u64.wrap ((IntKind.u64.wrap ((1 : Int) * (2 ^ (min ((IntKind.u64.wrap (32 : Int))).toNat IntKind.u64.bits)))) - (1 : Int)))))) rfl ?_
                  refine so_mkif rfl F181.it255 ?_
                  refine so_assign (v := (.v (.int .u64 (IntKind.u64.wrap ((IntKind.u64.wrap ((1 : Int) * (2 ^ (min ((IntKind.u64.wrap (32 : Int))).toNat IntKind.u64.bits)))) - (1 : Int)))))) rfl ?_
                  refine so_assign (v := (.v (.ifc (IfV.num 255 .i64 (1 : Int))))) rfl ?_
                  refine so_nil ?_
                  exact by_ret rfl ⟨_, _, h, rfl, (Sep.del 0 hs)⟩
                · refine fi_false rfl (decide_eq_false c140) ?_
                  refine fi_skip ?_
                  refine fi_seq ?_
                  refine fi_region ?_
                  refine so_move (v := (.v (.int .u64 n108))) rfl ?_
                  refine so_move (v := (.v (.int .i64 (16 : Int)))) rfl ?_
                  refine sv_ii rfl F181.us3 F181.it138 ?_
                  refine so_bin rfl rfl ab_mul ?_
                  refine so_assign (v := (.v (.int .u64 (IntKind.u64.wrap (n108 * (IntKind.u64.wrap (16 : Int))))))) rfl ?_
                  refine so_nil ?_
                  refine fi_seq ?_
                  refine fi_region ?_
                  refine so_move (v := (.v (.int .u64 (IntKind.u64.wrap (n108 * (IntKind.u64.wrap (16 : Int))))))) rfl ?_
                  refine so_move (v := (.v (.int .u8 (IntKind.u8.wrap ((IntKind.u8.wrap (y137 - (97 : Int))) + (10 : Int)))))) rfl ?_
                  refine sv_ii rfl F181.us5 F181.it138 ?_
                  refine so_bin rfl rfl ab_add ?_
                  refine so_assign (v := (.v (.int .u64 (IntKind.u64.wrap ((IntKind.u64.wrap (n108 * (IntKind.u64.wrap (16 : Int)))) + (IntKind.u64.wrap (IntKind.u8.wrap ((IntKind.u8.wrap (y137 - (97 : Int))) + (10 : Int))))))))) rfl ?_
                  refine so_nil ?_
                  refine fi_seq ?_
                  refine fi_seq ?_
                  refine fi_region ?_
                  refine so_move (v := (.v (.int .u64 (IntKind.u64.wrap ((IntKind.u64.wrap (n108 * (IntKind.u64.wrap (16 : Int)))) + (IntKind.u64.wrap (IntKind.u8.wrap ((IntKind.u8.wrap (y137 - (97 : Int))) + (10 : Int))))))))) rfl ?_
                  refine so_move (v := (.v (.int .u64 (IntKind.u64.wrap (n108 * (IntKind.u64.wrap (16 : Int))))))) rfl ?_
                  refine so_bin rfl rfl ab_lss ?_
                  refine so_move (v := (.v (.bool (decide ((IntKind.u64.wrap ((IntKind.u64.wrap (n108 * (IntKind.u64.wrap (16 : Int)))) + (IntKind.u64.wrap (IntKind.u8.wrap ((IntKind.u8.wrap (y137 - (97 : Int))) + (10 : Int)))))) < (IntKind.u64.wrap (n108 * (IntKind.u64.wrap (16 : Int))))))))) rfl ?_
                  replace h := ofP h; rcases h with ⟨c141, h⟩ | ⟨c141, h⟩
                  · refine so_gno rfl (decide_eq_true c141) ?_
                    refine so_gno rfl (decide_eq_true c141) ?_
                    refine so_gno rfl (decide_eq_true c141) ?_
                    refine so_pick_t (v := (.v (.bool true))) rfl (decide_eq_true c141) rfl ?_
                    refine so_nil ?_
                    refine fi_true rfl rfl ?_
                    refine fi_seq ?_
                    refine fi_region ?_
                    refine so_move (v := (.v (.int .u64 (IntKind.u64.wrap ((IntKind.u64.wrap ((1 : Int) * (2 ^ (min ((IntKind.u64.wrap (32 : Int))).toNat IntKind.u64.bits)))) - (1 : Int)))))) rfl ?_
                    refine so_mkif rfl F181.it255 ?_
                    refine so_assign (v := (.v (.int .u64 (IntKind.u64.wrap ((IntKind.u64.wrap ((1 : Int) * (2 ^ (min ((IntKind.u64.wrap (32 : Int))).toNat IntKind.u64.bits)))) - (1 : Int)))))) rfl ?_
                    refine so_assign (v := (.v (.ifc (IfV.num 255 .i64 (1 : Int))))) rfl ?_
                    refine so_nil ?_
                    exact by_ret rfl ⟨_, _, h, rfl, (Sep.del 0 hs)⟩
                  · refine so_gyes rfl (decide_eq_false c141) ?_
                    refine so_move (v := (.v (.int .u64 (IntKind.u64.wrap ((IntKind.u64.wrap (n108 * (IntKind.u64.wrap (16 : Int)))) + (IntKind.u64.wrap (IntKind.u8.wrap ((IntKind.u8.wrap (y137 - (97 : Int))) + (10 : Int))))))))) rfl ?_
                    refine so_gyes rfl (decide_eq_false c141) ?_
                    refine so_move (v := (.v (.int .u64 (IntKind.u64.wrap ((IntKind.u64.wrap ((1 : Int) * (2 ^ (min ((IntKind.u64.wrap (32 : Int))).toNat IntKind.u64.bits)))) - (1 : Int)))))) rfl ?_
                    refine so_gyes rfl (decide_eq_false c141) ?_
                    refine so_bin rfl rfl ab_gtr ?_
                    refine so_pick_f (v := (.v (.bool (decide ((IntKind.u64.wrap ((IntKind.u64.wrap ((1 : Int) * (2 ^ (min ((IntKind.u64.wrap (32 : Int))).toNat IntKind.u64.bits)))) - (1 : Int))) < (IntKind.u64.wrap ((IntKind.u64.wrap (n108 * (IntKind.u64.wrap (16 : Int)))) + (IntKind.u64.wrap (IntKind.u8.wrap ((IntKind.u8.wrap (y137 - (97 : Int))) + (10 : Int))))))))))) rfl (decide_eq_false c141) rfl ?_
                    refine so_nil ?_
                    replace h := ofP h; rcases h with ⟨c142, h⟩ | ⟨c142, h⟩
                    · refine fi_true rfl (decide_eq_true c142) ?_
                      refine fi_seq ?_
                      refine fi_region ?_
                      refine so_move (v := (.v (.int .u64 (IntKind.u64.wrap ((IntKind.u64.wrap ((1 : Int) * (2 ^ (min ((IntKind.u64.wrap (32 : Int))).toNat IntKind.u64.bits)))) - (1 : Int)))))) rfl ?_
                      refine so_mkif rfl F181.it255 ?_
                      refine so_assign (v := (.v (.int .u64 (IntKind.u64.wrap ((IntKind.u64.wrap ((1 : Int) * (2 ^ (min ((IntKind.u64.wrap (32 : Int))).toNat IntKind.u64.bits)))) - (1 : Int)))))) rfl ?_
                      refine so_assign (v := (.v (.ifc (IfV.num 255 .i64 (1 : Int))))) rfl ?_
                      refine so_nil ?_
                      exact by_ret rfl ⟨_, _, h, rfl, (Sep.del 0 hs)⟩
                    · refine fi_false rfl (decide_eq_false c142) ?_
                      refine fi_skip ?_
                      refine fi_region ?_
                      refine so_move (v := (.v (.int .u64 (IntKind.u64.wrap ((IntKind.u64.wrap (n108 * (IntKind.u64.wrap (16 : Int)))) + (IntKind.u64.wrap (IntKind.u8.wrap ((IntKind.u8.wrap (y137 - (97 : Int))) + (10 : Int))))))))) rfl ?_
                      refine so_assign (v := (.v (.int .u64 (IntKind.u64.wrap ((IntKind.u64.wrap (n108 * (IntKind.u64.wrap (16 : Int)))) + (IntKind.u64.wrap (IntKind.u8.wrap ((IntKind.u8.wrap (y137 - (97 : Int))) + (10 : Int))))))))) rfl ?_
                      refine so_nil ?_
                      refine fi_inBlock ?_
                      refine fi_region ?_
                      refine so_bin rfl rfl ab_add ?_
                      refine so_move (v := (.v (.int .i64 (IntKind.i64.wrap (x109 + (1 : Int)))))) rfl ?_
                      refine so_nil ?_
                      exact fi_at [(1, (.v (.int .i64 (16 : Int)))), (8, (.v (.bool (decide ((16 : Int) = (0 : Int)))))), (9, (.v (.str (pk a0)))), (10, (.v (.int .u64 (1152921504606846976 : Int)))), (11, (.v (.int .u64 (IntKind.u64.wrap ((IntKind.u64.wrap ((1 : Int) * (2 ^ (min ((IntKind.u64.wrap (32 : Int))).toNat IntKind.u64.bits)))) - (1 : Int)))))), (12, (.v (.bool underscores107))), (13, (.v (.int .u64 (IntKind.u64.wrap ((IntKind.u64.wrap (n108 * (IntKind.u64.wrap (16 : Int)))) + (IntKind.u64.wrap (IntKind.u8.wrap ((IntKind.u8.wrap (y137 - (97 : Int))) + (10 : Int))))))))), (99, (.v v103)), (100, (.v (.int .i64 ((nums a0).length : Int)))), (101, (.v (.int .i64 (IntKind.i64.wrap (x109 + (1 : Int))))))] ⟨rfl, rfl, rfl, rfl, rfl, rfl, rfl, rfl, rfl, rfl, trivial⟩ (h _ _  hs)
            · refine fi_false rfl (decide_eq_false c136) ?_
              refine fi_seq ?_
              refine fi_region ?_
              refine so_mkif rfl F181.it255 ?_
              refine so_assign (v := (.v (.int .u64 (0 : Int)))) rfl ?_
              refine so_assign (v := (.v (.ifc (IfV.num 255 .i64 (2 : Int))))) rfl ?_
              refine so_nil ?_
              exact by_ret rfl ⟨_, _, h, rfl, (Sep.del 0 hs)⟩
          · refine so_gno rfl (decide_eq_false c133) ?_
            refine so_gno rfl (decide_eq_false c133) ?_
            refine so_gno rfl (decide_eq_false c133) ?_
            refine so_pick_f (v := (.v (.bool false))) rfl (decide_eq_false c133) rfl ?_
            refine so_assign (v := (.v (.bool false))) rfl ?_
            refine so_nil ?_
            refine fi_false rfl rfl ?_
            refine fi_seq ?_
            refine fi_region ?_
            refine so_mkif rfl F181.it255 ?_
            refine so_assign (v := (.v (.int .u64 (0 : Int)))) rfl ?_
            refine so_assign (v := (.v (.ifc (IfV.num 255 .i64 (2 : Int))))) rfl ?_
            refine so_nil ?_
            exact by_ret rfl ⟨_, _, h, rfl, (Sep.del 0 hs)⟩
      · refine so_gno rfl (decide_eq_false c112) ?_
        refine so_pick_f (v := (.v (.bool false))) rfl (decide_eq_false c112) rfl ?_
        refine so_assign (v := (.v (.bool false))) rfl ?_
        refine so_nil ?_
        refine fi_false rfl rfl ?_
        refine fi_seq ?_
        refine fi_region ?_
        refine so_move (v := (.v (.int .u8 ((nums a0).getD (x109).toNat (0 : Int))))) rfl ?_
        refine so_bin rfl rfl ab_leq ?_
        refine so_move (v := (.v (.bool (decide ((48 : Int) ≤ ((nums a0).getD (x109).toNat (0 : Int))))))) rfl ?_
        replace h := ofP h; rcases h with ⟨c143, h⟩ | ⟨c143, h⟩
        · refine so_gyes rfl (decide_eq_true c143) ?_
          refine so_move (v := (.v (.int .u8 ((nums a0).getD (x109).toNat (0 : Int))))) rfl ?_
          refine so_gyes rfl (decide_eq_true c143) ?_
          refine so_bin rfl rfl ab_leq ?_
          refine so_pick_t (v := (.v (.bool (decide (((nums a0).getD (x109).toNat (0 : Int)) ≤ (57 : Int)))))) rfl (decide_eq_true c143) rfl ?_
          refine so_assign (v := (.v (.bool (decide (((nums a0).getD (x109).toNat (0 : Int)) ≤ (57 : Int)))))) rfl ?_
          refine so_nil ?_
          replace h := ofP h; rcases h with ⟨c144, h⟩ | ⟨c144, h⟩
          · refine fi_true rfl (decide_eq_true c144) ?_
            refine fi_region ?_
            refine so_move (v := (.v (.int .u8 ((nums a0).getD (x109).toNat (0 : Int))))) rfl ?_
            refine so_bin rfl rfl ab_sub ?_
            refine so_assign (v := (.v (.int .u8 (IntKind.u8.wrap (((nums a0).getD (x109).toNat (0 : Int)) - (48 : Int)))))) rfl ?_
            refine so_nil ?_
            refine fi_inBlock ?_
            refine fi_seq ?_
            refine fi_seq ?_
            refine fi_region ?_
            refine so_move (v := (.v (.int .u8 (IntKind.u8.wrap (((nums a0).getD (x109).toNat (0 : Int)) - (48 : Int)))))) rfl ?_
            refine so_move (v := (.v (.int .i64 (16 : Int)))) rfl ?_
            refine sv_ii rfl F181.us3 F181.it5 ?_
            refine so_bin rfl rfl ab_geq ?_
            refine so_nil ?_
            replace h := ofP h; rcases h with ⟨c145, h⟩ | ⟨c145, h⟩
            · refine fi_true rfl (decide_eq_true c145) ?_
              refine fi_seq ?_
              refine fi_region ?_
              refine so_mkif rfl F181.it255 ?_
              refine so_assign (v := (.v (.int .u64 (0 : Int)))) rfl ?_
              refine so_assign (v := (.v (.ifc (IfV.num 255 .i64 (2 : Int))))) rfl ?_
              refine so_nil ?_
              exact by_ret rfl ⟨_, _, h, rfl, (Sep.del 0 hs)⟩
            · refine fi_false rfl (decide_eq_false c145) ?_
              refine fi_skip ?_
              refine fi_seq ?_
              refine fi_seq ?_
              refine fi_region ?_
              refine so_move (v := (.v (.int .u64 n108))) rfl ?_
              refine so_move (v := (.v (.int .u64 (1152921504606846976 : Int)))) rfl ?_
              refine so_bin rfl rfl ab_geq ?_
              refine so_nil ?_
              replace h := ofP h; rcases h with ⟨c146, h⟩ | ⟨c146, h⟩
              · refine fi_true rfl (decide_eq_true c146) ?_
                refine fi_seq ?_
                refine fi_region ?_
                refine so_move (v := (.v (.int .u64 (IntKind.u64.wrap ((IntKind.u64.wrap ((1 : Int) * (2 ^ (min ((IntKind.u64.wrap (32 : Int))).toNat IntKind.u64.bits)))) - (1 : Int)))))) rfl ?_
                refine so_mkif rfl F181.it255 ?_
                refine so_assign (v := (.v (.int .u64 (IntKind.u64.wrap ((IntKind.u64.wrap ((1 : Int) * (2 ^ (min ((IntKind.u64.wrap (32 : Int))).toNat IntKind.u64.bits)))) - (1 : Int)))))) rfl ?_
                refine so_assign (v := (.v (.ifc (IfV.num 255 .i64 (1 : Int))))) rfl ?_
                refine so_nil ?_
                exact by_ret rfl ⟨_, _, h, rfl, (Sep.del 0 hs)⟩
              · refine fi_false rfl (decide_eq_false c146) ?_
                refine fi_skip ?_
                refine fi_seq ?_
                refine fi_region ?_
                refine so_move (v := (.v (.int .u64 n108))) rfl ?_
                refine so_move (v := (.v (.int .i64 (16 : Int)))) rfl ?_
                refine sv_ii rfl F181.us3 F181.it138 ?_
                refine so_bin rfl rfl ab_mul ?_
                refine so_assign (v := (.v (.int .u64 (IntKind.u64.wrap (n108 * (IntKind.u64.wrap (16 : Int))))))) rfl ?_
                refine so_nil ?_
                refine fi_seq ?_
                refine fi_region ?_
                refine so_move (v := (.v (.int .u64 (IntKind.u64.wrap (n108 * (IntKind.u64.wrap (16 : Int))))))) rfl ?_
                refine so_move (v := (.v (.int .u8 (IntKind.u8.wrap (((nums a0).getD (x109).toNat (0 : Int)) - (48 : Int)))))) rfl ?_
                refine sv_ii rfl F181.us5 F181.it138 ?_
                refine so_bin rfl rfl ab_add ?_
                refine so_assign (v := (.v (.int .u64 (IntKind.u64.wrap ((IntKind.u64.wrap (n108 * (IntKind.u64.wrap (16 : Int)))) + (IntKind.u64.wrap (IntKind.u8.wrap (((nums a0).getD (x109).toNat (0 : Int)) - (48 : Int))))))))) rfl ?_
                refine so_nil ?_
                refine fi_seq ?_
                refine fi_seq ?_
                refine fi_region ?_
                refine so_move (v := (.v (.int .u64 (IntKind.u64.wrap ((IntKind.u64.wrap (n108 * (IntKind.u64.wrap (16 : Int)))) + (IntKind.u64.wrap (IntKind.u8.wrap (((nums a0).getD (x109).toNat (0 : Int)) - (48 : Int))))))))) rfl ?_
                refine so_move (v := (.v (.int .u64 (IntKind.u64.wrap (n108 * (IntKind.u64.wrap (16 : Int))))))) rfl ?_
                refine so_bin rfl rfl ab_lss ?_
                refine so_move (v := (.v (.bool (decide ((IntKind.u64.wrap ((IntKind.u64.wrap (n108 * (IntKind.u64.wrap (16 : Int)))) + (IntKind.u64.wrap (IntKind.u8.wrap (((nums a0).getD (x109).toNat (0 : Int)) - (48 : Int)))))) < (IntKind.u64.wrap (n108 * (IntKind.u64.wrap (16 : Int))))))))) rfl ?_
                replace h := ofP h; rcases h with ⟨c147, h⟩ | ⟨c147, h⟩
                · refine so_gno rfl (decide_eq_true c147) ?_
                  refine so_gno rfl (decide_eq_true c147) ?_
                  refine so_gno rfl (decide_eq_true c147) ?_
                  refine so_pick_t (v := (.v (.bool true))) rfl (decide_eq_true c147) rfl ?_
                  refine so_nil ?_
                  refine fi_true rfl rfl ?_
                  refine fi_seq ?_
                  refine fi_region ?_
                  refine so_move (v := (.v (.int .u64 (IntKind.u64.wrap ((IntKind.u64.wrap ((1 : Int) * (2 ^ (min ((IntKind.u64.wrap (32 : Int))).toNat IntKind.u64.bits)))) - (1 : Int)))))) rfl ?_
                  refine so_mkif rfl F181.it255 ?_
                  refine so_assign (v := (.v (.int .u64 (IntKind.u64.wrap ((IntKind.u64.wrap ((1 : Int) * (2 ^ (min ((IntKind.u64.wrap (32 : Int))).toNat IntKind.u64.bits)))) - (1 : Int)))))) rfl ?_
                  refine so_assign (v := (.v (.ifc (IfV.num 255 .i64 (1 : Int))))) rfl ?_
                  refine so_nil ?_
                  exact by_ret rfl ⟨_, _, h, rfl, (Sep.del 0 hs)⟩
                · refine so_gyes rfl (decide_eq_false c147) ?_
                  refine so_move (v := (.v (.int .u64 (IntKind.u64.wrap ((IntKind.u64.wrap (n108 * (IntKind.u64.wrap (16 : Int)))) + (IntKind.u64.wrap (IntKind.u8.wrap (((nums a0).getD (x109).toNat (0 : Int)) - (48 : Int))))))))) rfl ?_
                  refine so_gyes rfl (decide_eq_false c147) ?_
                  refine so_move (v := (.v (.int .u64 (IntKind.u64.wrap ((IntKind.u64.wrap ((1 : Int) * (2 ^ (min ((IntKind.u64.wrap (32 : Int))).toNat IntKind.u64.bits)))) - (1 : Int)))))) rfl ?_
                  refine so_gyes rfl (decide_eq_false c147) ?_
                  refine so_bin rfl rfl ab_gtr ?_
                  refine so_pick_f (v := (.v (.bool (decide ((IntKind.u64.wrap ((IntKind.u64.wrap ((1 : Int) * (2 ^ (min ((IntKind.u64.wrap (32 : Int))).toNat IntKind.u64.bits)))) - (1 : Int))) < (IntKind.u64.wrap ((IntKind.u64.wrap (n108 * (IntKind.u64.wrap (16 : Int)))) + (IntKind.u64.wrap (IntKind.u8.wrap (((nums a0).getD (x109).toNat (0 : Int)) - (48 : Int))))))))))) rfl (decide_eq_false c147) rfl ?_
                  refine so_nil ?_
                  replace h := ofP h; rcases h with ⟨c148, h⟩ | ⟨c148, h⟩
                  · refine fi_true rfl (decide_eq_true c148) ?_
                    refine fi_seq ?_
                    refine fi_region ?_
                    refine so_move (v := (.v (.int .u64 (IntKind.u64.wrap ((IntKind.u64.wrap ((1 : Int) * (2 ^ (min ((IntKind.u64.wrap (32 : Int))).toNat IntKind.u64.bits)))) - (1 : Int)))))) rfl ?_
                    refine so_mkif rfl F181.it255 ?_
                    refine so_assign (v := (.v (.int .u64 (IntKind.u64.wrap ((IntKind.u64.wrap ((1 : Int) * (2 ^ (min ((IntKind.u64.wrap (32 : Int))).toNat IntKind.u64.bits)))) - (1 : Int)))))) rfl ?_
                    refine so_assign (v := (.v (.ifc (IfV.num 255 .i64 (1 : Int))))) rfl ?_
                    refine so_nil ?_
                    exact by_ret rfl ⟨_, _, h, rfl, (Sep.del 0 hs)⟩
                  · refine fi_false rfl (decide_eq_false c148) ?_
                    refine fi_skip ?_
                    refine fi_region ?_
                    refine so_move (v := (.v (.int .u64 (IntKind.u64.wrap ((IntKind.u64.wrap (n108 * (IntKind.u64.wrap (16 : Int)))) + (IntKind.u64.wrap (IntKind.u8.wrap (((nums a0).getD (x109).toNat (0 : Int)) - (48 : Int))))))))) rfl ?_
                    refine so_assign (v := (.v (.int .u64 (IntKind.u64.wrap ((IntKind.u64.wrap (n108 * (IntKind.u64.wrap (16 : Int)))) + (IntKind.u64.wrap (IntKind.u8.wrap (((nums a0).getD (x109).toNat (0 : Int)) - (48 : Int))))))))) rfl ?_
                    refine so_nil ?_
                    refine fi_inBlock ?_
                    refine fi_region ?_
                    refine so_bin rfl rfl ab_add ?_
                    refine so_move (v := (.v (.int .i64 (IntKind.i64.wrap (x109 + (1 : Int)))))) rfl ?_
                    refine so_nil ?_
                    exact fi_at [(1, (.v (.int .i64 (16 : Int)))), (8, (.v (.bool (decide ((16 : Int) = (0 : Int)))))), (9, (.v (.str (pk a0)))), (10, (.v (.int .u64 (1152921504606846976 : Int)))), (11, (.v (.int .u64 (IntKind.u64.wrap ((IntKind.u64.wrap ((1 : Int) * (2 ^ (min ((IntKind.u64.wrap (32 : Int))).toNat IntKind.u64.bits)))) - (1 : Int)))))), (12, (.v (.bool underscores107))), (13, (.v (.int .u64 (IntKind.u64.wrap ((IntKind.u64.wrap (n108 * (IntKind.u64.wrap (16 : Int)))) + (IntKind.u64.wrap (IntKind.u8.wrap (((nums a0).getD (x109).toNat (0 : Int)) - (48 : Int))))))))), (99, (.v v103)), (100, (.v (.int .i64 ((nums a0).length : Int)))), (101, (.v (.int .i64 (IntKind.i64.wrap (x109 + (1 : Int))))))] ⟨rfl, rfl, rfl, rfl, rfl, rfl, rfl, rfl, rfl, rfl, trivial⟩ (h _ _  hs)
          · refine fi_false rfl (decide_eq_false c144) ?_
            refine fi_seq ?_
            refine fi_region ?_
            refine so_move (v := (.v (.int .u8 ((nums a0).getD (x109).toNat (0 : Int))))) rfl ?_
            refine sv_callS (internal_strconv_lower_ok ((nums a0).getD (x109).toNat (0 : Int)) hs  _ h) (fun _ _ ⟨_, _, _, e⟩ => e) rfl rfl ?_
            clear h
            rintro _ _ ⟨y149, h, rfl, rfl⟩
            refine so_bin rfl rfl ab_leq ?_
            refine so_move (v := (.v (.bool (decide ((97 : Int) ≤ y149))))) rfl ?_
            replace h := ofP h; rcases h with ⟨c151, h⟩ | ⟨c151, h⟩
            · refine so_gyes rfl (decide_eq_true c151) ?_
              refine so_move (v := (.v (.int .u8 ((nums a0).getD (x109).toNat (0 : Int))))) rfl ?_
              refine so_gyes rfl (decide_eq_true c151) ?_
              refine sv_callS (internal_strconv_lower_ok ((nums a0).getD (x109).toNat (0 : Int)) hs  _ h) (fun _ _ ⟨_, _, _, e⟩ => e) rfl rfl ?_
              clear h
              rintro _ _ ⟨y152, h, rfl, rfl⟩
              refine so_gyes rfl (decide_eq_true c151) ?_
              refine so_bin rfl rfl ab_leq ?_
              refine so_pick_t (v := (.v (.bool (decide (y152 ≤ (122 : Int)))))) rfl (decide_eq_true c151) rfl ?_
              refine so_assign (v := (.v (.bool (decide (y152 ≤ (122 : Int)))))) rfl ?_
              refine so_nil ?_
              replace h := ofP h; rcases h with ⟨c154, h⟩ | ⟨c154, h⟩
              · refine fi_true rfl (decide_eq_true c154) ?_
                refine fi_region ?_
                refine so_move (v := (.v (.int .u8 ((nums a0).getD (x109).toNat (0 : Int))))) rfl ?_
                refine sv_callS (internal_strconv_lower_ok ((nums a0).getD (x109).toNat (0 : Int)) hs  _ h) (fun _ _ ⟨_, _, _, e⟩ => e) rfl rfl ?_
                clear h
                rintro _ _ ⟨y155, h, rfl, rfl⟩
                refine so_bin rfl rfl ab_sub ?_
                refine so_bin rfl rfl ab_add ?_
                refine so_assign (v := (.v (.int .u8 (IntKind.u8.wrap ((IntKind.u8.wrap (y155 - (97 : Int))) + (10 : Int)))))) rfl ?_
                refine so_nil ?_
                refine fi_inBlock ?_
                refine fi_seq ?_
                refine fi_seq ?_
                refine fi_region ?_
                refine so_move (v := (.v (.int .u8 (IntKind.u8.wrap ((IntKind.u8.wrap (y155 - (97 : Int))) + (10 : Int)))))) rfl ?_
                refine so_move (v := (.v (.int .i64 (16 : Int)))) rfl ?_
                refine sv_ii rfl F181.us3 F181.it5 ?_
                refine so_bin rfl rfl ab_geq ?_
                refine so_nil ?_
                replace h := ofP h; rcases h with ⟨c157, h⟩ | ⟨c157, h⟩
                · refine fi_true rfl (decide_eq_true c157) ?_
                  refine fi_seq ?_
                  refine fi_region ?_
                  refine so_mkif rfl F181.it255 ?_
                  refine so_assign (v := (.v (.int .u64 (0 : Int)))) rfl ?_
                  refine so_assign (v := (.v (.ifc (IfV.num 255 .i64 (2 : Int))))) rfl ?_
                  refine so_nil ?_
                  exact by_ret rfl ⟨_, _, h, rfl, (Sep.del 0 hs)⟩
                · refine fi_false rfl (decide_eq_false c157) ?_
                  refine fi_skip ?_
                  refine fi_seq ?_
                  refine fi_seq ?_
                  refine fi_region ?_
                  refine so_move (v := (.v (.int .u64 n108))) rfl ?_
                  refine so_move (v := (.v (.int .u64 (1152921504606846976 : Int)))) rfl ?_
                  refine so_bin rfl rfl ab_geq ?_
                  refine so_nil ?_
                  replace h := ofP h; rcases h with ⟨c158, h⟩ | ⟨c158, h⟩
                  · refine fi_true rfl (decide_eq_true c158) ?_
                    refine fi_seq ?_
                    refine fi_region ?_
                    refine so_move (v := (.v (.int .u64 (IntKind.u64.wrap ((IntKind.u64.wrap ((1 : Int) * (2 ^ (min ((IntKind.u64.wrap (32 : Int))).toNat IntKind.u64.bits)))) - (1 : Int)))))) rfl ?_
                    refine so_mkif rfl F181.it255 ?_
                    refine so_assign (v := (.v (.int .u64 (IntKind.u64.wrap ((IntKind.u64.wrap ((1 : Int) * (2 ^ (min ((IntKind.u64.wrap (32 : Int))).toNat IntKind.u64.bits)))) - (1 : Int)))))) rfl ?_
                    refine so_assign (v := (.v (.ifc (IfV.num 255 .i64 (1 : Int))))) rfl ?_
                    refine so_nil ?_
                    exact by_ret rfl ⟨_, _, h, rfl, (Sep.del 0 hs)⟩
                  · refine fi_false rfl (decide_eq_false c158) ?_
                    refine fi_skip ?_
                    refine fi_seq ?_
                    refine fi_region ?_
                    refine so_move (v := (.v (.int .u64 n108))) rfl ?_
                    refine so_move (v := (.v (.int .i64 (16 : Int)))) rfl ?_
                    refine sv_ii rfl F181.us3 F181.it138 ?_
                    refine so_bin rfl rfl ab_mul ?_
                    refine so_assign (v := (.v (.int .u64 (IntKind.u64.wrap (n108 * (IntKind.u64.wrap (16 : Int))))))) rfl ?_
                    refine so_nil ?_
                    refine fi_seq ?_
                    refine fi_region ?_
                    refine so_move (v := (.v (.int .u64 (IntKind.u64.wrap (n108 * (IntKind.u64.wrap (16 : Int))))))) rfl ?_
                    refine so_move (v := (.v (.int .u8 (IntKind.u8.wrap ((IntKind.u8.wrap (y155 - (97 : Int))) + (10 : Int)))))) rfl ?_
                    refine sv_ii rfl F181.us5 F181.it138 ?_
                    refine so_bin rfl rfl ab_add ?_
                    refine so_assign (v := (.v (.int .u64 (IntKind.u64.wrap ((IntKind.u64.wrap (n108 * (IntKind.u64.wrap (16 : Int)))) + (IntKind.u64.wrap (IntKind.u8.wrap ((IntKind.u8.wrap (y155 - (97 : Int))) + (10 : Int))))))))) rfl ?_
                    refine so_nil ?_
                    refine fi_seq ?_
                    refine fi_seq ?_
                    refine fi_region ?_
                    refine so_move (v := (.v (.int .u64 (IntKind.u64.wrap ((IntKind.u64.wrap (n108 * (IntKind.u64.wrap (16 : Int)))) + (IntKind.u64.wrap (IntKind.u8.wrap ((IntKind.u8.wrap (y155 - (97 : Int))) + (10 : Int))))))))) rfl ?_
                    refine so_move (v := (.v (.int .u64 (IntKind.u64.wrap (n108 * (IntKind.u64.wrap (16 : Int))))))) rfl ?_
                    refine so_bin rfl rfl ab_lss ?_
                    refine so_move (v := (.v (.bool (decide ((IntKind.u64.wrap ((IntKind.u64.wrap (n108 * (IntKind.u64.wrap (16 : Int)))) + (IntKind.u64.wrap (IntKind.u8.wrap ((IntKind.u8.wrap (y155 - (97 : Int))) + (10 : Int)))))) < (IntKind.u64.wrap (n108 * (IntKind.u64.wrap (16 : Int))))))))) rfl ?_
                    replace h := ofP h; rcases h with ⟨c159, h⟩ | ⟨c159, h⟩
                    · refine so_gno rfl (decide_eq_true c159) ?_
                      refine so_gno rfl (decide_eq_true c159) ?_
                      refine so_gno rfl (decide_eq_true c159) ?_
                      refine so_pick_t (v := (.v (.bool true))) rfl (decide_eq_true c159) rfl ?_
                      refine so_nil ?_
                      refine fi_true rfl rfl ?_
                      refine fi_seq ?_
                      refine fi_region ?_
                      refine so_move (v := (.v (.int .u64 (IntKind.u64.wrap ((IntKind.u64.wrap ((1 : Int) * (2 ^ (min ((IntKind.u64.wrap (32 : Int))).toNat IntKind.u64.bits)))) - (1 : Int)))))) rfl ?_
                      refine so_mkif rfl F181.it255 ?_
                      refine so_assign (v := (.v (.int .u64 (IntKind.u64.wrap ((IntKind.u64.wrap ((1 : Int) * (2 ^ (min ((IntKind.u64.wrap (32 : Int))).toNat IntKind.u64.bits)))) - (1 : Int)))))) rfl ?_
                      refine so_assign (v := (.v (.ifc (IfV.num 255 .i64 (1 : Int))))) rfl ?_
                      refine so_nil ?_
                      exact by_ret rfl ⟨_, _, h, rfl, (Sep.del 0 hs)⟩
                    · refine so_gyes rfl (decide_eq_false c159) ?_
                      refine so_move (v := (.v (.int .u64 (IntKind.u64.wrap ((IntKind.u64.wrap (n108 * (IntKind.u64.wrap (16 : Int)))) + (IntKind.u64.wrap (IntKind.u8.wrap ((IntKind.u8.wrap (y155 - (97 : Int))) + (10 : Int))))))))) rfl ?_
                      refine so_gyes rfl (decide_eq_false c159) ?_
                      refine so_move (v := (.v (.int .u64 (IntKind.u64.wrap ((IntKind.u64.wrap ((1 : Int) * (2 ^ (min ((IntKind.u64.wrap (32 : Int))).toNat IntKind.u64.bits)))) - (1 : Int)))))) rfl ?_
                      refine so_gyes rfl (decide_eq_false c159) ?_
                      refine so_bin rfl rfl ab_gtr ?_
                      refine so_pick_f (v := (.v (.bool (decide ((IntKind.u64.wrap ((IntKind.u64.wrap ((1 : Int) * (2 ^ (min ((IntKind.u64.wrap (32 : Int))).toNat IntKind.u64.bits)))) - (1 : Int))) < (IntKind.u64.wrap ((IntKind.u64.wrap (n108 * (IntKind.u64.wrap (16 : Int)))) + (IntKind.u64.wrap (IntKind.u8.wrap ((IntKind.u8.wrap (y155 - (97 : Int))) + (10 : Int))))))))))) rfl (decide_eq_false c159) rfl ?_
                      refine so_nil ?_
                      replace h := ofP h; rcases h with ⟨c160, h⟩ | ⟨c160, h⟩
                      · refine fi_true rfl (decide_eq_true c160) ?_
                        refine fi_seq ?_
                        refine fi_region ?_
                        refine so_move (v := (.v (.int .u64 (IntKind.u64.wrap ((IntKind.u64.wrap ((1 : Int) * (2 ^ (min ((IntKind.u64.wrap (32 : Int))).toNat IntKind.u64.bits)))) - (1 : Int)))))) rfl ?_
                        refine so_mkif rfl F181.it255 ?_
                        refine so_assign (v := (.v (.int .u64 (IntKind.u64.wrap ((IntKind.u64.wrap ((1 : Int) * (2 ^ (min ((IntKind.u64.wrap (32 : Int))).toNat IntKind.u64.bits)))) - (1 : Int)))))) rfl ?_
                        refine so_assign (v := (.v (.ifc (IfV.num 255 .i64 (1 : Int))))) rfl ?_
                        refine so_nil ?_
                        exact by_ret rfl ⟨_, _, h, rfl, (Sep.del 0 hs)⟩
                      · refine fi_false rfl (decide_eq_false c160) ?_
                        refine fi_skip ?_
                        refine fi_region ?_
                        refine so_move (v := (.v (.int .u64 (IntKind.u64.wrap ((IntKind.u64.wrap (n108 * (IntKind.u64.wrap (16 : Int)))) + (IntKind.u64.wrap (IntKind.u8.wrap ((IntKind.u8.wrap (y155 - (97 : Int))) + (10 : Int))))))))) rfl ?_
                        refine so_assign (v := (.v (.int .u64 (IntKind.u64.wrap ((IntKind.u64.wrap (n108 * (IntKind.u64.wrap (16 : Int)))) + (IntKind.u64.wrap (IntKind.u8.wrap ((IntKind.u8.wrap (y155 - (97 : Int))) + (10 : Int))))))))) rfl ?_
                        refine so_nil ?_
                        refine fi_inBlock ?_
                        refine fi_region ?_
                        refine so_bin rfl rfl ab_add ?_
                        refine so_move (v := (.v (.int .i64 (IntKind.i64.wrap (x109 + (1 : Int)))))) rfl ?_
                        refine so_nil ?_
                        exact fi_at [(1, (.v (.int .i64 (16 : Int)))), (8, (.v (.bool (decide ((16 : Int) = (0 : Int)))))), (9, (.v (.str (pk a0)))), (10, (.v (.int .u64 (1152921504606846976 : Int)))), (11, (.v (.int .u64 (IntKind.u64.wrap ((IntKind.u64.wrap ((1 : Int) * (2 ^ (min ((IntKind.u64.wrap (32 : Int))).toNat IntKind.u64.bits)))) - (1 : Int)))))), (12, (.v (.bool underscores107))), (13, (.v (.int .u64 (IntKind.u64.wrap ((IntKind.u64.wrap (n108 * (IntKind.u64.wrap (16 : Int)))) + (IntKind.u64.wrap (IntKind.u8.wrap ((IntKind.u8.wrap (y155 - (97 : Int))) + (10 : Int))))))))), (99, (.v v103)), (100, (.v (.int .i64 ((nums a0).length : Int)))), (101, (.v (.int .i64 (IntKind.i64.wrap (x109 + (1 : Int))))))] ⟨rfl, rfl, rfl, rfl, rfl, rfl, rfl, rfl, rfl, rfl, trivial⟩ (h _ _  hs)
              · refine fi_false rfl (decide_eq_false c154) ?_
                refine fi_seq ?_
                refine fi_region ?_
                refine so_mkif rfl F181.it255 ?_
                refine so_assign (v := (.v (.int .u64 (0 : Int)))) rfl ?_
                refine so_assign (v := (.v (.ifc (IfV.num 255 .i64 (2 : Int))))) rfl ?_
                refine so_nil ?_
                exact by_ret rfl ⟨_, _, h, rfl, (Sep.del 0 hs)⟩
            · refine so_gno rfl (decide_eq_false c151) ?_
              refine so_gno rfl (decide_eq_false c151) ?_
              refine so_gno rfl (decide_eq_false c151) ?_
              refine so_pick_f (v := (.v (.bool false))) rfl (decide_eq_false c151) rfl ?_
              refine so_assign (v := (.v (.bool false))) rfl ?_
              refine so_nil ?_
              refine fi_false rfl rfl ?_
              refine fi_seq ?_
              refine fi_region ?_
              refine so_mkif rfl F181.it255 ?_
              refine so_assign (v := (.v (.int .u64 (0 : Int)))) rfl ?_
              refine so_assign (v := (.v (.ifc (IfV.num 255 .i64 (2 : Int))))) rfl ?_
              refine so_nil ?_
              exact by_ret rfl ⟨_, _, h, rfl, (Sep.del 0 hs)⟩
        · refine so_gno rfl (decide_eq_false c143) ?_
          refine so_gno rfl (decide_eq_false c143) ?_
          refine so_pick_f (v := (.v (.bool false))) rfl (decide_eq_false c143) rfl ?_
          refine so_assign (v := (.v (.bool false))) rfl ?_
          refine so_nil ?_
          refine fi_false rfl rfl ?_
          refine fi_seq ?_
          refine fi_region ?_
          refine so_move (v := (.v (.int .u8 ((nums a0).getD (x109).toNat (0 : Int))))) rfl ?_
          refine sv_callS (internal_strconv_lower_ok ((nums a0).getD (x109).toNat (0 : Int)) hs  _ h) (fun _ _ ⟨_, _, _, e⟩ => e) rfl rfl ?_
          clear h
          rintro _ _ ⟨y161, h, rfl, rfl⟩
          refine so_bin rfl rfl ab_leq ?_
          refine so_move (v := (.v (.bool (decide ((97 : Int) ≤ y161))))) rfl ?_
          replace h := ofP h; rcases h with ⟨c163, h⟩ | ⟨c163, h⟩
          · refine so_gyes rfl (decide_eq_true c163) ?_
            refine so_move (v := (.v (.int .u8 ((nums a0).getD (x109).toNat (0 : Int))))) rfl ?_
            refine so_gyes rfl (decide_eq_true c163) ?_
            refine sv_callS (internal_strconv_lower_ok ((nums a0).getD (x109).toNat (0 : Int)) hs  _ h) (fun _ _ ⟨_, _, _, e⟩ => e) rfl rfl ?_
            clear h
            rintro _ _ ⟨y164, h, rfl, rfl⟩
            refine so_gyes rfl (decide_eq_true c163) ?_
            refine so_bin rfl rfl ab_leq ?_
            refine so_pick_t (v := (.v (.bool (decide (y164 ≤ (122 : Int)))))) rfl (decide_eq_true c163) rfl ?_
            refine so_assign (v := (.v (.bool (decide (y164 ≤ (122 : Int)))))) rfl ?_
            refine so_nil ?_
            replace h := ofP h; rcases h with ⟨c166, h⟩ | ⟨c166, h⟩
            · refine fi_true rfl (decide_eq_true c166) ?_
              refine fi_region ?_
              refine so_move (v := (.v (.int .u8 ((nums a0).getD (x109).toNat (0 : Int))))) rfl ?_
              refine sv_callS (internal_strconv_lower_ok ((nums a0).getD (x109).toNat (0 : Int)) hs  _ h) (fun _ _ ⟨_, _, _, e⟩ => e) rfl rfl ?_
              clear h
              rintro _ _ ⟨y167, h, rfl, rfl⟩
              refine so_bin rfl rfl ab_sub ?_
              refine so_bin rfl rfl ab_add ?_
              refine so_assign (v := (.v (.int .u8 (IntKind.u8.wrap ((IntKind.u8.wrap (y167 - (97 : Int))) + (10 : Int)))))) rfl ?_
              refine so_nil ?_
              refine fi_inBlock ?_
              refine fi_seq ?_
              refine fi_seq ?_
              refine fi_region ?_
              refine so_move (v := (.v (.int .u8 (IntKind.u8.wrap ((IntKind.u8.wrap (y167 - (97 : Int))) + (10 : Int)))))) rfl ?_
              refine so_move (v := (.v (.int .i64 (16 : Int)))) rfl ?_
              refine sv_ii rfl F181.us3 F181.it5 ?_
              refine so_bin rfl rfl ab_geq ?_
              refine so_nil ?_
              replace h := ofP h; rcases h with ⟨c169, h⟩ | ⟨c169, h⟩
              · refine fi_true rfl (decide_eq_true c169) ?_
                refine fi_seq ?_
                refine fi_region ?_
                refine so_mkif rfl F181.it255 ?_
                refine so_assign (v := (.v (.int .u64 (0 : Int)))) rfl ?_
                refine so_assign (v := (.v (.ifc (IfV.num 255 .i64 (2 : Int))))) rfl ?_
                refine so_nil ?_
                exact by_ret rfl ⟨_, _, h, rfl, (Sep.del 0 hs)⟩
              · refine fi_false rfl (decide_eq_false c169) ?_
                refine fi_skip ?_
                refine fi_seq ?_
                refine fi_seq ?_
                refine fi_region ?_
                refine so_move (v := (.v (.int .u64 n108))) rfl ?_
                refine so_move (v := (.v (.int .u64 (1152921504606846976 : Int)))) rfl ?_
                refine so_bin rfl rfl ab_geq ?_
                refine so_nil ?_
                replace h := ofP h; rcases h with ⟨c170, h⟩ | ⟨c170, h⟩
                · refine fi_true rfl (decide_eq_true c170) ?_
                  refine fi_seq ?_
                  refine fi_region ?_
                  refine so_move (v := (.v (.int .u64 (IntKind.u64.wrap ((IntKind.u64.wrap ((1 : Int) * (2 ^ (min ((IntKind.u64.wrap (32 : Int))).toNat IntKind.u64.bits)))) - (1 : Int)))))) rfl ?_
                  refine so_mkif rfl F181.it255 ?_
                  refine so_assign (v := (.v (.int .u64 (IntKind.u64.wrap ((IntKind.u64.wrap ((1 : Int) * (2 ^ (min ((IntKind.u64.wrap (32 : Int))).toNat IntKind.u64.bits)))) - (1 : Int)))))) rfl ?_
                  refine so_assign (v := (.v (.ifc (IfV.num 255 .i64 (1 : Int))))) rfl ?_
                  refine so_nil ?_
                  exact by_ret rfl ⟨_, _, h, rfl, (Sep.del 0 hs)⟩
                · refine fi_false rfl (decide_eq_false c170) ?_
                  refine fi_skip ?_
                  refine fi_seq ?_
                  refine fi_region ?_
                  refine so_move (v := (.v (.int .u64 n108))) rfl ?_
                  refine so_move (v := (.v (.int .i64 (16 : Int)))) rfl ?_
                  refine sv_ii rfl F181.us3 F181.it138 ?_
                  refine so_bin rfl rfl ab_mul ?_
                  refine so_assign (v := (.v (.int .u64 (IntKind.u64.wrap (n108 * (IntKind.u64.wrap (16 : Int))))))) rfl ?_
                  refine so_nil ?_
                  refine fi_seq ?_
                  refine fi_region ?_
                  refine so_move (v := (.v (.int .u64 (IntKind.u64.wrap (n108 * (IntKind.u64.wrap (16 : Int))))))) rfl ?_
                  refine so_move (v := (.v (.int .u8 (IntKind.u8.wrap ((IntKind.u8.wrap (y167 - (97 : Int))) + (10 : Int)))))) rfl ?_
                  refine sv_ii rfl F181.us5 F181.it138 ?_
                  refine so_bin rfl rfl ab_add ?_
                  refine so_assign (v := (.v (.int .u64 (IntKind.u64.wrap ((IntKind.u64.wrap (n108 * (IntKind.u64.wrap (16 : Int)))) + (IntKind.u64.wrap (IntKind.u8.wrap ((IntKind.u8.wrap (y167 - (97 : Int))) + (10 : Int))))))))) rfl ?_
                  refine so_nil ?_
                  refine fi_seq ?_
                  refine fi_seq ?_
                  refine fi_region ?_
                  refine so_move (v := (.v (.int .u64 (IntKind.u64.wrap ((IntKind.u64.wrap (n108 * (IntKind.u64.wrap (16 : Int)))) + (IntKind.u64.wrap (IntKind.u8.wrap ((IntKind.u8.wrap (y167 - (97 : Int))) + (10 : Int))))))))) rfl ?_
                  refine so_move (v := (.v (.int .u64 (IntKind.u64.wrap (n108 * (IntKind.u64.wrap (16 : Int))))))) rfl ?_
                  refine so_bin rfl rfl ab_lss ?_
                  refine so_move (v := (.v (.bool (decide ((IntKind.u64.wrap ((IntKind.u64.wrap (n108 * (IntKind.u64.wrap (16 : Int)))) + (IntKind.u64.wrap (IntKind.u8.wrap ((IntKind.u8.wrap (y167 - (97 : Int))) + (10 : Int)))))) < (IntKind.u64.wrap (n108 * (IntKind.u64.wrap (16 : Int))))))))) rfl ?_
                  replace h := ofP h; rcases h with ⟨c171, h⟩ | ⟨c171, h⟩
                  · refine so_gno rfl (decide_eq_true c171) ?_
                    refine so_gno rfl (decide_eq_true c171) ?_
                    refine so_gno rfl (decide_eq_true c171) ?_
                    refine so_pick_t (v := (.v (.bool true))) rfl (decide_eq_true c171) rfl ?_
                    refine so_nil ?_
                    refine fi_true rfl rfl ?_
                    refine fi_seq ?_
                    refine fi_region ?_
                    refine so_move (v := (.v (.int .u64 (IntKind.u64.wrap ((IntKind.u64.wrap ((1 : Int) * (2 ^ (min ((IntKind.u64.wrap (32 : Int))).toNat IntKind.u64.bits)))) - (1 : Int)))))) rfl ?_
                    refine so_mkif rfl F181.it255 ?_
                    refine so_assign (v := (.v (.int .u64 (IntKind.u64.wrap ((IntKind.u64.wrap ((1 : Int) * (2 ^ (min ((IntKind.u64.wrap (32 : Int))).toNat IntKind.u64.bits)))) - (1 : Int)))))) rfl ?_
                    refine so_assign (v := (.v (.ifc (IfV.num 255 .i64 (1 : Int))))) rfl ?_
                    refine so_nil ?_
                    exact by_ret rfl ⟨_, _, h, rfl, (Sep.del 0 hs)⟩
                  · refine so_gyes rfl (decide_eq_false c171) ?_
                    refine so_move (v := (.v (.int .u64 (IntKind.u64.wrap ((IntKind.u64.wrap (n108 * (IntKind.u64.wrap (16 : Int)))) + (IntKind.u64.wrap (IntKind.u8.wrap ((IntKind.u8.wrap (y167 - (97 : Int))) + (10 : Int))))))))) rfl ?_
                    refine so_gyes rfl (decide_eq_false c171) ?_
                    refine so_move (v := (.v (.int .u64 (IntKind.u64.wrap ((IntKind.u64.wrap ((1 : Int) * (2 ^ (min ((IntKind.u64.wrap (32 : Int))).toNat IntKind.u64.bits)))) - (1 : Int)))))) rfl ?_
                    refine so_gyes rfl (decide_eq_false c171) ?_
                    refine so_bin rfl rfl ab_gtr ?_
                    refine so_pick_f (v := (.v (.bool (decide ((IntKind.u64.wrap ((IntKind.u64.wrap ((1 : Int) * (2 ^ (min ((IntKind.u64.wrap (32 : Int))).toNat IntKind.u64.bits)))) - (1 : Int))) < (IntKind.u64.wrap ((IntKind.u64.wrap (n108 * (IntKind.u64.wrap (16 : Int)))) + (IntKind.u64.wrap (IntKind.u8.wrap ((IntKind.u8.wrap (y167 - (97 : Int))) + (10 : Int))))))))))) rfl (decide_eq_false c171) rfl ?_
                    refine so_nil ?_
                    replace h := ofP h; rcases h with ⟨c172, h⟩ | ⟨c172, h⟩
                    · refine fi_true rfl (decide_eq_true c172) ?_
                      refine fi_seq ?_
                      refine fi_region ?_
                      refine so_move (v := (.v (.int .u64 (IntKind.u64.wrap ((IntKind.u64.wrap ((1 : Int) * (2 ^ (min ((IntKind.u64.wrap (32 : Int))).toNat IntKind.u64.bits)))) - (1 : Int)))))) rfl ?_
                      refine so_mkif rfl F181.it255 ?_
                      refine so_assign (v := (.v (.int .u64 (IntKind.u64.wrap ((IntKind.u64.wrap ((1 : Int) * (2 ^ (min ((IntKind.u64.wrap (32 : Int))).toNat IntKind.u64.bits)))) - (1 : Int)))))) rfl ?_
                      refine so_assign (v := (.v (.ifc (IfV.num 255 .i64 (1 : Int))))) rfl ?_
                      refine so_nil ?_
                      exact by_ret rfl ⟨_, _, h, rfl, (Sep.del 0 hs)⟩
                    · refine fi_false rfl (decide_eq_false c172) ?_
                      refine fi_skip ?_
                      refine fi_region ?_
                      refine so_move (v := (.v (.int .u64 (IntKind.u64.wrap ((IntKind.u64.wrap (n108 * (IntKind.u64.wrap (16 : Int)))) + (IntKind.u64.wrap (IntKind.u8.wrap ((IntKind.u8.wrap (y167 - (97 : Int))) + (10 : Int))))))))) rfl ?_
                      refine so_assign (v := (.v (.int .u64 (IntKind.u64.wrap ((IntKind.u64.wrap (n108 * (IntKind.u64.wrap (16 : Int)))) + (IntKind.u64.wrap (IntKind.u8.wrap ((IntKind.u8.wrap (y167 - (97 : Int))) + (10 : Int))))))))) rfl ?_
                      refine so_nil ?_
                      refine fi_inBlock ?_
                      refine fi_region ?_
                      refine so_bin rfl rfl ab_add ?_
                      refine so_move (v := (.v (.int .i64 (IntKind.i64.wrap (x109 + (1 : Int)))))) rfl ?_
                      refine so_nil ?_
                      exact fi_at [(1, (.v (.int .i64 (16 : Int)))), (8, (.v (.bool (decide ((16 : Int) = (0 : Int)))))), (9, (.v (.str (pk a0)))), (10, (.v (.int .u64 (1152921504606846976 : Int)))), (11, (.v (.int .u64 (IntKind.u64.wrap ((IntKind.u64.wrap ((1 : Int) * (2 ^ (min ((IntKind.u64.wrap (32 : Int))).toNat IntKind.u64.bits)))) - (1 : Int)))))), (12, (.v (.bool underscores107))), (13, (.v (.int .u64 (IntKind.u64.wrap ((IntKind.u64.wrap (n108 * (IntKind.u64.wrap (16 : Int)))) + (IntKind.u64.wrap (IntKind.u8.wrap ((IntKind.u8.wrap (y167 - (97 : Int))) + (10 : Int))))))))), (99, (.v v103)), (100, (.v (.int .i64 ((nums a0).length : Int)))), (101, (.v (.int .i64 (IntKind.i64.wrap (x109 + (1 : Int))))))] ⟨rfl, rfl, rfl, rfl, rfl, rfl, rfl, rfl, rfl, rfl, trivial⟩ (h _ _  hs)
            · refine fi_false rfl (decide_eq_false c166) ?_
              refine fi_seq ?_
              refine fi_region ?_
              refine so_mkif rfl F181.it255 ?_
              refine so_assign (v := (.v (.int .u64 (0 : Int)))) rfl ?_
              refine so_assign (v := (.v (.ifc (IfV.num 255 .i64 (2 : Int))))) rfl ?_
              refine so_nil ?_
              exact by_ret rfl ⟨_, _, h, rfl, (Sep.del 0 hs)⟩
          · refine so_gno rfl (decide_eq_false c163) ?_
            refine so_gno rfl (decide_eq_false c163) ?_
            refine so_gno rfl (decide_eq_false c163) ?_
            refine so_pick_f (v := (.v (.bool false))) rfl (decide_eq_false c163) rfl ?_
            refine so_assign (v := (.v (.bool false))) rfl ?_
            refine so_nil ?_
            refine fi_false rfl rfl ?_
            refine fi_seq ?_
            refine fi_region ?_
            refine so_mkif rfl F181.it255 ?_
            refine so_assign (v := (.v (.int .u64 (0 : Int)))) rfl ?_
            refine so_assign (v := (.v (.ifc (IfV.num 255 .i64 (2 : Int))))) rfl ?_
            refine so_nil ?_
            exact by_ret rfl ⟨_, _, h, rfl, (Sep.del 0 hs)⟩
    · refine fi_false rfl (decide_eq_false c110) ?_
      refine fi_exit rfl ?_
      refine fi_seq ?_
      refine fi_seq ?_
      refine fi_region ?_
      refine so_move (v := (.v (.bool underscores107))) rfl ?_
      refine so_move (v := (.v (.bool underscores107))) rfl ?_
      replace h := ofT h; rcases h with ⟨c173, h⟩ | ⟨c173, h⟩
      · refine so_gyes rfl c173 ?_
        refine so_move (v := (.v (.str (pk a0)))) rfl ?_
        refine so_gyes rfl c173 ?_
        refine sv_call (internal_strconv_underscoreOK_ok a0 hs  _ h) rfl rfl nofun ?_
        clear h hs
        rintro _ H175 ⟨y174, h, rfl, hs⟩
        refine so_gyes rfl c173 ?_
        refine so_un rfl au_not ?_
        refine so_pick_t (v := (.v (.bool (!y174)))) rfl c173 rfl ?_
        refine so_nil ?_
        replace h := ofT h; rcases h with ⟨c176, h⟩ | ⟨c176, h⟩
        · refine fi_false rfl (not_f c176) ?_
          refine fi_skip ?_
          refine fi_seq ?_
          refine fi_region ?_
          refine so_move (v := (.v (.int .u64 n108))) rfl ?_
          refine so_assign (v := (.v (.int .u64 n108))) rfl ?_
          refine so_assign (v := (.v (.ifc IfV.nil))) rfl ?_
          refine so_nil ?_
          exact by_ret rfl ⟨_, _, h, rfl, (Sep.del 0 hs)⟩
        · refine fi_true rfl (not_t c176) ?_
          refine fi_seq ?_
          refine fi_region ?_
          refine so_mkif rfl F181.it255 ?_
          refine so_assign (v := (.v (.int .u64 (0 : Int)))) rfl ?_
          refine so_assign (v := (.v (.ifc (IfV.num 255 .i64 (2 : Int))))) rfl ?_
          refine so_nil ?_
          exact by_ret rfl ⟨_, _, h, rfl, (Sep.del 0 hs)⟩
      · refine so_gno rfl c173 ?_
        refine so_gno rfl c173 ?_
        refine so_gno rfl c173 ?_
        refine so_pick_f (v := (.v (.bool false))) rfl c173 rfl ?_
        refine so_nil ?_
        refine fi_false rfl rfl ?_
        refine fi_skip ?_
        refine fi_seq ?_
        refine fi_region ?_
        refine so_move (v := (.v (.int .u64 n108))) rfl ?_
        refine so_assign (v := (.v (.int .u64 n108))) rfl ?_
        refine so_assign (v := (.v (.ifc IfV.nil))) rfl ?_
        refine so_nil ?_
        exact by_ret rfl ⟨_, _, h, rfl, (Sep.del 0 hs)⟩
theorem internal_strconv_ParseUintC_okS {fr : List Pc} {H : Heap} (a0 : List UInt8) (hs : Sep H fr)  (K : Int → IfV → Prop) (h : internal_strconv_ParseUintC.wp a0 K) : OkQ Tryz.prog 181 [(.v (.str (pk a0))), (.v (.int .i64 (16 : Int))), (.v (.int .i64 (32 : Int)))] H (fun r H2 => ∃ (y0 : Int) (y1 : IfV), K y0 y1 ∧ r = (.t [(.v (.int .u64 y0)), (.v (.ifc y1))]) ∧ H = H2) := by
  obtain ⟨r, H2, h1, y0, y1, hK, hr, hsep⟩ := internal_strconv_ParseUintC_ok (fr := came H) (H := H) a0 (came_sep H)  K h
  have hk : H.n ≤ H2.n ∧ ∀ i, i < H.n → H2.f i = H.f i := hsep.1.2.1
  exact ⟨r, H, h1.forget hk.1 hk.2 (by subst hr; rfl), y0, y1, hK, hr, rfl⟩
theorem internal_strconv_ParseUint_ok {fr : List Pc} {H : Heap} (a0 : List UInt8) (a1 : Int) (a2 : Int) (hs : Sep H fr) (K : Int → IfV → Prop) (h : internal_strconv_ParseUint.wp a0 a1 a2 K) : OkQ Tryz.prog 181 [.v (.str (pk a0)), .v (.int .i64 a1), .v (.int .i64 a2)] H (fun r H2 => ∃ (y0 : Int) (y1 : IfV), K y0 y1 ∧ r = (.t [(.v (.int .u64 y0)), (.v (.ifc y1))]) ∧ H = H2) := by
  obtain ⟨⟨rfl, rfl⟩, h⟩ := h
  exact internal_strconv_ParseUintC_okS a0 hs  K h

end Go.Proofs.YtmbkjkcolmoioaaGreatDoor.G

namespace Go.Proofs.YtmbkjkcolmoioaaGreatDoor.G
open Go Go.Ab Go.Proofs Go.Proofs.YtmbkjkcolmoioaaGreatDoor
set_option maxRecDepth 100000
set_option linter.unusedVariables false
set_option linter.unusedSimpArgs false
set_option maxHeartbeats 1000000
attribute [local irreducible] wops wopf Go.Ab.Fin
theorem strconv_toError_ok {fr : List Pc} {H : Heap} (a0 a1 : List UInt8) (a2 a3 : Int) (a4 : IfV) (hs : Sep H fr) (gt3 : ∀ H, Sep H fr → HasTab 3 F.tab3 H) (K : IfV → Prop) (h : strconv_toError.wp a0 a1 a2 a3 a4 K) : OkQ Tryz.prog 182 [.v (.str (pk a0)), .v (.str (pk a1)), .v (.int .i64 a2), .v (.int .i64 a3), .v (.ifc a4)] H (fun r H2 => ∃ (y0 : IfV), K y0 ∧ r = (.v (.ifc y0)) ∧ H = H2) := by
  obtain ⟨⟨rfl, hl⟩, h⟩ := h
  refine ⟨.v (.ifc .other), _, ok_libE Tryz.call182 (fun β w us hw ha => ?_), _, h, rfl, rfl⟩
  obtain ⟨o, ho1, ho2⟩ := (gt3 H hs).heap hw
  obtain ⟨ev, hv, hev⟩ := ho2 w ho1
  rw [args_err _ _ _ _ _ _ β us ha]
  exact (Any.strconv_toError_syntax Tryz.laysC245 (pk a0) (pk a1) a2 a3 ev w (by rw [pk_size]; exact Nat.le_trans hl (by decide)) hv hev).mono fun e w' ⟨N, he, _, _, hb⟩ => ⟨⟨_, he, fun β => ⟨_, _, rfl⟩⟩, hb⟩

end Go.Proofs.YtmbkjkcolmoioaaGreatDoor.G

namespace Go.Proofs.YtmbkjkcolmoioaaGreatDoor.G
open Go Go.Ab Go.Proofs Go.Proofs.YtmbkjkcolmoioaaGreatDoor
set_option maxRecDepth 100000
set_option linter.unusedVariables false
set_option linter.unusedSimpArgs false
set_option maxHeartbeats 1000000
attribute [local irreducible] wops wopf Go.Ab.Fin
theorem F137.if99 : tif Tryz.prog 99 = true := by kernel_rfl
theorem strconv_ParseUint_ok {fr : List Pc} {H : Heap} (a0 : List UInt8) (a1 : Int) (a2 : Int) (hs : Sep H (fr)) (gt3 : ∀ H, Sep H fr → HasTab 3 F.tab3 H) (K : Int → IfV → Prop) (h : strconv_ParseUint.wp a0 a1 a2 K) : OkQ Tryz.prog 137 [(.v (.str (pk a0))), (.v (.int .i64 a1)), (.v (.int .i64 a2))] H (fun r H2 => ∃ (y0 : Int) (y1 : IfV), K y0 y1 ∧ r = (.t [(.v (.int .u64 y0)), (.v (.ifc y1))]) ∧ H = H2) := by
  unfold strconv_ParseUint.wp at h
  refine of_body Tryz.f137 F.hm Tryz.func137 rfl Tryz.call137 (by kernel_rfl) (by simp) ?_
  refine fi_seq ?_
  refine fi_region ?_
  refine so_assign (v := (.v (.int .u64 (0 : Int)))) rfl ?_
  refine so_assign (v := (.v (.ifc IfV.nil))) rfl ?_
  refine so_nil ?_
  refine fi_seq ?_
  refine fi_region ?_
  refine so_move (v := (.v (.str (pk a0)))) rfl ?_
  refine so_move (v := (.v (.int .i64 a1))) rfl ?_
  refine so_move (v := (.v (.int .i64 a2))) rfl ?_
  refine sv_callS (internal_strconv_ParseUint_ok a0 a1 a2 hs  _ h) (fun _ _ ⟨_, _, _, _, e⟩ => e) rfl rfl ?_
  clear h
  rintro _ _ ⟨y101, y102, h, rfl, rfl⟩
  refine so_move (v := (.t [(.v (.int .u64 y101)), (.v (.ifc y102))])) rfl ?_
  refine so_extract rfl rfl rfl ?_
  refine so_extract rfl rfl rfl ?_
  refine so_assign (v := (.v (.int .u64 y101))) rfl ?_
  refine so_assign (v := (.v (.ifc y102))) rfl ?_
  refine so_nil ?_
  refine fi_seq ?_
  refine fi_seq ?_
  refine fi_region ?_
  refine so_move (v := (.v (.ifc y102))) rfl ?_
  refine so_ifc_ne rfl rfl F137.if99 ?_
  refine so_nil ?_
  replace h := ofT h; rcases h with ⟨c104, h⟩ | ⟨c104, h⟩
  · refine fi_false rfl (not_f c104) ?_
    refine fi_skip ?_
    refine fi_seq ?_
    refine fi_region ?_
    refine so_move (v := (.v (.int .u64 y101))) rfl ?_
    refine so_assign (v := (.v (.int .u64 y101))) rfl ?_
    refine so_assign (v := (.v (.ifc IfV.nil))) rfl ?_
    refine so_nil ?_
    exact by_ret rfl ⟨_, _, h, rfl, rfl⟩
  · refine fi_true rfl (not_t c104) ?_
    refine fi_seq ?_
    refine fi_region ?_
    refine so_move (v := (.v (.int .u64 y101))) rfl ?_
    refine so_move (v := (.v (.str (pk a0)))) rfl ?_
    refine so_move (v := (.v (.int .i64 a1))) rfl ?_
    refine so_move (v := (.v (.int .i64 a2))) rfl ?_
    refine so_move (v := (.v (.ifc y102))) rfl ?_
    refine sv_callS (strconv_toError_ok ([80, 97, 114, 115, 101, 85, 105, 110, 116] : List UInt8) a0 a1 a2 y102 hs (fun _ hs => gt3 _ hs) _ h) (fun _ _ ⟨_, _, _, e⟩ => e) rfl rfl ?_
    clear h
    rintro _ _ ⟨y105, h, rfl, rfl⟩
    refine so_assign (v := (.v (.int .u64 y101))) rfl ?_
    refine so_assign (v := (.v (.ifc y105))) rfl ?_
    refine so_nil ?_
    exact by_ret rfl ⟨_, _, h, rfl, rfl⟩

end Go.Proofs.YtmbkjkcolmoioaaGreatDoor.G

namespace Go.Proofs.YtmbkjkcolmoioaaGreatDoor.G
open Go Go.Ab Go.Proofs Go.Proofs.YtmbkjkcolmoioaaGreatDoor
set_option maxRecDepth 100000
set_option linter.unusedVariables false
set_option linter.unusedSimpArgs false
set_option maxHeartbeats 1000000
attribute [local irreducible] wops wopf Go.Ab.Fin
theorem F95.it179 : tint Tryz.prog 179 = some .u32 := by kernel_rfl
theorem F95.us138 : (Tryz.prog.underlying 138).isSome = true := by kernel_rfl
theorem impl_readHex_ok {fr : List Pc} {H : Heap} (a0 : List UInt8) (hs : Sep H (fr)) (gt3 : ∀ H, Sep H fr → HasTab 3 F.tab3 H) (K : Nat → Prop) (h : impl_readHex.wp a0 K) : OkQ Tryz.prog 95 [(.v (.str (pk a0)))] H (fun r H2 => ∃ (y0 : Nat), K y0 ∧ r = (.v (.flt .f32 y0)) ∧ H = H2) := by
  unfold impl_readHex.wp at h
  refine of_body Tryz.f95 F.hm Tryz.func95 rfl Tryz.call95 (by kernel_rfl) (by simp) ?_
  refine fi_seq ?_
  refine fi_region ?_
  refine so_assign (v := (.v (.flt .f32 (cz .f32 0)))) rfl ?_
  refine so_nil ?_
  refine fi_seq ?_
  refine fi_region ?_
  refine so_move (v := (.v (.str (pk a0)))) rfl ?_
  refine sv_callS (strconv_ParseUint_ok a0 (16 : Int) (32 : Int) hs (fun _ hs => gt3 _ hs) _ h) (fun _ _ ⟨_, _, _, _, e⟩ => e) rfl rfl ?_
  clear h
  rintro _ _ ⟨y101, y102, h, rfl, rfl⟩
  refine so_move (v := (.t [(.v (.int .u64 y101)), (.v (.ifc y102))])) rfl ?_
  refine so_extract rfl rfl rfl ?_
  refine so_extract rfl rfl rfl ?_
  refine so_assign (v := (.v (.int .u64 y101))) rfl ?_
  refine so_assign (v := (.v (.ifc y102))) rfl ?_
  refine so_nil ?_
  refine fi_seq ?_
  refine fi_region ?_
  refine so_move (v := (.v (.int .u64 y101))) rfl ?_
  refine sv_ii rfl F95.us138 F95.it179 ?_
  refine sv_callS (math_Float32frombits_ok (IntKind.u32.wrap y101) hs  _ h) (fun _ _ ⟨_, _, _, e⟩ => e) rfl rfl ?_
  clear h
  rintro _ _ ⟨y104, h, rfl, rfl⟩
  refine so_assign (v := (.v (.flt .f32 y104))) rfl ?_
  refine so_nil ?_
  exact by_ret rfl ⟨_, h, rfl, rfl⟩

end Go.Proofs.YtmbkjkcolmoioaaGreatDoor.G

namespace Go.Proofs.YtmbkjkcolmoioaaGreatDoor.G
open Go Go.Ab Go.Proofs Go.Proofs.YtmbkjkcolmoioaaGreatDoor
set_option maxRecDepth 100000
set_option linter.unusedVariables false
set_option linter.unusedSimpArgs false
set_option maxHeartbeats 1000000
attribute [local irreducible] wops wopf Go.Ab.Fin
theorem F37.ag9 : tagg Tryz.prog 9 = some false := by kernel_rfl
theorem F37.sr9 : tstr Tryz.prog 9 = true := by kernel_rfl
theorem F37.sz32 : tsz Tryz.prog 32 = some 1 := by kernel_rfl
theorem F37.ta22_22 : tapp Tryz.prog 22 22 = some (1, 4) := by kernel_rfl
theorem F37.te22 : telem Tryz.prog 22 = some 32 := by kernel_rfl
theorem F37.ti22 : (telem Tryz.prog 22).isSome = true := by kernel_rfl
theorem F37.ti83 : (telem Tryz.prog 83).isSome = true := by kernel_rfl
theorem F37.tl83 : (telem Tryz.prog 83).bind (tsz Tryz.prog) = some 1 := by kernel_rfl
theorem F37.ze32 : tzero Tryz.prog 32 = some [(.flt .f32 (0 : Nat))] := by kernel_rfl
theorem impl_ReadNumbers_ok {fr : List Pc} {H : Heap} (a0 : List UInt8) (hs : Sep H (fr)) (gt2 : ∀ H, Sep H fr → HasTab 2 F.tab2 H) (gt3 : ∀ H, Sep H fr → HasTab 3 F.tab3 H) (gt6 : ∀ H, Sep H fr → HasTab 6 F.tab6 H) (K : (List (Nat)) → Bool → Prop) (h : impl_ReadNumbers.wp a0 K) : OkQ Tryz.prog 37 [(.v (.str (pk a0)))] H (fun r H2 => ∃ (y0 : List (Nat)) (y1 : Bool), K y0 y1 ∧ ∃ (w0_ : AV), r = (.t [(.v w0_), (.v (.bool y1))]) ∧ Sep H2 (Pc.osl w0_ 1 (enc (eFlt .f32) y0) :: fr)) := by
  unfold impl_ReadNumbers.wp at h
  refine of_body Tryz.f37 F.hm Tryz.func37 rfl Tryz.call37 (by kernel_rfl) (by simp) ?_
  refine fi_seq ?_
  refine fi_region ?_
  refine so_assign (v := (.v .nilsl)) rfl ?_
  refine so_assign (v := (.v (.bool false))) rfl ?_
  refine so_nil ?_
  refine fi_seq ?_
  refine fi_region ?_
  refine sv_bslice hs (eFlt .f32) ([] : List (Nat)) [] F37.te22 F37.sz32 F37.ze32 rfl rfl rfl rfl (fun _ => rfl) rfl (by decide) nofun (fun v101 H102 nv101 hs => ?_)
  refine so_assign (v := (.v v101)) rfl ?_
  refine so_nil ?_
  refine fi_seq ?_
  refine fi_seq ?_
  refine fi_region ?_
  refine so_move (v := (.v (.str (pk a0)))) rfl ?_
  refine sv_call (impl_pieces_ok a0 hs  _ h) rfl rfl nofun ?_
  clear h hs
  rintro _ H107 ⟨y104, h, v105, rfl, hs⟩
  refine sv_len (hs.rshows 0 rfl) (fun _ => rfl) (by decide) rfl F37.ti83 ?_
  refine so_move (v := (.v (.int .i64 (0 : Int)))) rfl ?_
  refine so_nil ?_
  refine fi_block ?_
  refine fi_loop ?_
  refine fi_at [(0, (.v (.str (pk a0)))), (4, (.v v101)), (11, (.v v105)), (12, (.v (.int .i64 (y104.length : Int)))), (13, (.v (.int .i64 (0 : Int))))] ⟨rfl, rfl, rfl, rfl, rfl, trivial⟩ ?_
  refine h (fun (out130 : List (Nat)) (x132 : Int) => ∀ (s : Nat → TV) (H : Heap) (v131 : AV) (nv131 : v131 ≠ .nilsl), Sep H (rdp v105 1 (enc eStr y104) :: Pc.osl v131 1 (enc (eFlt .f32) out130) :: fr) → Fin _ _ (updL s [(0, (.v (.str (pk a0)))), (4, (.v v131)), (11, (.v v105)), (12, (.v (.int .i64 (y104.length : Int)))), (13, (.v (.int .i64 x132)))]) H _) ?_ _ _ _ nv101 hs
  intro out130 x132 h s150 H151 v131 nv131 hs
  refine fi_inLoop ?_
  refine fi_seq ?_
  refine fi_region ?_
  refine so_bin rfl rfl ab_lss ?_
  refine so_nil ?_
  refine fi_seq ?_
  replace h := ofP h; rcases h with ⟨c133, h⟩ | ⟨c133, h⟩
  · refine fi_true rfl (decide_eq_true c133) ?_
    refine fi_skip ?_
    refine fi_seq ?_
    refine fi_block ?_
    refine fi_seq ?_
    refine fi_region ?_
    obtain ⟨c134, h⟩ := h
    refine sv_idx (hs.rshows 0 rfl) c134 (fun _ => rfl) (by decide) rfl rfl F37.tl83 ?_
    refine sv_cell (hs.rshows 0 rfl) c134 ([] : List UInt8) 0 (fun x => (AV.str (pk x))) (fun _ => rfl) (fun _ => rfl) rfl F37.ag9 ?_
    refine so_assign (v := (.v (.str (pk (y104.getD (x132).toNat ([] : List UInt8)))))) rfl ?_
    refine so_nil ?_
    refine fi_seq ?_
    refine fi_seq ?_
    refine fi_region ?_
    refine so_move (v := (.v (.str (pk (y104.getD (x132).toNat ([] : List UInt8)))))) rfl ?_
    refine so_slen rfl F37.sr9 ?_
    refine so_bin rfl rfl ab_neq ?_
    refine so_move (v := (.v (.bool (!(decide (((y104.getD (x132).toNat ([] : List UInt8)).length : Int) = (8 : Int))))))) rfl ?_
    replace h := ofP h; rcases h with ⟨c135, h⟩ | ⟨c135, h⟩
    · refine so_gyes rfl (not_f (decide_eq_true c135)) ?_
      refine so_move (v := (.v v131)) rfl ?_
      refine so_gyes rfl (not_f (decide_eq_true c135)) ?_
      refine sv_len (hs.shows 1 rfl) (fun _ => rfl) (by decide) rfl F37.ti22 ?_
      refine so_gyes rfl (not_f (decide_eq_true c135)) ?_
      refine so_bin rfl rfl ab_eql ?_
      refine so_pick_f (v := (.v (.bool (decide ((out130.length : Int) = (256 : Int)))))) rfl (not_f (decide_eq_true c135)) rfl ?_
      refine so_nil ?_
      replace h := ofP h; rcases h with ⟨c136, h⟩ | ⟨c136, h⟩
      · refine fi_true rfl (decide_eq_true c136) ?_
        refine fi_seq ?_
        refine fi_region ?_
        refine so_assign (v := (.v .nilsl)) rfl ?_
        refine so_assign (v := (.v (.bool false))) rfl ?_
        refine so_nil ?_
        exact by_ret rfl ⟨_, _, h, _, rfl, (Sep.nil (Sep.del 0 (Sep.del 0 hs)) 1)⟩
      · refine fi_false rfl (decide_eq_false c136) ?_
        refine fi_skip ?_
        refine fi_region ?_
        refine so_move (v := (.v v131)) rfl ?_
        refine so_move (v := (.v (.str (pk (y104.getD (x132).toNat ([] : List UInt8)))))) rfl ?_
        refine sv_callS (impl_readHex_ok (y104.getD (x132).toNat ([] : List UInt8)) hs (fun _ hs => gt3 _ hs.tl.tl) _ h) (fun _ _ ⟨_, _, _, e⟩ => e) rfl rfl ?_
        clear h
        rintro _ _ ⟨y137, h, rfl, rfl⟩
        refine sv_bslice hs (eFlt .f32) ([y137] : List (Nat)) [[(.flt .f32 y137)]] F37.te22 F37.sz32 F37.ze32 rfl rfl rfl rfl (fun _ => rfl) rfl (by decide) nofun (fun v139 H140 nv139 hs => ?_)
        obtain ⟨c144, h⟩ := h
        refine sv_app hs 2 rfl (hs.shows 0 rfl) (fun _ => rfl) (by decide) F37.ta22_22 (by decide) c144 rfl rfl nofun (fun v142 H143 kv142 hs => ?_)
        replace hs := hs.del 0
        have nv142 := kv142 nv131
        refine so_assign (v := (.v v142)) rfl ?_
        refine so_nil ?_
        refine fi_inBlock ?_
        refine fi_region ?_
        refine so_bin rfl rfl ab_add ?_
        refine so_move (v := (.v (.int .i64 (IntKind.i64.wrap (x132 + (1 : Int)))))) rfl ?_
        refine so_nil ?_
        exact fi_at [(0, (.v (.str (pk a0)))), (4, (.v v142)), (11, (.v v105)), (12, (.v (.int .i64 (y104.length : Int)))), (13, (.v (.int .i64 (IntKind.i64.wrap (x132 + (1 : Int))))))] ⟨rfl, rfl, rfl, rfl, rfl, trivial⟩ (h _ _ _ nv142 hs)
    · refine so_gno rfl (not_t (decide_eq_false c135)) ?_
      refine so_gno rfl (not_t (decide_eq_false c135)) ?_
      refine so_gno rfl (not_t (decide_eq_false c135)) ?_
      refine so_pick_t (v := (.v (.bool true))) rfl (not_t (decide_eq_false c135)) rfl ?_
      refine so_nil ?_
      refine fi_true rfl rfl ?_
      refine fi_seq ?_
      refine fi_region ?_
      refine so_assign (v := (.v .nilsl)) rfl ?_
      refine so_assign (v := (.v (.bool false))) rfl ?_
      refine so_nil ?_
      exact by_ret rfl ⟨_, _, h, _, rfl, (Sep.nil (Sep.del 0 (Sep.del 0 hs)) 1)⟩
  · refine fi_false rfl (decide_eq_false c133) ?_
    refine fi_exit rfl ?_
    refine fi_seq ?_
    refine fi_seq ?_
    refine fi_region ?_
    refine so_move (v := (.v v131)) rfl ?_
    refine sv_callS (impl_NumbersText_okS v131 out130 hs (fun _ hs => (hs.shows 1 rfl)) (fun _ hs => gt2 _ hs.tl.tl) (fun _ hs => gt6 _ hs.tl.tl) _ h) (fun _ _ ⟨_, _, _, _, e⟩ => e) rfl rfl ?_
    clear h
    rintro _ _ ⟨y145, y146, h, rfl, rfl⟩
    refine so_move (v := (.t [(.v (.str (pk y145))), (.v (.bool y146))])) rfl ?_
    refine so_extract rfl rfl rfl ?_
    refine so_extract rfl rfl rfl ?_
    refine so_assign (v := (.v (.str (pk y145)))) rfl ?_
    refine so_assign (v := (.v (.bool y146))) rfl ?_
    refine so_nil ?_
    refine fi_seq ?_
    refine fi_region ?_
    refine so_move (v := (.v (.bool y146))) rfl ?_
    refine so_un rfl au_not ?_
    refine so_move (v := (.v (.bool (!y146)))) rfl ?_
    replace h := ofT h; rcases h with ⟨c148, h⟩ | ⟨c148, h⟩
    · refine so_gyes rfl (not_f c148) ?_
      refine so_move (v := (.v (.str (pk y145)))) rfl ?_
      refine so_gyes rfl (not_f c148) ?_
      refine so_move (v := (.v (.str (pk a0)))) rfl ?_
      refine so_gyes rfl (not_f c148) ?_
      refine so_bin rfl rfl ab_sneq ?_
      refine so_pick_f (v := (.v (.bool (!(decide (y145 = a0)))))) rfl (not_f c148) rfl ?_
      refine so_nil ?_
      replace h := ofP h; rcases h with ⟨c149, h⟩ | ⟨c149, h⟩
      · refine fi_false rfl (not_f (decide_eq_true c149)) ?_
        refine fi_skip ?_
        refine fi_seq ?_
        refine fi_region ?_
        refine so_move (v := (.v v131)) rfl ?_
        refine so_assign (v := (.v v131)) rfl ?_
        refine so_assign (v := (.v (.bool true))) rfl ?_
        refine so_nil ?_
        exact by_ret rfl ⟨_, _, h, _, rfl, (Sep.del 0 hs)⟩
      · refine fi_true rfl (not_t (decide_eq_false c149)) ?_
        refine fi_seq ?_
        refine fi_region ?_
        refine so_assign (v := (.v .nilsl)) rfl ?_
        refine so_assign (v := (.v (.bool false))) rfl ?_
        refine so_nil ?_
        exact by_ret rfl ⟨_, _, h, _, rfl, (Sep.nil (Sep.del 0 (Sep.del 0 hs)) 1)⟩
    · refine so_gno rfl (not_t c148) ?_
      refine so_gno rfl (not_t c148) ?_
      refine so_gno rfl (not_t c148) ?_
      refine so_pick_t (v := (.v (.bool true))) rfl (not_t c148) rfl ?_
      refine so_nil ?_
      refine fi_true rfl rfl ?_
      refine fi_seq ?_
      refine fi_region ?_
      refine so_assign (v := (.v .nilsl)) rfl ?_
      refine so_assign (v := (.v (.bool false))) rfl ?_
      refine so_nil ?_
      exact by_ret rfl ⟨_, _, h, _, rfl, (Sep.nil (Sep.del 0 (Sep.del 0 hs)) 1)⟩

end Go.Proofs.YtmbkjkcolmoioaaGreatDoor.G

namespace Go.Proofs.YtmbkjkcolmoioaaGreatDoor.G
open Go Go.Ab Go.Proofs Go.Proofs.YtmbkjkcolmoioaaGreatDoor
set_option maxRecDepth 100000
set_option linter.unusedVariables false
set_option linter.unusedSimpArgs false
set_option maxHeartbeats 1000000
attribute [local irreducible] wops wopf Go.Ab.Fin
theorem impl_IsFinite_ok {fr : List Pc} {H : Heap} (a0 : Nat) (hs : Sep H (fr))  (K : Bool → Prop) (h : impl_IsFinite.wp a0 K) : OkQ Tryz.prog 109 [(.v (.flt .f32 a0))] H (fun r H2 => ∃ (y0 : Bool), K y0 ∧ r = (.v (.bool y0)) ∧ H = H2) := by
  unfold impl_IsFinite.wp at h
  refine of_body Tryz.f109 F.hm Tryz.func109 rfl Tryz.call109 (by kernel_rfl) (by simp) ?_
  refine fi_seq ?_
  refine fi_region ?_
  refine so_assign (v := (.v (.bool false))) rfl ?_
  refine so_nil ?_
  refine fi_seq ?_
  refine fi_region ?_
  refine so_move (v := (.v (.flt .f32 a0))) rfl ?_
  refine so_move (v := (.v (.flt .f32 a0))) rfl ?_
  refine so_bin rfl rfl ab_fsub ?_
  refine so_bin rfl rfl ab_feql ?_
  refine so_assign (v := (.v (.bool (fcmp .eql .f32 (fop .sub .f32 a0 a0) (cz .f32 0))))) rfl ?_
  refine so_nil ?_
  exact by_ret rfl ⟨_, h, rfl, rfl⟩

end Go.Proofs.YtmbkjkcolmoioaaGreatDoor.G

namespace Go.Proofs.YtmbkjkcolmoioaaGreatDoor.G
open Go Go.Ab Go.Proofs Go.Proofs.YtmbkjkcolmoioaaGreatDoor
set_option maxRecDepth 100000
set_option linter.unusedVariables false
set_option linter.unusedSimpArgs false
set_option maxHeartbeats 1000000
attribute [local irreducible] wops wopf Go.Ab.Fin
theorem F104.ag22 : tagg Tryz.prog 22 = some false := by kernel_rfl
theorem F104.ag32 : tagg Tryz.prog 32 = some false := by kernel_rfl
theorem F104.ti22 : (telem Tryz.prog 22).isSome = true := by kernel_rfl
theorem F104.ti52 : (telem Tryz.prog 52).isSome = true := by kernel_rfl
theorem F104.tl22 : (telem Tryz.prog 22).bind (tsz Tryz.prog) = some 1 := by kernel_rfl
theorem F104.tl52 : (telem Tryz.prog 52).bind (tsz Tryz.prog) = some 1 := by kernel_rfl
theorem impl_areFinite_ok {fr : List Pc} {H : Heap} (v0 : AV) (w0 : List (List AV)) (l0 : List (List (Nat))) (hs : Sep H (fr)) (g0 : ∀ H, Sep H fr → DSh H v0 1 R_LeFlt_f32_o l0 w0) (K : Bool → Prop) (h : impl_areFinite.wp l0 K) : OkQ Tryz.prog 104 [(.v v0)] H (fun r H2 => ∃ (y0 : Bool), K y0 ∧ r = (.v (.bool y0)) ∧ H = H2) := by
  unfold impl_areFinite.wp at h
  refine of_body Tryz.f104 F.hm Tryz.func104 rfl Tryz.call104 (by kernel_rfl) (by simp) ?_
  refine fi_seq ?_
  refine fi_region ?_
  refine so_assign (v := (.v (.bool false))) rfl ?_
  refine so_nil ?_
  refine fi_seq ?_
  refine fi_seq ?_
  refine fi_region ?_
  refine so_move (v := (.v v0)) rfl ?_
  refine sd_len ((g0 _ hs) : DSh _ _ 1 R_LeFlt_f32_o l0 w0) (by decide) rfl F104.ti52 ?_
  refine so_move (v := (.v (.int .i64 (0 : Int)))) rfl ?_
  refine so_nil ?_
  refine fi_block ?_
  refine fi_loop ?_
  refine fi_at [(7, (.v v0)), (8, (.v (.int .i64 (l0.length : Int)))), (9, (.v (.int .i64 (0 : Int))))] ⟨rfl, rfl, rfl, trivial⟩ ?_
  refine h (fun (x102 : Int) => ∀ (s : Nat → TV), Fin _ _ (updL s [(7, (.v v0)), (8, (.v (.int .i64 (l0.length : Int)))), (9, (.v (.int .i64 x102)))]) _ _) ?_ _
  intro x102 h s114
  refine fi_inLoop ?_
  refine fi_seq ?_
  refine fi_region ?_
  refine so_bin rfl rfl ab_lss ?_
  refine so_nil ?_
  refine fi_seq ?_
  replace h := ofP h; rcases h with ⟨c103, h⟩ | ⟨c103, h⟩
  · refine fi_true rfl (decide_eq_true c103) ?_
    refine fi_skip ?_
    refine fi_seq ?_
    refine fi_block ?_
    refine fi_seq ?_
    refine fi_region ?_
    obtain ⟨c104, h⟩ := h
    refine sd_idx ((g0 _ hs) : DSh _ _ 1 R_LeFlt_f32_o l0 w0) c104 ([] : List (Nat)) (by decide) rfl rfl F104.tl52 ?_
    refine su_ld ((((g0 _ hs) : DSh _ _ 1 R_LeFlt_f32_o l0 w0)).at (by decide) c104 ([] : List (Nat))).2.2 0 (congrArg (fun c => c[0]?) ((((g0 _ hs) : DSh _ _ 1 R_LeFlt_f32_o l0 w0)).at (by decide) c104 ([] : List (Nat))).2.1.1) rfl F104.ag22 ?_
    refine so_assign (v := (.v ((w0.getD (x102).toNat []).getD 0 .und))) rfl ?_
    refine so_nil ?_
    refine fi_seq ?_
    refine fi_region ?_
    refine so_move (v := (.v ((w0.getD (x102).toNat []).getD 0 .und))) rfl ?_
    refine sv_len ((((g0 _ hs) : DSh _ _ 1 R_LeFlt_f32_o l0 w0)).at (by decide) c104 ([] : List (Nat))).2.1.2 (fun _ => rfl) (by decide) rfl F104.ti22 ?_
    refine so_move (v := (.v (.int .i64 (0 : Int)))) rfl ?_
    refine so_nil ?_
    refine fi_block ?_
    refine fi_loop ?_
    refine fi_at [(7, (.v v0)), (8, (.v (.int .i64 (l0.length : Int)))), (9, (.v (.int .i64 x102))), (13, (.v ((w0.getD (x102).toNat []).getD 0 .und))), (14, (.v (.int .i64 ((l0.getD (x102).toNat ([] : List (Nat))).length : Int)))), (15, (.v (.int .i64 (0 : Int))))] ⟨rfl, rfl, rfl, rfl, rfl, rfl, trivial⟩ ?_
    refine h (fun (x106 : Int) => ∀ (s : Nat → TV), Fin _ _ (updL s [(7, (.v v0)), (8, (.v (.int .i64 (l0.length : Int)))), (9, (.v (.int .i64 x102))), (13, (.v ((w0.getD (x102).toNat []).getD 0 .und))), (14, (.v (.int .i64 ((l0.getD (x102).toNat ([] : List (Nat))).length : Int)))), (15, (.v (.int .i64 x106)))]) _ _) ?_ _
    intro x106 h s112
    refine fi_inLoop ?_
    refine fi_seq ?_
    refine fi_region ?_
    refine so_bin rfl rfl ab_lss ?_
    refine so_nil ?_
    refine fi_seq ?_
    replace h := ofP h; rcases h with ⟨c107, h⟩ | ⟨c107, h⟩
    · refine fi_true rfl (decide_eq_true c107) ?_
      refine fi_skip ?_
      refine fi_seq ?_
      refine fi_block ?_
      refine fi_seq ?_
      refine fi_region ?_
      obtain ⟨c108, h⟩ := h
      refine sv_idx ((((g0 _ hs) : DSh _ _ 1 R_LeFlt_f32_o l0 w0)).at (by decide) c104 ([] : List (Nat))).2.1.2 c108 (fun _ => rfl) (by decide) rfl rfl F104.tl22 ?_
      refine sv_cell ((((g0 _ hs) : DSh _ _ 1 R_LeFlt_f32_o l0 w0)).at (by decide) c104 ([] : List (Nat))).2.1.2 c108 (0 : Nat) 0 (fun x => (AV.flt .f32 x)) (fun _ => rfl) (fun _ => rfl) rfl F104.ag32 ?_
      refine so_assign (v := (.v (.flt .f32 ((l0.getD (x102).toNat ([] : List (Nat))).getD (x106).toNat (0 : Nat))))) rfl ?_
      refine so_nil ?_
      refine fi_seq ?_
      refine fi_region ?_
      refine so_move (v := (.v (.flt .f32 ((l0.getD (x102).toNat ([] : List (Nat))).getD (x106).toNat (0 : Nat))))) rfl ?_
      refine sv_callS (impl_IsFinite_ok ((l0.getD (x102).toNat ([] : List (Nat))).getD (x106).toNat (0 : Nat)) hs  _ h) (fun _ _ ⟨_, _, _, e⟩ => e) rfl rfl ?_
      clear h
      rintro _ _ ⟨y109, h, rfl, rfl⟩
      refine so_un rfl au_not ?_
      refine so_nil ?_
      replace h := ofT h; rcases h with ⟨c111, h⟩ | ⟨c111, h⟩
      · refine fi_false rfl (not_f c111) ?_
        refine fi_skip ?_
        refine fi_inBlock ?_
        refine fi_region ?_
        refine so_bin rfl rfl ab_add ?_
        refine so_move (v := (.v (.int .i64 (IntKind.i64.wrap (x106 + (1 : Int)))))) rfl ?_
        refine so_nil ?_
        exact fi_at [(7, (.v v0)), (8, (.v (.int .i64 (l0.length : Int)))), (9, (.v (.int .i64 x102))), (13, (.v ((w0.getD (x102).toNat []).getD 0 .und))), (14, (.v (.int .i64 ((l0.getD (x102).toNat ([] : List (Nat))).length : Int)))), (15, (.v (.int .i64 (IntKind.i64.wrap (x106 + (1 : Int))))))] ⟨rfl, rfl, rfl, rfl, rfl, rfl, trivial⟩ (h _)
      · refine fi_true rfl (not_t c111) ?_
        refine fi_seq ?_
        refine fi_region ?_
        refine so_assign (v := (.v (.bool false))) rfl ?_
        refine so_nil ?_
        exact by_ret rfl ⟨_, h, rfl, rfl⟩
    · refine fi_false rfl (decide_eq_false c107) ?_
      refine fi_exit rfl ?_
      refine fi_inBlock ?_
      refine fi_region ?_
      refine so_bin rfl rfl ab_add ?_
      refine so_move (v := (.v (.int .i64 (IntKind.i64.wrap (x102 + (1 : Int)))))) rfl ?_
      refine so_nil ?_
      exact fi_at [(7, (.v v0)), (8, (.v (.int .i64 (l0.length : Int)))), (9, (.v (.int .i64 (IntKind.i64.wrap (x102 + (1 : Int))))))] ⟨rfl, rfl, rfl, trivial⟩ (h _)
  · refine fi_false rfl (decide_eq_false c103) ?_
    refine fi_exit rfl ?_
    refine fi_seq ?_
    refine fi_region ?_
    refine so_assign (v := (.v (.bool true))) rfl ?_
    refine so_nil ?_
    exact by_ret rfl ⟨_, h, rfl, rfl⟩

end Go.Proofs.YtmbkjkcolmoioaaGreatDoor.G

namespace Go.Proofs.YtmbkjkcolmoioaaGreatDoor.G
open Go Go.Ab Go.Proofs Go.Proofs.YtmbkjkcolmoioaaGreatDoor
set_option maxRecDepth 100000
set_option linter.unusedVariables false
set_option linter.unusedSimpArgs false
set_option maxHeartbeats 1000000
attribute [local irreducible] wops wopf Go.Ab.Fin
theorem F47.ag2 : tagg Tryz.prog 2 = some false := by kernel_rfl
theorem F47.ag22 : tagg Tryz.prog 22 = some false := by kernel_rfl
theorem F47.fd24_0 : tfield Tryz.prog 24 0 = some (0, 1, false) := by kernel_rfl
theorem F47.fd24_1 : tfield Tryz.prog 24 1 = some (1, 1, false) := by kernel_rfl
theorem F47.fd24_2 : tfield Tryz.prog 24 2 = some (2, 1, false) := by kernel_rfl
theorem F47.inf24 : (Tryz.prog.info? 24).isSome = true := by kernel_rfl
theorem F47.sz22 : tsz Tryz.prog 22 = some 1 := by kernel_rfl
theorem F47.te52 : telem Tryz.prog 52 = some 22 := by kernel_rfl
theorem F47.ti22 : (telem Tryz.prog 22).isSome = true := by kernel_rfl
theorem F47.ze22 : tzero Tryz.prog 22 = some [.nilsl] := by kernel_rfl
theorem impl_ValidPicture_ok {fr : List Pc} {H : Heap} (a0 : Int) (a1 : Int) (v2 : AV) (l2 : List (Nat)) (hs : Sep H (fr)) (g2 : ∀ H, Sep H fr → Shows H v2 1 (enc (eFlt .f32) l2)) (K : Bool → Prop) (h : impl_ValidPicture.wp a0 a1 l2 K) : OkQ Tryz.prog 47 [(.g [(.int .i64 a0), (.int .i64 a1), v2])] H (fun r H2 => ∃ (y0 : Bool), K y0 ∧ r = (.v (.bool y0)) ∧ Sep H2 (fr)) := by
  unfold impl_ValidPicture.wp at h
  refine of_body Tryz.f47 F.hm Tryz.func47 rfl Tryz.call47 (by kernel_rfl) (by simp) ?_
  refine fi_seq ?_
  refine fi_region ?_
  refine sv_box hs rfl (c := [(.int .i64 a0), (.int .i64 a1), v2]) rfl F47.inf24 (stc rfl (stc rfl (stc (g2 _ hs).stor stn))) nofun (fun id101 H102 hs => ?_)
  refine so_assign (v := (.v (.bool false))) rfl ?_
  refine so_nil ?_
  refine fi_seq ?_
  refine fi_region ?_
  refine so_fieldAddr rfl F47.fd24_0 ?_
  refine sv_ld hs 0 rfl rfl rfl F47.ag2 ?_
  refine sv_callS (impl_within_ok a0 (1 : Int) (16 : Int) hs  _ h) (fun _ _ ⟨_, _, _, e⟩ => e) rfl rfl ?_
  clear h
  rintro _ _ ⟨y104, h, rfl, rfl⟩
  refine so_move (v := (.v (.bool y104))) rfl ?_
  replace h := ofT h; rcases h with ⟨c106, h⟩ | ⟨c106, h⟩
  · refine so_gyes rfl c106 ?_
    refine so_fieldAddr rfl F47.fd24_1 ?_
    refine so_gyes rfl c106 ?_
    refine sv_ld hs 0 rfl rfl rfl F47.ag2 ?_
    refine so_gyes rfl c106 ?_
    refine sv_callS (impl_within_ok a1 (1 : Int) (16 : Int) hs  _ h) (fun _ _ ⟨_, _, _, e⟩ => e) rfl rfl ?_
    clear h
    rintro _ _ ⟨y107, h, rfl, rfl⟩
    refine so_pick_t (v := (.v (.bool y107))) rfl c106 rfl ?_
    refine so_move (v := (.v (.bool y107))) rfl ?_
    replace h := ofT h; rcases h with ⟨c109, h⟩ | ⟨c109, h⟩
    · refine so_gyes rfl c109 ?_
      refine so_fieldAddr rfl F47.fd24_2 ?_
      refine so_gyes rfl c109 ?_
      refine sv_ld hs 0 rfl rfl rfl F47.ag22 ?_
      refine so_gyes rfl c109 ?_
      refine sv_len (g2 _ hs.tl) (fun _ => rfl) (by decide) rfl F47.ti22 ?_
      refine so_gyes rfl c109 ?_
      refine so_fieldAddr rfl F47.fd24_0 ?_
      refine so_gyes rfl c109 ?_
      refine sv_ld hs 0 rfl rfl rfl F47.ag2 ?_
      refine so_gyes rfl c109 ?_
      refine so_fieldAddr rfl F47.fd24_1 ?_
      refine so_gyes rfl c109 ?_
      refine sv_ld hs 0 rfl rfl rfl F47.ag2 ?_
      refine so_gyes rfl c109 ?_
      refine so_bin rfl rfl ab_mul ?_
      refine so_gyes rfl c109 ?_
      refine so_bin rfl rfl ab_eql ?_
      refine so_pick_t (v := (.v (.bool (decide ((l2.length : Int) = (IntKind.i64.wrap (a0 * a1))))))) rfl c109 rfl ?_
      refine so_move (v := (.v (.bool (decide ((l2.length : Int) = (IntKind.i64.wrap (a0 * a1))))))) rfl ?_
      replace h := ofP h; rcases h with ⟨c110, h⟩ | ⟨c110, h⟩
      · refine so_gyes rfl (decide_eq_true c110) ?_
        refine so_fieldAddr rfl F47.fd24_2 ?_
        refine so_gyes rfl (decide_eq_true c110) ?_
        refine sv_ld hs 0 rfl rfl rfl F47.ag22 ?_
        refine so_gyes rfl (decide_eq_true c110) ?_
        refine sd_bslice hs [[v2]] F47.te52 F47.sz22 F47.ze22 rfl rfl rfl (by simp) (fac (stc (g2 _ hs.tl).stor stn) fan) (by decide) rfl nofun (fun v111 H112 _ hs => ?_)
        refine so_gyes rfl (decide_eq_true c110) ?_
        refine sv_callS (impl_areFinite_ok v111 ([[v2]]) ([l2] : List (List (Nat))) hs (fun _ hs => ⟨hs.shows 0 rfl, by simp, ⟨⟨rfl, (g2 _ hs.tl.tl)⟩, trivial⟩⟩) _ h) (fun _ _ ⟨_, _, _, e⟩ => e) rfl rfl ?_
        clear h
        rintro _ _ ⟨y114, h, rfl, rfl⟩
        refine so_pick_t (v := (.v (.bool y114))) rfl (decide_eq_true c110) rfl ?_
        refine so_assign (v := (.v (.bool y114))) rfl ?_
        refine so_nil ?_
        exact by_ret rfl ⟨_, h, rfl, (Sep.del 0 (Sep.del 0 hs))⟩
      · refine so_gno rfl (decide_eq_false c110) ?_
        refine so_gno rfl (decide_eq_false c110) ?_
        refine so_gno rfl (decide_eq_false c110) ?_
        refine so_gno rfl (decide_eq_false c110) ?_
        refine so_pick_f (v := (.v (.bool false))) rfl (decide_eq_false c110) rfl ?_
        refine so_assign (v := (.v (.bool false))) rfl ?_
        refine so_nil ?_
        exact by_ret rfl ⟨_, h, rfl, (Sep.del 0 hs)⟩
    · refine so_gno rfl c109 ?_
      refine so_gno rfl c109 ?_
      refine so_gno rfl c109 ?_
      refine so_gno rfl c109 ?_
      refine so_gno rfl c109 ?_
      refine so_gno rfl c109 ?_
      refine so_gno rfl c109 ?_
      refine so_gno rfl c109 ?_
      refine so_gno rfl c109 ?_
      refine so_pick_f (v := (.v (.bool false))) rfl c109 rfl ?_
      refine so_move (v := (.v (.bool false))) rfl ?_
      refine so_gno rfl rfl ?_
      refine so_gno rfl rfl ?_
      refine so_gno rfl rfl ?_
      refine so_gno rfl rfl ?_
      refine so_pick_f (v := (.v (.bool false))) rfl rfl rfl ?_
      refine so_assign (v := (.v (.bool false))) rfl ?_
      refine so_nil ?_
      exact by_ret rfl ⟨_, h, rfl, (Sep.del 0 hs)⟩
  · refine so_gno rfl c106 ?_
    refine so_gno rfl c106 ?_
    refine so_gno rfl c106 ?_
    refine so_pick_f (v := (.v (.bool false))) rfl c106 rfl ?_
    refine so_move (v := (.v (.bool false))) rfl ?_
    refine so_gno rfl rfl ?_
    refine so_gno rfl rfl ?_
    refine so_gno rfl rfl ?_
    refine so_gno rfl rfl ?_
    refine so_gno rfl rfl ?_
    refine so_gno rfl rfl ?_
    refine so_gno rfl rfl ?_
    refine so_gno rfl rfl ?_
    refine so_gno rfl rfl ?_
    refine so_pick_f (v := (.v (.bool false))) rfl rfl rfl ?_
    refine so_move (v := (.v (.bool false))) rfl ?_
    refine so_gno rfl rfl ?_
    refine so_gno rfl rfl ?_
    refine so_gno rfl rfl ?_
    refine so_gno rfl rfl ?_
    refine so_pick_f (v := (.v (.bool false))) rfl rfl rfl ?_
    refine so_assign (v := (.v (.bool false))) rfl ?_
    refine so_nil ?_
    exact by_ret rfl ⟨_, h, rfl, (Sep.del 0 hs)⟩
theorem impl_ValidPicture_okS {fr : List Pc} {H : Heap} (a0 : Int) (a1 : Int) (v2 : AV) (l2 : List (Nat)) (hs : Sep H fr) (g2 : ∀ H, Sep H fr → Shows H v2 1 (enc (eFlt .f32) l2)) (K : Bool → Prop) (h : impl_ValidPicture.wp a0 a1 l2 K) : OkQ Tryz.prog 47 [(.g [(.int .i64 a0), (.int .i64 a1), v2])] H (fun r H2 => ∃ (y0 : Bool), K y0 ∧ r = (.v (.bool y0)) ∧ H = H2) := by
  obtain ⟨r, H2, h1, y0, hK, hr, hsep⟩ := impl_ValidPicture_ok (fr := came H) (H := H) a0 a1 v2 l2 (came_sep H) (came_shows (g2 H hs)) K h
  have hk : H.n ≤ H2.n ∧ ∀ i, i < H.n → H2.f i = H.f i := hsep.1.2.1
  exact ⟨r, H, h1.forget hk.1 hk.2 (by subst hr; rfl), y0, hK, hr, rfl⟩

end Go.Proofs.YtmbkjkcolmoioaaGreatDoor.G

namespace Go.Proofs.YtmbkjkcolmoioaaGreatDoor.G
open Go Go.Ab Go.Proofs Go.Proofs.YtmbkjkcolmoioaaGreatDoor
set_option maxRecDepth 100000
set_option linter.unusedVariables false
set_option linter.unusedSimpArgs false
set_option maxHeartbeats 1000000
attribute [local irreducible] wops wopf Go.Ab.Fin
theorem F38.ag24 : tagg Tryz.prog 24 = some true := by kernel_rfl
theorem F38.bp24 : bplan Tryz.prog 24 = some ([(.int .i64 (0 : Int)), (.int .i64 (0 : Int)), .nilsl], [(0, 1), (1, 1), (2, 1)]) := by kernel_rfl
theorem F38.inf24 : (Tryz.prog.info? 24).isSome = true := by kernel_rfl
theorem F38.sz24 : tsz Tryz.prog 24 = some 3 := by kernel_rfl
theorem F38.ze24 : tzero Tryz.prog 24 = some [(.int .i64 (0 : Int)), (.int .i64 (0 : Int)), .nilsl] := by kernel_rfl
theorem impl_validPicture_ok {fr : List Pc} {H : Heap} (a0 : Int) (a1 : Int) (v2 : AV) (l2 : List (Nat)) (hs : Sep H (fr)) (g2 : ∀ H, Sep H fr → Shows H v2 1 (enc (eFlt .f32) l2)) (K : Int → Int → Bool → Bool → Prop) (h : impl_validPicture.wp a0 a1 l2 K) : OkQ Tryz.prog 38 [(.g [(.int .i64 a0), (.int .i64 a1), v2])] H (fun r H2 => ∃ (y0 : Int) (y1 : Int) (y2 : Bool) (y3 : Bool), K y0 y1 y2 y3 ∧ r = (.t [(.g [(.int .i64 y0), (.int .i64 y1), (bif y2 then v2 else .nilsl)]), (.v (.bool y3))]) ∧ Sep H2 (fr)) := by
  unfold impl_validPicture.wp at h
  refine of_body Tryz.f38 F.hm Tryz.func38 rfl Tryz.call38 (by kernel_rfl) (by simp) ?_
  refine fi_seq ?_
  refine fi_region ?_
  refine sv_box hs rfl (c := [(.int .i64 a0), (.int .i64 a1), v2]) rfl F38.inf24 (stc rfl (stc rfl (stc (g2 _ hs).stor stn))) nofun (fun id101 H102 hs => ?_)
  refine sv_alloc hs F38.ze24 rfl nofun (fun id104 H105 hs => ?_)
  refine so_assign (v := (.v (.bool false))) rfl ?_
  refine so_nil ?_
  refine fi_seq ?_
  refine fi_seq ?_
  refine fi_region ?_
  refine sv_lds hs 1 rfl rfl (leb rfl) rfl F38.ag24 F38.sz24 ?_
  refine sv_callS (impl_ValidPicture_okS a0 a1 v2 l2 hs (fun _ hs => (g2 _ hs.tl.tl)) _ h) (fun _ _ ⟨_, _, _, e⟩ => e) rfl rfl ?_
  clear h
  rintro _ _ ⟨y107, h, rfl, rfl⟩
  refine so_un rfl au_not ?_
  refine so_nil ?_
  replace h := ofT h; rcases h with ⟨c109, h⟩ | ⟨c109, h⟩
  · refine fi_false rfl (not_f c109) ?_
    refine fi_skip ?_
    refine fi_seq ?_
    refine fi_region ?_
    refine sv_lds hs 1 rfl rfl (leb rfl) rfl F38.ag24 F38.sz24 ?_
    refine sv_st hs 0 rfl rfl rfl (c := [(.int .i64 a0), (.int .i64 a1), v2]) rfl F38.sz24 rfl (stc rfl (stc rfl (stc (g2 _ hs.tl.tl).stor stn))) (leb rfl) (cs' := [(.int .i64 a0), (.int .i64 a1), v2]) rfl nofun (fun H110 hs => ?_)
    refine so_assign (v := (.v (.bool true))) rfl ?_
    refine so_nil ?_
    exact by_ret (res_mk (ar_cells rfl F38.ag24 F38.sz24 (hs.lds 0 rfl (leb rfl) rfl) (ar_tmp rfl ar_nil)) rfl) ⟨_, _, _, _, h, rfl, (Sep.del 0 (Sep.del 0 hs))⟩
  · refine fi_true rfl (not_t c109) ?_
    refine fi_seq ?_
    refine fi_region ?_
    refine so_build F38.bp24 (cps := []) rfl fan rfl ?_
    refine sv_st hs 0 rfl rfl rfl (c := [(.int .i64 (0 : Int)), (.int .i64 (0 : Int)), .nilsl]) rfl F38.sz24 rfl (stc rfl (stc rfl (stc rfl stn))) (leb rfl) (cs' := [(.int .i64 (0 : Int)), (.int .i64 (0 : Int)), .nilsl]) rfl nofun (fun H111 hs => ?_)
    refine so_assign (v := (.v (.bool false))) rfl ?_
    refine so_nil ?_
    exact by_ret (res_mk (ar_cells rfl F38.ag24 F38.sz24 (hs.lds 0 rfl (leb rfl) rfl) (ar_tmp rfl ar_nil)) rfl) ⟨_, _, _, _, h, rfl, (Sep.del 0 (Sep.del 0 hs))⟩

end Go.Proofs.YtmbkjkcolmoioaaGreatDoor.G

namespace Go.Proofs.YtmbkjkcolmoioaaGreatDoor.G
open Go Go.Ab Go.Proofs Go.Proofs.YtmbkjkcolmoioaaGreatDoor
set_option maxRecDepth 100000
set_option linter.unusedVariables false
set_option linter.unusedSimpArgs false
set_option maxHeartbeats 1000000
attribute [local irreducible] wops wopf Go.Ab.Fin
theorem F6.ag24 : tagg Tryz.prog 24 = some true := by kernel_rfl
theorem F6.bp24 : bplan Tryz.prog 24 = some ([(.int .i64 (0 : Int)), (.int .i64 (0 : Int)), .nilsl], [(0, 1), (1, 1), (2, 1)]) := by kernel_rfl
theorem F6.sz24 : tsz Tryz.prog 24 = some 3 := by kernel_rfl
theorem F6.ze24 : tzero Tryz.prog 24 = some [(.int .i64 (0 : Int)), (.int .i64 (0 : Int)), .nilsl] := by kernel_rfl
theorem impl_ReadPicture_ok {fr : List Pc} {H : Heap} (a0 : List UInt8) (hs : Sep H (fr)) (gt2 : ∀ H, Sep H fr → HasTab 2 F.tab2 H) (gt3 : ∀ H, Sep H fr → HasTab 3 F.tab3 H) (gt4 : ∀ H, Sep H fr → HasTab 4 F.tab4 H) (gt6 : ∀ H, Sep H fr → HasTab 6 F.tab6 H) (K : Int → Int → (List (Nat)) → Bool → Prop) (h : impl_ReadPicture.wp a0 K) : OkQ Tryz.prog 6 [(.v (.str (pk a0)))] H (fun r H2 => ∃ (y0 : Int) (y1 : Int) (y2 : List (Nat)) (y3 : Bool), K y0 y1 y2 y3 ∧ ∃ (w0_ : AV), r = (.t [(.g [(.int .i64 y0), (.int .i64 y1), w0_]), (.v (.bool y3))]) ∧ Sep H2 (Pc.osl w0_ 1 (enc (eFlt .f32) y2) :: fr)) := by
  unfold impl_ReadPicture.wp at h
  refine of_body Tryz.f6 F.hm Tryz.func6 rfl Tryz.call6 (by kernel_rfl) (by simp) ?_
  refine fi_seq ?_
  refine fi_region ?_
  refine sv_alloc hs F6.ze24 rfl nofun (fun id101 H102 hs => ?_)
  refine so_assign (v := (.v (.bool false))) rfl ?_
  refine so_nil ?_
  refine fi_seq ?_
  refine fi_region ?_
  refine so_move (v := (.v (.str (pk a0)))) rfl ?_
  refine sv_callS (strings_Cut_ok a0 ([59] : List UInt8) hs  _ h) (fun _ _ ⟨_, _, _, _, _, e⟩ => e) rfl rfl ?_
  clear h
  rintro _ _ ⟨y104, y105, y106, h, rfl, rfl⟩
  refine so_move (v := (.t [(.v (.str (pk y104))), (.v (.str (pk y105))), (.v (.bool y106))])) rfl ?_
  refine so_extract rfl rfl rfl ?_
  refine so_extract rfl rfl rfl ?_
  refine so_extract rfl rfl rfl ?_
  refine so_assign (v := (.v (.str (pk y104)))) rfl ?_
  refine so_assign (v := (.v (.str (pk y105)))) rfl ?_
  refine so_assign (v := (.v (.bool y106))) rfl ?_
  refine so_nil ?_
  refine fi_seq ?_
  refine fi_region ?_
  refine so_move (v := (.v (.str (pk y104)))) rfl ?_
  refine sv_callS (impl_readPair_okS y104 hs (fun _ hs => gt2 _ hs.tl) (fun _ hs => gt3 _ hs.tl) (fun _ hs => gt4 _ hs.tl) (fun _ hs => gt6 _ hs.tl) _ h) (fun _ _ ⟨_, _, _, _, _, e⟩ => e) rfl rfl ?_
  clear h
  rintro _ _ ⟨y108, y109, y110, h, rfl, rfl⟩
  refine so_move (v := (.t [(.v (.int .i64 y108)), (.v (.int .i64 y109)), (.v (.bool y110))])) rfl ?_
  refine so_extract rfl rfl rfl ?_
  refine so_extract rfl rfl rfl ?_
  refine so_extract rfl rfl rfl ?_
  refine so_assign (v := (.v (.int .i64 y108))) rfl ?_
  refine so_assign (v := (.v (.int .i64 y109))) rfl ?_
  refine so_assign (v := (.v (.bool y110))) rfl ?_
  refine so_nil ?_
  refine fi_seq ?_
  refine fi_region ?_
  refine so_move (v := (.v (.str (pk y105)))) rfl ?_
  refine sv_call (impl_ReadNumbers_ok y105 hs (fun _ hs => gt2 _ hs.tl) (fun _ hs => gt3 _ hs.tl) (fun _ hs => gt6 _ hs.tl) _ h) rfl rfl nofun ?_
  clear h hs
  rintro _ H116 ⟨y112, y115, h, v113, rfl, hs⟩
  refine so_move (v := (.t [(.v v113), (.v (.bool y115))])) rfl ?_
  refine so_extract rfl rfl rfl ?_
  refine so_extract rfl rfl rfl ?_
  refine so_assign (v := (.v v113)) rfl ?_
  refine so_assign (v := (.v (.bool y115))) rfl ?_
  refine so_nil ?_
  refine fi_seq ?_
  refine fi_seq ?_
  refine fi_region ?_
  refine so_move (v := (.v (.bool y106))) rfl ?_
  refine so_un rfl au_not ?_
  refine so_move (v := (.v (.bool (!y106)))) rfl ?_
  replace h := ofT h; rcases h with ⟨c117, h⟩ | ⟨c117, h⟩
  · refine so_gyes rfl (not_f c117) ?_
    refine so_move (v := (.v (.bool y110))) rfl ?_
    refine so_gyes rfl (not_f c117) ?_
    refine so_un rfl au_not ?_
    refine so_pick_f (v := (.v (.bool (!y110)))) rfl (not_f c117) rfl ?_
    refine so_move (v := (.v (.bool (!y110)))) rfl ?_
    replace h := ofT h; rcases h with ⟨c118, h⟩ | ⟨c118, h⟩
    · refine so_gyes rfl (not_f c118) ?_
      refine so_move (v := (.v (.bool y115))) rfl ?_
      refine so_gyes rfl (not_f c118) ?_
      refine so_un rfl au_not ?_
      refine so_pick_f (v := (.v (.bool (!y115)))) rfl (not_f c118) rfl ?_
      refine so_nil ?_
      replace h := ofT h; rcases h with ⟨c119, h⟩ | ⟨c119, h⟩
      · refine fi_false rfl (not_f c119) ?_
        refine fi_skip ?_
        refine fi_seq ?_
        refine fi_region ?_
        refine so_move (v := (.v (.int .i64 y108))) rfl ?_
        refine so_move (v := (.v (.int .i64 y109))) rfl ?_
        refine so_move (v := (.v v113)) rfl ?_
        refine so_build F6.bp24 (cps := [(0, [(.int .i64 y108)]), (1, [(.int .i64 y109)]), (2, [v113])]) rfl (fac (stc rfl stn) (fac (stc rfl stn) (fac (stc (hs.shows 0 rfl).stor stn) fan))) rfl ?_
        refine sv_call (impl_validPicture_ok y108 y109 v113 y112 hs (fun _ hs => (hs.shows 0 rfl)) _ h) rfl rfl nofun ?_
        clear h hs
        rintro _ H124 ⟨y120, y121, y122, y123, h, rfl, hs⟩
        replace h := ofT h; rcases h with ⟨c125, h⟩ | ⟨c125, h⟩
        · subst c125
          refine so_extract rfl rfl rfl ?_
          refine so_extract rfl rfl rfl ?_
          refine sv_st hs 1 rfl rfl rfl (c := [(.int .i64 y120), (.int .i64 y121), v113]) rfl F6.sz24 rfl (stc rfl (stc rfl (stc (hs.shows 0 rfl).stor stn))) (leb rfl) (cs' := [(.int .i64 y120), (.int .i64 y121), v113]) rfl nofun (fun H126 hs => ?_)
          refine so_assign (v := (.v (.bool y123))) rfl ?_
          refine so_nil ?_
          exact by_ret (res_mk (ar_cells rfl F6.ag24 F6.sz24 (hs.lds 1 rfl (leb rfl) rfl) (ar_tmp rfl ar_nil)) rfl) ⟨_, _, _, _, h, _, rfl, (Sep.del 1 hs)⟩
        · subst c125
          refine so_extract rfl rfl rfl ?_
          refine so_extract rfl rfl rfl ?_
          refine sv_st hs 1 rfl rfl rfl (c := [(.int .i64 y120), (.int .i64 y121), .nilsl]) rfl F6.sz24 rfl (stc rfl (stc rfl (stc rfl stn))) (leb rfl) (cs' := [(.int .i64 y120), (.int .i64 y121), .nilsl]) rfl nofun (fun H127 hs => ?_)
          refine so_assign (v := (.v (.bool y123))) rfl ?_
          refine so_nil ?_
          exact by_ret (res_mk (ar_cells rfl F6.ag24 F6.sz24 (hs.lds 1 rfl (leb rfl) rfl) (ar_tmp rfl ar_nil)) rfl) ⟨_, _, _, _, h, _, rfl, (Sep.nil (Sep.del 0 (Sep.del 0 hs)) 1)⟩
      · refine fi_true rfl (not_t c119) ?_
        refine fi_seq ?_
        refine fi_region ?_
        refine so_build F6.bp24 (cps := []) rfl fan rfl ?_
        refine sv_st hs 1 rfl rfl rfl (c := [(.int .i64 (0 : Int)), (.int .i64 (0 : Int)), .nilsl]) rfl F6.sz24 rfl (stc rfl (stc rfl (stc rfl stn))) (leb rfl) (cs' := [(.int .i64 (0 : Int)), (.int .i64 (0 : Int)), .nilsl]) rfl nofun (fun H128 hs => ?_)
        refine so_assign (v := (.v (.bool false))) rfl ?_
        refine so_nil ?_
        exact by_ret (res_mk (ar_cells rfl F6.ag24 F6.sz24 (hs.lds 1 rfl (leb rfl) rfl) (ar_tmp rfl ar_nil)) rfl) ⟨_, _, _, _, h, _, rfl, (Sep.nil (Sep.del 0 (Sep.del 0 hs)) 1)⟩
    · refine so_gno rfl (not_t c118) ?_
      refine so_gno rfl (not_t c118) ?_
      refine so_pick_t (v := (.v (.bool true))) rfl (not_t c118) rfl ?_
      refine so_nil ?_
      refine fi_true rfl rfl ?_
      refine fi_seq ?_
      refine fi_region ?_
      refine so_build F6.bp24 (cps := []) rfl fan rfl ?_
      refine sv_st hs 1 rfl rfl rfl (c := [(.int .i64 (0 : Int)), (.int .i64 (0 : Int)), .nilsl]) rfl F6.sz24 rfl (stc rfl (stc rfl (stc rfl stn))) (leb rfl) (cs' := [(.int .i64 (0 : Int)), (.int .i64 (0 : Int)), .nilsl]) rfl nofun (fun H129 hs => ?_)
      refine so_assign (v := (.v (.bool false))) rfl ?_
      refine so_nil ?_
      exact by_ret (res_mk (ar_cells rfl F6.ag24 F6.sz24 (hs.lds 1 rfl (leb rfl) rfl) (ar_tmp rfl ar_nil)) rfl) ⟨_, _, _, _, h, _, rfl, (Sep.nil (Sep.del 0 (Sep.del 0 hs)) 1)⟩
  · refine so_gno rfl (not_t c117) ?_
    refine so_gno rfl (not_t c117) ?_
    refine so_pick_t (v := (.v (.bool true))) rfl (not_t c117) rfl ?_
    refine so_move (v := (.v (.bool true))) rfl ?_
    refine so_gno rfl rfl ?_
    refine so_gno rfl rfl ?_
    refine so_pick_t (v := (.v (.bool true))) rfl rfl rfl ?_
    refine so_nil ?_
    refine fi_true rfl rfl ?_
    refine fi_seq ?_
    refine fi_region ?_
    refine so_build F6.bp24 (cps := []) rfl fan rfl ?_
    refine sv_st hs 1 rfl rfl rfl (c := [(.int .i64 (0 : Int)), (.int .i64 (0 : Int)), .nilsl]) rfl F6.sz24 rfl (stc rfl (stc rfl (stc rfl stn))) (leb rfl) (cs' := [(.int .i64 (0 : Int)), (.int .i64 (0 : Int)), .nilsl]) rfl nofun (fun H130 hs => ?_)
    refine so_assign (v := (.v (.bool false))) rfl ?_
    refine so_nil ?_
    exact by_ret (res_mk (ar_cells rfl F6.ag24 F6.sz24 (hs.lds 1 rfl (leb rfl) rfl) (ar_tmp rfl ar_nil)) rfl) ⟨_, _, _, _, h, _, rfl, (Sep.nil (Sep.del 0 (Sep.del 0 hs)) 1)⟩

end Go.Proofs.YtmbkjkcolmoioaaGreatDoor.G

namespace Go.Proofs.YtmbkjkcolmoioaaGreatDoor.G
open Go Go.Ab Go.Proofs Go.Proofs.YtmbkjkcolmoioaaGreatDoor
set_option maxRecDepth 100000
set_option linter.unusedVariables false
set_option linter.unusedSimpArgs false
set_option maxHeartbeats 1000000
attribute [local irreducible] wops wopf Go.Ab.Fin
theorem F96.tb4 : tbool Tryz.prog 4 = true := by kernel_rfl
theorem laws_sameFloat_ok {fr : List Pc} {H : Heap} (a0 : Nat) (a1 : Nat) (hs : Sep H (fr))  (K : Bool → Prop) (h : laws_sameFloat.wp a0 a1 K) : OkQ Tryz.prog 96 [(.v (.flt .f64 a0)), (.v (.flt .f64 a1))] H (fun r H2 => ∃ (y0 : Bool), K y0 ∧ r = (.v (.bool y0)) ∧ H = H2) := by
  unfold laws_sameFloat.wp at h
  refine of_body Tryz.f96 F.hm Tryz.func96 rfl Tryz.call96 (by kernel_rfl) (by simp) ?_
  refine fi_seq ?_
  refine fi_region ?_
  refine so_assign (v := (.v (.bool false))) rfl ?_
  refine so_nil ?_
  refine fi_seq ?_
  refine fi_seq ?_
  refine fi_region ?_
  refine so_move (v := (.v (.flt .f64 a0))) rfl ?_
  refine so_move (v := (.v (.flt .f64 a0))) rfl ?_
  refine so_bin rfl rfl ab_fneq ?_
  refine so_move (v := (.v (.bool (fcmp .neq .f64 a0 a0)))) rfl ?_
  replace h := ofT h; rcases h with ⟨c101, h⟩ | ⟨c101, h⟩
  · refine so_gno rfl c101 ?_
    refine so_gno rfl c101 ?_
    refine so_gno rfl c101 ?_
    refine so_pick_t (v := (.v (.bool true))) rfl c101 rfl ?_
    refine so_nil ?_
    refine fi_true rfl rfl ?_
    refine fi_seq ?_
    refine fi_region ?_
    refine so_move (v := (.v (.flt .f64 a0))) rfl ?_
    refine so_move (v := (.v (.flt .f64 a0))) rfl ?_
    refine so_bin rfl rfl ab_fneq ?_
    refine so_move (v := (.v (.bool (fcmp .neq .f64 a0 a0)))) rfl ?_
    refine so_gyes rfl c101 ?_
    refine so_move (v := (.v (.flt .f64 a1))) rfl ?_
    refine so_gyes rfl c101 ?_
    refine so_move (v := (.v (.flt .f64 a1))) rfl ?_
    refine so_gyes rfl c101 ?_
    refine so_bin rfl rfl ab_fneq ?_
    refine so_pick_t (v := (.v (.bool (fcmp .neq .f64 a1 a1)))) rfl c101 rfl ?_
    refine so_assign (v := (.v (.bool (fcmp .neq .f64 a1 a1)))) rfl ?_
    refine so_nil ?_
    exact by_ret rfl ⟨_, h, rfl, rfl⟩
  · refine so_gyes rfl c101 ?_
    refine so_move (v := (.v (.flt .f64 a1))) rfl ?_
    refine so_gyes rfl c101 ?_
    refine so_move (v := (.v (.flt .f64 a1))) rfl ?_
    refine so_gyes rfl c101 ?_
    refine so_bin rfl rfl ab_fneq ?_
    refine so_pick_f (v := (.v (.bool (fcmp .neq .f64 a1 a1)))) rfl c101 rfl ?_
    refine so_nil ?_
    replace h := ofT h; rcases h with ⟨c102, h⟩ | ⟨c102, h⟩
    · refine fi_true rfl c102 ?_
      refine fi_seq ?_
      refine fi_region ?_
      refine so_move (v := (.v (.flt .f64 a0))) rfl ?_
      refine so_move (v := (.v (.flt .f64 a0))) rfl ?_
      refine so_bin rfl rfl ab_fneq ?_
      refine so_move (v := (.v (.bool (fcmp .neq .f64 a0 a0)))) rfl ?_
      refine so_gno rfl c101 ?_
      refine so_gno rfl c101 ?_
      refine so_gno rfl c101 ?_
      refine so_pick_f (v := (.v (.bool false))) rfl c101 rfl ?_
      refine so_assign (v := (.v (.bool false))) rfl ?_
      refine so_nil ?_
      exact by_ret rfl ⟨_, h, rfl, rfl⟩
    · refine fi_false rfl c102 ?_
      refine fi_skip ?_
      refine fi_seq ?_
      refine fi_seq ?_
      refine fi_region ?_
      refine so_move (v := (.v (.flt .f64 a0))) rfl ?_
      refine so_bin rfl rfl ab_feql ?_
      refine so_move (v := (.v (.bool (fcmp .eql .f64 a0 (cz .f64 0))))) rfl ?_
      replace h := ofT h; rcases h with ⟨c103, h⟩ | ⟨c103, h⟩
      · refine so_gyes rfl c103 ?_
        refine so_move (v := (.v (.flt .f64 a1))) rfl ?_
        refine so_gyes rfl c103 ?_
        refine so_bin rfl rfl ab_feql ?_
        refine so_pick_t (v := (.v (.bool (fcmp .eql .f64 a1 (cz .f64 0))))) rfl c103 rfl ?_
        refine so_nil ?_
        replace h := ofT h; rcases h with ⟨c104, h⟩ | ⟨c104, h⟩
        · refine fi_true rfl c104 ?_
          refine fi_seq ?_
          refine fi_region ?_
          refine so_move (v := (.v (.flt .f64 a0))) rfl ?_
          refine so_bin rfl rfl ab_fquo ?_
          refine so_bin rfl rfl ab_fgtr ?_
          refine so_move (v := (.v (.flt .f64 a1))) rfl ?_
          refine so_bin rfl rfl ab_fquo ?_
          refine so_bin rfl rfl ab_fgtr ?_
          refine so_bin rfl rfl (ab_beql F96.tb4) ?_
          refine so_assign (v := (.v (.bool ((fcmp .gtr .f64 (fop .quo .f64 (cz .f64 4607182418800017408) a0) (cz .f64 0)) == (fcmp .gtr .f64 (fop .quo .f64 (cz .f64 4607182418800017408) a1) (cz .f64 0)))))) rfl ?_
          refine so_nil ?_
          exact by_ret rfl ⟨_, h, rfl, rfl⟩
        · refine fi_false rfl c104 ?_
          refine fi_skip ?_
          refine fi_seq ?_
          refine fi_region ?_
          refine so_move (v := (.v (.flt .f64 a0))) rfl ?_
          refine so_move (v := (.v (.flt .f64 a1))) rfl ?_
          refine so_bin rfl rfl ab_feql ?_
          refine so_assign (v := (.v (.bool (fcmp .eql .f64 a0 a1)))) rfl ?_
          refine so_nil ?_
          exact by_ret rfl ⟨_, h, rfl, rfl⟩
      · refine so_gno rfl c103 ?_
        refine so_gno rfl c103 ?_
        refine so_pick_f (v := (.v (.bool false))) rfl c103 rfl ?_
        refine so_nil ?_
        refine fi_false rfl rfl ?_
        refine fi_skip ?_
        refine fi_seq ?_
        refine fi_region ?_
        refine so_move (v := (.v (.flt .f64 a0))) rfl ?_
        refine so_move (v := (.v (.flt .f64 a1))) rfl ?_
        refine so_bin rfl rfl ab_feql ?_
        refine so_assign (v := (.v (.bool (fcmp .eql .f64 a0 a1)))) rfl ?_
        refine so_nil ?_
        exact by_ret rfl ⟨_, h, rfl, rfl⟩

end Go.Proofs.YtmbkjkcolmoioaaGreatDoor.G

namespace Go.Proofs.YtmbkjkcolmoioaaGreatDoor.G
open Go Go.Ab Go.Proofs Go.Proofs.YtmbkjkcolmoioaaGreatDoor
set_option maxRecDepth 100000
set_option linter.unusedVariables false
set_option linter.unusedSimpArgs false
set_option maxHeartbeats 1000000
attribute [local irreducible] wops wopf Go.Ab.Fin
theorem F39.ag32 : tagg Tryz.prog 32 = some false := by kernel_rfl
theorem F39.fl137 : tflt Tryz.prog 137 = some .f64 := by kernel_rfl
theorem F39.in137 : tint Tryz.prog 137 = none := by kernel_rfl
theorem F39.ti22 : (telem Tryz.prog 22).isSome = true := by kernel_rfl
theorem F39.tl22 : (telem Tryz.prog 22).bind (tsz Tryz.prog) = some 1 := by kernel_rfl
theorem F39.us32 : (Tryz.prog.underlying 32).isSome = true := by kernel_rfl
theorem laws_eqFloat32S_ok {fr : List Pc} {H : Heap} (v0 : AV) (l0 : List (Nat)) (v1 : AV) (l1 : List (Nat)) (hs : Sep H (fr)) (g0 : ∀ H, Sep H fr → Shows H v0 1 (enc (eFlt .f32) l0)) (g1 : ∀ H, Sep H fr → Shows H v1 1 (enc (eFlt .f32) l1)) (K : Bool → Prop) (h : laws_eqFloat32S.wp l0 l1 K) : OkQ Tryz.prog 39 [(.v v0), (.v v1)] H (fun r H2 => ∃ (y0 : Bool), K y0 ∧ r = (.v (.bool y0)) ∧ H = H2) := by
  unfold laws_eqFloat32S.wp at h
  refine of_body Tryz.f39 F.hm Tryz.func39 rfl Tryz.call39 (by kernel_rfl) (by simp) ?_
  refine fi_seq ?_
  refine fi_region ?_
  refine so_assign (v := (.v (.bool false))) rfl ?_
  refine so_nil ?_
  refine fi_seq ?_
  refine fi_seq ?_
  refine fi_region ?_
  refine so_move (v := (.v v0)) rfl ?_
  refine sv_len (g0 _ hs) (fun _ => rfl) (by decide) rfl F39.ti22 ?_
  refine so_move (v := (.v v1)) rfl ?_
  refine sv_len (g1 _ hs) (fun _ => rfl) (by decide) rfl F39.ti22 ?_
  refine so_bin rfl rfl ab_neq ?_
  refine so_nil ?_
  replace h := ofP h; rcases h with ⟨c101, h⟩ | ⟨c101, h⟩
  · refine fi_false rfl (not_f (decide_eq_true c101)) ?_
    refine fi_skip ?_
    refine fi_seq ?_
    refine fi_seq ?_
    refine fi_region ?_
    refine so_assign (v := (.v (.int .i64 (0 : Int)))) rfl ?_
    refine so_nil ?_
    refine fi_block ?_
    refine fi_loop ?_
    refine fi_at [(0, (.v v0)), (1, (.v v1)), (5, (.v (.int .i64 (0 : Int))))] ⟨rfl, rfl, rfl, trivial⟩ ?_
    refine h (fun (i103 : Int) => ∀ (s : Nat → TV), Fin _ _ (updL s [(0, (.v v0)), (1, (.v v1)), (5, (.v (.int .i64 i103)))]) _ _) ?_ _
    intro i103 h s110
    refine fi_inLoop ?_
    refine fi_seq ?_
    refine fi_seq ?_
    refine fi_region ?_
    refine so_move (v := (.v (.int .i64 i103))) rfl ?_
    refine so_move (v := (.v v0)) rfl ?_
    refine sv_len (g0 _ hs) (fun _ => rfl) (by decide) rfl F39.ti22 ?_
    refine so_bin rfl rfl ab_lss ?_
    refine so_nil ?_
    replace h := ofP h; rcases h with ⟨c104, h⟩ | ⟨c104, h⟩
    · refine fi_true rfl (decide_eq_true c104) ?_
      refine fi_skip ?_
      refine fi_seq ?_
      refine fi_block ?_
      refine fi_seq ?_
      refine fi_region ?_
      refine so_move (v := (.v v0)) rfl ?_
      refine so_move (v := (.v (.int .i64 i103))) rfl ?_
      obtain ⟨c105, h⟩ := h
      refine sv_idx (g0 _ hs) c105 (fun _ => rfl) (by decide) rfl rfl F39.tl22 ?_
      refine sv_cell (g0 _ hs) c105 (0 : Nat) 0 (fun x => (AV.flt .f32 x)) (fun _ => rfl) (fun _ => rfl) rfl F39.ag32 ?_
      refine sv_ffw rfl F39.us32 F39.in137 F39.fl137 ?_
      refine so_move (v := (.v v1)) rfl ?_
      refine so_move (v := (.v (.int .i64 i103))) rfl ?_
      obtain ⟨c106, h⟩ := h
      refine sv_idx (g1 _ hs) c106 (fun _ => rfl) (by decide) rfl rfl F39.tl22 ?_
      refine sv_cell (g1 _ hs) c106 (0 : Nat) 0 (fun x => (AV.flt .f32 x)) (fun _ => rfl) (fun _ => rfl) rfl F39.ag32 ?_
      refine sv_ffw rfl F39.us32 F39.in137 F39.fl137 ?_
      refine sv_callS (laws_sameFloat_ok (widen (l0.getD (i103).toNat (0 : Nat))) (widen (l1.getD (i103).toNat (0 : Nat))) hs  _ h) (fun _ _ ⟨_, _, _, e⟩ => e) rfl rfl ?_
      clear h
      rintro _ _ ⟨y107, h, rfl, rfl⟩
      refine so_un rfl au_not ?_
      refine so_nil ?_
      replace h := ofT h; rcases h with ⟨c109, h⟩ | ⟨c109, h⟩
      · refine fi_false rfl (not_f c109) ?_
        refine fi_skip ?_
        refine fi_inBlock ?_
        refine fi_region ?_
        refine so_move (v := (.v (.int .i64 i103))) rfl ?_
        refine so_bin rfl rfl ab_add ?_
        refine so_assign (v := (.v (.int .i64 (IntKind.i64.wrap (i103 + (1 : Int)))))) rfl ?_
        refine so_nil ?_
        exact fi_at [(0, (.v v0)), (1, (.v v1)), (5, (.v (.int .i64 (IntKind.i64.wrap (i103 + (1 : Int))))))] ⟨rfl, rfl, rfl, trivial⟩ (h _)
      · refine fi_true rfl (not_t c109) ?_
        refine fi_seq ?_
        refine fi_region ?_
        refine so_assign (v := (.v (.bool false))) rfl ?_
        refine so_nil ?_
        exact by_ret rfl ⟨_, h, rfl, rfl⟩
    · refine fi_false rfl (decide_eq_false c104) ?_
      refine fi_exit rfl ?_
      refine fi_seq ?_
      refine fi_region ?_
      refine so_assign (v := (.v (.bool true))) rfl ?_
      refine so_nil ?_
      exact by_ret rfl ⟨_, h, rfl, rfl⟩
  · refine fi_true rfl (not_t (decide_eq_false c101)) ?_
    refine fi_seq ?_
    refine fi_region ?_
    refine so_assign (v := (.v (.bool false))) rfl ?_
    refine so_nil ?_
    exact by_ret rfl ⟨_, h, rfl, rfl⟩

end Go.Proofs.YtmbkjkcolmoioaaGreatDoor.G

namespace Go.Proofs.YtmbkjkcolmoioaaGreatDoor.G
open Go Go.Ab Go.Proofs Go.Proofs.YtmbkjkcolmoioaaGreatDoor
set_option maxRecDepth 100000
set_option linter.unusedVariables false
set_option linter.unusedSimpArgs false
set_option maxHeartbeats 1000000
attribute [local irreducible] wops wopf Go.Ab.Fin
theorem F7.ag2 : tagg Tryz.prog 2 = some false := by kernel_rfl
theorem F7.ag22 : tagg Tryz.prog 22 = some false := by kernel_rfl
theorem F7.fd24_0 : tfield Tryz.prog 24 0 = some (0, 1, false) := by kernel_rfl
theorem F7.fd24_1 : tfield Tryz.prog 24 1 = some (1, 1, false) := by kernel_rfl
theorem F7.fd24_2 : tfield Tryz.prog 24 2 = some (2, 1, false) := by kernel_rfl
theorem F7.inf24 : (Tryz.prog.info? 24).isSome = true := by kernel_rfl
theorem laws_eqPicture_ok {fr : List Pc} {H : Heap} (a0 : Int) (a1 : Int) (v2 : AV) (l2 : List (Nat)) (a3 : Int) (a4 : Int) (v5 : AV) (l5 : List (Nat)) (hs : Sep H (fr)) (g2 : ∀ H, Sep H fr → Shows H v2 1 (enc (eFlt .f32) l2)) (g5 : ∀ H, Sep H fr → Shows H v5 1 (enc (eFlt .f32) l5)) (K : Bool → Prop) (h : laws_eqPicture.wp a0 a1 l2 a3 a4 l5 K) : OkQ Tryz.prog 7 [(.g [(.int .i64 a0), (.int .i64 a1), v2]), (.g [(.int .i64 a3), (.int .i64 a4), v5])] H (fun r H2 => ∃ (y0 : Bool), K y0 ∧ r = (.v (.bool y0)) ∧ Sep H2 (fr)) := by
  unfold laws_eqPicture.wp at h
  refine of_body Tryz.f7 F.hm Tryz.func7 rfl Tryz.call7 (by kernel_rfl) (by simp) ?_
  refine fi_seq ?_
  refine fi_region ?_
  refine sv_box hs rfl (c := [(.int .i64 a0), (.int .i64 a1), v2]) rfl F7.inf24 (stc rfl (stc rfl (stc (g2 _ hs).stor stn))) nofun (fun id101 H102 hs => ?_)
  refine sv_box hs rfl (c := [(.int .i64 a3), (.int .i64 a4), v5]) rfl F7.inf24 (stc rfl (stc rfl (stc (g5 _ hs.tl).stor stn))) nofun (fun id104 H105 hs => ?_)
  refine so_assign (v := (.v (.bool false))) rfl ?_
  refine so_nil ?_
  refine fi_seq ?_
  refine fi_seq ?_
  refine fi_region ?_
  refine so_fieldAddr rfl F7.fd24_0 ?_
  refine sv_ld hs 1 rfl rfl rfl F7.ag2 ?_
  refine so_fieldAddr rfl F7.fd24_0 ?_
  refine sv_ld hs 0 rfl rfl rfl F7.ag2 ?_
  refine so_bin rfl rfl ab_neq ?_
  refine so_nil ?_
  replace h := ofP h; rcases h with ⟨c107, h⟩ | ⟨c107, h⟩
  · refine fi_false rfl (not_f (decide_eq_true c107)) ?_
    refine fi_skip ?_
    refine fi_seq ?_
    refine fi_seq ?_
    refine fi_region ?_
    refine so_fieldAddr rfl F7.fd24_1 ?_
    refine sv_ld hs 1 rfl rfl rfl F7.ag2 ?_
    refine so_fieldAddr rfl F7.fd24_1 ?_
    refine sv_ld hs 0 rfl rfl rfl F7.ag2 ?_
    refine so_bin rfl rfl ab_neq ?_
    refine so_nil ?_
    replace h := ofP h; rcases h with ⟨c108, h⟩ | ⟨c108, h⟩
    · refine fi_false rfl (not_f (decide_eq_true c108)) ?_
      refine fi_skip ?_
      refine fi_seq ?_
      refine fi_seq ?_
      refine fi_region ?_
      refine so_fieldAddr rfl F7.fd24_2 ?_
      refine sv_ld hs 1 rfl rfl rfl F7.ag22 ?_
      refine so_fieldAddr rfl F7.fd24_2 ?_
      refine sv_ld hs 0 rfl rfl rfl F7.ag22 ?_
      refine sv_callS (laws_eqFloat32S_ok v2 l2 v5 l5 hs (fun _ hs => (g2 _ hs.tl.tl)) (fun _ hs => (g5 _ hs.tl.tl)) _ h) (fun _ _ ⟨_, _, _, e⟩ => e) rfl rfl ?_
      clear h
      rintro _ _ ⟨y109, h, rfl, rfl⟩
      refine so_un rfl au_not ?_
      refine so_nil ?_
      replace h := ofT h; rcases h with ⟨c111, h⟩ | ⟨c111, h⟩
      · refine fi_false rfl (not_f c111) ?_
        refine fi_skip ?_
        refine fi_seq ?_
        refine fi_region ?_
        refine so_assign (v := (.v (.bool true))) rfl ?_
        refine so_nil ?_
        exact by_ret rfl ⟨_, h, rfl, (Sep.del 0 (Sep.del 0 hs))⟩
      · refine fi_true rfl (not_t c111) ?_
        refine fi_seq ?_
        refine fi_region ?_
        refine so_assign (v := (.v (.bool false))) rfl ?_
        refine so_nil ?_
        exact by_ret rfl ⟨_, h, rfl, (Sep.del 0 (Sep.del 0 hs))⟩
    · refine fi_true rfl (not_t (decide_eq_false c108)) ?_
      refine fi_seq ?_
      refine fi_region ?_
      refine so_assign (v := (.v (.bool false))) rfl ?_
      refine so_nil ?_
      exact by_ret rfl ⟨_, h, rfl, (Sep.del 0 (Sep.del 0 hs))⟩
  · refine fi_true rfl (not_t (decide_eq_false c107)) ?_
    refine fi_seq ?_
    refine fi_region ?_
    refine so_assign (v := (.v (.bool false))) rfl ?_
    refine so_nil ?_
    exact by_ret rfl ⟨_, h, rfl, (Sep.del 0 (Sep.del 0 hs))⟩
theorem laws_eqPicture_okS {fr : List Pc} {H : Heap} (a0 : Int) (a1 : Int) (v2 : AV) (l2 : List (Nat)) (a3 : Int) (a4 : Int) (v5 : AV) (l5 : List (Nat)) (hs : Sep H fr) (g2 : ∀ H, Sep H fr → Shows H v2 1 (enc (eFlt .f32) l2)) (g5 : ∀ H, Sep H fr → Shows H v5 1 (enc (eFlt .f32) l5)) (K : Bool → Prop) (h : laws_eqPicture.wp a0 a1 l2 a3 a4 l5 K) : OkQ Tryz.prog 7 [(.g [(.int .i64 a0), (.int .i64 a1), v2]), (.g [(.int .i64 a3), (.int .i64 a4), v5])] H (fun r H2 => ∃ (y0 : Bool), K y0 ∧ r = (.v (.bool y0)) ∧ H = H2) := by
  obtain ⟨r, H2, h1, y0, hK, hr, hsep⟩ := laws_eqPicture_ok (fr := came H) (H := H) a0 a1 v2 l2 a3 a4 v5 l5 (came_sep H) (came_shows (g2 H hs)) (came_shows (g5 H hs)) K h
  have hk : H.n ≤ H2.n ∧ ∀ i, i < H.n → H2.f i = H.f i := hsep.1.2.1
  exact ⟨r, H, h1.forget hk.1 hk.2 (by subst hr; rfl), y0, hK, hr, rfl⟩

end Go.Proofs.YtmbkjkcolmoioaaGreatDoor.G

namespace Go.Proofs.YtmbkjkcolmoioaaGreatDoor.G
open Go Go.Ab Go.Proofs Go.Proofs.YtmbkjkcolmoioaaGreatDoor
set_option maxRecDepth 100000
set_option linter.unusedVariables false
set_option linter.unusedSimpArgs false
set_option maxHeartbeats 1000000
attribute [local irreducible] wops wopf Go.Ab.Fin
theorem F40.fl32 : tflt Tryz.prog 32 = some .f32 := by kernel_rfl
theorem F40.in32 : tint Tryz.prog 32 = none := by kernel_rfl
theorem F40.sz32 : tsz Tryz.prog 32 = some 1 := by kernel_rfl
theorem F40.ti22 : (telem Tryz.prog 22).isSome = true := by kernel_rfl
theorem F40.tl22 : (telem Tryz.prog 22).bind (tsz Tryz.prog) = some 1 := by kernel_rfl
theorem F40.us3 : (Tryz.prog.underlying 3).isSome = true := by kernel_rfl
theorem laws_markFloat32S_ok {fr : List Pc} {H : Heap} (v0 : AV) (l0 : List (Nat)) (a1 : Int) (hs : Sep H (Pc.osl v0 1 (enc (eFlt .f32) l0) :: fr))  (K : Int → (List (Nat)) → Prop) (h : laws_markFloat32S.wp l0 a1 K) : OkQ Tryz.prog 40 [(.v v0), (.v (.int .i64 a1))] H (fun r H2 => ∃ (y0 : Int) (y1 : List (Nat)), K y0 y1 ∧ r = (.v (.int .i64 y0)) ∧ Sep H2 (Pc.osl v0 1 (enc (eFlt .f32) y1) :: fr)) := by
  unfold laws_markFloat32S.wp at h
  refine of_body Tryz.f40 F.hm Tryz.func40 rfl Tryz.call40 (by kernel_rfl) (by simp) ?_
  refine fi_seq ?_
  refine fi_region ?_
  refine so_assign (v := (.v (.int .i64 (0 : Int)))) rfl ?_
  refine so_nil ?_
  refine fi_seq ?_
  refine fi_seq ?_
  refine fi_region ?_
  refine so_assign (v := (.v (.int .i64 (0 : Int)))) rfl ?_
  refine so_nil ?_
  refine fi_block ?_
  refine fi_loop ?_
  refine fi_at [(0, (.v v0)), (1, (.v (.int .i64 a1))), (5, (.v (.int .i64 (0 : Int))))] ⟨rfl, rfl, rfl, trivial⟩ ?_
  refine h (fun (a109 : List (Nat)) (k110 : Int) (i111 : Int) => ∀ (s : Nat → TV) (H : Heap), Sep H (Pc.osl v0 1 (enc (eFlt .f32) a109) :: fr) → Fin _ _ (updL s [(0, (.v v0)), (1, (.v (.int .i64 k110))), (5, (.v (.int .i64 i111)))]) H _) ?_ _ _ hs
  intro a109 k110 i111 h s115 H116 hs
  refine fi_inLoop ?_
  refine fi_seq ?_
  refine fi_seq ?_
  refine fi_region ?_
  refine so_move (v := (.v (.int .i64 i111))) rfl ?_
  refine so_move (v := (.v v0)) rfl ?_
  refine sv_len (hs.shows 0 rfl) (fun _ => rfl) (by decide) rfl F40.ti22 ?_
  refine so_bin rfl rfl ab_lss ?_
  refine so_nil ?_
  replace h := ofP h; rcases h with ⟨c112, h⟩ | ⟨c112, h⟩
  · refine fi_true rfl (decide_eq_true c112) ?_
    refine fi_skip ?_
    refine fi_seq ?_
    refine fi_block ?_
    refine fi_seq ?_
    refine fi_region ?_
    refine so_move (v := (.v v0)) rfl ?_
    refine so_move (v := (.v (.int .i64 i111))) rfl ?_
    refine so_move (v := (.v (.int .i64 k110))) rfl ?_
    refine sv_if rfl F40.us3 F40.in32 F40.fl32 ?_
    obtain ⟨c113, h⟩ := h
    refine sv_idx (hs.shows 0 rfl) c113 (fun _ => rfl) (by decide) rfl rfl F40.tl22 ?_
    refine sv_set hs 0 rfl c113 (itof .f32 k110) (fun _ => rfl) (by decide) rfl rfl rfl rfl F40.sz32 nofun (fun H114 hs => ?_)
    refine so_nil ?_
    refine fi_region ?_
    refine so_move (v := (.v (.int .i64 k110))) rfl ?_
    refine so_bin rfl rfl ab_add ?_
    refine so_assign (v := (.v (.int .i64 (IntKind.i64.wrap (k110 + (1 : Int)))))) rfl ?_
    refine so_nil ?_
    refine fi_inBlock ?_
    refine fi_region ?_
    refine so_move (v := (.v (.int .i64 i111))) rfl ?_
    refine so_bin rfl rfl ab_add ?_
    refine so_assign (v := (.v (.int .i64 (IntKind.i64.wrap (i111 + (1 : Int)))))) rfl ?_
    refine so_nil ?_
    exact fi_at [(0, (.v v0)), (1, (.v (.int .i64 (IntKind.i64.wrap (k110 + (1 : Int)))))), (5, (.v (.int .i64 (IntKind.i64.wrap (i111 + (1 : Int))))))] ⟨rfl, rfl, rfl, trivial⟩ (h _ _  hs)
  · refine fi_false rfl (decide_eq_false c112) ?_
    refine fi_exit rfl ?_
    refine fi_seq ?_
    refine fi_region ?_
    refine so_move (v := (.v (.int .i64 k110))) rfl ?_
    refine so_assign (v := (.v (.int .i64 k110))) rfl ?_
    refine so_nil ?_
    exact by_ret rfl ⟨_, _, h, rfl, hs⟩

end Go.Proofs.YtmbkjkcolmoioaaGreatDoor.G

namespace Go.Proofs.YtmbkjkcolmoioaaGreatDoor.G
open Go Go.Ab Go.Proofs Go.Proofs.YtmbkjkcolmoioaaGreatDoor
set_option maxRecDepth 100000
set_option linter.unusedVariables false
set_option linter.unusedSimpArgs false
set_option maxHeartbeats 1000000
attribute [local irreducible] wops wopf Go.Ab.Fin
theorem F8.ag22 : tagg Tryz.prog 22 = some false := by kernel_rfl
theorem F8.fd24_2 : tfield Tryz.prog 24 2 = some (2, 1, false) := by kernel_rfl
theorem F8.inf24 : (Tryz.prog.info? 24).isSome = true := by kernel_rfl
theorem laws_markPicture_ok {fr : List Pc} {H : Heap} (a0 : Int) (a1 : Int) (v2 : AV) (l2 : List (Nat)) (a3 : Int) (hs : Sep H (Pc.osl v2 1 (enc (eFlt .f32) l2) :: fr))  (K : Int → (List (Nat)) → Prop) (h : laws_markPicture.wp a0 a1 l2 a3 K) : OkQ Tryz.prog 8 [(.g [(.int .i64 a0), (.int .i64 a1), v2]), (.v (.int .i64 a3))] H (fun r H2 => ∃ (y0 : Int) (y1 : List (Nat)), K y0 y1 ∧ r = (.v (.int .i64 y0)) ∧ Sep H2 (Pc.osl v2 1 (enc (eFlt .f32) y1) :: fr)) := by
  unfold laws_markPicture.wp at h
  refine of_body Tryz.f8 F.hm Tryz.func8 rfl Tryz.call8 (by kernel_rfl) (by simp) ?_
  refine fi_seq ?_
  refine fi_region ?_
  refine sv_box hs rfl (c := [(.int .i64 a0), (.int .i64 a1), v2]) rfl F8.inf24 (stc rfl (stc rfl (stc (hs.shows 0 rfl).stor stn))) nofun (fun id102 H103 hs => ?_)
  refine so_assign (v := (.v (.int .i64 (0 : Int)))) rfl ?_
  refine so_nil ?_
  refine fi_seq ?_
  refine fi_region ?_
  refine so_fieldAddr rfl F8.fd24_2 ?_
  refine sv_ld hs 0 rfl rfl rfl F8.ag22 ?_
  refine so_move (v := (.v (.int .i64 a3))) rfl ?_
  replace hs := (Sep.front 1 hs rfl)
  refine sv_call (laws_markFloat32S_ok v2 l2 a3 hs  _ h) rfl rfl nofun ?_
  clear h hs
  rintro _ H107 ⟨y105, y106, h, rfl, hs⟩
  refine so_assign (v := (.v (.int .i64 y105))) rfl ?_
  refine so_nil ?_
  refine fi_seq ?_
  refine fi_region ?_
  refine so_move (v := (.v (.int .i64 y105))) rfl ?_
  refine so_assign (v := (.v (.int .i64 y105))) rfl ?_
  refine so_nil ?_
  exact by_ret rfl ⟨_, _, h, rfl, (Sep.del 1 hs)⟩

end Go.Proofs.YtmbkjkcolmoioaaGreatDoor.G

namespace Go.Proofs.YtmbkjkcolmoioaaGreatDoor.G
open Go Go.Ab Go.Proofs Go.Proofs.YtmbkjkcolmoioaaGreatDoor
set_option maxRecDepth 100000
set_option linter.unusedVariables false
set_option linter.unusedSimpArgs false
set_option maxHeartbeats 1000000
attribute [local irreducible] wops wopf Go.Ab.Fin
theorem F41.ag32 : tagg Tryz.prog 32 = some false := by kernel_rfl
theorem F41.fl32 : tflt Tryz.prog 32 = some .f32 := by kernel_rfl
theorem F41.in32 : tint Tryz.prog 32 = none := by kernel_rfl
theorem F41.ti22 : (telem Tryz.prog 22).isSome = true := by kernel_rfl
theorem F41.tl22 : (telem Tryz.prog 22).bind (tsz Tryz.prog) = some 1 := by kernel_rfl
theorem F41.us3 : (Tryz.prog.underlying 3).isSome = true := by kernel_rfl
theorem laws_heldFloat32S_ok {fr : List Pc} {H : Heap} (v0 : AV) (l0 : List (Nat)) (a1 : Int) (hs : Sep H (fr)) (g0 : ∀ H, Sep H fr → Shows H v0 1 (enc (eFlt .f32) l0)) (K : Int → Prop) (h : laws_heldFloat32S.wp l0 a1 K) : OkQ Tryz.prog 41 [(.v v0), (.v (.int .i64 a1))] H (fun r H2 => ∃ (y0 : Int), K y0 ∧ r = (.v (.int .i64 y0)) ∧ H = H2) := by
  unfold laws_heldFloat32S.wp at h
  refine of_body Tryz.f41 F.hm Tryz.func41 rfl Tryz.call41 (by kernel_rfl) (by simp) ?_
  refine fi_seq ?_
  refine fi_region ?_
  refine so_assign (v := (.v (.int .i64 (0 : Int)))) rfl ?_
  refine so_nil ?_
  refine fi_seq ?_
  refine fi_seq ?_
  refine fi_region ?_
  refine so_assign (v := (.v (.int .i64 (0 : Int)))) rfl ?_
  refine so_nil ?_
  refine fi_block ?_
  refine fi_loop ?_
  refine fi_at [(0, (.v v0)), (1, (.v (.int .i64 a1))), (5, (.v (.int .i64 (0 : Int))))] ⟨rfl, rfl, rfl, trivial⟩ ?_
  refine h (fun (k102 : Int) (i103 : Int) => ∀ (s : Nat → TV), Fin _ _ (updL s [(0, (.v v0)), (1, (.v (.int .i64 k102))), (5, (.v (.int .i64 i103)))]) _ _) ?_ _
  intro k102 i103 h s107
  refine fi_inLoop ?_
  refine fi_seq ?_
  refine fi_seq ?_
  refine fi_region ?_
  refine so_move (v := (.v (.int .i64 i103))) rfl ?_
  refine so_move (v := (.v v0)) rfl ?_
  refine sv_len (g0 _ hs) (fun _ => rfl) (by decide) rfl F41.ti22 ?_
  refine so_bin rfl rfl ab_lss ?_
  refine so_nil ?_
  replace h := ofP h; rcases h with ⟨c104, h⟩ | ⟨c104, h⟩
  · refine fi_true rfl (decide_eq_true c104) ?_
    refine fi_skip ?_
    refine fi_seq ?_
    refine fi_block ?_
    refine fi_seq ?_
    refine fi_seq ?_
    refine fi_region ?_
    refine so_move (v := (.v v0)) rfl ?_
    refine so_move (v := (.v (.int .i64 i103))) rfl ?_
    obtain ⟨c105, h⟩ := h
    refine sv_idx (g0 _ hs) c105 (fun _ => rfl) (by decide) rfl rfl F41.tl22 ?_
    refine sv_cell (g0 _ hs) c105 (0 : Nat) 0 (fun x => (AV.flt .f32 x)) (fun _ => rfl) (fun _ => rfl) rfl F41.ag32 ?_
    refine so_move (v := (.v (.int .i64 k102))) rfl ?_
    refine sv_if rfl F41.us3 F41.in32 F41.fl32 ?_
    refine so_bin rfl rfl ab_fneq ?_
    refine so_nil ?_
    replace h := ofT h; rcases h with ⟨c106, h⟩ | ⟨c106, h⟩
    · refine fi_true rfl c106 ?_
      refine fi_seq ?_
      refine fi_region ?_
      refine so_assign (v := (.v (.int .i64 (-1 : Int)))) rfl ?_
      refine so_nil ?_
      exact by_ret rfl ⟨_, h, rfl, rfl⟩
    · refine fi_false rfl c106 ?_
      refine fi_skip ?_
      refine fi_region ?_
      refine so_move (v := (.v (.int .i64 k102))) rfl ?_
      refine so_bin rfl rfl ab_add ?_
      refine so_assign (v := (.v (.int .i64 (IntKind.i64.wrap (k102 + (1 : Int)))))) rfl ?_
      refine so_nil ?_
      refine fi_inBlock ?_
      refine fi_region ?_
      refine so_move (v := (.v (.int .i64 i103))) rfl ?_
      refine so_bin rfl rfl ab_add ?_
      refine so_assign (v := (.v (.int .i64 (IntKind.i64.wrap (i103 + (1 : Int)))))) rfl ?_
      refine so_nil ?_
      exact fi_at [(0, (.v v0)), (1, (.v (.int .i64 (IntKind.i64.wrap (k102 + (1 : Int)))))), (5, (.v (.int .i64 (IntKind.i64.wrap (i103 + (1 : Int))))))] ⟨rfl, rfl, rfl, trivial⟩ (h _)
  · refine fi_false rfl (decide_eq_false c104) ?_
    refine fi_exit rfl ?_
    refine fi_seq ?_
    refine fi_region ?_
    refine so_move (v := (.v (.int .i64 k102))) rfl ?_
    refine so_assign (v := (.v (.int .i64 k102))) rfl ?_
    refine so_nil ?_
    exact by_ret rfl ⟨_, h, rfl, rfl⟩

end Go.Proofs.YtmbkjkcolmoioaaGreatDoor.G

namespace Go.Proofs.YtmbkjkcolmoioaaGreatDoor.G
open Go Go.Ab Go.Proofs Go.Proofs.YtmbkjkcolmoioaaGreatDoor
set_option maxRecDepth 100000
set_option linter.unusedVariables false
set_option linter.unusedSimpArgs false
set_option maxHeartbeats 1000000
attribute [local irreducible] wops wopf Go.Ab.Fin
theorem F9.ag22 : tagg Tryz.prog 22 = some false := by kernel_rfl
theorem F9.fd24_2 : tfield Tryz.prog 24 2 = some (2, 1, false) := by kernel_rfl
theorem F9.inf24 : (Tryz.prog.info? 24).isSome = true := by kernel_rfl
theorem laws_heldPicture_ok {fr : List Pc} {H : Heap} (a0 : Int) (a1 : Int) (v2 : AV) (l2 : List (Nat)) (a3 : Int) (hs : Sep H (fr)) (g2 : ∀ H, Sep H fr → Shows H v2 1 (enc (eFlt .f32) l2)) (K : Int → Prop) (h : laws_heldPicture.wp a0 a1 l2 a3 K) : OkQ Tryz.prog 9 [(.g [(.int .i64 a0), (.int .i64 a1), v2]), (.v (.int .i64 a3))] H (fun r H2 => ∃ (y0 : Int), K y0 ∧ r = (.v (.int .i64 y0)) ∧ Sep H2 (fr)) := by
  unfold laws_heldPicture.wp at h
  refine of_body Tryz.f9 F.hm Tryz.func9 rfl Tryz.call9 (by kernel_rfl) (by simp) ?_
  refine fi_seq ?_
  refine fi_region ?_
  refine sv_box hs rfl (c := [(.int .i64 a0), (.int .i64 a1), v2]) rfl F9.inf24 (stc rfl (stc rfl (stc (g2 _ hs).stor stn))) nofun (fun id101 H102 hs => ?_)
  refine so_assign (v := (.v (.int .i64 (0 : Int)))) rfl ?_
  refine so_nil ?_
  refine fi_seq ?_
  refine fi_region ?_
  refine so_fieldAddr rfl F9.fd24_2 ?_
  refine sv_ld hs 0 rfl rfl rfl F9.ag22 ?_
  refine so_move (v := (.v (.int .i64 a3))) rfl ?_
  refine sv_callS (laws_heldFloat32S_ok v2 l2 a3 hs (fun _ hs => (g2 _ hs.tl)) _ h) (fun _ _ ⟨_, _, _, e⟩ => e) rfl rfl ?_
  clear h
  rintro _ _ ⟨y104, h, rfl, rfl⟩
  refine so_assign (v := (.v (.int .i64 y104))) rfl ?_
  refine so_nil ?_
  refine fi_seq ?_
  refine fi_seq ?_
  refine fi_region ?_
  refine so_move (v := (.v (.int .i64 y104))) rfl ?_
  refine so_bin rfl rfl ab_lss ?_
  refine so_nil ?_
  replace h := ofP h; rcases h with ⟨c106, h⟩ | ⟨c106, h⟩
  · refine fi_true rfl (decide_eq_true c106) ?_
    refine fi_seq ?_
    refine fi_region ?_
    refine so_assign (v := (.v (.int .i64 (-1 : Int)))) rfl ?_
    refine so_nil ?_
    exact by_ret rfl ⟨_, h, rfl, (Sep.del 0 hs)⟩
  · refine fi_false rfl (decide_eq_false c106) ?_
    refine fi_skip ?_
    refine fi_seq ?_
    refine fi_region ?_
    refine so_move (v := (.v (.int .i64 y104))) rfl ?_
    refine so_assign (v := (.v (.int .i64 y104))) rfl ?_
    refine so_nil ?_
    exact by_ret rfl ⟨_, h, rfl, (Sep.del 0 hs)⟩
theorem laws_heldPicture_okS {fr : List Pc} {H : Heap} (a0 : Int) (a1 : Int) (v2 : AV) (l2 : List (Nat)) (a3 : Int) (hs : Sep H fr) (g2 : ∀ H, Sep H fr → Shows H v2 1 (enc (eFlt .f32) l2)) (K : Int → Prop) (h : laws_heldPicture.wp a0 a1 l2 a3 K) : OkQ Tryz.prog 9 [(.g [(.int .i64 a0), (.int .i64 a1), v2]), (.v (.int .i64 a3))] H (fun r H2 => ∃ (y0 : Int), K y0 ∧ r = (.v (.int .i64 y0)) ∧ H = H2) := by
  obtain ⟨r, H2, h1, y0, hK, hr, hsep⟩ := laws_heldPicture_ok (fr := came H) (H := H) a0 a1 v2 l2 a3 (came_sep H) (came_shows (g2 H hs)) K h
  have hk : H.n ≤ H2.n ∧ ∀ i, i < H.n → H2.f i = H.f i := hsep.1.2.1
  exact ⟨r, H, h1.forget hk.1 hk.2 (by subst hr; rfl), y0, hK, hr, rfl⟩

end Go.Proofs.YtmbkjkcolmoioaaGreatDoor.G

namespace Go.Proofs.YtmbkjkcolmoioaaGreatDoor.G
open Go Go.Ab Go.Proofs Go.Proofs.YtmbkjkcolmoioaaGreatDoor
set_option maxRecDepth 100000
set_option linter.unusedVariables false
set_option linter.unusedSimpArgs false
set_option maxHeartbeats 1000000
attribute [local irreducible] wops wopf Go.Ab.Fin
theorem F3.ag24 : tagg Tryz.prog 24 = some true := by kernel_rfl
theorem F3.sr9 : tstr Tryz.prog 9 = true := by kernel_rfl
theorem F3.sz24 : tsz Tryz.prog 24 = some 3 := by kernel_rfl
theorem F3.tb4 : tbool Tryz.prog 4 = true := by kernel_rfl
theorem F3.ze24 : tzero Tryz.prog 24 = some [(.int .i64 (0 : Int)), (.int .i64 (0 : Int)), .nilsl] := by kernel_rfl
theorem laws_FnExactReadPicture_ok {fr : List Pc} {H : Heap} (a0 : List UInt8) (hs : Sep H (fr)) (gt2 : ∀ H, Sep H fr → HasTab 2 F.tab2 H) (gt3 : ∀ H, Sep H fr → HasTab 3 F.tab3 H) (gt4 : ∀ H, Sep H fr → HasTab 4 F.tab4 H) (gt6 : ∀ H, Sep H fr → HasTab 6 F.tab6 H) (K : Bool → Prop) (h : laws_FnExactReadPicture.wp a0 K) : OkQ Tryz.prog 3 [(.v (.str (pk a0)))] H (fun r H2 => ∃ (y0 : Bool), K y0 ∧ r = (.v (.bool y0)) ∧ Sep H2 (fr)) := by
  unfold laws_FnExactReadPicture.wp at h
  refine of_body Tryz.f3 F.hm Tryz.func3 rfl Tryz.call3 (by kernel_rfl) (by simp) ?_
  refine fi_seq ?_
  refine fi_region ?_
  refine so_assign (v := (.v (.bool false))) rfl ?_
  refine so_nil ?_
  refine fi_seq ?_
  refine fi_seq ?_
  refine fi_region ?_
  refine so_move (v := (.v (.str (pk a0)))) rfl ?_
  refine so_slen rfl F3.sr9 ?_
  refine so_bin rfl rfl ab_gtr ?_
  refine so_nil ?_
  replace h := ofP h; rcases h with ⟨c101, h⟩ | ⟨c101, h⟩
  · refine fi_true rfl (decide_eq_true c101) ?_
    refine fi_seq ?_
    refine fi_region ?_
    refine so_assign (v := (.v (.bool true))) rfl ?_
    refine so_nil ?_
    exact by_ret rfl ⟨_, h, rfl, hs⟩
  · refine fi_false rfl (decide_eq_false c101) ?_
    refine fi_skip ?_
    refine fi_seq ?_
    refine fi_region ?_
    refine so_move (v := (.v (.str (pk a0)))) rfl ?_
    refine sv_call (spec_ReadPicture_ok a0 hs  _ h) rfl rfl nofun ?_
    clear h hs
    rintro _ H108 ⟨y102, y103, y104, y107, h, v105, rfl, hs⟩
    refine so_move (v := (.t [(.g [(.int .i64 y102), (.int .i64 y103), v105]), (.v (.bool y107))])) rfl ?_
    refine so_extract rfl rfl rfl ?_
    refine so_extract rfl rfl rfl ?_
    refine sv_alloc hs F3.ze24 rfl nofun (fun id109 H110 hs => ?_)
    refine sv_st hs 0 rfl rfl rfl (c := [(.int .i64 y102), (.int .i64 y103), v105]) rfl F3.sz24 rfl (stc rfl (stc rfl (stc (hs.shows 1 rfl).stor stn))) (leb rfl) (cs' := [(.int .i64 y102), (.int .i64 y103), v105]) rfl nofun (fun H112 hs => ?_)
    refine so_assign (v := (.v (.bool y107))) rfl ?_
    refine so_nil ?_
    refine fi_seq ?_
    refine fi_region ?_
    refine so_move (v := (.v (.str (pk a0)))) rfl ?_
    refine sv_call (impl_ReadPicture_ok a0 hs (fun _ hs => gt2 _ hs.tl.tl) (fun _ hs => gt3 _ hs.tl.tl) (fun _ hs => gt4 _ hs.tl.tl) (fun _ hs => gt6 _ hs.tl.tl) _ h) rfl rfl nofun ?_
    clear h hs
    rintro _ H119 ⟨y113, y114, y115, y118, h, v116, rfl, hs⟩
    refine so_move (v := (.t [(.g [(.int .i64 y113), (.int .i64 y114), v116]), (.v (.bool y118))])) rfl ?_
    refine so_extract rfl rfl rfl ?_
    refine so_extract rfl rfl rfl ?_
    refine sv_alloc hs F3.ze24 rfl nofun (fun id120 H121 hs => ?_)
    refine sv_st hs 0 rfl rfl rfl (c := [(.int .i64 y113), (.int .i64 y114), v116]) rfl F3.sz24 rfl (stc rfl (stc rfl (stc (hs.shows 1 rfl).stor stn))) (leb rfl) (cs' := [(.int .i64 y113), (.int .i64 y114), v116]) rfl nofun (fun H123 hs => ?_)
    refine so_assign (v := (.v (.bool y118))) rfl ?_
    refine so_nil ?_
    refine fi_seq ?_
    refine fi_seq ?_
    refine fi_region ?_
    refine sv_lds hs 0 rfl rfl (leb rfl) rfl F3.ag24 F3.sz24 ?_
    refine sv_lds hs 2 rfl rfl (leb rfl) rfl F3.ag24 F3.sz24 ?_
    refine sv_callS (laws_eqPicture_okS y113 y114 v116 y115 y102 y103 v105 y104 hs (fun _ hs => (hs.shows 1 rfl)) (fun _ hs => (hs.shows 3 rfl)) _ h) (fun _ _ ⟨_, _, _, e⟩ => e) rfl rfl ?_
    clear h
    rintro _ _ ⟨y124, h, rfl, rfl⟩
    refine so_un rfl au_not ?_
    refine so_move (v := (.v (.bool (!y124)))) rfl ?_
    replace h := ofT h; rcases h with ⟨c126, h⟩ | ⟨c126, h⟩
    · refine so_gyes rfl (not_f c126) ?_
      refine so_move (v := (.v (.bool y118))) rfl ?_
      refine so_gyes rfl (not_f c126) ?_
      refine so_move (v := (.v (.bool y107))) rfl ?_
      refine so_gyes rfl (not_f c126) ?_
      refine so_bin rfl rfl (ab_bneq F3.tb4) ?_
      refine so_pick_f (v := (.v (.bool (!(y118 == y107))))) rfl (not_f c126) rfl ?_
      refine so_nil ?_
      replace h := ofT h; rcases h with ⟨c127, h⟩ | ⟨c127, h⟩
      · refine fi_false rfl (not_f c127) ?_
        refine fi_skip ?_
        refine fi_seq ?_
        refine fi_region ?_
        refine so_assign (v := (.v (.int .i64 (1 : Int)))) rfl ?_
        refine so_nil ?_
        refine fi_seq ?_
        refine fi_region ?_
        refine sv_lds hs 0 rfl rfl (leb rfl) rfl F3.ag24 F3.sz24 ?_
        refine so_move (v := (.v (.int .i64 (1 : Int)))) rfl ?_
        replace hs := (Sep.front 1 hs rfl)
        refine sv_call (laws_markPicture_ok y113 y114 v116 y115 (1 : Int) hs  _ h) rfl rfl nofun ?_
        clear h hs
        rintro _ H130 ⟨y128, y129, h, rfl, hs⟩
        refine so_assign (v := (.v (.int .i64 y128))) rfl ?_
        refine so_nil ?_
        refine fi_seq ?_
        refine fi_region ?_
        refine so_assign (v := (.v (.int .i64 (1 : Int)))) rfl ?_
        refine so_nil ?_
        refine fi_seq ?_
        refine fi_region ?_
        refine sv_lds hs 1 rfl rfl (leb rfl) rfl F3.ag24 F3.sz24 ?_
        refine so_move (v := (.v (.int .i64 (1 : Int)))) rfl ?_
        refine sv_callS (laws_heldPicture_okS y113 y114 v116 y129 (1 : Int) hs (fun _ hs => (hs.shows 0 rfl)) _ h) (fun _ _ ⟨_, _, _, e⟩ => e) rfl rfl ?_
        clear h
        rintro _ _ ⟨y131, h, rfl, rfl⟩
        refine so_assign (v := (.v (.int .i64 y131))) rfl ?_
        refine so_nil ?_
        refine fi_seq ?_
        refine fi_seq ?_
        refine fi_region ?_
        refine so_move (v := (.v (.int .i64 y131))) rfl ?_
        refine so_bin rfl rfl ab_lss ?_
        refine so_nil ?_
        replace h := ofP h; rcases h with ⟨c133, h⟩ | ⟨c133, h⟩
        · refine fi_true rfl (decide_eq_true c133) ?_
          refine fi_seq ?_
          refine fi_region ?_
          refine so_assign (v := (.v (.bool false))) rfl ?_
          refine so_nil ?_
          exact by_ret rfl ⟨_, h, rfl, (Sep.dropn 4 hs)⟩
        · refine fi_false rfl (decide_eq_false c133) ?_
          refine fi_skip ?_
          refine fi_seq ?_
          refine fi_seq ?_
          refine fi_region ?_
          refine so_move (v := (.v (.int .i64 y131))) rfl ?_
          refine so_move (v := (.v (.int .i64 y128))) rfl ?_
          refine so_bin rfl rfl ab_neq ?_
          refine so_nil ?_
          replace h := ofP h; rcases h with ⟨c134, h⟩ | ⟨c134, h⟩
          · refine fi_false rfl (not_f (decide_eq_true c134)) ?_
            refine fi_skip ?_
            refine fi_seq ?_
            refine fi_region ?_
            refine so_move (v := (.v (.str (pk a0)))) rfl ?_
            refine sv_call (impl_ReadPicture_ok a0 hs (fun _ hs => gt2 _ hs.tl.tl.tl.tl) (fun _ hs => gt3 _ hs.tl.tl.tl.tl) (fun _ hs => gt4 _ hs.tl.tl.tl.tl) (fun _ hs => gt6 _ hs.tl.tl.tl.tl) _ h) rfl rfl nofun ?_
            clear h hs
            rintro _ H141 ⟨y135, y136, y137, y140, h, v138, rfl, hs⟩
            refine so_move (v := (.t [(.g [(.int .i64 y135), (.int .i64 y136), v138]), (.v (.bool y140))])) rfl ?_
            refine so_extract rfl rfl rfl ?_
            refine so_extract rfl rfl rfl ?_
            refine sv_alloc hs F3.ze24 rfl nofun (fun id142 H143 hs => ?_)
            refine sv_st hs 0 rfl rfl rfl (c := [(.int .i64 y135), (.int .i64 y136), v138]) rfl F3.sz24 rfl (stc rfl (stc rfl (stc (hs.shows 1 rfl).stor stn))) (leb rfl) (cs' := [(.int .i64 y135), (.int .i64 y136), v138]) rfl nofun (fun H145 hs => ?_)
            refine so_assign (v := (.v (.bool y140))) rfl ?_
            refine so_nil ?_
            refine fi_seq ?_
            refine fi_seq ?_
            refine fi_region ?_
            refine sv_lds hs 0 rfl rfl (leb rfl) rfl F3.ag24 F3.sz24 ?_
            refine sv_lds hs 4 rfl rfl (leb rfl) rfl F3.ag24 F3.sz24 ?_
            refine sv_callS (laws_eqPicture_okS y135 y136 v138 y137 y102 y103 v105 y104 hs (fun _ hs => (hs.shows 1 rfl)) (fun _ hs => (hs.shows 5 rfl)) _ h) (fun _ _ ⟨_, _, _, e⟩ => e) rfl rfl ?_
            clear h
            rintro _ _ ⟨y146, h, rfl, rfl⟩
            refine so_un rfl au_not ?_
            refine so_move (v := (.v (.bool (!y146)))) rfl ?_
            replace h := ofT h; rcases h with ⟨c148, h⟩ | ⟨c148, h⟩
            · refine so_gyes rfl (not_f c148) ?_
              refine so_move (v := (.v (.bool y140))) rfl ?_
              refine so_gyes rfl (not_f c148) ?_
              refine so_move (v := (.v (.bool y107))) rfl ?_
              refine so_gyes rfl (not_f c148) ?_
              refine so_bin rfl rfl (ab_bneq F3.tb4) ?_
              refine so_pick_f (v := (.v (.bool (!(y140 == y107))))) rfl (not_f c148) rfl ?_
              refine so_nil ?_
              replace h := ofT h; rcases h with ⟨c149, h⟩ | ⟨c149, h⟩
              · refine fi_false rfl (not_f c149) ?_
                refine fi_skip ?_
                refine fi_seq ?_
                refine fi_region ?_
                refine so_assign (v := (.v (.int .i64 (1 : Int)))) rfl ?_
                refine so_nil ?_
                refine fi_seq ?_
                refine fi_region ?_
                refine sv_lds hs 3 rfl rfl (leb rfl) rfl F3.ag24 F3.sz24 ?_
                refine so_move (v := (.v (.int .i64 (1 : Int)))) rfl ?_
                refine sv_callS (laws_heldPicture_okS y113 y114 v116 y129 (1 : Int) hs (fun _ hs => (hs.shows 2 rfl)) _ h) (fun _ _ ⟨_, _, _, e⟩ => e) rfl rfl ?_
                clear h
                rintro _ _ ⟨y150, h, rfl, rfl⟩
                refine so_assign (v := (.v (.int .i64 y150))) rfl ?_
                refine so_nil ?_
                refine fi_seq ?_
                refine fi_seq ?_
                refine fi_region ?_
                refine so_move (v := (.v (.int .i64 y150))) rfl ?_
                refine so_bin rfl rfl ab_lss ?_
                refine so_nil ?_
                replace h := ofP h; rcases h with ⟨c152, h⟩ | ⟨c152, h⟩
                · refine fi_true rfl (decide_eq_true c152) ?_
                  refine fi_seq ?_
                  refine fi_region ?_
                  refine so_assign (v := (.v (.bool false))) rfl ?_
                  refine so_nil ?_
                  exact by_ret rfl ⟨_, h, rfl, (Sep.dropn 6 hs)⟩
                · refine fi_false rfl (decide_eq_false c152) ?_
                  refine fi_skip ?_
                  refine fi_seq ?_
                  refine fi_seq ?_
                  refine fi_region ?_
                  refine so_move (v := (.v (.int .i64 y150))) rfl ?_
                  refine so_move (v := (.v (.int .i64 y128))) rfl ?_
                  refine so_bin rfl rfl ab_neq ?_
                  refine so_nil ?_
                  replace h := ofP h; rcases h with ⟨c153, h⟩ | ⟨c153, h⟩
                  · refine fi_false rfl (not_f (decide_eq_true c153)) ?_
                    refine fi_skip ?_
                    refine fi_seq ?_
                    refine fi_region ?_
                    refine so_assign (v := (.v (.bool true))) rfl ?_
                    refine so_nil ?_
                    exact by_ret rfl ⟨_, h, rfl, (Sep.dropn 6 hs)⟩
                  · refine fi_true rfl (not_t (decide_eq_false c153)) ?_
                    refine fi_seq ?_
                    refine fi_region ?_
                    refine so_assign (v := (.v (.bool false))) rfl ?_
                    refine so_nil ?_
                    exact by_ret rfl ⟨_, h, rfl, (Sep.dropn 6 hs)⟩
              · refine fi_true rfl (not_t c149) ?_
                refine fi_seq ?_
                refine fi_region ?_
                refine so_assign (v := (.v (.bool false))) rfl ?_
                refine so_nil ?_
                exact by_ret rfl ⟨_, h, rfl, (Sep.dropn 6 hs)⟩
            · refine so_gno rfl (not_t c148) ?_
              refine so_gno rfl (not_t c148) ?_
              refine so_gno rfl (not_t c148) ?_
              refine so_pick_t (v := (.v (.bool true))) rfl (not_t c148) rfl ?_
              refine so_nil ?_
              refine fi_true rfl rfl ?_
              refine fi_seq ?_
              refine fi_region ?_
              refine so_assign (v := (.v (.bool false))) rfl ?_
              refine so_nil ?_
              exact by_ret rfl ⟨_, h, rfl, (Sep.dropn 6 hs)⟩
          · refine fi_true rfl (not_t (decide_eq_false c134)) ?_
            refine fi_seq ?_
            refine fi_region ?_
            refine so_assign (v := (.v (.bool false))) rfl ?_
            refine so_nil ?_
            exact by_ret rfl ⟨_, h, rfl, (Sep.dropn 4 hs)⟩
      · refine fi_true rfl (not_t c127) ?_
        refine fi_seq ?_
        refine fi_region ?_
        refine so_assign (v := (.v (.bool false))) rfl ?_
        refine so_nil ?_
        exact by_ret rfl ⟨_, h, rfl, (Sep.dropn 4 hs)⟩
    · refine so_gno rfl (not_t c126) ?_
      refine so_gno rfl (not_t c126) ?_
      refine so_gno rfl (not_t c126) ?_
      refine so_pick_t (v := (.v (.bool true))) rfl (not_t c126) rfl ?_
      refine so_nil ?_
      refine fi_true rfl rfl ?_
      refine fi_seq ?_
      refine fi_region ?_
      refine so_assign (v := (.v (.bool false))) rfl ?_
      refine so_nil ?_
      exact by_ret rfl ⟨_, h, rfl, (Sep.dropn 4 hs)⟩

end Go.Proofs.YtmbkjkcolmoioaaGreatDoor.G

