/-
  The model ends so. Printed by a program of the session; nothing here is trusted.
-/
import Derived.Test.YtncblpfphehlpaaDoorProg
import Derived.KernelRfl
import Derived.Test.YtncblpfphehlpaaDoorMExactCountOutputsWa
import Derived.Test.YtncblpfphehlpaaDoorShelf
namespace Go.Proofs.YtncblpfphehlpaaDoor.F
open Go Go.Ab Go.Proofs
set_option maxRecDepth 100000
set_option linter.unusedVariables false
set_option linter.unusedSimpArgs false
set_option maxHeartbeats 1000000
theorem hm : Tryd.prog.follows .mixedOrders = true := by kernel_rfl
end Go.Proofs.YtncblpfphehlpaaDoor.F

namespace Go.Proofs.YtncblpfphehlpaaDoor.G
open Go Go.Ab Go.Proofs Go.Proofs.YtncblpfphehlpaaDoor
set_option maxRecDepth 100000
set_option linter.unusedVariables false
set_option linter.unusedSimpArgs false
set_option maxHeartbeats 1000000
attribute [local irreducible] wops wopf Go.Ab.Fin
theorem strings_Index_ok {fr : List Pc} {H : Heap} (a0 : List UInt8) (a1 : List UInt8) (hs : Sep H fr) (K : Int → Prop) (h : strings_Index.wp a0 a1 K) : OkQ Tryd.prog 69 [.v (.str (pk a0)), .v (.str (pk a1))] H (fun r H2 => ∃ (y0 : Int), K y0 ∧ r = (.v (.int .i64 y0)) ∧ H = H2) := by
  obtain ⟨c, rfl, h⟩ := h
  exact ⟨.v (.int .i64 (Lib.indexByte a0 c)), _, ok_lib [.string (pk a0), .string (pk [c])] (.int .i64 (Lib.indexByte a0 c)) Tryd.call69 (args_ss _ _) (fun β => rfl) (fun w => Any.strings_Index_one Tryd.lays143 (pk a0) c w), _, h, rfl, rfl⟩

end Go.Proofs.YtncblpfphehlpaaDoor.G

namespace Go.Proofs.YtncblpfphehlpaaDoor.G
open Go Go.Ab Go.Proofs Go.Proofs.YtncblpfphehlpaaDoor
set_option maxRecDepth 100000
set_option linter.unusedVariables false
set_option linter.unusedSimpArgs false
set_option maxHeartbeats 1000000
attribute [local irreducible] wops wopf Go.Ab.Fin
theorem strings_explode_ok {fr : List Pc} {H : Heap} (a0 : List UInt8) (a1 : Int) (hs : Sep H (fr))  (K : (List (List UInt8)) → Prop) (h : strings_explode.wp a0 a1 K) : OkQ Tryd.prog 95 [(.v (.str (pk a0))), (.v (.int .i64 a1))] H (fun r H2 => ∃ (y0 : List (List UInt8)), K y0 ∧ ∃ (w0_ : AV), r = (.v w0_) ∧ Sep H2 (Pc.osl w0_ 1 (enc eStr y0) :: fr)) := by
  unfold strings_explode.wp at h
  refine of_body Tryd.f95 F.hm Tryd.func95 rfl Tryd.call95 (by kernel_rfl) (by simp) ?_
  exact h.elim

end Go.Proofs.YtncblpfphehlpaaDoor.G

namespace Go.Proofs.YtncblpfphehlpaaDoor.G
open Go Go.Ab Go.Proofs Go.Proofs.YtncblpfphehlpaaDoor
set_option maxRecDepth 100000
set_option linter.unusedVariables false
set_option linter.unusedSimpArgs false
set_option maxHeartbeats 1000000
attribute [local irreducible] wops wopf Go.Ab.Fin
theorem strings_Count_ok {fr : List Pc} {H : Heap} (a0 : List UInt8) (a1 : List UInt8) (hs : Sep H fr) (K : Int → Prop) (h : strings_Count.wp a0 a1 K) : OkQ Tryd.prog 96 [.v (.str (pk a0)), .v (.str (pk a1))] H (fun r H2 => ∃ (y0 : Int), K y0 ∧ r = (.v (.int .i64 y0)) ∧ H = H2) := by
  obtain ⟨c, rfl, h⟩ := h
  exact ⟨.v (.int .i64 ((Lib.countByte a0 c : Nat) : Int)), _, ok_lib [.string (pk a0), .string (pk [c])] (.int .i64 ((Lib.countByte a0 c : Nat) : Int)) Tryd.call96 (args_ss _ _) (fun β => rfl) (fun w => Any.strings_Count_one Tryd.lays138 (pk a0) c w), _, h, rfl, rfl⟩

end Go.Proofs.YtncblpfphehlpaaDoor.G

namespace Go.Proofs.YtncblpfphehlpaaDoor.G
open Go Go.Ab Go.Proofs Go.Proofs.YtncblpfphehlpaaDoor
set_option maxRecDepth 100000
set_option linter.unusedVariables false
set_option linter.unusedSimpArgs false
set_option maxHeartbeats 1000000
attribute [local irreducible] wops wopf Go.Ab.Fin
theorem F82.by9 : tbytes Tryd.prog 9 = some 16 := by kernel_rfl
theorem F82.sr9 : tstr Tryd.prog 9 = true := by kernel_rfl
theorem F82.sz9 : tsz Tryd.prog 9 = some 1 := by kernel_rfl
theorem F82.te30 : telem Tryd.prog 30 = some 9 := by kernel_rfl
theorem F82.tl30 : (telem Tryd.prog 30).bind (tsz Tryd.prog) = some 1 := by kernel_rfl
theorem F82.ze9 : tzero Tryd.prog 9 = some [(.str (pk ([] : List UInt8)))] := by kernel_rfl
theorem strings_genSplit_ok {fr : List Pc} {H : Heap} (a0 : List UInt8) (a1 : List UInt8) (a2 : Int) (a3 : Int) (hs : Sep H (fr))  (K : (List (List UInt8)) → Prop) (h : strings_genSplit.wp a0 a1 a2 a3 K) : OkQ Tryd.prog 82 [(.v (.str (pk a0))), (.v (.str (pk a1))), (.v (.int .i64 a2)), (.v (.int .i64 a3))] H (fun r H2 => ∃ (y0 : List (List UInt8)), K y0 ∧ ∃ (w0_ : AV), r = (.v w0_) ∧ Sep H2 (rdp w0_ 1 (enc eStr y0) :: fr)) := by
  unfold strings_genSplit.wp at h
  refine of_body Tryd.f82 F.hm Tryd.func82 rfl Tryd.call82 (by kernel_rfl) (by simp) ?_
  refine fi_seq ?_
  refine fi_region ?_
  refine so_assign (v := (.v .nilsl)) rfl ?_
  refine so_nil ?_
  refine fi_seq ?_
  refine fi_seq ?_
  refine fi_region ?_
  refine so_move (v := (.v (.int .i64 a3))) rfl ?_
  refine so_bin rfl rfl ab_eql ?_
  refine so_nil ?_
  replace h := ofP h; rcases h with ⟨c101, h⟩ | ⟨c101, h⟩
  · refine fi_true rfl (decide_eq_true c101) ?_
    refine fi_seq ?_
    refine fi_region ?_
    refine so_assign (v := (.v .nilsl)) rfl ?_
    refine so_nil ?_
    exact by_ret rfl ⟨_, h, _, rfl, (Sep.tord (Sep.nil hs 1) (.inl ⟨rfl, rfl⟩) (fun _ h => h))⟩
  · refine fi_false rfl (decide_eq_false c101) ?_
    refine fi_skip ?_
    refine fi_seq ?_
    refine fi_seq ?_
    refine fi_region ?_
    refine so_move (v := (.v (.str (pk a1)))) rfl ?_
    refine so_bin rfl rfl ab_seql ?_
    refine so_nil ?_
    replace h := ofP h; rcases h with ⟨c102, h⟩ | ⟨c102, h⟩
    · refine fi_true rfl (decide_eq_true c102) ?_
      refine fi_seq ?_
      refine fi_region ?_
      refine so_move (v := (.v (.str (pk a0)))) rfl ?_
      refine so_move (v := (.v (.int .i64 a3))) rfl ?_
      refine sv_call (strings_explode_ok a0 a3 hs  _ h) rfl rfl nofun ?_
      clear h hs
      rintro _ H106 ⟨y103, h, v104, rfl, hs⟩
      refine so_assign (v := (.v v104)) rfl ?_
      refine so_nil ?_
      exact by_ret rfl ⟨_, h, _, rfl, (Sep.tord hs (hs.shows 0 rfl) (fun _ h => h))⟩
    · refine fi_false rfl (decide_eq_false c102) ?_
      refine fi_skip ?_
      refine fi_seq ?_
      refine fi_seq ?_
      refine fi_region ?_
      refine so_move (v := (.v (.int .i64 a3))) rfl ?_
      refine so_bin rfl rfl ab_lss ?_
      refine so_nil ?_
      replace h := ofP h; rcases h with ⟨c107, h⟩ | ⟨c107, h⟩
      · refine fi_true rfl (decide_eq_true c107) ?_
        refine fi_region ?_
        refine so_move (v := (.v (.str (pk a0)))) rfl ?_
        refine so_move (v := (.v (.str (pk a1)))) rfl ?_
        refine sv_callS (strings_Count_ok a0 a1 hs  _ h) (fun _ _ ⟨_, _, _, e⟩ => e) rfl rfl ?_
        clear h
        rintro _ _ ⟨y108, h, rfl, rfl⟩
        refine so_bin rfl rfl ab_add ?_
        refine so_assign (v := (.v (.int .i64 (IntKind.i64.wrap (y108 + (1 : Int)))))) rfl ?_
        refine so_nil ?_
        refine fi_seq ?_
        refine fi_region ?_
        refine so_move (v := (.v (.int .i64 (IntKind.i64.wrap (y108 + (1 : Int)))))) rfl ?_
        refine so_move (v := (.v (.str (pk a0)))) rfl ?_
        refine so_slen rfl F82.sr9 ?_
        refine so_bin rfl rfl ab_add ?_
        refine sv_min rfl rfl ?_
        refine so_assign (v := (.v (.int .i64 (mnI (IntKind.i64.wrap (y108 + (1 : Int))) (IntKind.i64.wrap ((a0.length : Int) + (1 : Int))))))) rfl ?_
        refine so_nil ?_
        refine fi_seq ?_
        refine fi_region ?_
        refine so_move (v := (.v (.int .i64 (mnI (IntKind.i64.wrap (y108 + (1 : Int))) (IntKind.i64.wrap ((a0.length : Int) + (1 : Int))))))) rfl ?_
        obtain ⟨c110, h⟩ := h
        refine sv_make hs eStr ([] : List UInt8) c110 (fun _ => rfl) rfl rfl F82.te30 F82.sz9 F82.by9 F82.ze9 rfl rfl nofun (fun v111 H112 nv111 hs => ?_)
        refine so_assign (v := (.v v111)) rfl ?_
        refine so_nil ?_
        refine fi_seq ?_
        refine fi_region ?_
        refine so_move (v := (.v (.int .i64 (mnI (IntKind.i64.wrap (y108 + (1 : Int))) (IntKind.i64.wrap ((a0.length : Int) + (1 : Int))))))) rfl ?_
        refine so_bin rfl rfl ab_sub ?_
        refine so_assign (v := (.v (.int .i64 (IntKind.i64.wrap ((mnI (IntKind.i64.wrap (y108 + (1 : Int))) (IntKind.i64.wrap ((a0.length : Int) + (1 : Int)))) - (1 : Int)))))) rfl ?_
        refine so_nil ?_
        refine fi_seq ?_
        refine fi_region ?_
        refine so_assign (v := (.v (.int .i64 (0 : Int)))) rfl ?_
        refine so_nil ?_
        refine fi_seq ?_
        refine fi_block ?_
        refine fi_loop ?_
        refine fi_at [(0, (.v (.str (pk a0)))), (1, (.v (.str (pk a1)))), (2, (.v (.int .i64 a2))), (3, (.v (.int .i64 (IntKind.i64.wrap ((mnI (IntKind.i64.wrap (y108 + (1 : Int))) (IntKind.i64.wrap ((a0.length : Int) + (1 : Int)))) - (1 : Int)))))), (9, (.v v111)), (10, (.v (.int .i64 (0 : Int))))] ⟨rfl, rfl, rfl, rfl, rfl, rfl, trivial⟩ ?_
        refine h (fun (a132 : List (List UInt8)) (sq133 : List UInt8) (i134 : Int) => ∀ (s : Nat → TV) (H : Heap), Sep H (Pc.osl v111 1 (enc eStr a132) :: fr) → Fin _ _ (updL s [(0, (.v (.str (pk sq133)))), (1, (.v (.str (pk a1)))), (2, (.v (.int .i64 a2))), (3, (.v (.int .i64 (IntKind.i64.wrap ((mnI (IntKind.i64.wrap (y108 + (1 : Int))) (IntKind.i64.wrap ((a0.length : Int) + (1 : Int)))) - (1 : Int)))))), (9, (.v v111)), (10, (.v (.int .i64 i134)))]) H _) ?_ _ _ hs
        intro a132 sq133 i134 h s149 H150 hs
        refine fi_inLoop ?_
        refine fi_seq ?_
        refine fi_seq ?_
        refine fi_region ?_
        refine so_move (v := (.v (.int .i64 i134))) rfl ?_
        refine so_move (v := (.v (.int .i64 (IntKind.i64.wrap ((mnI (IntKind.i64.wrap (y108 + (1 : Int))) (IntKind.i64.wrap ((a0.length : Int) + (1 : Int)))) - (1 : Int)))))) rfl ?_
        refine so_bin rfl rfl ab_lss ?_
        refine so_nil ?_
        replace h := ofP h; rcases h with ⟨c135, h⟩ | ⟨c135, h⟩
        · refine fi_true rfl (decide_eq_true c135) ?_
          refine fi_skip ?_
          refine fi_block ?_
          refine fi_seq ?_
          refine fi_region ?_
          refine so_move (v := (.v (.str (pk sq133)))) rfl ?_
          refine so_move (v := (.v (.str (pk a1)))) rfl ?_
          refine sv_callS (strings_Index_ok sq133 a1 hs  _ h) (fun _ _ ⟨_, _, _, e⟩ => e) rfl rfl ?_
          clear h
          rintro _ _ ⟨y136, h, rfl, rfl⟩
          refine so_assign (v := (.v (.int .i64 y136))) rfl ?_
          refine so_nil ?_
          refine fi_seq ?_
          refine fi_seq ?_
          refine fi_region ?_
          refine so_move (v := (.v (.int .i64 y136))) rfl ?_
          refine so_bin rfl rfl ab_lss ?_
          refine so_nil ?_
          replace h := ofP h; rcases h with ⟨c138, h⟩ | ⟨c138, h⟩
          · refine fi_true rfl (decide_eq_true c138) ?_
            refine fi_exit rfl ?_
            refine fi_seq ?_
            refine fi_region ?_
            refine so_move (v := (.v v111)) rfl ?_
            refine so_move (v := (.v (.int .i64 i134))) rfl ?_
            refine so_move (v := (.v (.str (pk sq133)))) rfl ?_
            obtain ⟨c139, h⟩ := h
            refine sv_idx (hs.shows 0 rfl) c139 (fun _ => rfl) (by decide) rfl rfl F82.tl30 ?_
            refine sv_set hs 0 rfl c139 sq133 (fun _ => rfl) (by decide) rfl rfl rfl rfl F82.sz9 nofun (fun H140 hs => ?_)
            refine so_nil ?_
            refine fi_seq ?_
            refine fi_region ?_
            refine so_move (v := (.v v111)) rfl ?_
            refine so_move (v := (.v (.int .i64 i134))) rfl ?_
            refine so_bin rfl rfl ab_add ?_
            obtain ⟨c141, h⟩ := h
            refine sv_slice (hs.shows 0 rfl) c141 (fun _ => rfl) (by decide) rfl rfl rfl rfl rfl F82.tl30 ?_
            refine so_assign (v := (.v (v111.cut 1 ((0 : Int)).toNat ((IntKind.i64.wrap (i134 + (1 : Int)))).toNat))) rfl ?_
            refine so_nil ?_
            exact by_ret rfl ⟨_, h, _, rfl, (Sep.tord hs (Shows.cut (e := eStr) (n := 1) (fun _ => rfl) (hs.shows 0 rfl) (by decide) (cutok c141)) (cut_row _ _ _ _))⟩
          · refine fi_false rfl (decide_eq_false c138) ?_
            refine fi_skip ?_
            refine fi_seq ?_
            refine fi_region ?_
            refine so_move (v := (.v v111)) rfl ?_
            refine so_move (v := (.v (.int .i64 i134))) rfl ?_
            refine so_move (v := (.v (.str (pk sq133)))) rfl ?_
            refine so_move (v := (.v (.int .i64 y136))) rfl ?_
            refine so_move (v := (.v (.int .i64 a2))) rfl ?_
            refine so_bin rfl rfl ab_add ?_
            obtain ⟨c142, h⟩ := h
            refine so_sslice rfl rfl rfl F82.sr9 rfl rfl c142 ?_
            obtain ⟨c143, h⟩ := h
            refine sv_idx (hs.shows 0 rfl) c143 (fun _ => rfl) (by decide) rfl rfl F82.tl30 ?_
            refine sv_set hs 0 rfl c143 ((sq133.drop ((0 : Int)).toNat).take (((IntKind.i64.wrap (y136 + a2))).toNat - ((0 : Int)).toNat)) (fun _ => rfl) (by decide) rfl rfl rfl rfl F82.sz9 nofun (fun H144 hs => ?_)
            refine so_nil ?_
            refine fi_seq ?_
            refine fi_region ?_
            refine so_move (v := (.v (.str (pk sq133)))) rfl ?_
            refine so_move (v := (.v (.int .i64 y136))) rfl ?_
            refine so_move (v := (.v (.str (pk a1)))) rfl ?_
            refine so_slen rfl F82.sr9 ?_
            refine so_bin rfl rfl ab_add ?_
            obtain ⟨c145, h⟩ := h
            refine so_sslice rfl rfl rfl F82.sr9 rfl rfl c145 ?_
            refine so_assign (v := (.v (.str (pk ((sq133.drop ((IntKind.i64.wrap (y136 + (a1.length : Int)))).toNat).take (((sq133.length : Int)).toNat - ((IntKind.i64.wrap (y136 + (a1.length : Int)))).toNat)))))) rfl ?_
            refine so_nil ?_
            refine fi_region ?_
            refine so_move (v := (.v (.int .i64 i134))) rfl ?_
            refine so_bin rfl rfl ab_add ?_
            refine so_assign (v := (.v (.int .i64 (IntKind.i64.wrap (i134 + (1 : Int)))))) rfl ?_
            refine so_nil ?_
            refine fi_inBlock ?_
            exact fi_at [(0, (.v (.str (pk ((sq133.drop ((IntKind.i64.wrap (y136 + (a1.length : Int)))).toNat).take (((sq133.length : Int)).toNat - ((IntKind.i64.wrap (y136 + (a1.length : Int)))).toNat)))))), (1, (.v (.str (pk a1)))), (2, (.v (.int .i64 a2))), (3, (.v (.int .i64 (IntKind.i64.wrap ((mnI (IntKind.i64.wrap (y108 + (1 : Int))) (IntKind.i64.wrap ((a0.length : Int) + (1 : Int)))) - (1 : Int)))))), (9, (.v v111)), (10, (.v (.int .i64 (IntKind.i64.wrap (i134 + (1 : Int))))))] ⟨rfl, rfl, rfl, rfl, rfl, rfl, trivial⟩ (h _ _  hs)
        · refine fi_false rfl (decide_eq_false c135) ?_
          refine fi_exit rfl ?_
          refine fi_seq ?_
          refine fi_region ?_
          refine so_move (v := (.v v111)) rfl ?_
          refine so_move (v := (.v (.int .i64 i134))) rfl ?_
          refine so_move (v := (.v (.str (pk sq133)))) rfl ?_
          obtain ⟨c146, h⟩ := h
          refine sv_idx (hs.shows 0 rfl) c146 (fun _ => rfl) (by decide) rfl rfl F82.tl30 ?_
          refine sv_set hs 0 rfl c146 sq133 (fun _ => rfl) (by decide) rfl rfl rfl rfl F82.sz9 nofun (fun H147 hs => ?_)
          refine so_nil ?_
          refine fi_seq ?_
          refine fi_region ?_
          refine so_move (v := (.v v111)) rfl ?_
          refine so_move (v := (.v (.int .i64 i134))) rfl ?_
          refine so_bin rfl rfl ab_add ?_
          obtain ⟨c148, h⟩ := h
          refine sv_slice (hs.shows 0 rfl) c148 (fun _ => rfl) (by decide) rfl rfl rfl rfl rfl F82.tl30 ?_
          refine so_assign (v := (.v (v111.cut 1 ((0 : Int)).toNat ((IntKind.i64.wrap (i134 + (1 : Int)))).toNat))) rfl ?_
          refine so_nil ?_
          exact by_ret rfl ⟨_, h, _, rfl, (Sep.tord hs (Shows.cut (e := eStr) (n := 1) (fun _ => rfl) (hs.shows 0 rfl) (by decide) (cutok c148)) (cut_row _ _ _ _))⟩
      · refine fi_false rfl (decide_eq_false c107) ?_
        refine fi_skip ?_
        refine fi_seq ?_
        refine fi_region ?_
        refine so_move (v := (.v (.int .i64 a3))) rfl ?_
        refine so_move (v := (.v (.str (pk a0)))) rfl ?_
        refine so_slen rfl F82.sr9 ?_
        refine so_bin rfl rfl ab_add ?_
        refine sv_min rfl rfl ?_
        refine so_assign (v := (.v (.int .i64 (mnI a3 (IntKind.i64.wrap ((a0.length : Int) + (1 : Int))))))) rfl ?_
        refine so_nil ?_
        refine fi_seq ?_
        refine fi_region ?_
        refine so_move (v := (.v (.int .i64 (mnI a3 (IntKind.i64.wrap ((a0.length : Int) + (1 : Int))))))) rfl ?_
        obtain ⟨c151, h⟩ := h
        refine sv_make hs eStr ([] : List UInt8) c151 (fun _ => rfl) rfl rfl F82.te30 F82.sz9 F82.by9 F82.ze9 rfl rfl nofun (fun v152 H153 nv152 hs => ?_)
        refine so_assign (v := (.v v152)) rfl ?_
        refine so_nil ?_
        refine fi_seq ?_
        refine fi_region ?_
        refine so_move (v := (.v (.int .i64 (mnI a3 (IntKind.i64.wrap ((a0.length : Int) + (1 : Int))))))) rfl ?_
        refine so_bin rfl rfl ab_sub ?_
        refine so_assign (v := (.v (.int .i64 (IntKind.i64.wrap ((mnI a3 (IntKind.i64.wrap ((a0.length : Int) + (1 : Int)))) - (1 : Int)))))) rfl ?_
        refine so_nil ?_
        refine fi_seq ?_
        refine fi_region ?_
        refine so_assign (v := (.v (.int .i64 (0 : Int)))) rfl ?_
        refine so_nil ?_
        refine fi_seq ?_
        refine fi_block ?_
        refine fi_loop ?_
        refine fi_at [(0, (.v (.str (pk a0)))), (1, (.v (.str (pk a1)))), (2, (.v (.int .i64 a2))), (3, (.v (.int .i64 (IntKind.i64.wrap ((mnI a3 (IntKind.i64.wrap ((a0.length : Int) + (1 : Int)))) - (1 : Int)))))), (9, (.v v152)), (10, (.v (.int .i64 (0 : Int))))] ⟨rfl, rfl, rfl, rfl, rfl, rfl, trivial⟩ ?_
        refine h (fun (a173 : List (List UInt8)) (sq174 : List UInt8) (i175 : Int) => ∀ (s : Nat → TV) (H : Heap), Sep H (Pc.osl v152 1 (enc eStr a173) :: fr) → Fin _ _ (updL s [(0, (.v (.str (pk sq174)))), (1, (.v (.str (pk a1)))), (2, (.v (.int .i64 a2))), (3, (.v (.int .i64 (IntKind.i64.wrap ((mnI a3 (IntKind.i64.wrap ((a0.length : Int) + (1 : Int)))) - (1 : Int)))))), (9, (.v v152)), (10, (.v (.int .i64 i175)))]) H _) ?_ _ _ hs
        intro a173 sq174 i175 h s190 H191 hs
        refine fi_inLoop ?_
        refine fi_seq ?_
        refine fi_seq ?_
        refine fi_region ?_
        refine so_move (v := (.v (.int .i64 i175))) rfl ?_
        refine so_move (v := (.v (.int .i64 (IntKind.i64.wrap ((mnI a3 (IntKind.i64.wrap ((a0.length : Int) + (1 : Int)))) - (1 : Int)))))) rfl ?_
        refine so_bin rfl rfl ab_lss ?_
        refine so_nil ?_
        replace h := ofP h; rcases h with ⟨c176, h⟩ | ⟨c176, h⟩
        · refine fi_true rfl (decide_eq_true c176) ?_
          refine fi_skip ?_
          refine fi_block ?_
          refine fi_seq ?_
          refine fi_region ?_
          refine so_move (v := (.v (.str (pk sq174)))) rfl ?_
          refine so_move (v := (.v (.str (pk a1)))) rfl ?_
          refine sv_callS (strings_Index_ok sq174 a1 hs  _ h) (fun _ _ ⟨_, _, _, e⟩ => e) rfl rfl ?_
          clear h
          rintro _ _ ⟨y177, h, rfl, rfl⟩
          refine so_assign (v := (.v (.int .i64 y177))) rfl ?_
          refine so_nil ?_
          refine fi_seq ?_
          refine fi_seq ?_
          refine fi_region ?_
          refine so_move (v := (.v (.int .i64 y177))) rfl ?_
          refine so_bin rfl rfl ab_lss ?_
          refine so_nil ?_
          replace h := ofP h; rcases h with ⟨c179, h⟩ | ⟨c179, h⟩
          · refine fi_true rfl (decide_eq_true c179) ?_
            refine fi_exit rfl ?_
            refine fi_seq ?_
            refine fi_region ?_
            refine so_move (v := (.v v152)) rfl ?_
            refine so_move (v := (.v (.int .i64 i175))) rfl ?_
            refine so_move (v := (.v (.str (pk sq174)))) rfl ?_
            obtain ⟨c180, h⟩ := h
            refine sv_idx (hs.shows 0 rfl) c180 (fun _ => rfl) (by decide) rfl rfl F82.tl30 ?_
            refine sv_set hs 0 rfl c180 sq174 (fun _ => rfl) (by decide) rfl rfl rfl rfl F82.sz9 nofun (fun H181 hs => ?_)
            refine so_nil ?_
            refine fi_seq ?_
            refine fi_region ?_
            refine so_move (v := (.v v152)) rfl ?_
            refine so_move (v := (.v (.int .i64 i175))) rfl ?_
            refine so_bin rfl rfl ab_add ?_
            obtain ⟨c182, h⟩ := h
            refine sv_slice (hs.shows 0 rfl) c182 (fun _ => rfl) (by decide) rfl rfl rfl rfl rfl F82.tl30 ?_
            refine so_assign (v := (.v (v152.cut 1 ((0 : Int)).toNat ((IntKind.i64.wrap (i175 + (1 : Int)))).toNat))) rfl ?_
            refine so_nil ?_
            exact by_ret rfl ⟨_, h, _, rfl, (Sep.tord hs (Shows.cut (e := eStr) (n := 1) (fun _ => rfl) (hs.shows 0 rfl) (by decide) (cutok c182)) (cut_row _ _ _ _))⟩
          · refine fi_false rfl (decide_eq_false c179) ?_
            refine fi_skip ?_
            refine fi_seq ?_
            refine fi_region ?_
            refine so_move (v := (.v v152)) rfl ?_
            refine so_move (v := (.v (.int .i64 i175))) rfl ?_
            refine so_move (v := (.v (.str (pk sq174)))) rfl ?_
            refine so_move (v := (.v (.int .i64 y177))) rfl ?_
            refine so_move (v := (.v (.int .i64 a2))) rfl ?_
            refine so_bin rfl rfl ab_add ?_
            obtain ⟨c183, h⟩ := h
            refine so_sslice rfl rfl rfl F82.sr9 rfl rfl c183 ?_
            obtain ⟨c184, h⟩ := h
            refine sv_idx (hs.shows 0 rfl) c184 (fun _ => rfl) (by decide) rfl rfl F82.tl30 ?_
            refine sv_set hs 0 rfl c184 ((sq174.drop ((0 : Int)).toNat).take (((IntKind.i64.wrap (y177 + a2))).toNat - ((0 : Int)).toNat)) (fun _ => rfl) (by decide) rfl rfl rfl rfl F82.sz9 nofun (fun H185 hs => ?_)
            refine so_nil ?_
            refine fi_seq ?_
            refine fi_region ?_
            refine so_move (v := (.v (.str (pk sq174)))) rfl ?_
            refine so_move (v := (.v (.int .i64 y177))) rfl ?_
            refine so_move (v := (.v (.str (pk a1)))) rfl ?_
            refine so_slen rfl F82.sr9 ?_
            refine so_bin rfl rfl ab_add ?_
            obtain ⟨c186, h⟩ := h
            refine so_sslice rfl rfl rfl F82.sr9 rfl rfl c186 ?_
            refine so_assign (v := (.v (.str (pk ((sq174.drop ((IntKind.i64.wrap (y177 + (a1.length : Int)))).toNat).take (((sq174.length : Int)).toNat - ((IntKind.i64.wrap (y177 + (a1.length : Int)))).toNat)))))) rfl ?_
            refine so_nil ?_
            refine fi_region ?_
            refine so_move (v := (.v (.int .i64 i175))) rfl ?_
            refine so_bin rfl rfl ab_add ?_
            refine so_assign (v := (.v (.int .i64 (IntKind.i64.wrap (i175 + (1 : Int)))))) rfl ?_
            refine so_nil ?_
            refine fi_inBlock ?_
            exact fi_at [(0, (.v (.str (pk ((sq174.drop ((IntKind.i64.wrap (y177 + (a1.length : Int)))).toNat).take (((sq174.length : Int)).toNat - ((IntKind.i64.wrap (y177 + (a1.length : Int)))).toNat)))))), (1, (.v (.str (pk a1)))), (2, (.v (.int .i64 a2))), (3, (.v (.int .i64 (IntKind.i64.wrap ((mnI a3 (IntKind.i64.wrap ((a0.length : Int) + (1 : Int)))) - (1 : Int)))))), (9, (.v v152)), (10, (.v (.int .i64 (IntKind.i64.wrap (i175 + (1 : Int))))))] ⟨rfl, rfl, rfl, rfl, rfl, rfl, trivial⟩ (h _ _  hs)
        · refine fi_false rfl (decide_eq_false c176) ?_
          refine fi_exit rfl ?_
          refine fi_seq ?_
          refine fi_region ?_
          refine so_move (v := (.v v152)) rfl ?_
          refine so_move (v := (.v (.int .i64 i175))) rfl ?_
          refine so_move (v := (.v (.str (pk sq174)))) rfl ?_
          obtain ⟨c187, h⟩ := h
          refine sv_idx (hs.shows 0 rfl) c187 (fun _ => rfl) (by decide) rfl rfl F82.tl30 ?_
          refine sv_set hs 0 rfl c187 sq174 (fun _ => rfl) (by decide) rfl rfl rfl rfl F82.sz9 nofun (fun H188 hs => ?_)
          refine so_nil ?_
          refine fi_seq ?_
          refine fi_region ?_
          refine so_move (v := (.v v152)) rfl ?_
          refine so_move (v := (.v (.int .i64 i175))) rfl ?_
          refine so_bin rfl rfl ab_add ?_
          obtain ⟨c189, h⟩ := h
          refine sv_slice (hs.shows 0 rfl) c189 (fun _ => rfl) (by decide) rfl rfl rfl rfl rfl F82.tl30 ?_
          refine so_assign (v := (.v (v152.cut 1 ((0 : Int)).toNat ((IntKind.i64.wrap (i175 + (1 : Int)))).toNat))) rfl ?_
          refine so_nil ?_
          exact by_ret rfl ⟨_, h, _, rfl, (Sep.tord hs (Shows.cut (e := eStr) (n := 1) (fun _ => rfl) (hs.shows 0 rfl) (by decide) (cutok c189)) (cut_row _ _ _ _))⟩

end Go.Proofs.YtncblpfphehlpaaDoor.G

namespace Go.Proofs.YtncblpfphehlpaaDoor.G
open Go Go.Ab Go.Proofs Go.Proofs.YtncblpfphehlpaaDoor
set_option maxRecDepth 100000
set_option linter.unusedVariables false
set_option linter.unusedSimpArgs false
set_option maxHeartbeats 1000000
attribute [local irreducible] wops wopf Go.Ab.Fin
theorem strings_Split_ok {fr : List Pc} {H : Heap} (a0 : List UInt8) (a1 : List UInt8) (hs : Sep H (fr))  (K : (List (List UInt8)) → Prop) (h : strings_Split.wp a0 a1 K) : OkQ Tryd.prog 59 [(.v (.str (pk a0))), (.v (.str (pk a1)))] H (fun r H2 => ∃ (y0 : List (List UInt8)), K y0 ∧ ∃ (w0_ : AV), r = (.v w0_) ∧ Sep H2 (rdp w0_ 1 (enc eStr y0) :: fr)) := by
  unfold strings_Split.wp at h
  refine of_body Tryd.f59 F.hm Tryd.func59 rfl Tryd.call59 (by kernel_rfl) (by simp) ?_
  refine fi_seq ?_
  refine fi_region ?_
  refine so_assign (v := (.v .nilsl)) rfl ?_
  refine so_nil ?_
  refine fi_seq ?_
  refine fi_region ?_
  refine so_move (v := (.v (.str (pk a0)))) rfl ?_
  refine so_move (v := (.v (.str (pk a1)))) rfl ?_
  refine sv_call (strings_genSplit_ok a0 a1 (0 : Int) (-1 : Int) hs  _ h) rfl rfl nofun ?_
  clear h hs
  rintro _ H104 ⟨y101, h, v102, rfl, hs⟩
  refine so_assign (v := (.v v102)) rfl ?_
  refine so_nil ?_
  exact by_ret rfl ⟨_, h, _, rfl, hs⟩

end Go.Proofs.YtncblpfphehlpaaDoor.G

namespace Go.Proofs.YtncblpfphehlpaaDoor.G
open Go Go.Ab Go.Proofs Go.Proofs.YtncblpfphehlpaaDoor
set_option maxRecDepth 100000
set_option linter.unusedVariables false
set_option linter.unusedSimpArgs false
set_option maxHeartbeats 1000000
attribute [local irreducible] wops wopf Go.Ab.Fin
theorem F35.ag9 : tagg Tryd.prog 9 = some false := by kernel_rfl
theorem F35.sr9 : tstr Tryd.prog 9 = true := by kernel_rfl
theorem F35.ti30 : (telem Tryd.prog 30).isSome = true := by kernel_rfl
theorem F35.tl30 : (telem Tryd.prog 30).bind (tsz Tryd.prog) = some 1 := by kernel_rfl
theorem impl_linesOf_ok {fr : List Pc} {H : Heap} (a0 : List UInt8) (hs : Sep H (fr))  (K : (List (List UInt8)) → Bool → Prop) (h : impl_linesOf.wp a0 K) : OkQ Tryd.prog 35 [(.v (.str (pk a0)))] H (fun r H2 => ∃ (y0 : List (List UInt8)) (y1 : Bool), K y0 y1 ∧ ∃ (w0_ : AV), r = (.t [(.v w0_), (.v (.bool y1))]) ∧ Sep H2 (rdp w0_ 1 (enc eStr y0) :: fr)) := by
  unfold impl_linesOf.wp at h
  refine of_body Tryd.f35 F.hm Tryd.func35 rfl Tryd.call35 (by kernel_rfl) (by simp) ?_
  refine fi_seq ?_
  refine fi_region ?_
  refine so_assign (v := (.v .nilsl)) rfl ?_
  refine so_assign (v := (.v (.bool false))) rfl ?_
  refine so_nil ?_
  refine fi_seq ?_
  refine fi_region ?_
  refine so_move (v := (.v (.str (pk a0)))) rfl ?_
  refine sv_call (strings_Split_ok a0 ([10] : List UInt8) hs  _ h) rfl rfl nofun ?_
  clear h hs
  rintro _ H104 ⟨y101, h, v102, rfl, hs⟩
  refine so_assign (v := (.v v102)) rfl ?_
  refine so_nil ?_
  refine fi_seq ?_
  refine fi_region ?_
  refine so_move (v := (.v v102)) rfl ?_
  refine sv_len (hs.rshows 0 rfl) (fun _ => rfl) (by decide) rfl F35.ti30 ?_
  refine so_bin rfl rfl ab_sub ?_
  refine so_assign (v := (.v (.int .i64 (IntKind.i64.wrap ((y101.length : Int) - (1 : Int)))))) rfl ?_
  refine so_nil ?_
  refine fi_seq ?_
  refine fi_region ?_
  refine so_move (v := (.v v102)) rfl ?_
  refine so_move (v := (.v (.int .i64 (IntKind.i64.wrap ((y101.length : Int) - (1 : Int)))))) rfl ?_
  obtain ⟨c105, h⟩ := h
  refine sv_slice (hs.rshows 0 rfl) c105 (fun _ => rfl) (by decide) rfl rfl rfl rfl rfl F35.tl30 ?_
  refine so_move (v := (.v (.str (pk a0)))) rfl ?_
  refine so_slen rfl F35.sr9 ?_
  refine so_bin rfl rfl ab_leq ?_
  refine so_move (v := (.v (.bool (decide ((a0.length : Int) ≤ (16000 : Int)))))) rfl ?_
  replace h := ofP h; rcases h with ⟨c106, h⟩ | ⟨c106, h⟩
  · refine so_gyes rfl (decide_eq_true c106) ?_
    refine so_move (v := (.v v102)) rfl ?_
    refine so_gyes rfl (decide_eq_true c106) ?_
    refine so_move (v := (.v (.int .i64 (IntKind.i64.wrap ((y101.length : Int) - (1 : Int)))))) rfl ?_
    refine so_gyes rfl (decide_eq_true c106) ?_
    obtain ⟨c107, h⟩ := h
    refine sv_idx (hs.rshows 0 rfl) c107 (fun _ => rfl) (by decide) rfl rfl F35.tl30 ?_
    refine so_gyes rfl (decide_eq_true c106) ?_
    refine sv_cell (hs.rshows 0 rfl) c107 ([] : List UInt8) 0 (fun x => (AV.str (pk x))) (fun _ => rfl) (fun _ => rfl) rfl F35.ag9 ?_
    refine so_gyes rfl (decide_eq_true c106) ?_
    refine so_bin rfl rfl ab_seql ?_
    refine so_pick_t (v := (.v (.bool (decide ((y101.getD ((IntKind.i64.wrap ((y101.length : Int) - (1 : Int)))).toNat ([] : List UInt8)) = ([] : List UInt8)))))) rfl (decide_eq_true c106) rfl ?_
    refine so_assign (v := (.v (v102.cut 1 ((0 : Int)).toNat ((IntKind.i64.wrap ((y101.length : Int) - (1 : Int)))).toNat))) rfl ?_
    refine so_assign (v := (.v (.bool (decide ((y101.getD ((IntKind.i64.wrap ((y101.length : Int) - (1 : Int)))).toNat ([] : List UInt8)) = ([] : List UInt8)))))) rfl ?_
    refine so_nil ?_
    exact by_ret rfl ⟨_, _, h, _, rfl, (Sep.tord2 hs (Shows.cut (e := eStr) (n := 1) (fun _ => rfl) (hs.rshows 0 rfl) (by decide) (cutok c105)) (cut_row _ _ _ _))⟩
  · refine so_gno rfl (decide_eq_false c106) ?_
    refine so_gno rfl (decide_eq_false c106) ?_
    refine so_gno rfl (decide_eq_false c106) ?_
    refine so_gno rfl (decide_eq_false c106) ?_
    refine so_gno rfl (decide_eq_false c106) ?_
    refine so_pick_f (v := (.v (.bool false))) rfl (decide_eq_false c106) rfl ?_
    refine so_assign (v := (.v (v102.cut 1 ((0 : Int)).toNat ((IntKind.i64.wrap ((y101.length : Int) - (1 : Int)))).toNat))) rfl ?_
    refine so_assign (v := (.v (.bool false))) rfl ?_
    refine so_nil ?_
    exact by_ret rfl ⟨_, _, h, _, rfl, (Sep.tord2 hs (Shows.cut (e := eStr) (n := 1) (fun _ => rfl) (hs.rshows 0 rfl) (by decide) (cutok c105)) (cut_row _ _ _ _))⟩

end Go.Proofs.YtncblpfphehlpaaDoor.G

namespace Go.Proofs.YtncblpfphehlpaaDoor.G
open Go Go.Ab Go.Proofs Go.Proofs.YtncblpfphehlpaaDoor
set_option maxRecDepth 100000
set_option linter.unusedVariables false
set_option linter.unusedSimpArgs false
set_option maxHeartbeats 1000000
attribute [local irreducible] wops wopf Go.Ab.Fin
theorem F10.ag9 : tagg Tryd.prog 9 = some false := by kernel_rfl
theorem F10.ti30 : (telem Tryd.prog 30).isSome = true := by kernel_rfl
theorem F10.tl30 : (telem Tryd.prog 30).bind (tsz Tryd.prog) = some 1 := by kernel_rfl
theorem impl_CountOutputs_ok {fr : List Pc} {H : Heap} (a0 : List UInt8) (hs : Sep H (fr))  (K : Int → Int → Bool → Prop) (h : impl_CountOutputs.wp a0 K) : OkQ Tryd.prog 10 [(.v (.str (pk a0)))] H (fun r H2 => ∃ (y0 : Int) (y1 : Int) (y2 : Bool), K y0 y1 y2 ∧ r = (.t [(.v (.int .i64 y0)), (.v (.int .i64 y1)), (.v (.bool y2))]) ∧ Sep H2 (fr)) := by
  unfold impl_CountOutputs.wp at h
  refine of_body Tryd.f10 F.hm Tryd.func10 rfl Tryd.call10 (by kernel_rfl) (by simp) ?_
  refine fi_seq ?_
  refine fi_region ?_
  refine so_assign (v := (.v (.int .i64 (0 : Int)))) rfl ?_
  refine so_assign (v := (.v (.int .i64 (0 : Int)))) rfl ?_
  refine so_assign (v := (.v (.bool false))) rfl ?_
  refine so_nil ?_
  refine fi_seq ?_
  refine fi_region ?_
  refine so_move (v := (.v (.str (pk a0)))) rfl ?_
  refine sv_call (impl_linesOf_ok a0 hs  _ h) rfl rfl nofun ?_
  clear h hs
  rintro _ H105 ⟨y101, y104, h, v102, rfl, hs⟩
  refine so_move (v := (.t [(.v v102), (.v (.bool y104))])) rfl ?_
  refine so_extract rfl rfl rfl ?_
  refine so_extract rfl rfl rfl ?_
  refine so_assign (v := (.v v102)) rfl ?_
  refine so_assign (v := (.v (.bool y104))) rfl ?_
  refine so_nil ?_
  refine fi_seq ?_
  refine fi_seq ?_
  refine fi_region ?_
  refine so_move (v := (.v (.bool y104))) rfl ?_
  refine so_un rfl au_not ?_
  refine so_nil ?_
  replace h := ofT h; rcases h with ⟨c106, h⟩ | ⟨c106, h⟩
  · refine fi_false rfl (not_f c106) ?_
    refine fi_skip ?_
    refine fi_seq ?_
    refine fi_region ?_
    refine so_assign (v := (.v (.int .i64 (0 : Int)))) rfl ?_
    refine so_nil ?_
    refine fi_seq ?_
    refine fi_seq ?_
    refine fi_region ?_
    refine so_move (v := (.v v102)) rfl ?_
    refine sv_len (hs.rshows 0 rfl) (fun _ => rfl) (by decide) rfl F10.ti30 ?_
    refine so_move (v := (.v (.int .i64 (0 : Int)))) rfl ?_
    refine so_nil ?_
    refine fi_block ?_
    refine fi_loop ?_
    refine fi_at [(5, (.v v102)), (7, (.v (.int .i64 (0 : Int)))), (17, (.v v102)), (18, (.v (.int .i64 (y101.length : Int)))), (19, (.v (.int .i64 (0 : Int))))] ⟨rfl, rfl, rfl, rfl, rfl, trivial⟩ ?_
    refine h (fun (bad108 : Int) (x109 : Int) => ∀ (s : Nat → TV) (H : Heap), Sep H (rdp v102 1 (enc eStr y101) :: fr) → Fin _ _ (updL s [(5, (.v v102)), (7, (.v (.int .i64 bad108))), (17, (.v v102)), (18, (.v (.int .i64 (y101.length : Int)))), (19, (.v (.int .i64 x109)))]) H _) ?_ _ _ hs
    intro bad108 x109 h s114 H115 hs
    refine fi_inLoop ?_
    refine fi_seq ?_
    refine fi_region ?_
    refine so_bin rfl rfl ab_lss ?_
    refine so_nil ?_
    refine fi_seq ?_
    replace h := ofP h; rcases h with ⟨c110, h⟩ | ⟨c110, h⟩
    · refine fi_true rfl (decide_eq_true c110) ?_
      refine fi_skip ?_
      refine fi_seq ?_
      refine fi_block ?_
      refine fi_seq ?_
      refine fi_region ?_
      obtain ⟨c111, h⟩ := h
      refine sv_idx (hs.rshows 0 rfl) c111 (fun _ => rfl) (by decide) rfl rfl F10.tl30 ?_
      refine sv_cell (hs.rshows 0 rfl) c111 ([] : List UInt8) 0 (fun x => (AV.str (pk x))) (fun _ => rfl) (fun _ => rfl) rfl F10.ag9 ?_
      refine so_assign (v := (.v (.str (pk (y101.getD (x109).toNat ([] : List UInt8)))))) rfl ?_
      refine so_nil ?_
      refine fi_seq ?_
      refine fi_region ?_
      refine so_move (v := (.v (.str (pk (y101.getD (x109).toNat ([] : List UInt8)))))) rfl ?_
      refine so_bin rfl rfl ab_seql ?_
      refine so_move (v := (.v (.bool (decide ((y101.getD (x109).toNat ([] : List UInt8)) = ([110, 111] : List UInt8)))))) rfl ?_
      replace h := ofP h; rcases h with ⟨c112, h⟩ | ⟨c112, h⟩
      · refine so_gno rfl (decide_eq_true c112) ?_
        refine so_gno rfl (decide_eq_true c112) ?_
        refine so_pick_t (v := (.v (.bool true))) rfl (decide_eq_true c112) rfl ?_
        refine so_nil ?_
        refine fi_true rfl rfl ?_
        refine fi_region ?_
        refine so_move (v := (.v (.int .i64 bad108))) rfl ?_
        refine so_bin rfl rfl ab_add ?_
        refine so_assign (v := (.v (.int .i64 (IntKind.i64.wrap (bad108 + (1 : Int)))))) rfl ?_
        refine so_nil ?_
        refine fi_inBlock ?_
        refine fi_region ?_
        refine so_bin rfl rfl ab_add ?_
        refine so_move (v := (.v (.int .i64 (IntKind.i64.wrap (x109 + (1 : Int)))))) rfl ?_
        refine so_nil ?_
        exact fi_at [(5, (.v v102)), (7, (.v (.int .i64 (IntKind.i64.wrap (bad108 + (1 : Int)))))), (17, (.v v102)), (18, (.v (.int .i64 (y101.length : Int)))), (19, (.v (.int .i64 (IntKind.i64.wrap (x109 + (1 : Int))))))] ⟨rfl, rfl, rfl, rfl, rfl, trivial⟩ (h _ _  hs)
      · refine so_gyes rfl (decide_eq_false c112) ?_
        refine so_move (v := (.v (.str (pk (y101.getD (x109).toNat ([] : List UInt8)))))) rfl ?_
        refine so_gyes rfl (decide_eq_false c112) ?_
        refine so_bin rfl rfl ab_seql ?_
        refine so_pick_f (v := (.v (.bool (decide ((y101.getD (x109).toNat ([] : List UInt8)) = ([119, 104, 97, 116] : List UInt8)))))) rfl (decide_eq_false c112) rfl ?_
        refine so_nil ?_
        replace h := ofP h; rcases h with ⟨c113, h⟩ | ⟨c113, h⟩
        · refine fi_true rfl (decide_eq_true c113) ?_
          refine fi_region ?_
          refine so_move (v := (.v (.int .i64 bad108))) rfl ?_
          refine so_bin rfl rfl ab_add ?_
          refine so_assign (v := (.v (.int .i64 (IntKind.i64.wrap (bad108 + (1 : Int)))))) rfl ?_
          refine so_nil ?_
          refine fi_inBlock ?_
          refine fi_region ?_
          refine so_bin rfl rfl ab_add ?_
          refine so_move (v := (.v (.int .i64 (IntKind.i64.wrap (x109 + (1 : Int)))))) rfl ?_
          refine so_nil ?_
          exact fi_at [(5, (.v v102)), (7, (.v (.int .i64 (IntKind.i64.wrap (bad108 + (1 : Int)))))), (17, (.v v102)), (18, (.v (.int .i64 (y101.length : Int)))), (19, (.v (.int .i64 (IntKind.i64.wrap (x109 + (1 : Int))))))] ⟨rfl, rfl, rfl, rfl, rfl, trivial⟩ (h _ _  hs)
        · refine fi_false rfl (decide_eq_false c113) ?_
          refine fi_skip ?_
          refine fi_inBlock ?_
          refine fi_region ?_
          refine so_bin rfl rfl ab_add ?_
          refine so_move (v := (.v (.int .i64 (IntKind.i64.wrap (x109 + (1 : Int)))))) rfl ?_
          refine so_nil ?_
          exact fi_at [(5, (.v v102)), (7, (.v (.int .i64 bad108))), (17, (.v v102)), (18, (.v (.int .i64 (y101.length : Int)))), (19, (.v (.int .i64 (IntKind.i64.wrap (x109 + (1 : Int))))))] ⟨rfl, rfl, rfl, rfl, rfl, trivial⟩ (h _ _  hs)
    · refine fi_false rfl (decide_eq_false c110) ?_
      refine fi_exit rfl ?_
      refine fi_seq ?_
      refine fi_region ?_
      refine so_move (v := (.v (.int .i64 bad108))) rfl ?_
      refine so_move (v := (.v v102)) rfl ?_
      refine sv_len (hs.rshows 0 rfl) (fun _ => rfl) (by decide) rfl F10.ti30 ?_
      refine so_move (v := (.v (.int .i64 bad108))) rfl ?_
      refine so_bin rfl rfl ab_sub ?_
      refine so_assign (v := (.v (.int .i64 bad108))) rfl ?_
      refine so_assign (v := (.v (.int .i64 (IntKind.i64.wrap ((y101.length : Int) - bad108))))) rfl ?_
      refine so_assign (v := (.v (.bool true))) rfl ?_
      refine so_nil ?_
      exact by_ret rfl ⟨_, _, _, h, rfl, (Sep.del 0 hs)⟩
  · refine fi_true rfl (not_t c106) ?_
    refine fi_seq ?_
    refine fi_region ?_
    refine so_assign (v := (.v (.int .i64 (0 : Int)))) rfl ?_
    refine so_assign (v := (.v (.int .i64 (0 : Int)))) rfl ?_
    refine so_assign (v := (.v (.bool false))) rfl ?_
    refine so_nil ?_
    exact by_ret rfl ⟨_, _, _, h, rfl, (Sep.del 0 hs)⟩

end Go.Proofs.YtncblpfphehlpaaDoor.G

namespace Go.Proofs.YtncblpfphehlpaaDoor.G
open Go Go.Ab Go.Proofs Go.Proofs.YtncblpfphehlpaaDoor
set_option maxRecDepth 100000
set_option linter.unusedVariables false
set_option linter.unusedSimpArgs false
set_option maxHeartbeats 1000000
attribute [local irreducible] wops wopf Go.Ab.Fin
theorem F58.sr9 : tstr Tryd.prog 9 = true := by kernel_rfl
theorem F58.sz9 : tsz Tryd.prog 9 = some 1 := by kernel_rfl
theorem F58.ta30_30 : tapp Tryd.prog 30 30 = some (1, 16) := by kernel_rfl
theorem F58.te30 : telem Tryd.prog 30 = some 9 := by kernel_rfl
theorem F58.ze9 : tzero Tryd.prog 9 = some [(.str (pk ([] : List UInt8)))] := by kernel_rfl
theorem spec_l01Cut_ok {fr : List Pc} {H : Heap} (a0 : List UInt8) (a1 : Int) (hs : Sep H (fr))  (K : (List (List UInt8)) → Prop) (h : spec_l01Cut.wp a0 a1 K) : OkQ Tryd.prog 58 [(.v (.str (pk a0))), (.v (.int .u8 a1))] H (fun r H2 => ∃ (y0 : List (List UInt8)), K y0 ∧ ∃ (w0_ : AV), r = (.v w0_) ∧ Sep H2 (Pc.osl w0_ 1 (enc eStr y0) :: fr)) := by
  unfold spec_l01Cut.wp at h
  refine of_body Tryd.f58 F.hm Tryd.func58 rfl Tryd.call58 (by kernel_rfl) (by simp) ?_
  refine fi_seq ?_
  refine fi_region ?_
  refine so_assign (v := (.v .nilsl)) rfl ?_
  refine so_nil ?_
  refine fi_seq ?_
  refine fi_region ?_
  refine sv_bslice hs eStr ([] : List (List UInt8)) [] F58.te30 F58.sz9 F58.ze9 rfl rfl rfl rfl (fun _ => rfl) rfl (by decide) nofun (fun v101 H102 nv101 hs => ?_)
  refine so_assign (v := (.v v101)) rfl ?_
  refine so_nil ?_
  refine fi_seq ?_
  refine fi_region ?_
  refine so_assign (v := (.v (.int .i64 (0 : Int)))) rfl ?_
  refine so_nil ?_
  refine fi_seq ?_
  refine fi_seq ?_
  refine fi_region ?_
  refine so_assign (v := (.v (.int .i64 (0 : Int)))) rfl ?_
  refine so_nil ?_
  refine fi_block ?_
  refine fi_loop ?_
  refine fi_at [(0, (.v (.str (pk a0)))), (1, (.v (.int .u8 a1))), (5, (.v v101)), (6, (.v (.int .i64 (0 : Int)))), (7, (.v (.int .i64 (0 : Int))))] ⟨rfl, rfl, rfl, rfl, rfl, trivial⟩ ?_
  refine h (fun (out128 : List (List UInt8)) (fromq130 : Int) (i131 : Int) => ∀ (s : Nat → TV) (H : Heap) (v129 : AV) (nv129 : v129 ≠ .nilsl), Sep H (Pc.osl v129 1 (enc eStr out128) :: fr) → Fin _ _ (updL s [(0, (.v (.str (pk a0)))), (1, (.v (.int .u8 a1))), (5, (.v v129)), (6, (.v (.int .i64 fromq130))), (7, (.v (.int .i64 i131)))]) H _) ?_ _ _ _ nv101 hs
  intro out128 fromq130 i131 h s150 H151 v129 nv129 hs
  refine fi_inLoop ?_
  refine fi_seq ?_
  refine fi_seq ?_
  refine fi_region ?_
  refine so_move (v := (.v (.int .i64 i131))) rfl ?_
  refine so_move (v := (.v (.str (pk a0)))) rfl ?_
  refine so_slen rfl F58.sr9 ?_
  refine so_bin rfl rfl ab_leq ?_
  refine so_nil ?_
  replace h := ofP h; rcases h with ⟨c132, h⟩ | ⟨c132, h⟩
  · refine fi_true rfl (decide_eq_true c132) ?_
    refine fi_skip ?_
    refine fi_seq ?_
    refine fi_block ?_
    refine fi_seq ?_
    refine fi_region ?_
    refine so_move (v := (.v (.int .i64 i131))) rfl ?_
    refine so_move (v := (.v (.str (pk a0)))) rfl ?_
    refine so_slen rfl F58.sr9 ?_
    refine so_bin rfl rfl ab_eql ?_
    refine so_move (v := (.v (.bool (decide (i131 = (a0.length : Int)))))) rfl ?_
    replace h := ofP h; rcases h with ⟨c133, h⟩ | ⟨c133, h⟩
    · refine so_gno rfl (decide_eq_true c133) ?_
      refine so_gno rfl (decide_eq_true c133) ?_
      refine so_gno rfl (decide_eq_true c133) ?_
      refine so_gno rfl (decide_eq_true c133) ?_
      refine so_gno rfl (decide_eq_true c133) ?_
      refine so_pick_t (v := (.v (.bool true))) rfl (decide_eq_true c133) rfl ?_
      refine so_nil ?_
      refine fi_true rfl rfl ?_
      refine fi_seq ?_
      refine fi_region ?_
      refine so_move (v := (.v v129)) rfl ?_
      refine so_move (v := (.v (.str (pk a0)))) rfl ?_
      refine so_move (v := (.v (.int .i64 fromq130))) rfl ?_
      refine so_move (v := (.v (.int .i64 i131))) rfl ?_
      obtain ⟨c134, h⟩ := h
      refine so_sslice rfl rfl rfl F58.sr9 rfl rfl c134 ?_
      refine sv_bslice hs eStr ([((a0.drop (fromq130).toNat).take ((i131).toNat - (fromq130).toNat))] : List (List UInt8)) [[(.str (pk ((a0.drop (fromq130).toNat).take ((i131).toNat - (fromq130).toNat))))]] F58.te30 F58.sz9 F58.ze9 rfl rfl rfl rfl (fun _ => rfl) rfl (by decide) nofun (fun v135 H136 nv135 hs => ?_)
      obtain ⟨c140, h⟩ := h
      refine sv_app hs 1 rfl (hs.shows 0 rfl) (fun _ => rfl) (by decide) F58.ta30_30 (by decide) c140 rfl rfl nofun (fun v138 H139 kv138 hs => ?_)
      replace hs := hs.del 0
      have nv138 := kv138 nv129
      refine so_assign (v := (.v v138)) rfl ?_
      refine so_nil ?_
      refine fi_region ?_
      refine so_move (v := (.v (.int .i64 i131))) rfl ?_
      refine so_bin rfl rfl ab_add ?_
      refine so_assign (v := (.v (.int .i64 (IntKind.i64.wrap (i131 + (1 : Int)))))) rfl ?_
      refine so_nil ?_
      refine fi_inBlock ?_
      refine fi_region ?_
      refine so_move (v := (.v (.int .i64 i131))) rfl ?_
      refine so_bin rfl rfl ab_add ?_
      refine so_assign (v := (.v (.int .i64 (IntKind.i64.wrap (i131 + (1 : Int)))))) rfl ?_
      refine so_nil ?_
      exact fi_at [(0, (.v (.str (pk a0)))), (1, (.v (.int .u8 a1))), (5, (.v v138)), (6, (.v (.int .i64 (IntKind.i64.wrap (i131 + (1 : Int)))))), (7, (.v (.int .i64 (IntKind.i64.wrap (i131 + (1 : Int))))))] ⟨rfl, rfl, rfl, rfl, rfl, trivial⟩ (h _ _ _ nv138 hs)
    · refine so_gyes rfl (decide_eq_false c133) ?_
      refine so_move (v := (.v (.str (pk a0)))) rfl ?_
      refine so_gyes rfl (decide_eq_false c133) ?_
      refine so_move (v := (.v (.int .i64 i131))) rfl ?_
      refine so_gyes rfl (decide_eq_false c133) ?_
      obtain ⟨c141, h⟩ := h
      refine so_index rfl rfl F58.sr9 c141 ?_
      refine so_gyes rfl (decide_eq_false c133) ?_
      refine so_move (v := (.v (.int .u8 a1))) rfl ?_
      refine so_gyes rfl (decide_eq_false c133) ?_
      refine so_bin rfl rfl ab_eql ?_
      refine so_pick_f (v := (.v (.bool (decide ((bt a0 i131) = a1))))) rfl (decide_eq_false c133) rfl ?_
      refine so_nil ?_
      replace h := ofP h; rcases h with ⟨c142, h⟩ | ⟨c142, h⟩
      · refine fi_true rfl (decide_eq_true c142) ?_
        refine fi_seq ?_
        refine fi_region ?_
        refine so_move (v := (.v v129)) rfl ?_
        refine so_move (v := (.v (.str (pk a0)))) rfl ?_
        refine so_move (v := (.v (.int .i64 fromq130))) rfl ?_
        refine so_move (v := (.v (.int .i64 i131))) rfl ?_
        obtain ⟨c143, h⟩ := h
        refine so_sslice rfl rfl rfl F58.sr9 rfl rfl c143 ?_
        refine sv_bslice hs eStr ([((a0.drop (fromq130).toNat).take ((i131).toNat - (fromq130).toNat))] : List (List UInt8)) [[(.str (pk ((a0.drop (fromq130).toNat).take ((i131).toNat - (fromq130).toNat))))]] F58.te30 F58.sz9 F58.ze9 rfl rfl rfl rfl (fun _ => rfl) rfl (by decide) nofun (fun v144 H145 nv144 hs => ?_)
        obtain ⟨c149, h⟩ := h
        refine sv_app hs 1 rfl (hs.shows 0 rfl) (fun _ => rfl) (by decide) F58.ta30_30 (by decide) c149 rfl rfl nofun (fun v147 H148 kv147 hs => ?_)
        replace hs := hs.del 0
        have nv147 := kv147 nv129
        refine so_assign (v := (.v v147)) rfl ?_
        refine so_nil ?_
        refine fi_region ?_
        refine so_move (v := (.v (.int .i64 i131))) rfl ?_
        refine so_bin rfl rfl ab_add ?_
        refine so_assign (v := (.v (.int .i64 (IntKind.i64.wrap (i131 + (1 : Int)))))) rfl ?_
        refine so_nil ?_
        refine fi_inBlock ?_
        refine fi_region ?_
        refine so_move (v := (.v (.int .i64 i131))) rfl ?_
        refine so_bin rfl rfl ab_add ?_
        refine so_assign (v := (.v (.int .i64 (IntKind.i64.wrap (i131 + (1 : Int)))))) rfl ?_
        refine so_nil ?_
        exact fi_at [(0, (.v (.str (pk a0)))), (1, (.v (.int .u8 a1))), (5, (.v v147)), (6, (.v (.int .i64 (IntKind.i64.wrap (i131 + (1 : Int)))))), (7, (.v (.int .i64 (IntKind.i64.wrap (i131 + (1 : Int))))))] ⟨rfl, rfl, rfl, rfl, rfl, trivial⟩ (h _ _ _ nv147 hs)
      · refine fi_false rfl (decide_eq_false c142) ?_
        refine fi_skip ?_
        refine fi_inBlock ?_
        refine fi_region ?_
        refine so_move (v := (.v (.int .i64 i131))) rfl ?_
        refine so_bin rfl rfl ab_add ?_
        refine so_assign (v := (.v (.int .i64 (IntKind.i64.wrap (i131 + (1 : Int)))))) rfl ?_
        refine so_nil ?_
        exact fi_at [(0, (.v (.str (pk a0)))), (1, (.v (.int .u8 a1))), (5, (.v v129)), (6, (.v (.int .i64 fromq130))), (7, (.v (.int .i64 (IntKind.i64.wrap (i131 + (1 : Int))))))] ⟨rfl, rfl, rfl, rfl, rfl, trivial⟩ (h _ _ _ nv129 hs)
  · refine fi_false rfl (decide_eq_false c132) ?_
    refine fi_exit rfl ?_
    refine fi_seq ?_
    refine fi_region ?_
    refine so_move (v := (.v v129)) rfl ?_
    refine so_assign (v := (.v v129)) rfl ?_
    refine so_nil ?_
    exact by_ret rfl ⟨_, h, _, rfl, hs⟩

end Go.Proofs.YtncblpfphehlpaaDoor.G

namespace Go.Proofs.YtncblpfphehlpaaDoor.G
open Go Go.Ab Go.Proofs Go.Proofs.YtncblpfphehlpaaDoor
set_option maxRecDepth 100000
set_option linter.unusedVariables false
set_option linter.unusedSimpArgs false
set_option maxHeartbeats 1000000
attribute [local irreducible] wops wopf Go.Ab.Fin
theorem F34.ag9 : tagg Tryd.prog 9 = some false := by kernel_rfl
theorem F34.ti30 : (telem Tryd.prog 30).isSome = true := by kernel_rfl
theorem F34.tl30 : (telem Tryd.prog 30).bind (tsz Tryd.prog) = some 1 := by kernel_rfl
theorem spec_l08Lines_ok {fr : List Pc} {H : Heap} (a0 : List UInt8) (hs : Sep H (fr))  (K : (List (List UInt8)) → (List UInt8) → Prop) (h : spec_l08Lines.wp a0 K) : OkQ Tryd.prog 34 [(.v (.str (pk a0)))] H (fun r H2 => ∃ (y0 : List (List UInt8)) (y1 : List UInt8), K y0 y1 ∧ ∃ (w0_ : AV), r = (.t [(.v w0_), (.v (.str (pk y1)))]) ∧ Sep H2 (rdp w0_ 1 (enc eStr y0) :: fr)) := by
  unfold spec_l08Lines.wp at h
  refine of_body Tryd.f34 F.hm Tryd.func34 rfl Tryd.call34 (by kernel_rfl) (by simp) ?_
  refine fi_seq ?_
  refine fi_region ?_
  refine so_assign (v := (.v .nilsl)) rfl ?_
  refine so_assign (v := (.v (.str (pk ([] : List UInt8))))) rfl ?_
  refine so_nil ?_
  refine fi_seq ?_
  refine fi_region ?_
  refine so_move (v := (.v (.str (pk a0)))) rfl ?_
  refine sv_call (spec_l01Cut_ok a0 (10 : Int) hs  _ h) rfl rfl nofun ?_
  clear h hs
  rintro _ H104 ⟨y101, h, v102, rfl, hs⟩
  refine so_assign (v := (.v v102)) rfl ?_
  refine so_nil ?_
  refine fi_seq ?_
  refine fi_region ?_
  refine so_move (v := (.v v102)) rfl ?_
  refine so_move (v := (.v v102)) rfl ?_
  refine sv_len (hs.shows 0 rfl) (fun _ => rfl) (by decide) rfl F34.ti30 ?_
  refine so_bin rfl rfl ab_sub ?_
  obtain ⟨c105, h⟩ := h
  refine sv_slice (hs.shows 0 rfl) c105 (fun _ => rfl) (by decide) rfl rfl rfl rfl rfl F34.tl30 ?_
  refine so_move (v := (.v v102)) rfl ?_
  refine so_move (v := (.v v102)) rfl ?_
  refine sv_len (hs.shows 0 rfl) (fun _ => rfl) (by decide) rfl F34.ti30 ?_
  refine so_bin rfl rfl ab_sub ?_
  obtain ⟨c106, h⟩ := h
  refine sv_idx (hs.shows 0 rfl) c106 (fun _ => rfl) (by decide) rfl rfl F34.tl30 ?_
  refine sv_cell (hs.shows 0 rfl) c106 ([] : List UInt8) 0 (fun x => (AV.str (pk x))) (fun _ => rfl) (fun _ => rfl) rfl F34.ag9 ?_
  refine so_assign (v := (.v (v102.cut 1 ((0 : Int)).toNat ((IntKind.i64.wrap ((y101.length : Int) - (1 : Int)))).toNat))) rfl ?_
  refine so_assign (v := (.v (.str (pk (y101.getD ((IntKind.i64.wrap ((y101.length : Int) - (1 : Int)))).toNat ([] : List UInt8)))))) rfl ?_
  refine so_nil ?_
  exact by_ret rfl ⟨_, _, h, _, rfl, (Sep.tord hs (Shows.cut (e := eStr) (n := 1) (fun _ => rfl) (hs.shows 0 rfl) (by decide) (cutok c105)) (cut_row _ _ _ _))⟩

end Go.Proofs.YtncblpfphehlpaaDoor.G

namespace Go.Proofs.YtncblpfphehlpaaDoor.G
open Go Go.Ab Go.Proofs Go.Proofs.YtncblpfphehlpaaDoor
set_option maxRecDepth 100000
set_option linter.unusedVariables false
set_option linter.unusedSimpArgs false
set_option maxHeartbeats 1000000
attribute [local irreducible] wops wopf Go.Ab.Fin
theorem F9.ag9 : tagg Tryd.prog 9 = some false := by kernel_rfl
theorem F9.sr9 : tstr Tryd.prog 9 = true := by kernel_rfl
theorem F9.ti30 : (telem Tryd.prog 30).isSome = true := by kernel_rfl
theorem F9.tl30 : (telem Tryd.prog 30).bind (tsz Tryd.prog) = some 1 := by kernel_rfl
theorem spec_CountOutputs_ok {fr : List Pc} {H : Heap} (a0 : List UInt8) (hs : Sep H (fr))  (K : Int → Int → Bool → Prop) (h : spec_CountOutputs.wp a0 K) : OkQ Tryd.prog 9 [(.v (.str (pk a0)))] H (fun r H2 => ∃ (y0 : Int) (y1 : Int) (y2 : Bool), K y0 y1 y2 ∧ r = (.t [(.v (.int .i64 y0)), (.v (.int .i64 y1)), (.v (.bool y2))]) ∧ Sep H2 (fr)) := by
  unfold spec_CountOutputs.wp at h
  refine of_body Tryd.f9 F.hm Tryd.func9 rfl Tryd.call9 (by kernel_rfl) (by simp) ?_
  refine fi_seq ?_
  refine fi_region ?_
  refine so_assign (v := (.v (.int .i64 (0 : Int)))) rfl ?_
  refine so_assign (v := (.v (.int .i64 (0 : Int)))) rfl ?_
  refine so_assign (v := (.v (.bool false))) rfl ?_
  refine so_nil ?_
  refine fi_seq ?_
  refine fi_seq ?_
  refine fi_region ?_
  refine so_move (v := (.v (.str (pk a0)))) rfl ?_
  refine so_slen rfl F9.sr9 ?_
  refine so_bin rfl rfl ab_gtr ?_
  refine so_nil ?_
  replace h := ofP h; rcases h with ⟨c101, h⟩ | ⟨c101, h⟩
  · refine fi_true rfl (decide_eq_true c101) ?_
    refine fi_seq ?_
    refine fi_region ?_
    refine so_assign (v := (.v (.int .i64 (0 : Int)))) rfl ?_
    refine so_assign (v := (.v (.int .i64 (0 : Int)))) rfl ?_
    refine so_assign (v := (.v (.bool false))) rfl ?_
    refine so_nil ?_
    exact by_ret rfl ⟨_, _, _, h, rfl, hs⟩
  · refine fi_false rfl (decide_eq_false c101) ?_
    refine fi_skip ?_
    refine fi_seq ?_
    refine fi_region ?_
    refine so_move (v := (.v (.str (pk a0)))) rfl ?_
    refine sv_call (spec_l08Lines_ok a0 hs  _ h) rfl rfl nofun ?_
    clear h hs
    rintro _ H106 ⟨y102, y105, h, v103, rfl, hs⟩
    refine so_move (v := (.t [(.v v103), (.v (.str (pk y105)))])) rfl ?_
    refine so_extract rfl rfl rfl ?_
    refine so_extract rfl rfl rfl ?_
    refine so_assign (v := (.v v103)) rfl ?_
    refine so_assign (v := (.v (.str (pk y105)))) rfl ?_
    refine so_nil ?_
    refine fi_seq ?_
    refine fi_seq ?_
    refine fi_region ?_
    refine so_move (v := (.v (.str (pk y105)))) rfl ?_
    refine so_bin rfl rfl ab_sneq ?_
    refine so_nil ?_
    replace h := ofP h; rcases h with ⟨c107, h⟩ | ⟨c107, h⟩
    · refine fi_false rfl (not_f (decide_eq_true c107)) ?_
      refine fi_skip ?_
      refine fi_seq ?_
      refine fi_region ?_
      refine so_assign (v := (.v (.int .i64 (0 : Int)))) rfl ?_
      refine so_nil ?_
      refine fi_seq ?_
      refine fi_seq ?_
      refine fi_region ?_
      refine so_assign (v := (.v (.int .i64 (0 : Int)))) rfl ?_
      refine so_nil ?_
      refine fi_block ?_
      refine fi_loop ?_
      refine fi_at [(5, (.v v103)), (7, (.v (.int .i64 (0 : Int)))), (8, (.v (.int .i64 (0 : Int))))] ⟨rfl, rfl, rfl, trivial⟩ ?_
      refine h (fun (bad109 : Int) (i110 : Int) => ∀ (s : Nat → TV) (H : Heap), Sep H (rdp v103 1 (enc eStr y102) :: fr) → Fin _ _ (updL s [(5, (.v v103)), (7, (.v (.int .i64 bad109))), (8, (.v (.int .i64 i110)))]) H _) ?_ _ _ hs
      intro bad109 i110 h s115 H116 hs
      refine fi_inLoop ?_
      refine fi_seq ?_
      refine fi_seq ?_
      refine fi_region ?_
      refine so_move (v := (.v (.int .i64 i110))) rfl ?_
      refine so_move (v := (.v v103)) rfl ?_
      refine sv_len (hs.rshows 0 rfl) (fun _ => rfl) (by decide) rfl F9.ti30 ?_
      refine so_bin rfl rfl ab_lss ?_
      refine so_nil ?_
      replace h := ofP h; rcases h with ⟨c111, h⟩ | ⟨c111, h⟩
      · refine fi_true rfl (decide_eq_true c111) ?_
        refine fi_skip ?_
        refine fi_seq ?_
        refine fi_block ?_
        refine fi_seq ?_
        refine fi_region ?_
        refine so_move (v := (.v v103)) rfl ?_
        refine so_move (v := (.v (.int .i64 i110))) rfl ?_
        obtain ⟨c112, h⟩ := h
        refine sv_idx (hs.rshows 0 rfl) c112 (fun _ => rfl) (by decide) rfl rfl F9.tl30 ?_
        refine sv_cell (hs.rshows 0 rfl) c112 ([] : List UInt8) 0 (fun x => (AV.str (pk x))) (fun _ => rfl) (fun _ => rfl) rfl F9.ag9 ?_
        refine so_bin rfl rfl ab_seql ?_
        refine so_move (v := (.v (.bool (decide ((y102.getD (i110).toNat ([] : List UInt8)) = ([110, 111] : List UInt8)))))) rfl ?_
        replace h := ofP h; rcases h with ⟨c113, h⟩ | ⟨c113, h⟩
        · refine so_gno rfl (decide_eq_true c113) ?_
          refine so_gno rfl (decide_eq_true c113) ?_
          refine so_gno rfl (decide_eq_true c113) ?_
          refine so_gno rfl (decide_eq_true c113) ?_
          refine so_gno rfl (decide_eq_true c113) ?_
          refine so_pick_t (v := (.v (.bool true))) rfl (decide_eq_true c113) rfl ?_
          refine so_nil ?_
          refine fi_true rfl rfl ?_
          refine fi_region ?_
          refine so_move (v := (.v (.int .i64 bad109))) rfl ?_
          refine so_bin rfl rfl ab_add ?_
          refine so_assign (v := (.v (.int .i64 (IntKind.i64.wrap (bad109 + (1 : Int)))))) rfl ?_
          refine so_nil ?_
          refine fi_inBlock ?_
          refine fi_region ?_
          refine so_move (v := (.v (.int .i64 i110))) rfl ?_
          refine so_bin rfl rfl ab_add ?_
          refine so_assign (v := (.v (.int .i64 (IntKind.i64.wrap (i110 + (1 : Int)))))) rfl ?_
          refine so_nil ?_
          exact fi_at [(5, (.v v103)), (7, (.v (.int .i64 (IntKind.i64.wrap (bad109 + (1 : Int)))))), (8, (.v (.int .i64 (IntKind.i64.wrap (i110 + (1 : Int))))))] ⟨rfl, rfl, rfl, trivial⟩ (h _ _  hs)
        · refine so_gyes rfl (decide_eq_false c113) ?_
          refine so_move (v := (.v v103)) rfl ?_
          refine so_gyes rfl (decide_eq_false c113) ?_
          refine so_move (v := (.v (.int .i64 i110))) rfl ?_
          refine so_gyes rfl (decide_eq_false c113) ?_
          refine sv_idx (hs.rshows 0 rfl) c112 (fun _ => rfl) (by decide) rfl rfl F9.tl30 ?_
          refine so_gyes rfl (decide_eq_false c113) ?_
          refine sv_cell (hs.rshows 0 rfl) c112 ([] : List UInt8) 0 (fun x => (AV.str (pk x))) (fun _ => rfl) (fun _ => rfl) rfl F9.ag9 ?_
          refine so_gyes rfl (decide_eq_false c113) ?_
          refine so_bin rfl rfl ab_seql ?_
          refine so_pick_f (v := (.v (.bool (decide ((y102.getD (i110).toNat ([] : List UInt8)) = ([119, 104, 97, 116] : List UInt8)))))) rfl (decide_eq_false c113) rfl ?_
          refine so_nil ?_
          replace h := ofP h; rcases h with ⟨c114, h⟩ | ⟨c114, h⟩
          · refine fi_true rfl (decide_eq_true c114) ?_
            refine fi_region ?_
            refine so_move (v := (.v (.int .i64 bad109))) rfl ?_
            refine so_bin rfl rfl ab_add ?_
            refine so_assign (v := (.v (.int .i64 (IntKind.i64.wrap (bad109 + (1 : Int)))))) rfl ?_
            refine so_nil ?_
            refine fi_inBlock ?_
            refine fi_region ?_
            refine so_move (v := (.v (.int .i64 i110))) rfl ?_
            refine so_bin rfl rfl ab_add ?_
            refine so_assign (v := (.v (.int .i64 (IntKind.i64.wrap (i110 + (1 : Int)))))) rfl ?_
            refine so_nil ?_
            exact fi_at [(5, (.v v103)), (7, (.v (.int .i64 (IntKind.i64.wrap (bad109 + (1 : Int)))))), (8, (.v (.int .i64 (IntKind.i64.wrap (i110 + (1 : Int))))))] ⟨rfl, rfl, rfl, trivial⟩ (h _ _  hs)
          · refine fi_false rfl (decide_eq_false c114) ?_
            refine fi_skip ?_
            refine fi_inBlock ?_
            refine fi_region ?_
            refine so_move (v := (.v (.int .i64 i110))) rfl ?_
            refine so_bin rfl rfl ab_add ?_
            refine so_assign (v := (.v (.int .i64 (IntKind.i64.wrap (i110 + (1 : Int)))))) rfl ?_
            refine so_nil ?_
            exact fi_at [(5, (.v v103)), (7, (.v (.int .i64 bad109))), (8, (.v (.int .i64 (IntKind.i64.wrap (i110 + (1 : Int))))))] ⟨rfl, rfl, rfl, trivial⟩ (h _ _  hs)
      · refine fi_false rfl (decide_eq_false c111) ?_
        refine fi_exit rfl ?_
        refine fi_seq ?_
        refine fi_region ?_
        refine so_move (v := (.v (.int .i64 bad109))) rfl ?_
        refine so_move (v := (.v v103)) rfl ?_
        refine sv_len (hs.rshows 0 rfl) (fun _ => rfl) (by decide) rfl F9.ti30 ?_
        refine so_move (v := (.v (.int .i64 bad109))) rfl ?_
        refine so_bin rfl rfl ab_sub ?_
        refine so_assign (v := (.v (.int .i64 bad109))) rfl ?_
        refine so_assign (v := (.v (.int .i64 (IntKind.i64.wrap ((y102.length : Int) - bad109))))) rfl ?_
        refine so_assign (v := (.v (.bool true))) rfl ?_
        refine so_nil ?_
        exact by_ret rfl ⟨_, _, _, h, rfl, (Sep.del 0 hs)⟩
    · refine fi_true rfl (not_t (decide_eq_false c107)) ?_
      refine fi_seq ?_
      refine fi_region ?_
      refine so_assign (v := (.v (.int .i64 (0 : Int)))) rfl ?_
      refine so_assign (v := (.v (.int .i64 (0 : Int)))) rfl ?_
      refine so_assign (v := (.v (.bool false))) rfl ?_
      refine so_nil ?_
      exact by_ret rfl ⟨_, _, _, h, rfl, (Sep.del 0 hs)⟩

end Go.Proofs.YtncblpfphehlpaaDoor.G

namespace Go.Proofs.YtncblpfphehlpaaDoor.G
open Go Go.Ab Go.Proofs Go.Proofs.YtncblpfphehlpaaDoor
set_option maxRecDepth 100000
set_option linter.unusedVariables false
set_option linter.unusedSimpArgs false
set_option maxHeartbeats 1000000
attribute [local irreducible] wops wopf Go.Ab.Fin
theorem F3.sr9 : tstr Tryd.prog 9 = true := by kernel_rfl
theorem F3.tb4 : tbool Tryd.prog 4 = true := by kernel_rfl
theorem laws_FnExactCountOutputs_ok {fr : List Pc} {H : Heap} (a0 : List UInt8) (hs : Sep H (fr))  (K : Bool → Prop) (h : laws_FnExactCountOutputs.wp a0 K) : OkQ Tryd.prog 3 [(.v (.str (pk a0)))] H (fun r H2 => ∃ (y0 : Bool), K y0 ∧ r = (.v (.bool y0)) ∧ Sep H2 (fr)) := by
  unfold laws_FnExactCountOutputs.wp at h
  refine of_body Tryd.f3 F.hm Tryd.func3 rfl Tryd.call3 (by kernel_rfl) (by simp) ?_
  refine fi_seq ?_
  refine fi_region ?_
  refine so_assign (v := (.v (.bool false))) rfl ?_
  refine so_nil ?_
  refine fi_seq ?_
  refine fi_seq ?_
  refine fi_region ?_
  refine so_move (v := (.v (.str (pk a0)))) rfl ?_
  refine so_slen rfl F3.sr9 ?_
  refine so_bin rfl rfl ab_gtr ?_
  refine so_nil ?_
  replace h := ofP h; rcases h with ⟨c101, h⟩ | ⟨c101, h⟩
  · refine fi_true rfl (decide_eq_true c101) ?_
    refine fi_seq ?_
    refine fi_region ?_
    refine so_assign (v := (.v (.bool true))) rfl ?_
    refine so_nil ?_
    exact by_ret rfl ⟨_, h, rfl, hs⟩
  · refine fi_false rfl (decide_eq_false c101) ?_
    refine fi_skip ?_
    refine fi_seq ?_
    refine fi_region ?_
    refine so_move (v := (.v (.str (pk a0)))) rfl ?_
    refine sv_call (spec_CountOutputs_ok a0 hs  _ h) rfl rfl nofun ?_
    clear h hs
    rintro _ H105 ⟨y102, y103, y104, h, rfl, hs⟩
    refine so_move (v := (.t [(.v (.int .i64 y102)), (.v (.int .i64 y103)), (.v (.bool y104))])) rfl ?_
    refine so_extract rfl rfl rfl ?_
    refine so_extract rfl rfl rfl ?_
    refine so_extract rfl rfl rfl ?_
    refine so_assign (v := (.v (.int .i64 y102))) rfl ?_
    refine so_assign (v := (.v (.int .i64 y103))) rfl ?_
    refine so_assign (v := (.v (.bool y104))) rfl ?_
    refine so_nil ?_
    refine fi_seq ?_
    refine fi_region ?_
    refine so_move (v := (.v (.str (pk a0)))) rfl ?_
    refine sv_call (impl_CountOutputs_ok a0 hs  _ h) rfl rfl nofun ?_
    clear h hs
    rintro _ H109 ⟨y106, y107, y108, h, rfl, hs⟩
    refine so_move (v := (.t [(.v (.int .i64 y106)), (.v (.int .i64 y107)), (.v (.bool y108))])) rfl ?_
    refine so_extract rfl rfl rfl ?_
    refine so_extract rfl rfl rfl ?_
    refine so_extract rfl rfl rfl ?_
    refine so_assign (v := (.v (.int .i64 y106))) rfl ?_
    refine so_assign (v := (.v (.int .i64 y107))) rfl ?_
    refine so_assign (v := (.v (.bool y108))) rfl ?_
    refine so_nil ?_
    refine fi_seq ?_
    refine fi_seq ?_
    refine fi_region ?_
    refine so_move (v := (.v (.int .i64 y106))) rfl ?_
    refine so_move (v := (.v (.int .i64 y102))) rfl ?_
    refine so_bin rfl rfl ab_neq ?_
    refine so_move (v := (.v (.bool (!(decide (y106 = y102)))))) rfl ?_
    replace h := ofP h; rcases h with ⟨c110, h⟩ | ⟨c110, h⟩
    · refine so_gyes rfl (not_f (decide_eq_true c110)) ?_
      refine so_move (v := (.v (.int .i64 y107))) rfl ?_
      refine so_gyes rfl (not_f (decide_eq_true c110)) ?_
      refine so_move (v := (.v (.int .i64 y103))) rfl ?_
      refine so_gyes rfl (not_f (decide_eq_true c110)) ?_
      refine so_bin rfl rfl ab_neq ?_
      refine so_pick_f (v := (.v (.bool (!(decide (y107 = y103)))))) rfl (not_f (decide_eq_true c110)) rfl ?_
      refine so_move (v := (.v (.bool (!(decide (y107 = y103)))))) rfl ?_
      replace h := ofP h; rcases h with ⟨c111, h⟩ | ⟨c111, h⟩
      · refine so_gyes rfl (not_f (decide_eq_true c111)) ?_
        refine so_move (v := (.v (.bool y108))) rfl ?_
        refine so_gyes rfl (not_f (decide_eq_true c111)) ?_
        refine so_move (v := (.v (.bool y104))) rfl ?_
        refine so_gyes rfl (not_f (decide_eq_true c111)) ?_
        refine so_bin rfl rfl (ab_bneq F3.tb4) ?_
        refine so_pick_f (v := (.v (.bool (!(y108 == y104))))) rfl (not_f (decide_eq_true c111)) rfl ?_
        refine so_nil ?_
        replace h := ofT h; rcases h with ⟨c112, h⟩ | ⟨c112, h⟩
        · refine fi_false rfl (not_f c112) ?_
          refine fi_skip ?_
          refine fi_seq ?_
          refine fi_region ?_
          refine so_assign (v := (.v (.bool true))) rfl ?_
          refine so_nil ?_
          exact by_ret rfl ⟨_, h, rfl, hs⟩
        · refine fi_true rfl (not_t c112) ?_
          refine fi_seq ?_
          refine fi_region ?_
          refine so_assign (v := (.v (.bool false))) rfl ?_
          refine so_nil ?_
          exact by_ret rfl ⟨_, h, rfl, hs⟩
      · refine so_gno rfl (not_t (decide_eq_false c111)) ?_
        refine so_gno rfl (not_t (decide_eq_false c111)) ?_
        refine so_gno rfl (not_t (decide_eq_false c111)) ?_
        refine so_pick_t (v := (.v (.bool true))) rfl (not_t (decide_eq_false c111)) rfl ?_
        refine so_nil ?_
        refine fi_true rfl rfl ?_
        refine fi_seq ?_
        refine fi_region ?_
        refine so_assign (v := (.v (.bool false))) rfl ?_
        refine so_nil ?_
        exact by_ret rfl ⟨_, h, rfl, hs⟩
    · refine so_gno rfl (not_t (decide_eq_false c110)) ?_
      refine so_gno rfl (not_t (decide_eq_false c110)) ?_
      refine so_gno rfl (not_t (decide_eq_false c110)) ?_
      refine so_pick_t (v := (.v (.bool true))) rfl (not_t (decide_eq_false c110)) rfl ?_
      refine so_move (v := (.v (.bool true))) rfl ?_
      refine so_gno rfl rfl ?_
      refine so_gno rfl rfl ?_
      refine so_gno rfl rfl ?_
      refine so_pick_t (v := (.v (.bool true))) rfl rfl rfl ?_
      refine so_nil ?_
      refine fi_true rfl rfl ?_
      refine fi_seq ?_
      refine fi_region ?_
      refine so_assign (v := (.v (.bool false))) rfl ?_
      refine so_nil ?_
      exact by_ret rfl ⟨_, h, rfl, hs⟩

end Go.Proofs.YtncblpfphehlpaaDoor.G

