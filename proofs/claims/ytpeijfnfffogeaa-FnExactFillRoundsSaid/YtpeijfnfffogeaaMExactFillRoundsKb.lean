/-
  The model ends so. Printed by a program of the session; nothing here is trusted.
-/
import Derived.Test.YtpeijfnfffogeaaProg
import Derived.KernelRfl
import Derived.Test.YtpeijfnfffogeaaMExactFillRoundsWa
import Derived.Test.YtpeijfnfffogeaaMExactFillRoundsKa
namespace Go.Proofs.Ytpeijfnfffogeaa.G
open Go Go.Ab Go.Proofs Go.Proofs.Ytpeijfnfffogeaa
set_option maxRecDepth 100000
set_option linter.unusedVariables false
set_option linter.unusedSimpArgs false
set_option maxHeartbeats 1000000
attribute [local irreducible] wops wopf Go.Ab.Fin
theorem F265.ag25 : tagg Try.prog 25 = some false := by kernel_rfl
theorem F265.ag37 : tagg Try.prog 37 = some false := by kernel_rfl
theorem F265.fd78_0 : tfield Try.prog 78 0 = some (0, 1, false) := by kernel_rfl
theorem F265.inf78 : (Try.prog.info? 78).isSome = true := by kernel_rfl
theorem F265.sz25 : tsz Try.prog 25 = some 1 := by kernel_rfl
theorem F265.ta37_37 : tapp Try.prog 37 37 = some (1, 4) := by kernel_rfl
theorem F265.te37 : telem Try.prog 37 = some 25 := by kernel_rfl
theorem F265.ti37 : (telem Try.prog 37).isSome = true := by kernel_rfl
theorem F265.tl37 : (telem Try.prog 37).bind (tsz Try.prog) = some 1 := by kernel_rfl
theorem F265.ze25 : tzero Try.prog 25 = some [(.flt .f32 (0 : Nat))] := by kernel_rfl
theorem impl_highOf_ok {fr : List Pc} {H : Heap} (v0 : AV) (l0 : List (Nat)) (hs : Sep H (fr)) (g0 : ∀ H, Sep H fr → Shows H v0 1 (enc (eFlt .f32) l0)) (K : (List (Nat)) → Prop) (h : impl_highOf.wp l0 K) : OkQ Try.prog 265 [(.g [v0])] H (fun r H2 => ∃ (y0 : List (Nat)), K y0 ∧ ∃ (w0_ : AV), r = (.v w0_) ∧ Sep H2 (Pc.osl w0_ 1 (enc (eFlt .f32) y0) :: fr)) := by
  unfold impl_highOf.wp at h
  refine of_body Try.f265 F.hm Try.func265 rfl Try.call265 (by kernel_rfl) (by simp) ?_
  refine fi_seq ?_
  refine fi_region ?_
  refine sv_box hs rfl (c := [v0]) rfl F265.inf78 (stc (g0 _ hs).stor stn) nofun (fun id101 H102 hs => ?_)
  refine so_assign (v := (.v .nilsl)) rfl ?_
  refine so_nil ?_
  refine fi_seq ?_
  refine fi_region ?_
  refine sv_bslice hs (eFlt .f32) ([] : List (Nat)) [] F265.te37 F265.sz25 F265.ze25 rfl rfl rfl rfl (fun _ => rfl) rfl (by decide) nofun (fun v104 H105 nv104 hs => ?_)
  refine so_assign (v := (.v v104)) rfl ?_
  refine so_nil ?_
  refine fi_seq ?_
  refine fi_seq ?_
  refine fi_region ?_
  refine so_fieldAddr rfl F265.fd78_0 ?_
  refine sv_ld hs 1 rfl rfl rfl F265.ag37 ?_
  refine sv_len (g0 _ hs.tl.tl) (fun _ => rfl) (by decide) rfl F265.ti37 ?_
  refine so_move (v := (.v (.int .i64 (0 : Int)))) rfl ?_
  refine so_nil ?_
  refine fi_block ?_
  refine fi_loop ?_
  refine fi_at [(1, (.v (.ptr id101 0))), (3, (.v v104)), (9, (.v (.int .i64 (l0.length : Int)))), (10, (.v (.int .i64 (0 : Int))))] ⟨rfl, rfl, rfl, rfl, trivial⟩ ?_
  refine h (fun (out127 : List (Nat)) (x129 : Int) => ∀ (s : Nat → TV) (H : Heap) (v128 : AV) (nv128 : v128 ≠ .nilsl), Sep H (Pc.osl v128 1 (enc (eFlt .f32) out127) :: Pc.box id101 [v0] :: fr) → Fin _ _ (updL s [(1, (.v (.ptr id101 0))), (3, (.v v128)), (9, (.v (.int .i64 (l0.length : Int)))), (10, (.v (.int .i64 x129)))]) H _) ?_ _ _ _ nv104 hs
  intro out127 x129 h s145 H146 v128 nv128 hs
  refine fi_inLoop ?_
  refine fi_seq ?_
  refine fi_region ?_
  refine so_bin rfl rfl ab_lss ?_
  refine so_nil ?_
  refine fi_seq ?_
  replace h := ofP h; rcases h with ⟨c130, h⟩ | ⟨c130, h⟩
  · refine fi_true rfl (decide_eq_true c130) ?_
    refine fi_skip ?_
    refine fi_seq ?_
    refine fi_block ?_
    refine fi_seq ?_
    refine fi_region ?_
    refine so_move (v := (.v (.int .i64 x129))) rfl ?_
    refine so_assign (v := (.v (.int .i64 x129))) rfl ?_
    refine so_nil ?_
    refine fi_seq ?_
    refine fi_region ?_
    refine so_fieldAddr rfl F265.fd78_0 ?_
    refine sv_ld hs 1 rfl rfl rfl F265.ag37 ?_
    refine so_fieldAddr rfl F265.fd78_0 ?_
    refine sv_ld hs 1 rfl rfl rfl F265.ag37 ?_
    refine sv_len (g0 _ hs.tl.tl) (fun _ => rfl) (by decide) rfl F265.ti37 ?_
    refine so_bin rfl rfl ab_sub ?_
    refine so_move (v := (.v (.int .i64 x129))) rfl ?_
    refine so_bin rfl rfl ab_sub ?_
    obtain ⟨c131, h⟩ := h
    refine sv_idx (g0 _ hs.tl.tl) c131 (fun _ => rfl) (by decide) rfl rfl F265.tl37 ?_
    refine sv_cell (g0 _ hs.tl.tl) c131 (0 : Nat) 0 (fun x => (AV.flt .f32 x)) (fun _ => rfl) (fun _ => rfl) rfl F265.ag25 ?_
    refine so_assign (v := (.v (.flt .f32 (l0.getD ((IntKind.i64.wrap ((IntKind.i64.wrap ((l0.length : Int) - (1 : Int))) - x129))).toNat (0 : Nat))))) rfl ?_
    refine so_nil ?_
    refine fi_seq ?_
    refine fi_seq ?_
    refine fi_region ?_
    refine so_move (v := (.v (.int .i64 x129))) rfl ?_
    refine so_bin rfl rfl (ab_rem (by decide)) ?_
    refine so_bin rfl rfl ab_eql ?_
    refine so_nil ?_
    replace h := ofP h; rcases h with ⟨c132, h⟩ | ⟨c132, h⟩
    · refine fi_true rfl (decide_eq_true c132) ?_
      refine fi_region ?_
      refine so_move (v := (.v (.flt .f32 (l0.getD ((IntKind.i64.wrap ((IntKind.i64.wrap ((l0.length : Int) - (1 : Int))) - x129))).toNat (0 : Nat))))) rfl ?_
      refine so_un rfl au_fneg' ?_
      refine so_assign (v := (.v (.flt .f32 (fneg .f32 (l0.getD ((IntKind.i64.wrap ((IntKind.i64.wrap ((l0.length : Int) - (1 : Int))) - x129))).toNat (0 : Nat)))))) rfl ?_
      refine so_nil ?_
      refine fi_region ?_
      refine so_move (v := (.v v128)) rfl ?_
      refine so_move (v := (.v (.flt .f32 (fneg .f32 (l0.getD ((IntKind.i64.wrap ((IntKind.i64.wrap ((l0.length : Int) - (1 : Int))) - x129))).toNat (0 : Nat)))))) rfl ?_
      refine sv_bslice hs (eFlt .f32) ([(fneg .f32 (l0.getD ((IntKind.i64.wrap ((IntKind.i64.wrap ((l0.length : Int) - (1 : Int))) - x129))).toNat (0 : Nat)))] : List (Nat)) [[(.flt .f32 (fneg .f32 (l0.getD ((IntKind.i64.wrap ((IntKind.i64.wrap ((l0.length : Int) - (1 : Int))) - x129))).toNat (0 : Nat))))]] F265.te37 F265.sz25 F265.ze25 rfl rfl rfl rfl (fun _ => rfl) rfl (by decide) nofun (fun v133 H134 nv133 hs => ?_)
      obtain ⟨c138, h⟩ := h
      refine sv_app hs 1 rfl (hs.shows 0 rfl) (fun _ => rfl) (by decide) F265.ta37_37 (by decide) c138 rfl rfl nofun (fun v136 H137 kv136 hs => ?_)
      replace hs := hs.del 0
      have nv136 := kv136 nv128
      refine so_assign (v := (.v v136)) rfl ?_
      refine so_nil ?_
      refine fi_inBlock ?_
      refine fi_region ?_
      refine so_bin rfl rfl ab_add ?_
      refine so_move (v := (.v (.int .i64 (IntKind.i64.wrap (x129 + (1 : Int)))))) rfl ?_
      refine so_nil ?_
      exact fi_at [(1, (.v (.ptr id101 0))), (3, (.v v136)), (9, (.v (.int .i64 (l0.length : Int)))), (10, (.v (.int .i64 (IntKind.i64.wrap (x129 + (1 : Int))))))] ⟨rfl, rfl, rfl, rfl, trivial⟩ (h _ _ _ nv136 hs)
    · refine fi_false rfl (decide_eq_false c132) ?_
      refine fi_skip ?_
      refine fi_region ?_
      refine so_move (v := (.v v128)) rfl ?_
      refine so_move (v := (.v (.flt .f32 (l0.getD ((IntKind.i64.wrap ((IntKind.i64.wrap ((l0.length : Int) - (1 : Int))) - x129))).toNat (0 : Nat))))) rfl ?_
      refine sv_bslice hs (eFlt .f32) ([(l0.getD ((IntKind.i64.wrap ((IntKind.i64.wrap ((l0.length : Int) - (1 : Int))) - x129))).toNat (0 : Nat))] : List (Nat)) [[(.flt .f32 (l0.getD ((IntKind.i64.wrap ((IntKind.i64.wrap ((l0.length : Int) - (1 : Int))) - x129))).toNat (0 : Nat)))]] F265.te37 F265.sz25 F265.ze25 rfl rfl rfl rfl (fun _ => rfl) rfl (by decide) nofun (fun v139 H140 nv139 hs => ?_)
      obtain ⟨c144, h⟩ := h
      refine sv_app hs 1 rfl (hs.shows 0 rfl) (fun _ => rfl) (by decide) F265.ta37_37 (by decide) c144 rfl rfl nofun (fun v142 H143 kv142 hs => ?_)
      replace hs := hs.del 0
      have nv142 := kv142 nv128
      refine so_assign (v := (.v v142)) rfl ?_
      refine so_nil ?_
      refine fi_inBlock ?_
      refine fi_region ?_
      refine so_bin rfl rfl ab_add ?_
      refine so_move (v := (.v (.int .i64 (IntKind.i64.wrap (x129 + (1 : Int)))))) rfl ?_
      refine so_nil ?_
      exact fi_at [(1, (.v (.ptr id101 0))), (3, (.v v142)), (9, (.v (.int .i64 (l0.length : Int)))), (10, (.v (.int .i64 (IntKind.i64.wrap (x129 + (1 : Int))))))] ⟨rfl, rfl, rfl, rfl, trivial⟩ (h _ _ _ nv142 hs)
  · refine fi_false rfl (decide_eq_false c130) ?_
    refine fi_exit rfl ?_
    refine fi_seq ?_
    refine fi_region ?_
    refine so_move (v := (.v v128)) rfl ?_
    refine so_assign (v := (.v v128)) rfl ?_
    refine so_nil ?_
    exact by_ret rfl ⟨_, h, _, rfl, (Sep.del 1 hs)⟩

end Go.Proofs.Ytpeijfnfffogeaa.G

namespace Go.Proofs.Ytpeijfnfffogeaa.G
open Go Go.Ab Go.Proofs Go.Proofs.Ytpeijfnfffogeaa
set_option maxRecDepth 100000
set_option linter.unusedVariables false
set_option linter.unusedSimpArgs false
set_option maxHeartbeats 1000000
attribute [local irreducible] wops wopf Go.Ab.Fin
theorem F245.ag25 : tagg Try.prog 25 = some false := by kernel_rfl
theorem F245.ag37 : tagg Try.prog 37 = some false := by kernel_rfl
theorem F245.ag78 : tagg Try.prog 78 = some true := by kernel_rfl
theorem F245.fd78_0 : tfield Try.prog 78 0 = some (0, 1, false) := by kernel_rfl
theorem F245.inf78 : (Try.prog.info? 78).isSome = true := by kernel_rfl
theorem F245.sz25 : tsz Try.prog 25 = some 1 := by kernel_rfl
theorem F245.sz37 : tsz Try.prog 37 = some 1 := by kernel_rfl
theorem F245.sz78 : tsz Try.prog 78 = some 1 := by kernel_rfl
theorem F245.ta37_37 : tapp Try.prog 37 37 = some (1, 4) := by kernel_rfl
theorem F245.te153 : telem Try.prog 153 = some 37 := by kernel_rfl
theorem F245.te37 : telem Try.prog 37 = some 25 := by kernel_rfl
theorem F245.ti37 : (telem Try.prog 37).isSome = true := by kernel_rfl
theorem F245.tl37 : (telem Try.prog 37).bind (tsz Try.prog) = some 1 := by kernel_rfl
theorem F245.ze25 : tzero Try.prog 25 = some [(.flt .f32 (0 : Nat))] := by kernel_rfl
theorem F245.ze37 : tzero Try.prog 37 = some [.nilsl] := by kernel_rfl
theorem impl_SplitRing_ok {fr : List Pc} {H : Heap} (v0 : AV) (l0 : List (Nat)) (v1 : AV) (l1 : List (Nat)) (hs : Sep H (fr)) (g0 : ∀ H, Sep H fr → Shows H v0 1 (enc (eFlt .f32) l0)) (g1 : ∀ H, Sep H fr → Shows H v1 1 (enc (eFlt .f32) l1)) (K : (List (Nat)) → (List (Nat)) → Bool → Prop) (h : impl_SplitRing.wp l0 l1 K) : OkQ Try.prog 245 [(.v v0), (.g [v1])] H (fun r H2 => ∃ (y0 : List (Nat)) (y1 : List (Nat)) (y2 : Bool), K y0 y1 y2 ∧ ∃ (w0_ : AV) (w1_ : AV), r = (.t [(.v w0_), (.v w1_), (.v (.bool y2))]) ∧ Sep H2 (Pc.osl w0_ 1 (enc (eFlt .f32) y0) :: Pc.osl w1_ 1 (enc (eFlt .f32) y1) :: fr)) := by
  unfold impl_SplitRing.wp at h
  refine of_body Try.f245 F.hm Try.func245 rfl Try.call245 (by kernel_rfl) (by simp) ?_
  refine fi_seq ?_
  refine fi_region ?_
  refine sv_box hs rfl (c := [v1]) rfl F245.inf78 (stc (g1 _ hs).stor stn) nofun (fun id101 H102 hs => ?_)
  refine so_assign (v := (.v .nilsl)) rfl ?_
  refine so_assign (v := (.v .nilsl)) rfl ?_
  refine so_assign (v := (.v (.bool false))) rfl ?_
  refine so_nil ?_
  refine fi_seq ?_
  refine fi_region ?_
  refine so_move (v := (.v v0)) rfl ?_
  refine sv_len (g0 _ hs.tl) (fun _ => rfl) (by decide) rfl F245.ti37 ?_
  refine so_assign (v := (.v (.int .i64 (l0.length : Int)))) rfl ?_
  refine so_nil ?_
  refine fi_seq ?_
  refine fi_seq ?_
  refine fi_region ?_
  refine so_move (v := (.v v0)) rfl ?_
  refine sv_call (impl_isLong_ok v0 l0 hs (fun _ hs => (g0 _ hs.tl)) _ h) rfl rfl nofun ?_
  clear h hs
  rintro _ H105 ⟨y104, h, rfl, hs⟩
  refine so_un rfl au_not ?_
  refine so_move (v := (.v (.bool (!y104)))) rfl ?_
  replace h := ofT h; rcases h with ⟨c106, h⟩ | ⟨c106, h⟩
  · refine so_gyes rfl (not_f c106) ?_
    refine so_move (v := (.v (.int .i64 (l0.length : Int)))) rfl ?_
    refine so_gyes rfl (not_f c106) ?_
    refine so_bin rfl rfl (ab_rem (by decide)) ?_
    refine so_gyes rfl (not_f c106) ?_
    refine so_bin rfl rfl ab_eql ?_
    refine so_pick_f (v := (.v (.bool (decide ((Int.tmod (l0.length : Int) (2 : Int)) = (1 : Int)))))) rfl (not_f c106) rfl ?_
    refine so_move (v := (.v (.bool (decide ((Int.tmod (l0.length : Int) (2 : Int)) = (1 : Int)))))) rfl ?_
    replace h := ofP h; rcases h with ⟨c107, h⟩ | ⟨c107, h⟩
    · refine so_gno rfl (decide_eq_true c107) ?_
      refine so_gno rfl (decide_eq_true c107) ?_
      refine so_gno rfl (decide_eq_true c107) ?_
      refine so_pick_t (v := (.v (.bool true))) rfl (decide_eq_true c107) rfl ?_
      refine so_nil ?_
      refine fi_true rfl rfl ?_
      refine fi_seq ?_
      refine fi_region ?_
      refine so_assign (v := (.v .nilsl)) rfl ?_
      refine so_assign (v := (.v .nilsl)) rfl ?_
      refine so_assign (v := (.v (.bool false))) rfl ?_
      refine so_nil ?_
      exact by_ret rfl ⟨_, _, _, h, _, _, rfl, (Sep.nil (Sep.nil (Sep.del 0 hs) 1) 1)⟩
    · refine so_gyes rfl (decide_eq_false c107) ?_
      refine sv_lds hs 0 rfl rfl (leb rfl) rfl F245.ag78 F245.sz78 ?_
      refine so_gyes rfl (decide_eq_false c107) ?_
      refine sv_call (impl_ValidPair_ok v1 l1 hs (fun _ hs => (g1 _ hs.tl)) _ h) rfl rfl nofun ?_
      clear h hs
      rintro _ H109 ⟨y108, h, rfl, hs⟩
      refine so_gyes rfl (decide_eq_false c107) ?_
      refine so_un rfl au_not ?_
      refine so_pick_f (v := (.v (.bool (!y108)))) rfl (decide_eq_false c107) rfl ?_
      refine so_nil ?_
      replace h := ofT h; rcases h with ⟨c110, h⟩ | ⟨c110, h⟩
      · refine fi_false rfl (not_f c110) ?_
        refine fi_skip ?_
        refine fi_seq ?_
        refine fi_region ?_
        refine sv_lds hs 0 rfl rfl (leb rfl) rfl F245.ag78 F245.sz78 ?_
        refine sv_call (impl_highOf_ok v1 l1 hs (fun _ hs => (g1 _ hs.tl)) _ h) rfl rfl nofun ?_
        clear h hs
        rintro _ H114 ⟨y111, h, v112, rfl, hs⟩
        refine so_assign (v := (.v v112)) rfl ?_
        refine so_nil ?_
        refine fi_seq ?_
        refine fi_region ?_
        refine sv_bslice hs (eFlt .f32) ([] : List (Nat)) [] F245.te37 F245.sz25 F245.ze25 rfl rfl rfl rfl (fun _ => rfl) rfl (by decide) nofun (fun v115 H116 nv115 hs => ?_)
        refine sv_bslice hs (eFlt .f32) ([] : List (Nat)) [] F245.te37 F245.sz25 F245.ze25 rfl rfl rfl rfl (fun _ => rfl) rfl (by decide) nofun (fun v118 H119 nv118 hs => ?_)
        refine so_assign (v := (.v v115)) rfl ?_
        refine so_assign (v := (.v v118)) rfl ?_
        refine so_nil ?_
        refine fi_seq ?_
        refine fi_seq ?_
        refine fi_region ?_
        refine so_move (v := (.v (.int .i64 (l0.length : Int)))) rfl ?_
        refine so_bin rfl rfl (ab_quo (by decide)) ?_
        refine so_move (v := (.v (.int .i64 (0 : Int)))) rfl ?_
        refine so_nil ?_
        refine fi_block ?_
        refine fi_loop ?_
        refine fi_at [(0, (.v v0)), (3, (.v (.ptr id101 0))), (7, (.v (.int .i64 (l0.length : Int)))), (8, (.v v112)), (9, (.v v115)), (10, (.v v118)), (37, (.v (.int .i64 (IntKind.i64.wrap (Int.tdiv (l0.length : Int) (2 : Int)))))), (38, (.v (.int .i64 (0 : Int))))] ⟨rfl, rfl, rfl, rfl, rfl, rfl, rfl, rfl, trivial⟩ ?_
        refine h (fun (two158 : List (Nat)) (one160 : List (Nat)) (x162 : Int) => ∀ (s : Nat → TV) (H : Heap) (v159 : AV) (nv159 : v159 ≠ .nilsl) (v161 : AV) (nv161 : v161 ≠ .nilsl), Sep H (Pc.osl v159 1 (enc (eFlt .f32) two158) :: Pc.osl v161 1 (enc (eFlt .f32) one160) :: Pc.osl v112 1 (enc (eFlt .f32) y111) :: Pc.box id101 [v1] :: fr) → Fin _ _ (updL s [(0, (.v v0)), (3, (.v (.ptr id101 0))), (7, (.v (.int .i64 (l0.length : Int)))), (8, (.v v112)), (9, (.v v161)), (10, (.v v159)), (37, (.v (.int .i64 (IntKind.i64.wrap (Int.tdiv (l0.length : Int) (2 : Int)))))), (38, (.v (.int .i64 x162)))]) H _) ?_ _ _ _ nv118 _ nv115 hs
        intro two158 one160 x162 h s193 H194 v159 nv159 v161 nv161 hs
        refine fi_inLoop ?_
        refine fi_seq ?_
        refine fi_region ?_
        refine so_bin rfl rfl ab_lss ?_
        refine so_nil ?_
        refine fi_seq ?_
        replace h := ofP h; rcases h with ⟨c163, h⟩ | ⟨c163, h⟩
        · refine fi_true rfl (decide_eq_true c163) ?_
          refine fi_skip ?_
          refine fi_seq ?_
          refine fi_block ?_
          refine fi_seq ?_
          refine fi_region ?_
          refine so_move (v := (.v (.int .i64 x162))) rfl ?_
          refine so_assign (v := (.v (.int .i64 x162))) rfl ?_
          refine so_nil ?_
          refine fi_seq ?_
          refine fi_region ?_
          refine so_assign (v := (.v (.flt .f32 (cz .f32 0)))) rfl ?_
          refine so_assign (v := (.v (.flt .f32 (cz .f32 0)))) rfl ?_
          refine so_nil ?_
          refine fi_seq ?_
          refine fi_seq ?_
          refine fi_region ?_
          refine so_fieldAddr rfl F245.fd78_0 ?_
          refine sv_ld hs 3 rfl rfl rfl F245.ag37 ?_
          refine sv_len (g1 _ hs.tl.tl.tl.tl) (fun _ => rfl) (by decide) rfl F245.ti37 ?_
          refine so_move (v := (.v (.int .i64 (0 : Int)))) rfl ?_
          refine so_nil ?_
          refine fi_block ?_
          refine fi_loop ?_
          refine fi_at [(0, (.v v0)), (3, (.v (.ptr id101 0))), (7, (.v (.int .i64 (l0.length : Int)))), (8, (.v v112)), (9, (.v v161)), (10, (.v v159)), (11, (.v (.int .i64 x162))), (12, (.v (.flt .f32 (cz .f32 0)))), (13, (.v (.flt .f32 (cz .f32 0)))), (37, (.v (.int .i64 (IntKind.i64.wrap (Int.tdiv (l0.length : Int) (2 : Int)))))), (38, (.v (.int .i64 x162))), (42, (.v v1)), (43, (.v (.int .i64 (l1.length : Int)))), (44, (.v (.int .i64 (0 : Int))))] ⟨rfl, rfl, rfl, rfl, rfl, rfl, rfl, rfl, rfl, rfl, rfl, rfl, rfl, rfl, trivial⟩ ?_
          refine h (fun (a165 : Nat) (b166 : Nat) (x167 : Int) => ∀ (s : Nat → TV) (H : Heap), Sep H (Pc.osl v159 1 (enc (eFlt .f32) two158) :: Pc.osl v161 1 (enc (eFlt .f32) one160) :: Pc.osl v112 1 (enc (eFlt .f32) y111) :: Pc.box id101 [v1] :: fr) → Fin _ _ (updL s [(0, (.v v0)), (3, (.v (.ptr id101 0))), (7, (.v (.int .i64 (l0.length : Int)))), (8, (.v v112)), (9, (.v v161)), (10, (.v v159)), (11, (.v (.int .i64 x162))), (12, (.v (.flt .f32 a165))), (13, (.v (.flt .f32 b166))), (37, (.v (.int .i64 (IntKind.i64.wrap (Int.tdiv (l0.length : Int) (2 : Int)))))), (38, (.v (.int .i64 x162))), (42, (.v v1)), (43, (.v (.int .i64 (l1.length : Int)))), (44, (.v (.int .i64 x167)))]) H _) ?_ _ _ hs
          intro a165 b166 x167 h s185 H186 hs
          refine fi_inLoop ?_
          refine fi_seq ?_
          refine fi_region ?_
          refine so_bin rfl rfl ab_lss ?_
          refine so_nil ?_
          refine fi_seq ?_
          replace h := ofP h; rcases h with ⟨c168, h⟩ | ⟨c168, h⟩
          · refine fi_true rfl (decide_eq_true c168) ?_
            refine fi_skip ?_
            refine fi_seq ?_
            refine fi_block ?_
            refine fi_seq ?_
            refine fi_region ?_
            refine so_move (v := (.v (.int .i64 x167))) rfl ?_
            obtain ⟨c169, h⟩ := h
            refine sv_idx (g1 _ hs.tl.tl.tl.tl) c169 (fun _ => rfl) (by decide) rfl rfl F245.tl37 ?_
            refine sv_cell (g1 _ hs.tl.tl.tl.tl) c169 (0 : Nat) 0 (fun x => (AV.flt .f32 x)) (fun _ => rfl) (fun _ => rfl) rfl F245.ag25 ?_
            refine so_assign (v := (.v (.int .i64 x167))) rfl ?_
            refine so_assign (v := (.v (.flt .f32 (l1.getD (x167).toNat (0 : Nat))))) rfl ?_
            refine so_nil ?_
            refine fi_seq ?_
            refine fi_region ?_
            refine so_move (v := (.v v0)) rfl ?_
            refine so_move (v := (.v (.int .i64 x162))) rfl ?_
            refine so_bin rfl rfl ab_mul ?_
            refine so_move (v := (.v (.int .i64 x167))) rfl ?_
            refine so_bin rfl rfl ab_add ?_
            refine so_move (v := (.v (.int .i64 (l0.length : Int)))) rfl ?_
            obtain ⟨c170, h⟩ := h
            refine so_bin rfl rfl (ab_rem c170) ?_
            obtain ⟨c171, h⟩ := h
            refine sv_idx (g0 _ hs.tl.tl.tl.tl) c171 (fun _ => rfl) (by decide) rfl rfl F245.tl37 ?_
            refine sv_cell (g0 _ hs.tl.tl.tl.tl) c171 (0 : Nat) 0 (fun x => (AV.flt .f32 x)) (fun _ => rfl) (fun _ => rfl) rfl F245.ag25 ?_
            refine so_assign (v := (.v (.flt .f32 (l0.getD ((Int.tmod (IntKind.i64.wrap ((IntKind.i64.wrap ((2 : Int) * x162)) + x167)) (l0.length : Int))).toNat (0 : Nat))))) rfl ?_
            refine so_nil ?_
            refine fi_seq ?_
            refine fi_region ?_
            refine so_move (v := (.v (.flt .f32 a165))) rfl ?_
            refine so_move (v := (.v (.flt .f32 (l1.getD (x167).toNat (0 : Nat))))) rfl ?_
            refine so_move (v := (.v (.flt .f32 (l0.getD ((Int.tmod (IntKind.i64.wrap ((IntKind.i64.wrap ((2 : Int) * x162)) + x167)) (l0.length : Int))).toNat (0 : Nat))))) rfl ?_
            refine so_bin rfl rfl ab_fmul ?_
            refine so_bin rfl rfl ab_fadd ?_
            refine so_assign (v := (.v (.flt .f32 (fop .add .f32 a165 (fop .mul .f32 (l1.getD (x167).toNat (0 : Nat)) (l0.getD ((Int.tmod (IntKind.i64.wrap ((IntKind.i64.wrap ((2 : Int) * x162)) + x167)) (l0.length : Int))).toNat (0 : Nat))))))) rfl ?_
            refine so_nil ?_
            refine fi_region ?_
            refine so_move (v := (.v (.flt .f32 b166))) rfl ?_
            refine so_move (v := (.v v112)) rfl ?_
            refine so_move (v := (.v (.int .i64 x167))) rfl ?_
            obtain ⟨c172, h⟩ := h
            refine sv_idx (hs.shows 2 rfl) c172 (fun _ => rfl) (by decide) rfl rfl F245.tl37 ?_
            refine sv_cell (hs.shows 2 rfl) c172 (0 : Nat) 0 (fun x => (AV.flt .f32 x)) (fun _ => rfl) (fun _ => rfl) rfl F245.ag25 ?_
            refine so_move (v := (.v (.flt .f32 (l0.getD ((Int.tmod (IntKind.i64.wrap ((IntKind.i64.wrap ((2 : Int) * x162)) + x167)) (l0.length : Int))).toNat (0 : Nat))))) rfl ?_
            refine so_bin rfl rfl ab_fmul ?_
            refine so_bin rfl rfl ab_fadd ?_
            refine so_assign (v := (.v (.flt .f32 (fop .add .f32 b166 (fop .mul .f32 (y111.getD (x167).toNat (0 : Nat)) (l0.getD ((Int.tmod (IntKind.i64.wrap ((IntKind.i64.wrap ((2 : Int) * x162)) + x167)) (l0.length : Int))).toNat (0 : Nat))))))) rfl ?_
            refine so_nil ?_
            refine fi_inBlock ?_
            refine fi_region ?_
            refine so_bin rfl rfl ab_add ?_
            refine so_move (v := (.v (.int .i64 (IntKind.i64.wrap (x167 + (1 : Int)))))) rfl ?_
            refine so_nil ?_
            exact fi_at [(0, (.v v0)), (3, (.v (.ptr id101 0))), (7, (.v (.int .i64 (l0.length : Int)))), (8, (.v v112)), (9, (.v v161)), (10, (.v v159)), (11, (.v (.int .i64 x162))), (12, (.v (.flt .f32 (fop .add .f32 a165 (fop .mul .f32 (l1.getD (x167).toNat (0 : Nat)) (l0.getD ((Int.tmod (IntKind.i64.wrap ((IntKind.i64.wrap ((2 : Int) * x162)) + x167)) (l0.length : Int))).toNat (0 : Nat))))))), (13, (.v (.flt .f32 (fop .add .f32 b166 (fop .mul .f32 (y111.getD (x167).toNat (0 : Nat)) (l0.getD ((Int.tmod (IntKind.i64.wrap ((IntKind.i64.wrap ((2 : Int) * x162)) + x167)) (l0.length : Int))).toNat (0 : Nat))))))), (37, (.v (.int .i64 (IntKind.i64.wrap (Int.tdiv (l0.length : Int) (2 : Int)))))), (38, (.v (.int .i64 x162))), (42, (.v v1)), (43, (.v (.int .i64 (l1.length : Int)))), (44, (.v (.int .i64 (IntKind.i64.wrap (x167 + (1 : Int))))))] ⟨rfl, rfl, rfl, rfl, rfl, rfl, rfl, rfl, rfl, rfl, rfl, rfl, rfl, rfl, trivial⟩ (h _ _  hs)
          · refine fi_false rfl (decide_eq_false c168) ?_
            refine fi_exit rfl ?_
            refine fi_region ?_
            refine so_move (v := (.v v161)) rfl ?_
            refine so_move (v := (.v (.flt .f32 a165))) rfl ?_
            refine sv_bslice hs (eFlt .f32) ([a165] : List (Nat)) [[(.flt .f32 a165)]] F245.te37 F245.sz25 F245.ze25 rfl rfl rfl rfl (fun _ => rfl) rfl (by decide) nofun (fun v173 H174 nv173 hs => ?_)
            obtain ⟨c178, h⟩ := h
            refine sv_app hs 2 rfl (hs.shows 0 rfl) (fun _ => rfl) (by decide) F245.ta37_37 (by decide) c178 rfl rfl nofun (fun v176 H177 kv176 hs => ?_)
            replace hs := hs.del 0
            have nv176 := kv176 nv161
            refine so_move (v := (.v v159)) rfl ?_
            refine so_move (v := (.v (.flt .f32 b166))) rfl ?_
            refine sv_bslice hs (eFlt .f32) ([b166] : List (Nat)) [[(.flt .f32 b166)]] F245.te37 F245.sz25 F245.ze25 rfl rfl rfl rfl (fun _ => rfl) rfl (by decide) nofun (fun v179 H180 nv179 hs => ?_)
            obtain ⟨c184, h⟩ := h
            refine sv_app hs 1 rfl (hs.shows 0 rfl) (fun _ => rfl) (by decide) F245.ta37_37 (by decide) c184 rfl rfl nofun (fun v182 H183 kv182 hs => ?_)
            replace hs := hs.del 0
            have nv182 := kv182 nv159
            refine so_assign (v := (.v v176)) rfl ?_
            refine so_assign (v := (.v v182)) rfl ?_
            refine so_nil ?_
            refine fi_inBlock ?_
            refine fi_region ?_
            refine so_bin rfl rfl ab_add ?_
            refine so_move (v := (.v (.int .i64 (IntKind.i64.wrap (x162 + (1 : Int)))))) rfl ?_
            refine so_nil ?_
            exact fi_at [(0, (.v v0)), (3, (.v (.ptr id101 0))), (7, (.v (.int .i64 (l0.length : Int)))), (8, (.v v112)), (9, (.v v176)), (10, (.v v182)), (37, (.v (.int .i64 (IntKind.i64.wrap (Int.tdiv (l0.length : Int) (2 : Int)))))), (38, (.v (.int .i64 (IntKind.i64.wrap (x162 + (1 : Int))))))] ⟨rfl, rfl, rfl, rfl, rfl, rfl, rfl, rfl, trivial⟩ (h _ _ _ nv182 _ nv176 hs)
        · refine fi_false rfl (decide_eq_false c163) ?_
          refine fi_exit rfl ?_
          refine fi_seq ?_
          refine fi_seq ?_
          refine fi_region ?_
          refine so_move (v := (.v v161)) rfl ?_
          refine so_move (v := (.v v159)) rfl ?_
          refine sd_bslice hs [[v161], [v159]] F245.te153 F245.sz37 F245.ze37 rfl rfl rfl (by simp) (fac (stc (hs.shows 1 rfl).stor stn) (fac (stc (hs.shows 0 rfl).stor stn) fan)) (by decide) rfl nofun (fun v187 H188 _ hs => ?_)
          refine sv_callS (impl_areFinite_ok v187 ([[v161], [v159]]) ([one160, two158] : List (List (Nat))) hs (fun _ hs => ⟨hs.shows 0 rfl, by simp, ⟨⟨rfl, (hs.shows 2 rfl)⟩, ⟨⟨rfl, (hs.shows 1 rfl)⟩, trivial⟩⟩⟩) _ h) (fun _ _ ⟨_, _, _, e⟩ => e) rfl rfl ?_
          clear h
          rintro _ _ ⟨y190, h, rfl, rfl⟩
          refine so_un rfl au_not ?_
          refine so_nil ?_
          replace h := ofT h; rcases h with ⟨c192, h⟩ | ⟨c192, h⟩
          · refine fi_false rfl (not_f c192) ?_
            refine fi_skip ?_
            refine fi_seq ?_
            refine fi_region ?_
            refine so_move (v := (.v v161)) rfl ?_
            refine so_move (v := (.v v159)) rfl ?_
            refine so_assign (v := (.v v161)) rfl ?_
            refine so_assign (v := (.v v159)) rfl ?_
            refine so_assign (v := (.v (.bool true))) rfl ?_
            refine so_nil ?_
            exact by_ret rfl ⟨_, _, _, h, _, _, rfl, (Sep.front 1 (Sep.del 2 (Sep.del 2 (Sep.del 0 hs))) rfl)⟩
          · refine fi_true rfl (not_t c192) ?_
            refine fi_seq ?_
            refine fi_region ?_
            refine so_assign (v := (.v .nilsl)) rfl ?_
            refine so_assign (v := (.v .nilsl)) rfl ?_
            refine so_assign (v := (.v (.bool false))) rfl ?_
            refine so_nil ?_
            exact by_ret rfl ⟨_, _, _, h, _, _, rfl, (Sep.nil (Sep.nil (Sep.dropn 5 hs) 1) 1)⟩
      · refine fi_true rfl (not_t c110) ?_
        refine fi_seq ?_
        refine fi_region ?_
        refine so_assign (v := (.v .nilsl)) rfl ?_
        refine so_assign (v := (.v .nilsl)) rfl ?_
        refine so_assign (v := (.v (.bool false))) rfl ?_
        refine so_nil ?_
        exact by_ret rfl ⟨_, _, _, h, _, _, rfl, (Sep.nil (Sep.nil (Sep.del 0 hs) 1) 1)⟩
  · refine so_gno rfl (not_t c106) ?_
    refine so_gno rfl (not_t c106) ?_
    refine so_gno rfl (not_t c106) ?_
    refine so_pick_t (v := (.v (.bool true))) rfl (not_t c106) rfl ?_
    refine so_move (v := (.v (.bool true))) rfl ?_
    refine so_gno rfl rfl ?_
    refine so_gno rfl rfl ?_
    refine so_gno rfl rfl ?_
    refine so_pick_t (v := (.v (.bool true))) rfl rfl rfl ?_
    refine so_nil ?_
    refine fi_true rfl rfl ?_
    refine fi_seq ?_
    refine fi_region ?_
    refine so_assign (v := (.v .nilsl)) rfl ?_
    refine so_assign (v := (.v .nilsl)) rfl ?_
    refine so_assign (v := (.v (.bool false))) rfl ?_
    refine so_nil ?_
    exact by_ret rfl ⟨_, _, _, h, _, _, rfl, (Sep.nil (Sep.nil (Sep.del 0 hs) 1) 1)⟩

end Go.Proofs.Ytpeijfnfffogeaa.G

namespace Go.Proofs.Ytpeijfnfffogeaa.G
open Go Go.Ab Go.Proofs Go.Proofs.Ytpeijfnfffogeaa
set_option maxRecDepth 100000
set_option linter.unusedVariables false
set_option linter.unusedSimpArgs false
set_option maxHeartbeats 1000000
attribute [local irreducible] wops wopf Go.Ab.Fin
theorem F192.ag153 : tagg Try.prog 153 = some false := by kernel_rfl
theorem F192.ag155 : tagg Try.prog 155 = some true := by kernel_rfl
theorem F192.ag37 : tagg Try.prog 37 = some false := by kernel_rfl
theorem F192.ag78 : tagg Try.prog 78 = some true := by kernel_rfl
theorem F192.bp155 : bplan Try.prog 155 = some ([.nilsl, .nilsl], [(0, 1), (1, 1)]) := by kernel_rfl
theorem F192.fd155_0 : tfield Try.prog 155 0 = some (0, 1, false) := by kernel_rfl
theorem F192.fd155_1 : tfield Try.prog 155 1 = some (1, 1, false) := by kernel_rfl
theorem F192.inf78 : (Try.prog.info? 78).isSome = true := by kernel_rfl
theorem F192.sz153 : tsz Try.prog 153 = some 1 := by kernel_rfl
theorem F192.sz155 : tsz Try.prog 155 = some 2 := by kernel_rfl
theorem F192.sz37 : tsz Try.prog 37 = some 1 := by kernel_rfl
theorem F192.sz78 : tsz Try.prog 78 = some 1 := by kernel_rfl
theorem F192.ta153_153 : tapp Try.prog 153 153 = some (1, 24) := by kernel_rfl
theorem F192.te153 : telem Try.prog 153 = some 37 := by kernel_rfl
theorem F192.ti37 : (telem Try.prog 37).isSome = true := by kernel_rfl
theorem F192.ze155 : tzero Try.prog 155 = some [.nilsl, .nilsl] := by kernel_rfl
theorem F192.ze37 : tzero Try.prog 37 = some [.nilsl] := by kernel_rfl
theorem impl_SplitLevels_ok {fr : List Pc} {H : Heap} (v0 : AV) (l0 : List (Nat)) (v1 : AV) (l1 : List (Nat)) (a2 : Int) (hs : Sep H (fr)) (g0 : ∀ H, Sep H fr → Shows H v0 1 (enc (eFlt .f32) l0)) (g1 : ∀ H, Sep H fr → Shows H v1 1 (enc (eFlt .f32) l1)) (K : (List (Nat)) → (List (List (Nat))) → Bool → Prop) (h : impl_SplitLevels.wp l0 l1 a2 K) : OkQ Try.prog 192 [(.v v0), (.g [v1]), (.v (.int .i64 a2))] H (fun r H2 => ∃ (y0 : List (Nat)) (y1 : List (List (Nat))) (y2 : Bool), K y0 y1 y2 ∧ ∃ (w0_ : AV) (w1_ : AV) (wsw1_ : List (List AV)) (Sw1_ : Nat → Prop), r = (.t [(.g [w0_, w1_]), (.v (.bool y2))]) ∧ Sep H2 (Pc.osl w0_ 1 (enc (eFlt .f32) y0) :: dpc w1_ 1 R_LeFlt_f32_o y1 wsw1_ Sw1_ :: fr)) := by
  unfold impl_SplitLevels.wp at h
  refine of_body Try.f192 F.hm Try.func192 rfl Try.call192 (by kernel_rfl) (by simp) ?_
  refine fi_seq ?_
  refine fi_region ?_
  refine sv_box hs rfl (c := [v1]) rfl F192.inf78 (stc (g1 _ hs).stor stn) nofun (fun id101 H102 hs => ?_)
  refine sv_alloc hs F192.ze155 rfl nofun (fun id104 H105 hs => ?_)
  refine so_assign (v := (.v (.bool false))) rfl ?_
  refine so_nil ?_
  refine fi_seq ?_
  refine fi_seq ?_
  refine fi_region ?_
  refine so_move (v := (.v v0)) rfl ?_
  refine sv_call (impl_isLong_ok v0 l0 hs (fun _ hs => (g0 _ hs.tl.tl)) _ h) rfl rfl nofun ?_
  clear h hs
  rintro _ H108 ⟨y107, h, rfl, hs⟩
  refine so_un rfl au_not ?_
  refine so_move (v := (.v (.bool (!y107)))) rfl ?_
  replace h := ofT h; rcases h with ⟨c109, h⟩ | ⟨c109, h⟩
  · refine so_gyes rfl (not_f c109) ?_
    refine sv_lds hs 1 rfl rfl (leb rfl) rfl F192.ag78 F192.sz78 ?_
    refine so_gyes rfl (not_f c109) ?_
    refine sv_call (impl_ValidPair_ok v1 l1 hs (fun _ hs => (g1 _ hs.tl.tl)) _ h) rfl rfl nofun ?_
    clear h hs
    rintro _ H111 ⟨y110, h, rfl, hs⟩
    refine so_gyes rfl (not_f c109) ?_
    refine so_un rfl au_not ?_
    refine so_pick_f (v := (.v (.bool (!y110)))) rfl (not_f c109) rfl ?_
    refine so_move (v := (.v (.bool (!y110)))) rfl ?_
    replace h := ofT h; rcases h with ⟨c112, h⟩ | ⟨c112, h⟩
    · refine so_gyes rfl (not_f c112) ?_
      refine so_move (v := (.v (.int .i64 a2))) rfl ?_
      refine so_gyes rfl (not_f c112) ?_
      refine sv_callS (impl_within_ok a2 (1 : Int) (6 : Int) hs  _ h) (fun _ _ ⟨_, _, _, e⟩ => e) rfl rfl ?_
      clear h
      rintro _ _ ⟨y113, h, rfl, rfl⟩
      refine so_gyes rfl (not_f c112) ?_
      refine so_un rfl au_not ?_
      refine so_pick_f (v := (.v (.bool (!y113)))) rfl (not_f c112) rfl ?_
      refine so_move (v := (.v (.bool (!y113)))) rfl ?_
      replace h := ofT h; rcases h with ⟨c115, h⟩ | ⟨c115, h⟩
      · refine so_gyes rfl (not_f c115) ?_
        refine so_move (v := (.v v0)) rfl ?_
        refine so_gyes rfl (not_f c115) ?_
        refine sv_len (g0 _ hs.tl.tl) (fun _ => rfl) (by decide) rfl F192.ti37 ?_
        refine so_gyes rfl (not_f c115) ?_
        refine so_move (v := (.v (.int .i64 a2))) rfl ?_
        refine so_gyes rfl (not_f c115) ?_
        obtain ⟨c116, h⟩ := h
        refine so_bin rfl rfl (ab_shl c116) ?_
        refine so_gyes rfl (not_f c115) ?_
        obtain ⟨c117, h⟩ := h
        refine so_bin rfl rfl (ab_rem c117) ?_
        refine so_gyes rfl (not_f c115) ?_
        refine so_bin rfl rfl ab_neq ?_
        refine so_pick_f (v := (.v (.bool (!(decide ((Int.tmod (l0.length : Int) (IntKind.i64.wrap ((1 : Int) * (2 ^ (min (a2).toNat IntKind.i64.bits))))) = (0 : Int))))))) rfl (not_f c115) rfl ?_
        refine so_nil ?_
        replace h := ofP h; rcases h with ⟨c118, h⟩ | ⟨c118, h⟩
        · refine fi_false rfl (not_f (decide_eq_true c118)) ?_
          refine fi_skip ?_
          refine fi_seq ?_
          refine fi_region ?_
          refine so_move (v := (.v v0)) rfl ?_
          refine sv_call (impl_copyOf_ok v0 l0 hs (fun _ hs => (g0 _ hs.tl.tl)) _ h) rfl rfl nofun ?_
          clear h hs
          rintro _ H122 ⟨y119, h, v120, rfl, hs⟩
          refine so_build F192.bp155 (cps := [(0, [v120])]) rfl (fac (stc (hs.shows 0 rfl).stor stn) fan) rfl ?_
          refine sv_alloc hs F192.ze155 rfl nofun (fun id123 H124 hs => ?_)
          refine sv_st hs 0 rfl rfl rfl (c := [v120, .nilsl]) rfl F192.sz155 rfl (stc (hs.shows 1 rfl).stor (stc rfl stn)) (leb rfl) (cs' := [v120, .nilsl]) rfl nofun (fun H126 hs => ?_)
          refine so_nil ?_
          refine fi_seq ?_
          refine fi_seq ?_
          refine fi_region ?_
          refine so_move (v := (.v (.int .i64 a2))) rfl ?_
          refine so_move (v := (.v (.int .i64 (0 : Int)))) rfl ?_
          refine so_nil ?_
          refine fi_block ?_
          refine fi_loop ?_
          replace hs := hs.dnil 1 R_LeFlt_f32_o
          replace hs := hs.nil 1
          replace hs := hs.dnil 1 R_LeFlt_f32_o
          refine fi_at [(4, (.v (.ptr id101 0))), (6, (.v (.ptr id104 0))), (8, (.v (.ptr id123 0))), (37, (.v (.int .i64 a2))), (38, (.v (.int .i64 (0 : Int))))] ⟨rfl, rfl, rfl, rfl, rfl, trivial⟩ ?_
          refine h (fun (l178 : List (Nat)) (b181 : List (List (Nat))) (b186 : List (Nat)) (b189 : List (List (Nat))) (x193 : Int) => ∀ (s : Nat → TV) (H : Heap) (v179 : AV) (v182 : AV) (ws183 : List (List AV)) (S184 : Nat → Prop) (v187 : AV) (v190 : AV) (ws191 : List (List AV)) (S192 : Nat → Prop), Sep H (dpc v190 1 R_LeFlt_f32_o b189 ws191 S192 :: Pc.osl v187 1 (enc (eFlt .f32) b186) :: dpc v182 1 R_LeFlt_f32_o b181 ws183 S184 :: Pc.box id123 [v179, v182] :: Pc.osl v179 1 (enc (eFlt .f32) l178) :: Pc.box id104 [v187, v190] :: Pc.box id101 [v1] :: fr) → Fin _ _ (updL s [(4, (.v (.ptr id101 0))), (6, (.v (.ptr id104 0))), (8, (.v (.ptr id123 0))), (37, (.v (.int .i64 a2))), (38, (.v (.int .i64 x193)))]) H _) ?_ _ _ _ _ _ _ _ _ _ _ hs
          intro l178 b181 b186 b189 x193 h s216 H217 v179 v182 ws183 S184 v187 v190 ws191 S192 hs
          refine fi_inLoop ?_
          refine fi_seq ?_
          refine fi_region ?_
          refine so_bin rfl rfl ab_lss ?_
          refine so_nil ?_
          refine fi_seq ?_
          replace h := ofP h; rcases h with ⟨c194, h⟩ | ⟨c194, h⟩
          · refine fi_true rfl (decide_eq_true c194) ?_
            refine fi_skip ?_
            refine fi_seq ?_
            refine fi_block ?_
            refine fi_seq ?_
            refine fi_region ?_
            refine so_fieldAddr rfl F192.fd155_0 ?_
            refine sv_ld hs 3 rfl rfl rfl F192.ag37 ?_
            refine sv_lds hs 6 rfl rfl (leb rfl) rfl F192.ag78 F192.sz78 ?_
            refine sv_call (impl_SplitRing_ok v179 l178 v1 l1 hs (fun _ hs => (hs.shows 4 rfl)) (fun _ hs => (g1 _ hs.tl.tl.tl.tl.tl.tl.tl)) _ h) rfl rfl nofun ?_
            clear h hs
            rintro _ H202 ⟨y195, y198, y201, h, v196, v199, rfl, hs⟩
            refine so_move (v := (.t [(.v v196), (.v v199), (.v (.bool y201))])) rfl ?_
            refine so_extract rfl rfl rfl ?_
            refine so_extract rfl rfl rfl ?_
            refine so_extract rfl rfl rfl ?_
            refine so_assign (v := (.v v196)) rfl ?_
            refine so_assign (v := (.v v199)) rfl ?_
            refine so_assign (v := (.v (.bool y201))) rfl ?_
            refine so_nil ?_
            refine fi_seq ?_
            refine fi_seq ?_
            refine fi_region ?_
            refine so_move (v := (.v (.bool y201))) rfl ?_
            refine so_un rfl au_not ?_
            refine so_nil ?_
            replace h := ofT h; rcases h with ⟨c203, h⟩ | ⟨c203, h⟩
            · refine fi_false rfl (not_f c203) ?_
              refine fi_skip ?_
              refine fi_seq ?_
              refine fi_region ?_
              refine so_move (v := (.v v196)) rfl ?_
              refine so_fieldAddr rfl F192.fd155_0 ?_
              refine sv_st hs 5 rfl rfl rfl (c := [v196]) rfl F192.sz37 rfl (stc (hs.shows 0 rfl).stor stn) (leb rfl) (cs' := [v196, v182]) rfl nofun (fun H204 hs => ?_)
              refine so_nil ?_
              refine fi_region ?_
              refine so_fieldAddr rfl F192.fd155_1 ?_
              refine sv_ld hs 5 rfl rfl rfl F192.ag153 ?_
              refine so_move (v := (.v v199)) rfl ?_
              refine sd_bslice hs [[v199]] F192.te153 F192.sz37 F192.ze37 rfl rfl rfl (by simp) (fac (stc (hs.shows 1 rfl).stor stn) fan) (by decide) rfl nofun (fun v205 H206 _ hs => ?_)
              obtain ⟨c208, h⟩ := h
              replace hs := Sep.front 2 hs rfl
              refine sk_app hs 4 rfl y198 [v199] (hs.tl.shows 0 rfl) (fun _ hh => ⟨rfl, hh⟩) rfl (by decide) F192.ta153_153 (by decide) c208 rfl rfl nofun (fun v209 ws210 S211 H212 hs => ?_)
              replace hs := hs.del 0
              refine so_fieldAddr rfl F192.fd155_1 ?_
              refine sv_st hs 4 rfl rfl rfl (c := [v209]) rfl F192.sz153 rfl (stc (hs.dshows 3 rfl).stor stn) (leb rfl) (cs' := [v196, v209]) rfl nofun (fun H213 hs => ?_)
              refine so_nil ?_
              refine fi_inBlock ?_
              refine fi_region ?_
              refine so_bin rfl rfl ab_add ?_
              refine so_move (v := (.v (.int .i64 (IntKind.i64.wrap (x193 + (1 : Int)))))) rfl ?_
              refine so_nil ?_
              exact fi_at [(4, (.v (.ptr id101 0))), (6, (.v (.ptr id104 0))), (8, (.v (.ptr id123 0))), (37, (.v (.int .i64 a2))), (38, (.v (.int .i64 (IntKind.i64.wrap (x193 + (1 : Int))))))] ⟨rfl, rfl, rfl, rfl, rfl, trivial⟩ (h _ _ _ _ _ _ _ _ _ _ (Sep.front 6 (Sep.front 6 (Sep.front 6 (Sep.front 6 (Sep.front 2 (Sep.front 6 (Sep.front 6 (Sep.del 5 hs) rfl) rfl) rfl) rfl) rfl) rfl) rfl))
            · refine fi_true rfl (not_t c203) ?_
              refine fi_seq ?_
              refine fi_region ?_
              refine so_build F192.bp155 (cps := []) rfl fan rfl ?_
              refine sv_st hs 7 rfl rfl rfl (c := [.nilsl, .nilsl]) rfl F192.sz155 rfl (stc rfl (stc rfl stn)) (leb rfl) (cs' := [.nilsl, .nilsl]) rfl nofun (fun H214 hs => ?_)
              refine so_assign (v := (.v (.bool false))) rfl ?_
              refine so_nil ?_
              exact by_ret (res_mk (ar_cells rfl F192.ag155 F192.sz155 (hs.lds 7 rfl (leb rfl) rfl) (ar_tmp rfl ar_nil)) rfl) ⟨_, _, _, h, _, _, _, _, rfl, (Sep.nil (Sep.dnil (Sep.dropn 9 hs) 1 R_LeFlt_f32_o) 1)⟩
          · refine fi_false rfl (decide_eq_false c194) ?_
            refine fi_exit rfl ?_
            refine fi_seq ?_
            refine fi_region ?_
            refine sv_lds hs 3 rfl rfl (leb rfl) rfl F192.ag155 F192.sz155 ?_
            refine sv_st hs 5 rfl rfl rfl (c := [v179, v182]) rfl F192.sz155 rfl (stc (hs.shows 4 rfl).stor (stc (hs.dshows 2 rfl).stor stn)) (leb rfl) (cs' := [v179, v182]) rfl nofun (fun H215 hs => ?_)
            refine so_assign (v := (.v (.bool true))) rfl ?_
            refine so_nil ?_
            exact by_ret (res_mk (ar_cells rfl F192.ag155 F192.sz155 (hs.lds 5 rfl (leb rfl) rfl) (ar_tmp rfl ar_nil)) rfl) ⟨_, _, _, h, _, _, _, _, rfl, (Sep.front 1 (Sep.del 2 (Sep.del 2 (Sep.del 1 (Sep.del 0 (Sep.del 0 hs))))) rfl)⟩
        · refine fi_true rfl (not_t (decide_eq_false c118)) ?_
          refine fi_seq ?_
          refine fi_region ?_
          refine so_build F192.bp155 (cps := []) rfl fan rfl ?_
          refine sv_st hs 0 rfl rfl rfl (c := [.nilsl, .nilsl]) rfl F192.sz155 rfl (stc rfl (stc rfl stn)) (leb rfl) (cs' := [.nilsl, .nilsl]) rfl nofun (fun H218 hs => ?_)
          refine so_assign (v := (.v (.bool false))) rfl ?_
          refine so_nil ?_
          exact by_ret (res_mk (ar_cells rfl F192.ag155 F192.sz155 (hs.lds 0 rfl (leb rfl) rfl) (ar_tmp rfl ar_nil)) rfl) ⟨_, _, _, h, _, _, _, _, rfl, (Sep.nil (Sep.dnil (Sep.del 0 (Sep.del 0 hs)) 1 R_LeFlt_f32_o) 1)⟩
      · refine so_gno rfl (not_t c115) ?_
        refine so_gno rfl (not_t c115) ?_
        refine so_gno rfl (not_t c115) ?_
        refine so_gno rfl (not_t c115) ?_
        refine so_gno rfl (not_t c115) ?_
        refine so_gno rfl (not_t c115) ?_
        refine so_pick_t (v := (.v (.bool true))) rfl (not_t c115) rfl ?_
        refine so_nil ?_
        refine fi_true rfl rfl ?_
        refine fi_seq ?_
        refine fi_region ?_
        refine so_build F192.bp155 (cps := []) rfl fan rfl ?_
        refine sv_st hs 0 rfl rfl rfl (c := [.nilsl, .nilsl]) rfl F192.sz155 rfl (stc rfl (stc rfl stn)) (leb rfl) (cs' := [.nilsl, .nilsl]) rfl nofun (fun H219 hs => ?_)
        refine so_assign (v := (.v (.bool false))) rfl ?_
        refine so_nil ?_
        exact by_ret (res_mk (ar_cells rfl F192.ag155 F192.sz155 (hs.lds 0 rfl (leb rfl) rfl) (ar_tmp rfl ar_nil)) rfl) ⟨_, _, _, h, _, _, _, _, rfl, (Sep.nil (Sep.dnil (Sep.del 0 (Sep.del 0 hs)) 1 R_LeFlt_f32_o) 1)⟩
    · refine so_gno rfl (not_t c112) ?_
      refine so_gno rfl (not_t c112) ?_
      refine so_gno rfl (not_t c112) ?_
      refine so_pick_t (v := (.v (.bool true))) rfl (not_t c112) rfl ?_
      refine so_move (v := (.v (.bool true))) rfl ?_
      refine so_gno rfl rfl ?_
      refine so_gno rfl rfl ?_
      refine so_gno rfl rfl ?_
      refine so_gno rfl rfl ?_
      refine so_gno rfl rfl ?_
      refine so_gno rfl rfl ?_
      refine so_pick_t (v := (.v (.bool true))) rfl rfl rfl ?_
      refine so_nil ?_
      refine fi_true rfl rfl ?_
      refine fi_seq ?_
      refine fi_region ?_
      refine so_build F192.bp155 (cps := []) rfl fan rfl ?_
      refine sv_st hs 0 rfl rfl rfl (c := [.nilsl, .nilsl]) rfl F192.sz155 rfl (stc rfl (stc rfl stn)) (leb rfl) (cs' := [.nilsl, .nilsl]) rfl nofun (fun H220 hs => ?_)
      refine so_assign (v := (.v (.bool false))) rfl ?_
      refine so_nil ?_
      exact by_ret (res_mk (ar_cells rfl F192.ag155 F192.sz155 (hs.lds 0 rfl (leb rfl) rfl) (ar_tmp rfl ar_nil)) rfl) ⟨_, _, _, h, _, _, _, _, rfl, (Sep.nil (Sep.dnil (Sep.del 0 (Sep.del 0 hs)) 1 R_LeFlt_f32_o) 1)⟩
  · refine so_gno rfl (not_t c109) ?_
    refine so_gno rfl (not_t c109) ?_
    refine so_gno rfl (not_t c109) ?_
    refine so_pick_t (v := (.v (.bool true))) rfl (not_t c109) rfl ?_
    refine so_move (v := (.v (.bool true))) rfl ?_
    refine so_gno rfl rfl ?_
    refine so_gno rfl rfl ?_
    refine so_gno rfl rfl ?_
    refine so_pick_t (v := (.v (.bool true))) rfl rfl rfl ?_
    refine so_move (v := (.v (.bool true))) rfl ?_
    refine so_gno rfl rfl ?_
    refine so_gno rfl rfl ?_
    refine so_gno rfl rfl ?_
    refine so_gno rfl rfl ?_
    refine so_gno rfl rfl ?_
    refine so_gno rfl rfl ?_
    refine so_pick_t (v := (.v (.bool true))) rfl rfl rfl ?_
    refine so_nil ?_
    refine fi_true rfl rfl ?_
    refine fi_seq ?_
    refine fi_region ?_
    refine so_build F192.bp155 (cps := []) rfl fan rfl ?_
    refine sv_st hs 0 rfl rfl rfl (c := [.nilsl, .nilsl]) rfl F192.sz155 rfl (stc rfl (stc rfl stn)) (leb rfl) (cs' := [.nilsl, .nilsl]) rfl nofun (fun H221 hs => ?_)
    refine so_assign (v := (.v (.bool false))) rfl ?_
    refine so_nil ?_
    exact by_ret (res_mk (ar_cells rfl F192.ag155 F192.sz155 (hs.lds 0 rfl (leb rfl) rfl) (ar_tmp rfl ar_nil)) rfl) ⟨_, _, _, h, _, _, _, _, rfl, (Sep.nil (Sep.dnil (Sep.del 0 (Sep.del 0 hs)) 1 R_LeFlt_f32_o) 1)⟩

end Go.Proofs.Ytpeijfnfffogeaa.G

namespace Go.Proofs.Ytpeijfnfffogeaa.G
open Go Go.Ab Go.Proofs Go.Proofs.Ytpeijfnfffogeaa
set_option maxRecDepth 100000
set_option linter.unusedVariables false
set_option linter.unusedSimpArgs false
set_option maxHeartbeats 1000000
attribute [local irreducible] wops wopf Go.Ab.Fin
theorem F246.ag153 : tagg Try.prog 153 = some false := by kernel_rfl
theorem F246.ag37 : tagg Try.prog 37 = some false := by kernel_rfl
theorem F246.fd155_0 : tfield Try.prog 155 0 = some (0, 1, false) := by kernel_rfl
theorem F246.fd155_1 : tfield Try.prog 155 1 = some (1, 1, false) := by kernel_rfl
theorem F246.inf155 : (Try.prog.info? 155).isSome = true := by kernel_rfl
theorem F246.sz37 : tsz Try.prog 37 = some 1 := by kernel_rfl
theorem F246.te153 : telem Try.prog 153 = some 37 := by kernel_rfl
theorem F246.ti153 : (telem Try.prog 153).isSome = true := by kernel_rfl
theorem F246.ti37 : (telem Try.prog 37).isSome = true := by kernel_rfl
theorem F246.tl153 : (telem Try.prog 153).bind (tsz Try.prog) = some 1 := by kernel_rfl
theorem F246.ze37 : tzero Try.prog 37 = some [.nilsl] := by kernel_rfl
theorem impl_ValidBands_ok {fr : List Pc} {H : Heap} (v0 : AV) (l0 : List (Nat)) (v1 : AV) (w1 : List (List AV)) (l1 : List (List (Nat))) (hs : Sep H (fr)) (g0 : ∀ H, Sep H fr → Shows H v0 1 (enc (eFlt .f32) l0)) (g1 : ∀ H, Sep H fr → DSh H v1 1 R_LeFlt_f32_o l1 w1) (K : Bool → Prop) (h : impl_ValidBands.wp l0 l1 K) : OkQ Try.prog 246 [(.g [v0, v1])] H (fun r H2 => ∃ (y0 : Bool), K y0 ∧ r = (.v (.bool y0)) ∧ Sep H2 (fr)) := by
  unfold impl_ValidBands.wp at h
  refine of_body Try.f246 F.hm Try.func246 rfl Try.call246 (by kernel_rfl) (by simp) ?_
  refine fi_seq ?_
  refine fi_region ?_
  refine sv_box hs rfl (c := [v0, v1]) rfl F246.inf155 (stc (g0 _ hs).stor (stc (g1 _ hs).stor stn)) nofun (fun id101 H102 hs => ?_)
  refine so_assign (v := (.v (.bool false))) rfl ?_
  refine so_nil ?_
  refine fi_seq ?_
  refine fi_region ?_
  refine so_fieldAddr rfl F246.fd155_1 ?_
  refine sv_ld hs 0 rfl rfl rfl F246.ag153 ?_
  refine sd_len ((g1 _ hs.tl) : DSh _ _ 1 R_LeFlt_f32_o l1 w1) (by decide) rfl F246.ti153 ?_
  refine so_assign (v := (.v (.int .i64 (l1.length : Int)))) rfl ?_
  refine so_nil ?_
  refine fi_seq ?_
  refine fi_seq ?_
  refine fi_region ?_
  refine so_move (v := (.v (.int .i64 (l1.length : Int)))) rfl ?_
  refine sv_callS (impl_within_ok (l1.length : Int) (1 : Int) (6 : Int) hs  _ h) (fun _ _ ⟨_, _, _, e⟩ => e) rfl rfl ?_
  clear h
  rintro _ _ ⟨y104, h, rfl, rfl⟩
  refine so_un rfl au_not ?_
  refine so_move (v := (.v (.bool (!y104)))) rfl ?_
  replace h := ofT h; rcases h with ⟨c106, h⟩ | ⟨c106, h⟩
  · refine so_gyes rfl (not_f c106) ?_
    refine so_fieldAddr rfl F246.fd155_1 ?_
    refine so_gyes rfl (not_f c106) ?_
    refine sv_ld hs 0 rfl rfl rfl F246.ag153 ?_
    refine so_gyes rfl (not_f c106) ?_
    obtain ⟨c107, h⟩ := h
    refine sd_idx ((g1 _ hs.tl) : DSh _ _ 1 R_LeFlt_f32_o l1 w1) c107 ([] : List (Nat)) (by decide) rfl rfl F246.tl153 ?_
    refine so_gyes rfl (not_f c106) ?_
    refine su_ld ((((g1 _ hs.tl) : DSh _ _ 1 R_LeFlt_f32_o l1 w1)).at (by decide) c107 ([] : List (Nat))).2.2 0 (congrArg (fun c => c[0]?) ((((g1 _ hs.tl) : DSh _ _ 1 R_LeFlt_f32_o l1 w1)).at (by decide) c107 ([] : List (Nat))).2.1.1) rfl F246.ag37 ?_
    refine so_gyes rfl (not_f c106) ?_
    refine sv_len ((((g1 _ hs.tl) : DSh _ _ 1 R_LeFlt_f32_o l1 w1)).at (by decide) c107 ([] : List (Nat))).2.1.2 (fun _ => rfl) (by decide) rfl F246.ti37 ?_
    refine so_gyes rfl (not_f c106) ?_
    refine so_bin rfl rfl ab_gtr ?_
    refine so_pick_f (v := (.v (.bool (decide ((64 : Int) < ((l1.getD ((0 : Int)).toNat ([] : List (Nat))).length : Int)))))) rfl (not_f c106) rfl ?_
    refine so_move (v := (.v (.bool (decide ((64 : Int) < ((l1.getD ((0 : Int)).toNat ([] : List (Nat))).length : Int)))))) rfl ?_
    replace h := ofP h; rcases h with ⟨c108, h⟩ | ⟨c108, h⟩
    · refine so_gno rfl (decide_eq_true c108) ?_
      refine so_gno rfl (decide_eq_true c108) ?_
      refine so_gno rfl (decide_eq_true c108) ?_
      refine so_gno rfl (decide_eq_true c108) ?_
      refine so_pick_t (v := (.v (.bool true))) rfl (decide_eq_true c108) rfl ?_
      refine so_move (v := (.v (.bool true))) rfl ?_
      refine so_gno rfl rfl ?_
      refine so_gno rfl rfl ?_
      refine so_gno rfl rfl ?_
      refine so_gno rfl rfl ?_
      refine so_gno rfl rfl ?_
      refine so_pick_t (v := (.v (.bool true))) rfl rfl rfl ?_
      refine so_nil ?_
      refine fi_true rfl rfl ?_
      refine fi_seq ?_
      refine fi_region ?_
      refine so_assign (v := (.v (.bool false))) rfl ?_
      refine so_nil ?_
      exact by_ret rfl ⟨_, h, rfl, (Sep.del 0 hs)⟩
    · refine so_gyes rfl (decide_eq_false c108) ?_
      refine so_fieldAddr rfl F246.fd155_1 ?_
      refine so_gyes rfl (decide_eq_false c108) ?_
      refine sv_ld hs 0 rfl rfl rfl F246.ag153 ?_
      refine so_gyes rfl (decide_eq_false c108) ?_
      refine sv_callS (impl_areFinite_ok v1 w1 l1 hs (fun _ hs => (g1 _ hs.tl)) _ h) (fun _ _ ⟨_, _, _, e⟩ => e) rfl rfl ?_
      clear h
      rintro _ _ ⟨y109, h, rfl, rfl⟩
      refine so_gyes rfl (decide_eq_false c108) ?_
      refine so_un rfl au_not ?_
      refine so_pick_f (v := (.v (.bool (!y109)))) rfl (decide_eq_false c108) rfl ?_
      refine so_move (v := (.v (.bool (!y109)))) rfl ?_
      replace h := ofT h; rcases h with ⟨c111, h⟩ | ⟨c111, h⟩
      · refine so_gyes rfl (not_f c111) ?_
        refine so_fieldAddr rfl F246.fd155_0 ?_
        refine so_gyes rfl (not_f c111) ?_
        refine sv_ld hs 0 rfl rfl rfl F246.ag37 ?_
        refine so_gyes rfl (not_f c111) ?_
        refine sd_bslice hs [[v0]] F246.te153 F246.sz37 F246.ze37 rfl rfl rfl (by simp) (fac (stc (g0 _ hs.tl).stor stn) fan) (by decide) rfl nofun (fun v112 H113 _ hs => ?_)
        refine so_gyes rfl (not_f c111) ?_
        refine sv_callS (impl_areFinite_ok v112 ([[v0]]) ([l0] : List (List (Nat))) hs (fun _ hs => ⟨hs.shows 0 rfl, by simp, ⟨⟨rfl, (g0 _ hs.tl.tl)⟩, trivial⟩⟩) _ h) (fun _ _ ⟨_, _, _, e⟩ => e) rfl rfl ?_
        clear h
        rintro _ _ ⟨y115, h, rfl, rfl⟩
        refine so_gyes rfl (not_f c111) ?_
        refine so_un rfl au_not ?_
        refine so_pick_f (v := (.v (.bool (!y115)))) rfl (not_f c111) rfl ?_
        refine so_nil ?_
        replace h := ofT h; rcases h with ⟨c117, h⟩ | ⟨c117, h⟩
        · refine fi_false rfl (not_f c117) ?_
          refine fi_skip ?_
          refine fi_seq ?_
          refine fi_seq ?_
          refine fi_region ?_
          refine so_fieldAddr rfl F246.fd155_1 ?_
          refine sv_ld hs 1 rfl rfl rfl F246.ag153 ?_
          refine sd_len ((g1 _ hs.tl.tl) : DSh _ _ 1 R_LeFlt_f32_o l1 w1) (by decide) rfl F246.ti153 ?_
          refine so_move (v := (.v (.int .i64 (0 : Int)))) rfl ?_
          refine so_nil ?_
          refine fi_block ?_
          refine fi_loop ?_
          replace hs := hs.del 0
          refine fi_at [(1, (.v (.ptr id101 0))), (3, (.v (.int .i64 (l1.length : Int)))), (34, (.v v1)), (35, (.v (.int .i64 (l1.length : Int)))), (36, (.v (.int .i64 (0 : Int))))] ⟨rfl, rfl, rfl, rfl, rfl, trivial⟩ ?_
          refine h (fun (x119 : Int) => ∀ (s : Nat → TV) (H : Heap), Sep H (Pc.box id101 [v0, v1] :: fr) → Fin _ _ (updL s [(1, (.v (.ptr id101 0))), (3, (.v (.int .i64 (l1.length : Int)))), (34, (.v v1)), (35, (.v (.int .i64 (l1.length : Int)))), (36, (.v (.int .i64 x119)))]) H _) ?_ _ _ hs
          intro x119 h s127 H128 hs
          refine fi_inLoop ?_
          refine fi_seq ?_
          refine fi_region ?_
          refine so_bin rfl rfl ab_lss ?_
          refine so_nil ?_
          refine fi_seq ?_
          replace h := ofP h; rcases h with ⟨c120, h⟩ | ⟨c120, h⟩
          · refine fi_true rfl (decide_eq_true c120) ?_
            refine fi_skip ?_
            refine fi_seq ?_
            refine fi_block ?_
            refine fi_seq ?_
            refine fi_region ?_
            refine so_move (v := (.v (.int .i64 x119))) rfl ?_
            obtain ⟨c121, h⟩ := h
            refine sd_idx ((g1 _ hs.tl) : DSh _ _ 1 R_LeFlt_f32_o l1 w1) c121 ([] : List (Nat)) (by decide) rfl rfl F246.tl153 ?_
            refine su_ld ((((g1 _ hs.tl) : DSh _ _ 1 R_LeFlt_f32_o l1 w1)).at (by decide) c121 ([] : List (Nat))).2.2 0 (congrArg (fun c => c[0]?) ((((g1 _ hs.tl) : DSh _ _ 1 R_LeFlt_f32_o l1 w1)).at (by decide) c121 ([] : List (Nat))).2.1.1) rfl F246.ag37 ?_
            refine so_assign (v := (.v (.int .i64 x119))) rfl ?_
            refine so_assign (v := (.v ((w1.getD (x119).toNat []).getD 0 .und))) rfl ?_
            refine so_nil ?_
            refine fi_seq ?_
            refine fi_region ?_
            refine so_move (v := (.v ((w1.getD (x119).toNat []).getD 0 .und))) rfl ?_
            refine sv_len ((((g1 _ hs.tl) : DSh _ _ 1 R_LeFlt_f32_o l1 w1)).at (by decide) c121 ([] : List (Nat))).2.1.2 (fun _ => rfl) (by decide) rfl F246.ti37 ?_
            refine so_bin rfl rfl ab_eql ?_
            refine so_move (v := (.v (.bool (decide (((l1.getD (x119).toNat ([] : List (Nat))).length : Int) = (0 : Int)))))) rfl ?_
            replace h := ofP h; rcases h with ⟨c122, h⟩ | ⟨c122, h⟩
            · refine so_gno rfl (decide_eq_true c122) ?_
              refine so_gno rfl (decide_eq_true c122) ?_
              refine so_gno rfl (decide_eq_true c122) ?_
              refine so_gund rfl ?_
              refine so_gund rfl ?_
              refine so_gund rfl ?_
              refine so_gund rfl ?_
              refine so_gund rfl ?_
              refine so_gund rfl ?_
              refine so_gund rfl ?_
              refine so_gund rfl ?_
              refine so_gund rfl ?_
              refine so_gund rfl ?_
              refine so_gund rfl ?_
              refine so_gno rfl (decide_eq_true c122) ?_
              refine so_pick_t (v := (.v (.bool true))) rfl (decide_eq_true c122) rfl ?_
              refine so_nil ?_
              refine fi_true rfl rfl ?_
              refine fi_seq ?_
              refine fi_region ?_
              refine so_assign (v := (.v (.bool false))) rfl ?_
              refine so_nil ?_
              exact by_ret rfl ⟨_, h, rfl, (Sep.del 0 hs)⟩
            · refine so_gyes rfl (decide_eq_false c122) ?_
              refine so_move (v := (.v (.int .i64 x119))) rfl ?_
              refine so_gyes rfl (decide_eq_false c122) ?_
              refine so_bin rfl rfl ab_gtr ?_
              refine so_gyes rfl (decide_eq_false c122) ?_
              refine so_move (v := (.v (.bool (decide ((0 : Int) < x119))))) rfl ?_
              replace h := ofP h; rcases h with ⟨c123, h⟩ | ⟨c123, h⟩
              · refine so_gyes rfl (decide_eq_true c123) ?_
                refine so_move (v := (.v ((w1.getD (x119).toNat []).getD 0 .und))) rfl ?_
                refine so_gyes rfl (decide_eq_true c123) ?_
                refine sv_len ((((g1 _ hs.tl) : DSh _ _ 1 R_LeFlt_f32_o l1 w1)).at (by decide) c121 ([] : List (Nat))).2.1.2 (fun _ => rfl) (by decide) rfl F246.ti37 ?_
                refine so_gyes rfl (decide_eq_true c123) ?_
                refine so_bin rfl rfl ab_mul ?_
                refine so_gyes rfl (decide_eq_true c123) ?_
                refine so_fieldAddr rfl F246.fd155_1 ?_
                refine so_gyes rfl (decide_eq_true c123) ?_
                refine sv_ld hs 0 rfl rfl rfl F246.ag153 ?_
                refine so_gyes rfl (decide_eq_true c123) ?_
                refine so_move (v := (.v (.int .i64 x119))) rfl ?_
                refine so_gyes rfl (decide_eq_true c123) ?_
                refine so_bin rfl rfl ab_sub ?_
                refine so_gyes rfl (decide_eq_true c123) ?_
                obtain ⟨c124, h⟩ := h
                refine sd_idx ((g1 _ hs.tl) : DSh _ _ 1 R_LeFlt_f32_o l1 w1) c124 ([] : List (Nat)) (by decide) rfl rfl F246.tl153 ?_
                refine so_gyes rfl (decide_eq_true c123) ?_
                refine su_ld ((((g1 _ hs.tl) : DSh _ _ 1 R_LeFlt_f32_o l1 w1)).at (by decide) c124 ([] : List (Nat))).2.2 0 (congrArg (fun c => c[0]?) ((((g1 _ hs.tl) : DSh _ _ 1 R_LeFlt_f32_o l1 w1)).at (by decide) c124 ([] : List (Nat))).2.1.1) rfl F246.ag37 ?_
                refine so_gyes rfl (decide_eq_true c123) ?_
                refine sv_len ((((g1 _ hs.tl) : DSh _ _ 1 R_LeFlt_f32_o l1 w1)).at (by decide) c124 ([] : List (Nat))).2.1.2 (fun _ => rfl) (by decide) rfl F246.ti37 ?_
                refine so_gyes rfl (decide_eq_true c123) ?_
                refine so_bin rfl rfl ab_neq ?_
                refine so_gyes rfl (decide_eq_false c122) ?_
                refine so_pick_t (v := (.v (.bool (!(decide ((IntKind.i64.wrap ((2 : Int) * ((l1.getD (x119).toNat ([] : List (Nat))).length : Int))) = ((l1.getD ((IntKind.i64.wrap (x119 - (1 : Int)))).toNat ([] : List (Nat))).length : Int))))))) rfl (decide_eq_true c123) rfl ?_
                refine so_pick_f (v := (.v (.bool (!(decide ((IntKind.i64.wrap ((2 : Int) * ((l1.getD (x119).toNat ([] : List (Nat))).length : Int))) = ((l1.getD ((IntKind.i64.wrap (x119 - (1 : Int)))).toNat ([] : List (Nat))).length : Int))))))) rfl (decide_eq_false c122) rfl ?_
                refine so_nil ?_
                replace h := ofP h; rcases h with ⟨c125, h⟩ | ⟨c125, h⟩
                · refine fi_false rfl (not_f (decide_eq_true c125)) ?_
                  refine fi_skip ?_
                  refine fi_inBlock ?_
                  refine fi_region ?_
                  refine so_bin rfl rfl ab_add ?_
                  refine so_move (v := (.v (.int .i64 (IntKind.i64.wrap (x119 + (1 : Int)))))) rfl ?_
                  refine so_nil ?_
                  exact fi_at [(1, (.v (.ptr id101 0))), (3, (.v (.int .i64 (l1.length : Int)))), (34, (.v v1)), (35, (.v (.int .i64 (l1.length : Int)))), (36, (.v (.int .i64 (IntKind.i64.wrap (x119 + (1 : Int))))))] ⟨rfl, rfl, rfl, rfl, rfl, trivial⟩ (h _ _  hs)
                · refine fi_true rfl (not_t (decide_eq_false c125)) ?_
                  refine fi_seq ?_
                  refine fi_region ?_
                  refine so_assign (v := (.v (.bool false))) rfl ?_
                  refine so_nil ?_
                  exact by_ret rfl ⟨_, h, rfl, (Sep.del 0 hs)⟩
              · refine so_gno rfl (decide_eq_false c123) ?_
                refine so_gno rfl (decide_eq_false c123) ?_
                refine so_gno rfl (decide_eq_false c123) ?_
                refine so_gno rfl (decide_eq_false c123) ?_
                refine so_gno rfl (decide_eq_false c123) ?_
                refine so_gno rfl (decide_eq_false c123) ?_
                refine so_gno rfl (decide_eq_false c123) ?_
                refine so_gno rfl (decide_eq_false c123) ?_
                refine so_gno rfl (decide_eq_false c123) ?_
                refine so_gno rfl (decide_eq_false c123) ?_
                refine so_gno rfl (decide_eq_false c123) ?_
                refine so_gyes rfl (decide_eq_false c122) ?_
                refine so_pick_f (v := (.v (.bool false))) rfl (decide_eq_false c123) rfl ?_
                refine so_pick_f (v := (.v (.bool false))) rfl (decide_eq_false c122) rfl ?_
                refine so_nil ?_
                refine fi_false rfl rfl ?_
                refine fi_skip ?_
                refine fi_inBlock ?_
                refine fi_region ?_
                refine so_bin rfl rfl ab_add ?_
                refine so_move (v := (.v (.int .i64 (IntKind.i64.wrap (x119 + (1 : Int)))))) rfl ?_
                refine so_nil ?_
                exact fi_at [(1, (.v (.ptr id101 0))), (3, (.v (.int .i64 (l1.length : Int)))), (34, (.v v1)), (35, (.v (.int .i64 (l1.length : Int)))), (36, (.v (.int .i64 (IntKind.i64.wrap (x119 + (1 : Int))))))] ⟨rfl, rfl, rfl, rfl, rfl, trivial⟩ (h _ _  hs)
          · refine fi_false rfl (decide_eq_false c120) ?_
            refine fi_exit rfl ?_
            refine fi_seq ?_
            refine fi_region ?_
            refine so_fieldAddr rfl F246.fd155_0 ?_
            refine sv_ld hs 0 rfl rfl rfl F246.ag37 ?_
            refine sv_len (g0 _ hs.tl) (fun _ => rfl) (by decide) rfl F246.ti37 ?_
            refine so_fieldAddr rfl F246.fd155_1 ?_
            refine sv_ld hs 0 rfl rfl rfl F246.ag153 ?_
            refine so_move (v := (.v (.int .i64 (l1.length : Int)))) rfl ?_
            refine so_bin rfl rfl ab_sub ?_
            obtain ⟨c126, h⟩ := h
            refine sd_idx ((g1 _ hs.tl) : DSh _ _ 1 R_LeFlt_f32_o l1 w1) c126 ([] : List (Nat)) (by decide) rfl rfl F246.tl153 ?_
            refine su_ld ((((g1 _ hs.tl) : DSh _ _ 1 R_LeFlt_f32_o l1 w1)).at (by decide) c126 ([] : List (Nat))).2.2 0 (congrArg (fun c => c[0]?) ((((g1 _ hs.tl) : DSh _ _ 1 R_LeFlt_f32_o l1 w1)).at (by decide) c126 ([] : List (Nat))).2.1.1) rfl F246.ag37 ?_
            refine sv_len ((((g1 _ hs.tl) : DSh _ _ 1 R_LeFlt_f32_o l1 w1)).at (by decide) c126 ([] : List (Nat))).2.1.2 (fun _ => rfl) (by decide) rfl F246.ti37 ?_
            refine so_bin rfl rfl ab_eql ?_
            refine so_assign (v := (.v (.bool (decide ((l0.length : Int) = ((l1.getD ((IntKind.i64.wrap ((l1.length : Int) - (1 : Int)))).toNat ([] : List (Nat))).length : Int)))))) rfl ?_
            refine so_nil ?_
            exact by_ret rfl ⟨_, h, rfl, (Sep.del 0 hs)⟩
        · refine fi_true rfl (not_t c117) ?_
          refine fi_seq ?_
          refine fi_region ?_
          refine so_assign (v := (.v (.bool false))) rfl ?_
          refine so_nil ?_
          exact by_ret rfl ⟨_, h, rfl, (Sep.del 0 (Sep.del 0 hs))⟩
      · refine so_gno rfl (not_t c111) ?_
        refine so_gno rfl (not_t c111) ?_
        refine so_gno rfl (not_t c111) ?_
        refine so_gno rfl (not_t c111) ?_
        refine so_gno rfl (not_t c111) ?_
        refine so_pick_t (v := (.v (.bool true))) rfl (not_t c111) rfl ?_
        refine so_nil ?_
        refine fi_true rfl rfl ?_
        refine fi_seq ?_
        refine fi_region ?_
        refine so_assign (v := (.v (.bool false))) rfl ?_
        refine so_nil ?_
        exact by_ret rfl ⟨_, h, rfl, (Sep.del 0 hs)⟩
  · refine so_gno rfl (not_t c106) ?_
    refine so_gno rfl (not_t c106) ?_
    refine so_gno rfl (not_t c106) ?_
    refine so_gno rfl (not_t c106) ?_
    refine so_gno rfl (not_t c106) ?_
    refine so_gno rfl (not_t c106) ?_
    refine so_pick_t (v := (.v (.bool true))) rfl (not_t c106) rfl ?_
    refine so_move (v := (.v (.bool true))) rfl ?_
    refine so_gno rfl rfl ?_
    refine so_gno rfl rfl ?_
    refine so_gno rfl rfl ?_
    refine so_gno rfl rfl ?_
    refine so_pick_t (v := (.v (.bool true))) rfl rfl rfl ?_
    refine so_move (v := (.v (.bool true))) rfl ?_
    refine so_gno rfl rfl ?_
    refine so_gno rfl rfl ?_
    refine so_gno rfl rfl ?_
    refine so_gno rfl rfl ?_
    refine so_gno rfl rfl ?_
    refine so_pick_t (v := (.v (.bool true))) rfl rfl rfl ?_
    refine so_nil ?_
    refine fi_true rfl rfl ?_
    refine fi_seq ?_
    refine fi_region ?_
    refine so_assign (v := (.v (.bool false))) rfl ?_
    refine so_nil ?_
    exact by_ret rfl ⟨_, h, rfl, (Sep.del 0 hs)⟩

end Go.Proofs.Ytpeijfnfffogeaa.G

namespace Go.Proofs.Ytpeijfnfffogeaa.G
open Go Go.Ab Go.Proofs Go.Proofs.Ytpeijfnfffogeaa
set_option maxRecDepth 100000
set_option linter.unusedVariables false
set_option linter.unusedSimpArgs false
set_option maxHeartbeats 1000000
attribute [local irreducible] wops wopf Go.Ab.Fin
theorem impl_softer_ok {fr : List Pc} {H : Heap} (a0 : Nat) (a1 : Nat) (hs : Sep H (fr))  (K : Nat → Prop) (h : impl_softer.wp a0 a1 K) : OkQ Try.prog 274 [(.v (.flt .f32 a0)), (.v (.flt .f32 a1))] H (fun r H2 => ∃ (y0 : Nat), K y0 ∧ r = (.v (.flt .f32 y0)) ∧ H = H2) := by
  unfold impl_softer.wp at h
  refine of_body Try.f274 F.hm Try.func274 rfl Try.call274 (by kernel_rfl) (by simp) ?_
  refine fi_seq ?_
  refine fi_region ?_
  refine so_assign (v := (.v (.flt .f32 (cz .f32 0)))) rfl ?_
  refine so_nil ?_
  refine fi_seq ?_
  refine fi_block ?_
  refine fi_seq ?_
  refine fi_region ?_
  refine so_move (v := (.v (.flt .f32 a0))) rfl ?_
  refine so_move (v := (.v (.flt .f32 a1))) rfl ?_
  refine so_bin rfl rfl ab_fgtr ?_
  refine so_assign (v := (.v (.bool (fcmp .gtr .f32 a0 a1)))) rfl ?_
  refine so_nil ?_
  replace h := ofT h; rcases h with ⟨c101, h⟩ | ⟨c101, h⟩
  · refine fi_true rfl c101 ?_
    refine fi_seq ?_
    refine fi_region ?_
    refine so_move (v := (.v (.flt .f32 a0))) rfl ?_
    refine so_move (v := (.v (.flt .f32 a1))) rfl ?_
    refine so_bin rfl rfl ab_fsub ?_
    refine so_assign (v := (.v (.flt .f32 (fop .sub .f32 a0 a1)))) rfl ?_
    refine so_nil ?_
    exact by_ret rfl ⟨_, h, rfl, rfl⟩
  · refine fi_false rfl c101 ?_
    refine fi_seq ?_
    refine fi_region ?_
    refine so_move (v := (.v (.flt .f32 a0))) rfl ?_
    refine so_move (v := (.v (.flt .f32 a1))) rfl ?_
    refine so_un rfl au_fneg' ?_
    refine so_bin rfl rfl ab_flss ?_
    refine so_assign (v := (.v (.bool (fcmp .lss .f32 a0 (fneg .f32 a1))))) rfl ?_
    refine so_nil ?_
    replace h := ofT h; rcases h with ⟨c102, h⟩ | ⟨c102, h⟩
    · refine fi_true rfl c102 ?_
      refine fi_seq ?_
      refine fi_region ?_
      refine so_move (v := (.v (.flt .f32 a0))) rfl ?_
      refine so_move (v := (.v (.flt .f32 a1))) rfl ?_
      refine so_bin rfl rfl ab_fadd ?_
      refine so_assign (v := (.v (.flt .f32 (fop .add .f32 a0 a1)))) rfl ?_
      refine so_nil ?_
      exact by_ret rfl ⟨_, h, rfl, rfl⟩
    · refine fi_false rfl c102 ?_
      refine fi_skip ?_
      refine fi_inBlock ?_
      refine fi_seq ?_
      refine fi_region ?_
      refine so_assign (v := (.v (.flt .f32 (cz .f32 0)))) rfl ?_
      refine so_nil ?_
      exact by_ret rfl ⟨_, h, rfl, rfl⟩

end Go.Proofs.Ytpeijfnfffogeaa.G

namespace Go.Proofs.Ytpeijfnfffogeaa.G
open Go Go.Ab Go.Proofs Go.Proofs.Ytpeijfnfffogeaa
set_option maxRecDepth 100000
set_option linter.unusedVariables false
set_option linter.unusedSimpArgs false
set_option maxHeartbeats 1000000
attribute [local irreducible] wops wopf Go.Ab.Fin
theorem impl_shrunk_ok {fr : List Pc} {H : Heap} (a0 : Nat) (a1 : Nat) (a2 : Bool) (hs : Sep H (fr))  (K : Nat → Prop) (h : impl_shrunk.wp a0 a1 a2 K) : OkQ Try.prog 266 [(.v (.flt .f32 a0)), (.v (.flt .f32 a1)), (.v (.bool a2))] H (fun r H2 => ∃ (y0 : Nat), K y0 ∧ r = (.v (.flt .f32 y0)) ∧ H = H2) := by
  unfold impl_shrunk.wp at h
  refine of_body Try.f266 F.hm Try.func266 rfl Try.call266 (by kernel_rfl) (by simp) ?_
  refine fi_seq ?_
  refine fi_region ?_
  refine so_assign (v := (.v (.flt .f32 (cz .f32 0)))) rfl ?_
  refine so_nil ?_
  refine fi_seq ?_
  refine fi_block ?_
  refine fi_seq ?_
  refine fi_region ?_
  refine so_move (v := (.v (.flt .f32 a0))) rfl ?_
  refine sv_callS (impl_size_ok a0 hs  _ h) (fun _ _ ⟨_, _, _, e⟩ => e) rfl rfl ?_
  clear h
  rintro _ _ ⟨y101, h, rfl, rfl⟩
  refine so_move (v := (.v (.flt .f32 a1))) rfl ?_
  refine so_bin rfl rfl ab_fgtr ?_
  refine so_un rfl au_not ?_
  refine so_assign (v := (.v (.bool (!(fcmp .gtr .f32 y101 a1))))) rfl ?_
  refine so_nil ?_
  replace h := ofT h; rcases h with ⟨c103, h⟩ | ⟨c103, h⟩
  · refine fi_false rfl (not_f c103) ?_
    refine fi_seq ?_
    refine fi_region ?_
    refine so_move (v := (.v (.bool a2))) rfl ?_
    refine so_assign (v := (.v (.bool a2))) rfl ?_
    refine so_nil ?_
    replace h := ofT h; rcases h with ⟨c104, h⟩ | ⟨c104, h⟩
    · refine fi_true rfl c104 ?_
      refine fi_seq ?_
      refine fi_region ?_
      refine so_move (v := (.v (.flt .f32 a0))) rfl ?_
      refine so_assign (v := (.v (.flt .f32 a0))) rfl ?_
      refine so_nil ?_
      exact by_ret rfl ⟨_, h, rfl, rfl⟩
    · refine fi_false rfl c104 ?_
      refine fi_skip ?_
      refine fi_inBlock ?_
      refine fi_seq ?_
      refine fi_region ?_
      refine so_move (v := (.v (.flt .f32 a0))) rfl ?_
      refine so_move (v := (.v (.flt .f32 a1))) rfl ?_
      refine sv_callS (impl_softer_ok a0 a1 hs  _ h) (fun _ _ ⟨_, _, _, e⟩ => e) rfl rfl ?_
      clear h
      rintro _ _ ⟨y105, h, rfl, rfl⟩
      refine so_assign (v := (.v (.flt .f32 y105))) rfl ?_
      refine so_nil ?_
      exact by_ret rfl ⟨_, h, rfl, rfl⟩
  · refine fi_true rfl (not_t c103) ?_
    refine fi_seq ?_
    refine fi_region ?_
    refine so_assign (v := (.v (.flt .f32 (cz .f32 0)))) rfl ?_
    refine so_nil ?_
    exact by_ret rfl ⟨_, h, rfl, rfl⟩

end Go.Proofs.Ytpeijfnfffogeaa.G

namespace Go.Proofs.Ytpeijfnfffogeaa.G
open Go Go.Ab Go.Proofs Go.Proofs.Ytpeijfnfffogeaa
set_option maxRecDepth 100000
set_option linter.unusedVariables false
set_option linter.unusedSimpArgs false
set_option maxHeartbeats 1000000
attribute [local irreducible] wops wopf Go.Ab.Fin
theorem F247.ag25 : tagg Try.prog 25 = some false := by kernel_rfl
theorem F247.sz25 : tsz Try.prog 25 = some 1 := by kernel_rfl
theorem F247.ta37_37 : tapp Try.prog 37 37 = some (1, 4) := by kernel_rfl
theorem F247.te37 : telem Try.prog 37 = some 25 := by kernel_rfl
theorem F247.ti37 : (telem Try.prog 37).isSome = true := by kernel_rfl
theorem F247.tl37 : (telem Try.prog 37).bind (tsz Try.prog) = some 1 := by kernel_rfl
theorem F247.ze25 : tzero Try.prog 25 = some [(.flt .f32 (0 : Nat))] := by kernel_rfl
theorem impl_shrunkList_ok {fr : List Pc} {H : Heap} (v0 : AV) (l0 : List (Nat)) (a1 : Nat) (a2 : Bool) (hs : Sep H (fr)) (g0 : ∀ H, Sep H fr → Shows H v0 1 (enc (eFlt .f32) l0)) (K : (List (Nat)) → Prop) (h : impl_shrunkList.wp l0 a1 a2 K) : OkQ Try.prog 247 [(.v v0), (.v (.flt .f32 a1)), (.v (.bool a2))] H (fun r H2 => ∃ (y0 : List (Nat)), K y0 ∧ ∃ (w0_ : AV), r = (.v w0_) ∧ Sep H2 (Pc.osl w0_ 1 (enc (eFlt .f32) y0) :: fr)) := by
  unfold impl_shrunkList.wp at h
  refine of_body Try.f247 F.hm Try.func247 rfl Try.call247 (by kernel_rfl) (by simp) ?_
  refine fi_seq ?_
  refine fi_region ?_
  refine so_assign (v := (.v .nilsl)) rfl ?_
  refine so_nil ?_
  refine fi_seq ?_
  refine fi_region ?_
  refine sv_bslice hs (eFlt .f32) ([] : List (Nat)) [] F247.te37 F247.sz25 F247.ze25 rfl rfl rfl rfl (fun _ => rfl) rfl (by decide) nofun (fun v101 H102 nv101 hs => ?_)
  refine so_assign (v := (.v v101)) rfl ?_
  refine so_nil ?_
  refine fi_seq ?_
  refine fi_seq ?_
  refine fi_region ?_
  refine so_move (v := (.v v0)) rfl ?_
  refine sv_len (g0 _ hs.tl) (fun _ => rfl) (by decide) rfl F247.ti37 ?_
  refine so_move (v := (.v (.int .i64 (0 : Int)))) rfl ?_
  refine so_nil ?_
  refine fi_block ?_
  refine fi_loop ?_
  refine fi_at [(1, (.v (.flt .f32 a1))), (2, (.v (.bool a2))), (7, (.v v101)), (11, (.v v0)), (12, (.v (.int .i64 (l0.length : Int)))), (13, (.v (.int .i64 (0 : Int))))] ⟨rfl, rfl, rfl, rfl, rfl, rfl, trivial⟩ ?_
  refine h (fun (out119 : List (Nat)) (x121 : Int) => ∀ (s : Nat → TV) (H : Heap) (v120 : AV) (nv120 : v120 ≠ .nilsl), Sep H (Pc.osl v120 1 (enc (eFlt .f32) out119) :: fr) → Fin _ _ (updL s [(1, (.v (.flt .f32 a1))), (2, (.v (.bool a2))), (7, (.v v120)), (11, (.v v0)), (12, (.v (.int .i64 (l0.length : Int)))), (13, (.v (.int .i64 x121)))]) H _) ?_ _ _ _ nv101 hs
  intro out119 x121 h s132 H133 v120 nv120 hs
  refine fi_inLoop ?_
  refine fi_seq ?_
  refine fi_region ?_
  refine so_bin rfl rfl ab_lss ?_
  refine so_nil ?_
  refine fi_seq ?_
  replace h := ofP h; rcases h with ⟨c122, h⟩ | ⟨c122, h⟩
  · refine fi_true rfl (decide_eq_true c122) ?_
    refine fi_skip ?_
    refine fi_seq ?_
    refine fi_block ?_
    refine fi_seq ?_
    refine fi_region ?_
    obtain ⟨c123, h⟩ := h
    refine sv_idx (g0 _ hs.tl) c123 (fun _ => rfl) (by decide) rfl rfl F247.tl37 ?_
    refine sv_cell (g0 _ hs.tl) c123 (0 : Nat) 0 (fun x => (AV.flt .f32 x)) (fun _ => rfl) (fun _ => rfl) rfl F247.ag25 ?_
    refine so_assign (v := (.v (.flt .f32 (l0.getD (x121).toNat (0 : Nat))))) rfl ?_
    refine so_nil ?_
    refine fi_region ?_
    refine so_move (v := (.v v120)) rfl ?_
    refine so_move (v := (.v (.flt .f32 (l0.getD (x121).toNat (0 : Nat))))) rfl ?_
    refine so_move (v := (.v (.flt .f32 a1))) rfl ?_
    refine so_move (v := (.v (.bool a2))) rfl ?_
    refine sv_callS (impl_shrunk_ok (l0.getD (x121).toNat (0 : Nat)) a1 a2 hs  _ h) (fun _ _ ⟨_, _, _, e⟩ => e) rfl rfl ?_
    clear h
    rintro _ _ ⟨y124, h, rfl, rfl⟩
    refine sv_bslice hs (eFlt .f32) ([y124] : List (Nat)) [[(.flt .f32 y124)]] F247.te37 F247.sz25 F247.ze25 rfl rfl rfl rfl (fun _ => rfl) rfl (by decide) nofun (fun v126 H127 nv126 hs => ?_)
    obtain ⟨c131, h⟩ := h
    refine sv_app hs 1 rfl (hs.shows 0 rfl) (fun _ => rfl) (by decide) F247.ta37_37 (by decide) c131 rfl rfl nofun (fun v129 H130 kv129 hs => ?_)
    replace hs := hs.del 0
    have nv129 := kv129 nv120
    refine so_assign (v := (.v v129)) rfl ?_
    refine so_nil ?_
    refine fi_inBlock ?_
    refine fi_region ?_
    refine so_bin rfl rfl ab_add ?_
    refine so_move (v := (.v (.int .i64 (IntKind.i64.wrap (x121 + (1 : Int)))))) rfl ?_
    refine so_nil ?_
    exact fi_at [(1, (.v (.flt .f32 a1))), (2, (.v (.bool a2))), (7, (.v v129)), (11, (.v v0)), (12, (.v (.int .i64 (l0.length : Int)))), (13, (.v (.int .i64 (IntKind.i64.wrap (x121 + (1 : Int))))))] ⟨rfl, rfl, rfl, rfl, rfl, rfl, trivial⟩ (h _ _ _ nv129 hs)
  · refine fi_false rfl (decide_eq_false c122) ?_
    refine fi_exit rfl ?_
    refine fi_seq ?_
    refine fi_region ?_
    refine so_move (v := (.v v120)) rfl ?_
    refine so_assign (v := (.v v120)) rfl ?_
    refine so_nil ?_
    exact by_ret rfl ⟨_, h, _, rfl, hs⟩

end Go.Proofs.Ytpeijfnfffogeaa.G

namespace Go.Proofs.Ytpeijfnfffogeaa.G
open Go Go.Ab Go.Proofs Go.Proofs.Ytpeijfnfffogeaa
set_option maxRecDepth 100000
set_option linter.unusedVariables false
set_option linter.unusedSimpArgs false
set_option maxHeartbeats 1000000
attribute [local irreducible] wops wopf Go.Ab.Fin
theorem F193.ag153 : tagg Try.prog 153 = some false := by kernel_rfl
theorem F193.ag155 : tagg Try.prog 155 = some true := by kernel_rfl
theorem F193.ag25 : tagg Try.prog 25 = some false := by kernel_rfl
theorem F193.ag37 : tagg Try.prog 37 = some false := by kernel_rfl
theorem F193.bp155 : bplan Try.prog 155 = some ([.nilsl, .nilsl], [(0, 1), (1, 1)]) := by kernel_rfl
theorem F193.fd155_0 : tfield Try.prog 155 0 = some (0, 1, false) := by kernel_rfl
theorem F193.fd155_1 : tfield Try.prog 155 1 = some (1, 1, false) := by kernel_rfl
theorem F193.inf155 : (Try.prog.info? 155).isSome = true := by kernel_rfl
theorem F193.sz153 : tsz Try.prog 153 = some 1 := by kernel_rfl
theorem F193.sz155 : tsz Try.prog 155 = some 2 := by kernel_rfl
theorem F193.sz37 : tsz Try.prog 37 = some 1 := by kernel_rfl
theorem F193.ta153_153 : tapp Try.prog 153 153 = some (1, 24) := by kernel_rfl
theorem F193.te153 : telem Try.prog 153 = some 37 := by kernel_rfl
theorem F193.ti153 : (telem Try.prog 153).isSome = true := by kernel_rfl
theorem F193.ti37 : (telem Try.prog 37).isSome = true := by kernel_rfl
theorem F193.tl153 : (telem Try.prog 153).bind (tsz Try.prog) = some 1 := by kernel_rfl
theorem F193.tl37 : (telem Try.prog 37).bind (tsz Try.prog) = some 1 := by kernel_rfl
theorem F193.ze155 : tzero Try.prog 155 = some [.nilsl, .nilsl] := by kernel_rfl
theorem F193.ze37 : tzero Try.prog 37 = some [.nilsl] := by kernel_rfl
theorem impl_ShrinkBands_ok {fr : List Pc} {H : Heap} (v0 : AV) (l0 : List (Nat)) (v1 : AV) (w1 : List (List AV)) (l1 : List (List (Nat))) (v2 : AV) (l2 : List (Nat)) (a3 : Bool) (hs : Sep H (fr)) (g0 : ∀ H, Sep H fr → Shows H v0 1 (enc (eFlt .f32) l0)) (g1 : ∀ H, Sep H fr → DSh H v1 1 R_LeFlt_f32_o l1 w1) (g2 : ∀ H, Sep H fr → Shows H v2 1 (enc (eFlt .f32) l2)) (K : (List (Nat)) → (List (List (Nat))) → Bool → Prop) (h : impl_ShrinkBands.wp l0 l1 l2 a3 K) : OkQ Try.prog 193 [(.g [v0, v1]), (.v v2), (.v (.bool a3))] H (fun r H2 => ∃ (y0 : List (Nat)) (y1 : List (List (Nat))) (y2 : Bool), K y0 y1 y2 ∧ ∃ (w0_ : AV) (w1_ : AV) (wsw1_ : List (List AV)) (Sw1_ : Nat → Prop), r = (.t [(.g [w0_, w1_]), (.v (.bool y2))]) ∧ Sep H2 (Pc.osl w0_ 1 (enc (eFlt .f32) y0) :: dpc w1_ 1 R_LeFlt_f32_o y1 wsw1_ Sw1_ :: fr)) := by
  unfold impl_ShrinkBands.wp at h
  refine of_body Try.f193 F.hm Try.func193 rfl Try.call193 (by kernel_rfl) (by simp) ?_
  refine fi_seq ?_
  refine fi_region ?_
  refine sv_box hs rfl (c := [v0, v1]) rfl F193.inf155 (stc (g0 _ hs).stor (stc (g1 _ hs).stor stn)) nofun (fun id101 H102 hs => ?_)
  refine sv_alloc hs F193.ze155 rfl nofun (fun id104 H105 hs => ?_)
  refine so_assign (v := (.v (.bool false))) rfl ?_
  refine so_nil ?_
  refine fi_seq ?_
  refine fi_seq ?_
  refine fi_region ?_
  refine sv_lds hs 1 rfl rfl (leb rfl) rfl F193.ag155 F193.sz155 ?_
  refine sv_call (impl_ValidBands_ok v0 l0 v1 w1 l1 hs (fun _ hs => (g0 _ hs.tl.tl)) (fun _ hs => (g1 _ hs.tl.tl)) _ h) rfl rfl nofun ?_
  clear h hs
  rintro _ H108 ⟨y107, h, rfl, hs⟩
  refine so_un rfl au_not ?_
  refine so_move (v := (.v (.bool (!y107)))) rfl ?_
  replace h := ofT h; rcases h with ⟨c109, h⟩ | ⟨c109, h⟩
  · refine so_gyes rfl (not_f c109) ?_
    refine so_move (v := (.v v2)) rfl ?_
    refine so_gyes rfl (not_f c109) ?_
    refine sv_len (g2 _ hs.tl.tl) (fun _ => rfl) (by decide) rfl F193.ti37 ?_
    refine so_gyes rfl (not_f c109) ?_
    refine so_fieldAddr rfl F193.fd155_1 ?_
    refine so_gyes rfl (not_f c109) ?_
    refine sv_ld hs 1 rfl rfl rfl F193.ag153 ?_
    refine so_gyes rfl (not_f c109) ?_
    refine sd_len ((g1 _ hs.tl.tl) : DSh _ _ 1 R_LeFlt_f32_o l1 w1) (by decide) rfl F193.ti153 ?_
    refine so_gyes rfl (not_f c109) ?_
    refine so_bin rfl rfl ab_neq ?_
    refine so_pick_f (v := (.v (.bool (!(decide ((l2.length : Int) = (l1.length : Int))))))) rfl (not_f c109) rfl ?_
    refine so_nil ?_
    replace h := ofP h; rcases h with ⟨c110, h⟩ | ⟨c110, h⟩
    · refine fi_false rfl (not_f (decide_eq_true c110)) ?_
      refine fi_skip ?_
      refine fi_seq ?_
      refine fi_region ?_
      refine so_fieldAddr rfl F193.fd155_0 ?_
      refine sv_ld hs 1 rfl rfl rfl F193.ag37 ?_
      refine sv_call (impl_copyOf_ok v0 l0 hs (fun _ hs => (g0 _ hs.tl.tl)) _ h) rfl rfl nofun ?_
      clear h hs
      rintro _ H114 ⟨y111, h, v112, rfl, hs⟩
      refine so_build F193.bp155 (cps := [(0, [v112])]) rfl (fac (stc (hs.shows 0 rfl).stor stn) fan) rfl ?_
      refine sv_alloc hs F193.ze155 rfl nofun (fun id115 H116 hs => ?_)
      refine sv_st hs 0 rfl rfl rfl (c := [v112, .nilsl]) rfl F193.sz155 rfl (stc (hs.shows 1 rfl).stor (stc rfl stn)) (leb rfl) (cs' := [v112, .nilsl]) rfl nofun (fun H118 hs => ?_)
      refine so_nil ?_
      refine fi_seq ?_
      refine fi_seq ?_
      refine fi_region ?_
      refine so_fieldAddr rfl F193.fd155_1 ?_
      refine sv_ld hs 3 rfl rfl rfl F193.ag153 ?_
      refine sd_len ((g1 _ hs.tl.tl.tl.tl) : DSh _ _ 1 R_LeFlt_f32_o l1 w1) (by decide) rfl F193.ti153 ?_
      refine so_move (v := (.v (.int .i64 (0 : Int)))) rfl ?_
      refine so_nil ?_
      refine fi_block ?_
      refine fi_loop ?_
      replace hs := hs.del 3
      replace hs := hs.dnil 1 R_LeFlt_f32_o
      replace hs := hs.nil 1
      replace hs := hs.dnil 1 R_LeFlt_f32_o
      refine fi_at [(1, (.v v2)), (2, (.v (.bool a3))), (6, (.v (.ptr id104 0))), (8, (.v (.ptr id115 0))), (28, (.v v1)), (29, (.v (.int .i64 (l1.length : Int)))), (30, (.v (.int .i64 (0 : Int))))] ⟨rfl, rfl, rfl, rfl, rfl, rfl, rfl, trivial⟩ ?_
      refine h (fun (b145 : List (List (Nat))) (b150 : List (Nat)) (b153 : List (List (Nat))) (x157 : Int) => ∀ (s : Nat → TV) (H : Heap) (v146 : AV) (ws147 : List (List AV)) (S148 : Nat → Prop) (v151 : AV) (v154 : AV) (ws155 : List (List AV)) (S156 : Nat → Prop), Sep H (dpc v154 1 R_LeFlt_f32_o b153 ws155 S156 :: Pc.osl v151 1 (enc (eFlt .f32) b150) :: dpc v146 1 R_LeFlt_f32_o b145 ws147 S148 :: Pc.box id115 [v112, v146] :: Pc.osl v112 1 (enc (eFlt .f32) y111) :: Pc.box id104 [v151, v154] :: fr) → Fin _ _ (updL s [(1, (.v v2)), (2, (.v (.bool a3))), (6, (.v (.ptr id104 0))), (8, (.v (.ptr id115 0))), (28, (.v v1)), (29, (.v (.int .i64 (l1.length : Int)))), (30, (.v (.int .i64 x157)))]) H _) ?_ _ _ _ _ _ _ _ _ _ hs
      intro b145 b150 b153 x157 h s179 H180 v146 ws147 S148 v151 v154 ws155 S156 hs
      refine fi_inLoop ?_
      refine fi_seq ?_
      refine fi_region ?_
      refine so_bin rfl rfl ab_lss ?_
      refine so_nil ?_
      refine fi_seq ?_
      replace h := ofP h; rcases h with ⟨c158, h⟩ | ⟨c158, h⟩
      · refine fi_true rfl (decide_eq_true c158) ?_
        refine fi_skip ?_
        refine fi_seq ?_
        refine fi_block ?_
        refine fi_seq ?_
        refine fi_region ?_
        refine so_move (v := (.v (.int .i64 x157))) rfl ?_
        obtain ⟨c159, h⟩ := h
        refine sd_idx ((g1 _ hs.tl.tl.tl.tl.tl.tl) : DSh _ _ 1 R_LeFlt_f32_o l1 w1) c159 ([] : List (Nat)) (by decide) rfl rfl F193.tl153 ?_
        refine su_ld ((((g1 _ hs.tl.tl.tl.tl.tl.tl) : DSh _ _ 1 R_LeFlt_f32_o l1 w1)).at (by decide) c159 ([] : List (Nat))).2.2 0 (congrArg (fun c => c[0]?) ((((g1 _ hs.tl.tl.tl.tl.tl.tl) : DSh _ _ 1 R_LeFlt_f32_o l1 w1)).at (by decide) c159 ([] : List (Nat))).2.1.1) rfl F193.ag37 ?_
        refine so_assign (v := (.v (.int .i64 x157))) rfl ?_
        refine so_assign (v := (.v ((w1.getD (x157).toNat []).getD 0 .und))) rfl ?_
        refine so_nil ?_
        refine fi_seq ?_
        refine fi_seq ?_
        refine fi_region ?_
        refine so_move (v := (.v v2)) rfl ?_
        refine so_move (v := (.v (.int .i64 x157))) rfl ?_
        obtain ⟨c160, h⟩ := h
        refine sv_idx (g2 _ hs.tl.tl.tl.tl.tl.tl) c160 (fun _ => rfl) (by decide) rfl rfl F193.tl37 ?_
        refine sv_cell (g2 _ hs.tl.tl.tl.tl.tl.tl) c160 (0 : Nat) 0 (fun x => (AV.flt .f32 x)) (fun _ => rfl) (fun _ => rfl) rfl F193.ag25 ?_
        refine sv_callS (impl_isLeast_ok (l2.getD (x157).toNat (0 : Nat)) hs  _ h) (fun _ _ ⟨_, _, _, e⟩ => e) rfl rfl ?_
        clear h
        rintro _ _ ⟨y161, h, rfl, rfl⟩
        refine so_un rfl au_not ?_
        refine so_nil ?_
        replace h := ofT h; rcases h with ⟨c163, h⟩ | ⟨c163, h⟩
        · refine fi_false rfl (not_f c163) ?_
          refine fi_skip ?_
          refine fi_free [1] ?_
          refine wf_pure rfl (by kernel_rfl) ?_
          refine so_fieldAddr rfl F193.fd155_1 ?_
          refine so_end ?_
          refine wf_free (.v v146) rfl (by kernel_rfl) (stepr (i := 0) rfl (by refine sv_ld hs 3 rfl rfl rfl F193.ag153 ?_; exact so_end ⟨rfl, rfl⟩)) fan ?_
          refine wf_pure rfl (by kernel_rfl) ?_
          refine so_move (v := (.v ((w1.getD (x157).toNat []).getD 0 .und))) rfl ?_
          refine so_end ?_
          refine wf_pure rfl (by kernel_rfl) ?_
          refine so_move (v := (.v v2)) rfl ?_
          refine so_end ?_
          refine wf_pure rfl (by kernel_rfl) ?_
          refine so_move (v := (.v (.int .i64 x157))) rfl ?_
          refine so_end ?_
          refine wf_same (by decide +kernel) (by kernel_rfl) ?_
          refine sv_idx (g2 _ hs.tl.tl.tl.tl.tl.tl) c160 (fun _ => rfl) (by decide) rfl rfl F193.tl37 ?_
          refine so_end ⟨rfl, ?_⟩
          refine wf_same (by decide +kernel) (by kernel_rfl) ?_
          refine sv_cell (g2 _ hs.tl.tl.tl.tl.tl.tl) c160 (0 : Nat) 0 (fun x => (AV.flt .f32 x)) (fun _ => rfl) (fun _ => rfl) rfl F193.ag25 ?_
          refine so_end ⟨rfl, ?_⟩
          refine wf_pure rfl (by kernel_rfl) ?_
          refine so_move (v := (.v (.bool a3))) rfl ?_
          refine so_end ?_
          have hs0_ := hs
          refine wf_chg (by kernel_rfl) ?_
          refine sv_call (impl_shrunkList_ok ((w1.getD (x157).toNat []).getD 0 .und) (l1.getD (x157).toNat ([] : List (Nat))) (l2.getD (x157).toNat (0 : Nat)) a3 hs (fun _ hs => ((((g1 _ hs.tl.tl.tl.tl.tl.tl) : DSh _ _ 1 R_LeFlt_f32_o l1 w1)).at (by decide) c159 ([] : List (Nat))).2.1.2) _ h) rfl rfl nofun ?_
          clear h
          rintro _ H167 ⟨y164, h, v165, rfl, hs⟩
          refine so_end ⟨(fac (.inr (stepr (i := 0) rfl (by refine sv_ld hs 4 rfl rfl rfl F193.ag153 ?_; exact so_end ⟨rfl, rfl⟩))) fan), ?_⟩
          have hs1_ := hs
          refine wf_chg (by kernel_rfl) ?_
          refine sd_bslice hs [[v165]] F193.te153 F193.sz37 F193.ze37 rfl rfl rfl (by simp) (fac (stc (hs.shows 0 rfl).stor stn) fan) (by decide) rfl nofun (fun v168 H169 _ hs => ?_)
          refine so_end ⟨(fac (.inr (stepr (i := 0) rfl (by refine sv_ld hs 5 rfl rfl rfl F193.ag153 ?_; exact so_end ⟨rfl, rfl⟩))) fan), ?_⟩
          have hs2_ := hs
          refine wf_chg (by kernel_rfl) ?_
          obtain ⟨c171, h⟩ := h
          replace hs := Sep.front 1 hs rfl
          refine sk_app hs 3 rfl y164 [v165] (hs.tl.shows 0 rfl) (fun _ hh => ⟨rfl, hh⟩) rfl (by decide) F193.ta153_153 (by decide) c171 rfl rfl nofun (fun v172 ws173 S174 H175 hs => ?_)
          replace hs := hs.del 0
          refine so_end ⟨(fac (.inl ⟨10, by kernel_rfl⟩) fan), ?_⟩
          refine wf_pure rfl (by kernel_rfl) ?_
          refine so_fieldAddr rfl F193.fd155_1 ?_
          refine so_end ?_
          have hs3_ := hs
          refine wf_chg (by kernel_rfl) ?_
          refine sv_st hs 3 rfl rfl rfl (c := [v172]) rfl F193.sz153 rfl (stc (hs.dshows 2 rfl).stor stn) (leb rfl) (cs' := [v112, v172]) rfl nofun (fun H176 hs => ?_)
          refine so_end ⟨(fac (.inl ⟨10, by kernel_rfl⟩) fan), ?_⟩
          refine wf_nil ?_
          refine fi_inBlock ?_
          refine fi_region ?_
          refine so_bin rfl rfl ab_add ?_
          refine so_move (v := (.v (.int .i64 (IntKind.i64.wrap (x157 + (1 : Int)))))) rfl ?_
          refine so_nil ?_
          exact fi_at [(1, (.v v2)), (2, (.v (.bool a3))), (6, (.v (.ptr id104 0))), (8, (.v (.ptr id115 0))), (28, (.v v1)), (29, (.v (.int .i64 (l1.length : Int)))), (30, (.v (.int .i64 (IntKind.i64.wrap (x157 + (1 : Int))))))] ⟨rfl, rfl, rfl, rfl, rfl, rfl, rfl, trivial⟩ (h _ _ _ _ _ _ _ _ _ hs)
        · refine fi_true rfl (not_t c163) ?_
          refine fi_seq ?_
          refine fi_region ?_
          refine so_build F193.bp155 (cps := []) rfl fan rfl ?_
          refine sv_st hs 5 rfl rfl rfl (c := [.nilsl, .nilsl]) rfl F193.sz155 rfl (stc rfl (stc rfl stn)) (leb rfl) (cs' := [.nilsl, .nilsl]) rfl nofun (fun H177 hs => ?_)
          refine so_assign (v := (.v (.bool false))) rfl ?_
          refine so_nil ?_
          exact by_ret (res_mk (ar_cells rfl F193.ag155 F193.sz155 (hs.lds 5 rfl (leb rfl) rfl) (ar_tmp rfl ar_nil)) rfl) ⟨_, _, _, h, _, _, _, _, rfl, (Sep.nil (Sep.dnil (Sep.dropn 6 hs) 1 R_LeFlt_f32_o) 1)⟩
      · refine fi_false rfl (decide_eq_false c158) ?_
        refine fi_exit rfl ?_
        refine fi_seq ?_
        refine fi_region ?_
        refine sv_lds hs 3 rfl rfl (leb rfl) rfl F193.ag155 F193.sz155 ?_
        refine sv_st hs 5 rfl rfl rfl (c := [v112, v146]) rfl F193.sz155 rfl (stc (hs.shows 4 rfl).stor (stc (hs.dshows 2 rfl).stor stn)) (leb rfl) (cs' := [v112, v146]) rfl nofun (fun H178 hs => ?_)
        refine so_assign (v := (.v (.bool true))) rfl ?_
        refine so_nil ?_
        exact by_ret (res_mk (ar_cells rfl F193.ag155 F193.sz155 (hs.lds 5 rfl (leb rfl) rfl) (ar_tmp rfl ar_nil)) rfl) ⟨_, _, _, h, _, _, _, _, rfl, (Sep.front 1 (Sep.del 2 (Sep.del 1 (Sep.del 0 (Sep.del 0 hs)))) rfl)⟩
    · refine fi_true rfl (not_t (decide_eq_false c110)) ?_
      refine fi_seq ?_
      refine fi_region ?_
      refine so_build F193.bp155 (cps := []) rfl fan rfl ?_
      refine sv_st hs 0 rfl rfl rfl (c := [.nilsl, .nilsl]) rfl F193.sz155 rfl (stc rfl (stc rfl stn)) (leb rfl) (cs' := [.nilsl, .nilsl]) rfl nofun (fun H181 hs => ?_)
      refine so_assign (v := (.v (.bool false))) rfl ?_
      refine so_nil ?_
      exact by_ret (res_mk (ar_cells rfl F193.ag155 F193.sz155 (hs.lds 0 rfl (leb rfl) rfl) (ar_tmp rfl ar_nil)) rfl) ⟨_, _, _, h, _, _, _, _, rfl, (Sep.nil (Sep.dnil (Sep.del 0 (Sep.del 0 hs)) 1 R_LeFlt_f32_o) 1)⟩
  · refine so_gno rfl (not_t c109) ?_
    refine so_gno rfl (not_t c109) ?_
    refine so_gno rfl (not_t c109) ?_
    refine so_gno rfl (not_t c109) ?_
    refine so_gno rfl (not_t c109) ?_
    refine so_gno rfl (not_t c109) ?_
    refine so_pick_t (v := (.v (.bool true))) rfl (not_t c109) rfl ?_
    refine so_nil ?_
    refine fi_true rfl rfl ?_
    refine fi_seq ?_
    refine fi_region ?_
    refine so_build F193.bp155 (cps := []) rfl fan rfl ?_
    refine sv_st hs 0 rfl rfl rfl (c := [.nilsl, .nilsl]) rfl F193.sz155 rfl (stc rfl (stc rfl stn)) (leb rfl) (cs' := [.nilsl, .nilsl]) rfl nofun (fun H182 hs => ?_)
    refine so_assign (v := (.v (.bool false))) rfl ?_
    refine so_nil ?_
    exact by_ret (res_mk (ar_cells rfl F193.ag155 F193.sz155 (hs.lds 0 rfl (leb rfl) rfl) (ar_tmp rfl ar_nil)) rfl) ⟨_, _, _, h, _, _, _, _, rfl, (Sep.nil (Sep.dnil (Sep.del 0 (Sep.del 0 hs)) 1 R_LeFlt_f32_o) 1)⟩

end Go.Proofs.Ytpeijfnfffogeaa.G

namespace Go.Proofs.Ytpeijfnfffogeaa.G
open Go Go.Ab Go.Proofs Go.Proofs.Ytpeijfnfffogeaa
set_option maxRecDepth 100000
set_option linter.unusedVariables false
set_option linter.unusedSimpArgs false
set_option maxHeartbeats 1000000
attribute [local irreducible] wops wopf Go.Ab.Fin
theorem F128.sz37 : tsz Try.prog 37 = some 1 := by kernel_rfl
theorem F128.te153 : telem Try.prog 153 = some 37 := by kernel_rfl
theorem F128.ze37 : tzero Try.prog 37 = some [.nilsl] := by kernel_rfl
theorem impl_finiteList_ok {fr : List Pc} {H : Heap} (v0 : AV) (l0 : List (Nat)) (hs : Sep H (fr)) (g0 : ∀ H, Sep H fr → Shows H v0 1 (enc (eFlt .f32) l0)) (K : Bool → Bool → Prop) (h : impl_finiteList.wp l0 K) : OkQ Try.prog 128 [(.v v0)] H (fun r H2 => ∃ (y0 : Bool) (y1 : Bool), K y0 y1 ∧ r = (.t [(.v (bif y0 then v0 else .nilsl)), (.v (.bool y1))]) ∧ Sep H2 (fr)) := by
  unfold impl_finiteList.wp at h
  refine of_body Try.f128 F.hm Try.func128 rfl Try.call128 (by kernel_rfl) (by simp) ?_
  refine fi_seq ?_
  refine fi_region ?_
  refine so_assign (v := (.v .nilsl)) rfl ?_
  refine so_assign (v := (.v (.bool false))) rfl ?_
  refine so_nil ?_
  refine fi_seq ?_
  refine fi_seq ?_
  refine fi_region ?_
  refine so_move (v := (.v v0)) rfl ?_
  refine sd_bslice hs [[v0]] F128.te153 F128.sz37 F128.ze37 rfl rfl rfl (by simp) (fac (stc (g0 _ hs).stor stn) fan) (by decide) rfl nofun (fun v101 H102 _ hs => ?_)
  refine sv_callS (impl_areFinite_ok v101 ([[v0]]) ([l0] : List (List (Nat))) hs (fun _ hs => ⟨hs.shows 0 rfl, by simp, ⟨⟨rfl, (g0 _ hs.tl)⟩, trivial⟩⟩) _ h) (fun _ _ ⟨_, _, _, e⟩ => e) rfl rfl ?_
  clear h
  rintro _ _ ⟨y104, h, rfl, rfl⟩
  refine so_un rfl au_not ?_
  refine so_nil ?_
  replace h := ofT h; rcases h with ⟨c106, h⟩ | ⟨c106, h⟩
  · refine fi_false rfl (not_f c106) ?_
    refine fi_skip ?_
    refine fi_seq ?_
    refine fi_region ?_
    refine so_move (v := (.v v0)) rfl ?_
    refine so_assign (v := (.v v0)) rfl ?_
    refine so_assign (v := (.v (.bool true))) rfl ?_
    refine so_nil ?_
    exact by_ret rfl ⟨_, _, h, rfl, (Sep.del 0 hs)⟩
  · refine fi_true rfl (not_t c106) ?_
    refine fi_seq ?_
    refine fi_region ?_
    refine so_assign (v := (.v .nilsl)) rfl ?_
    refine so_assign (v := (.v (.bool false))) rfl ?_
    refine so_nil ?_
    exact by_ret rfl ⟨_, _, h, rfl, (Sep.del 0 hs)⟩

end Go.Proofs.Ytpeijfnfffogeaa.G

namespace Go.Proofs.Ytpeijfnfffogeaa.G
open Go Go.Ab Go.Proofs Go.Proofs.Ytpeijfnfffogeaa
set_option maxRecDepth 100000
set_option linter.unusedVariables false
set_option linter.unusedSimpArgs false
set_option maxHeartbeats 1000000
attribute [local irreducible] wops wopf Go.Ab.Fin
theorem F248.ag25 : tagg Try.prog 25 = some false := by kernel_rfl
theorem F248.ag37 : tagg Try.prog 37 = some false := by kernel_rfl
theorem F248.ag78 : tagg Try.prog 78 = some true := by kernel_rfl
theorem F248.by25 : tbytes Try.prog 25 = some 4 := by kernel_rfl
theorem F248.fd78_0 : tfield Try.prog 78 0 = some (0, 1, false) := by kernel_rfl
theorem F248.inf78 : (Try.prog.info? 78).isSome = true := by kernel_rfl
theorem F248.sz25 : tsz Try.prog 25 = some 1 := by kernel_rfl
theorem F248.sz37 : tsz Try.prog 37 = some 1 := by kernel_rfl
theorem F248.sz78 : tsz Try.prog 78 = some 1 := by kernel_rfl
theorem F248.te153 : telem Try.prog 153 = some 37 := by kernel_rfl
theorem F248.te37 : telem Try.prog 37 = some 25 := by kernel_rfl
theorem F248.ti37 : (telem Try.prog 37).isSome = true := by kernel_rfl
theorem F248.tl37 : (telem Try.prog 37).bind (tsz Try.prog) = some 1 := by kernel_rfl
theorem F248.ze25 : tzero Try.prog 25 = some [(.flt .f32 (0 : Nat))] := by kernel_rfl
theorem F248.ze37 : tzero Try.prog 37 = some [.nilsl] := by kernel_rfl
theorem impl_JoinRing_ok {fr : List Pc} {H : Heap} (v0 : AV) (l0 : List (Nat)) (v1 : AV) (l1 : List (Nat)) (v2 : AV) (l2 : List (Nat)) (hs : Sep H (fr)) (g0 : ∀ H, Sep H fr → Shows H v0 1 (enc (eFlt .f32) l0)) (g1 : ∀ H, Sep H fr → Shows H v1 1 (enc (eFlt .f32) l1)) (g2 : ∀ H, Sep H fr → Shows H v2 1 (enc (eFlt .f32) l2)) (K : (List (Nat)) → Bool → Prop) (h : impl_JoinRing.wp l0 l1 l2 K) : OkQ Try.prog 248 [(.v v0), (.v v1), (.g [v2])] H (fun r H2 => ∃ (y0 : List (Nat)) (y1 : Bool), K y0 y1 ∧ ∃ (w0_ : AV), r = (.t [(.v w0_), (.v (.bool y1))]) ∧ Sep H2 (Pc.osl w0_ 1 (enc (eFlt .f32) y0) :: fr)) := by
  unfold impl_JoinRing.wp at h
  refine of_body Try.f248 F.hm Try.func248 rfl Try.call248 (by kernel_rfl) (by simp) ?_
  refine fi_seq ?_
  refine fi_region ?_
  refine sv_box hs rfl (c := [v2]) rfl F248.inf78 (stc (g2 _ hs).stor stn) nofun (fun id101 H102 hs => ?_)
  refine so_assign (v := (.v .nilsl)) rfl ?_
  refine so_assign (v := (.v (.bool false))) rfl ?_
  refine so_nil ?_
  refine fi_seq ?_
  refine fi_seq ?_
  refine fi_region ?_
  refine so_move (v := (.v v0)) rfl ?_
  refine sv_len (g0 _ hs.tl) (fun _ => rfl) (by decide) rfl F248.ti37 ?_
  refine sv_callS (impl_within_ok (l0.length : Int) (1 : Int) (64 : Int) hs  _ h) (fun _ _ ⟨_, _, _, e⟩ => e) rfl rfl ?_
  clear h
  rintro _ _ ⟨y104, h, rfl, rfl⟩
  refine so_un rfl au_not ?_
  refine so_move (v := (.v (.bool (!y104)))) rfl ?_
  replace h := ofT h; rcases h with ⟨c106, h⟩ | ⟨c106, h⟩
  · refine so_gyes rfl (not_f c106) ?_
    refine so_move (v := (.v v1)) rfl ?_
    refine so_gyes rfl (not_f c106) ?_
    refine sv_len (g1 _ hs.tl) (fun _ => rfl) (by decide) rfl F248.ti37 ?_
    refine so_gyes rfl (not_f c106) ?_
    refine so_move (v := (.v v0)) rfl ?_
    refine so_gyes rfl (not_f c106) ?_
    refine sv_len (g0 _ hs.tl) (fun _ => rfl) (by decide) rfl F248.ti37 ?_
    refine so_gyes rfl (not_f c106) ?_
    refine so_bin rfl rfl ab_neq ?_
    refine so_pick_f (v := (.v (.bool (!(decide ((l1.length : Int) = (l0.length : Int))))))) rfl (not_f c106) rfl ?_
    refine so_move (v := (.v (.bool (!(decide ((l1.length : Int) = (l0.length : Int))))))) rfl ?_
    replace h := ofP h; rcases h with ⟨c107, h⟩ | ⟨c107, h⟩
    · refine so_gyes rfl (not_f (decide_eq_true c107)) ?_
      refine so_move (v := (.v v0)) rfl ?_
      refine so_gyes rfl (not_f (decide_eq_true c107)) ?_
      refine so_move (v := (.v v1)) rfl ?_
      refine so_gyes rfl (not_f (decide_eq_true c107)) ?_
      refine sd_bslice hs [[v0], [v1]] F248.te153 F248.sz37 F248.ze37 rfl rfl rfl (by simp) (fac (stc (g0 _ hs.tl).stor stn) (fac (stc (g1 _ hs.tl).stor stn) fan)) (by decide) rfl nofun (fun v108 H109 _ hs => ?_)
      refine so_gyes rfl (not_f (decide_eq_true c107)) ?_
      refine sv_callS (impl_areFinite_ok v108 ([[v0], [v1]]) ([l0, l1] : List (List (Nat))) hs (fun _ hs => ⟨hs.shows 0 rfl, by simp, ⟨⟨rfl, (g0 _ hs.tl.tl)⟩, ⟨⟨rfl, (g1 _ hs.tl.tl)⟩, trivial⟩⟩⟩) _ h) (fun _ _ ⟨_, _, _, e⟩ => e) rfl rfl ?_
      clear h
      rintro _ _ ⟨y111, h, rfl, rfl⟩
      refine so_gyes rfl (not_f (decide_eq_true c107)) ?_
      refine so_un rfl au_not ?_
      refine so_pick_f (v := (.v (.bool (!y111)))) rfl (not_f (decide_eq_true c107)) rfl ?_
      refine so_move (v := (.v (.bool (!y111)))) rfl ?_
      replace h := ofT h; rcases h with ⟨c113, h⟩ | ⟨c113, h⟩
      · refine so_gyes rfl (not_f c113) ?_
        refine sv_lds hs 1 rfl rfl (leb rfl) rfl F248.ag78 F248.sz78 ?_
        refine so_gyes rfl (not_f c113) ?_
        refine sv_call (impl_ValidPair_ok v2 l2 hs (fun _ hs => (g2 _ hs.tl.tl)) _ h) rfl rfl nofun ?_
        clear h hs
        rintro _ H115 ⟨y114, h, rfl, hs⟩
        refine so_gyes rfl (not_f c113) ?_
        refine so_un rfl au_not ?_
        refine so_pick_f (v := (.v (.bool (!y114)))) rfl (not_f c113) rfl ?_
        refine so_nil ?_
        replace h := ofT h; rcases h with ⟨c116, h⟩ | ⟨c116, h⟩
        · refine fi_false rfl (not_f c116) ?_
          refine fi_skip ?_
          refine fi_seq ?_
          refine fi_region ?_
          refine sv_lds hs 1 rfl rfl (leb rfl) rfl F248.ag78 F248.sz78 ?_
          refine sv_call (impl_highOf_ok v2 l2 hs (fun _ hs => (g2 _ hs.tl.tl)) _ h) rfl rfl nofun ?_
          clear h hs
          rintro _ H120 ⟨y117, h, v118, rfl, hs⟩
          refine so_assign (v := (.v v118)) rfl ?_
          refine so_nil ?_
          refine fi_seq ?_
          refine fi_region ?_
          refine so_move (v := (.v v0)) rfl ?_
          refine sv_len (g0 _ hs.tl.tl.tl) (fun _ => rfl) (by decide) rfl F248.ti37 ?_
          refine so_bin rfl rfl ab_mul ?_
          refine so_assign (v := (.v (.int .i64 (IntKind.i64.wrap ((2 : Int) * (l0.length : Int)))))) rfl ?_
          refine so_nil ?_
          refine fi_seq ?_
          refine fi_region ?_
          refine so_move (v := (.v (.int .i64 (IntKind.i64.wrap ((2 : Int) * (l0.length : Int)))))) rfl ?_
          obtain ⟨c121, h⟩ := h
          refine sv_make hs (eFlt .f32) (0 : Nat) c121 (fun _ => rfl) rfl rfl F248.te37 F248.sz25 F248.by25 F248.ze25 rfl rfl nofun (fun v122 H123 nv122 hs => ?_)
          refine so_assign (v := (.v v122)) rfl ?_
          refine so_nil ?_
          refine fi_seq ?_
          refine fi_seq ?_
          refine fi_region ?_
          refine so_move (v := (.v v0)) rfl ?_
          refine sv_len (g0 _ hs.tl.tl.tl.tl) (fun _ => rfl) (by decide) rfl F248.ti37 ?_
          refine so_move (v := (.v (.int .i64 (0 : Int)))) rfl ?_
          refine so_nil ?_
          refine fi_block ?_
          refine fi_loop ?_
          replace hs := hs.del 2
          refine fi_at [(0, (.v v0)), (1, (.v v1)), (5, (.v (.ptr id101 0))), (8, (.v v118)), (9, (.v (.int .i64 (IntKind.i64.wrap ((2 : Int) * (l0.length : Int)))))), (10, (.v v122)), (45, (.v (.int .i64 (l0.length : Int)))), (46, (.v (.int .i64 (0 : Int))))] ⟨rfl, rfl, rfl, rfl, rfl, rfl, rfl, rfl, trivial⟩ ?_
          refine h (fun (out156 : List (Nat)) (x157 : Int) => ∀ (s : Nat → TV) (H : Heap), Sep H (Pc.osl v122 1 (enc (eFlt .f32) out156) :: Pc.osl v118 1 (enc (eFlt .f32) y117) :: Pc.box id101 [v2] :: fr) → Fin _ _ (updL s [(0, (.v v0)), (1, (.v v1)), (5, (.v (.ptr id101 0))), (8, (.v v118)), (9, (.v (.int .i64 (IntKind.i64.wrap ((2 : Int) * (l0.length : Int)))))), (10, (.v v122)), (45, (.v (.int .i64 (l0.length : Int)))), (46, (.v (.int .i64 x157)))]) H _) ?_ _ _ hs
          intro out156 x157 h s186 H187 hs
          refine fi_inLoop ?_
          refine fi_seq ?_
          refine fi_region ?_
          refine so_bin rfl rfl ab_lss ?_
          refine so_nil ?_
          refine fi_seq ?_
          replace h := ofP h; rcases h with ⟨c158, h⟩ | ⟨c158, h⟩
          · refine fi_true rfl (decide_eq_true c158) ?_
            refine fi_skip ?_
            refine fi_seq ?_
            refine fi_block ?_
            refine fi_seq ?_
            refine fi_region ?_
            refine so_move (v := (.v (.int .i64 x157))) rfl ?_
            refine so_assign (v := (.v (.int .i64 x157))) rfl ?_
            refine so_nil ?_
            refine fi_seq ?_
            refine fi_region ?_
            refine so_fieldAddr rfl F248.fd78_0 ?_
            refine sv_ld hs 2 rfl rfl rfl F248.ag37 ?_
            refine sv_len (g2 _ hs.tl.tl.tl) (fun _ => rfl) (by decide) rfl F248.ti37 ?_
            refine so_move (v := (.v (.int .i64 (0 : Int)))) rfl ?_
            refine so_nil ?_
            refine fi_block ?_
            refine fi_loop ?_
            refine fi_at [(0, (.v v0)), (1, (.v v1)), (5, (.v (.ptr id101 0))), (8, (.v v118)), (9, (.v (.int .i64 (IntKind.i64.wrap ((2 : Int) * (l0.length : Int)))))), (10, (.v v122)), (11, (.v (.int .i64 x157))), (45, (.v (.int .i64 (l0.length : Int)))), (46, (.v (.int .i64 x157))), (50, (.v v2)), (51, (.v (.int .i64 (l2.length : Int)))), (52, (.v (.int .i64 (0 : Int))))] ⟨rfl, rfl, rfl, rfl, rfl, rfl, rfl, rfl, rfl, rfl, rfl, rfl, trivial⟩ ?_
            refine h (fun (out170 : List (Nat)) (x171 : Int) => ∀ (s : Nat → TV) (H : Heap), Sep H (Pc.osl v122 1 (enc (eFlt .f32) out170) :: Pc.osl v118 1 (enc (eFlt .f32) y117) :: Pc.box id101 [v2] :: fr) → Fin _ _ (updL s [(0, (.v v0)), (1, (.v v1)), (5, (.v (.ptr id101 0))), (8, (.v v118)), (9, (.v (.int .i64 (IntKind.i64.wrap ((2 : Int) * (l0.length : Int)))))), (10, (.v v122)), (11, (.v (.int .i64 x157))), (45, (.v (.int .i64 (l0.length : Int)))), (46, (.v (.int .i64 x157))), (50, (.v v2)), (51, (.v (.int .i64 (l2.length : Int)))), (52, (.v (.int .i64 x171)))]) H _) ?_ _ _ hs
            intro out170 x171 h s180 H181 hs
            refine fi_inLoop ?_
            refine fi_seq ?_
            refine fi_region ?_
            refine so_bin rfl rfl ab_lss ?_
            refine so_nil ?_
            refine fi_seq ?_
            replace h := ofP h; rcases h with ⟨c172, h⟩ | ⟨c172, h⟩
            · refine fi_true rfl (decide_eq_true c172) ?_
              refine fi_skip ?_
              refine fi_seq ?_
              refine fi_block ?_
              refine fi_seq ?_
              refine fi_region ?_
              refine so_move (v := (.v (.int .i64 x171))) rfl ?_
              obtain ⟨c173, h⟩ := h
              refine sv_idx (g2 _ hs.tl.tl.tl) c173 (fun _ => rfl) (by decide) rfl rfl F248.tl37 ?_
              refine sv_cell (g2 _ hs.tl.tl.tl) c173 (0 : Nat) 0 (fun x => (AV.flt .f32 x)) (fun _ => rfl) (fun _ => rfl) rfl F248.ag25 ?_
              refine so_assign (v := (.v (.int .i64 x171))) rfl ?_
              refine so_assign (v := (.v (.flt .f32 (l2.getD (x171).toNat (0 : Nat))))) rfl ?_
              refine so_nil ?_
              refine fi_region ?_
              refine so_move (v := (.v v122)) rfl ?_
              refine so_move (v := (.v (.int .i64 x157))) rfl ?_
              refine so_bin rfl rfl ab_mul ?_
              refine so_move (v := (.v (.int .i64 x171))) rfl ?_
              refine so_bin rfl rfl ab_add ?_
              refine so_move (v := (.v (.int .i64 (IntKind.i64.wrap ((2 : Int) * (l0.length : Int)))))) rfl ?_
              obtain ⟨c174, h⟩ := h
              refine so_bin rfl rfl (ab_rem c174) ?_
              obtain ⟨c175, h⟩ := h
              refine sv_idx (hs.shows 0 rfl) c175 (fun _ => rfl) (by decide) rfl rfl F248.tl37 ?_
              refine sv_cell (hs.shows 0 rfl) c175 (0 : Nat) 0 (fun x => (AV.flt .f32 x)) (fun _ => rfl) (fun _ => rfl) rfl F248.ag25 ?_
              refine so_move (v := (.v (.flt .f32 (l2.getD (x171).toNat (0 : Nat))))) rfl ?_
              refine so_move (v := (.v v0)) rfl ?_
              refine so_move (v := (.v (.int .i64 x157))) rfl ?_
              obtain ⟨c176, h⟩ := h
              refine sv_idx (g0 _ hs.tl.tl.tl) c176 (fun _ => rfl) (by decide) rfl rfl F248.tl37 ?_
              refine sv_cell (g0 _ hs.tl.tl.tl) c176 (0 : Nat) 0 (fun x => (AV.flt .f32 x)) (fun _ => rfl) (fun _ => rfl) rfl F248.ag25 ?_
              refine so_bin rfl rfl ab_fmul ?_
              refine so_move (v := (.v v118)) rfl ?_
              refine so_move (v := (.v (.int .i64 x171))) rfl ?_
              obtain ⟨c177, h⟩ := h
              refine sv_idx (hs.shows 1 rfl) c177 (fun _ => rfl) (by decide) rfl rfl F248.tl37 ?_
              refine sv_cell (hs.shows 1 rfl) c177 (0 : Nat) 0 (fun x => (AV.flt .f32 x)) (fun _ => rfl) (fun _ => rfl) rfl F248.ag25 ?_
              refine so_move (v := (.v v1)) rfl ?_
              refine so_move (v := (.v (.int .i64 x157))) rfl ?_
              obtain ⟨c178, h⟩ := h
              refine sv_idx (g1 _ hs.tl.tl.tl) c178 (fun _ => rfl) (by decide) rfl rfl F248.tl37 ?_
              refine sv_cell (g1 _ hs.tl.tl.tl) c178 (0 : Nat) 0 (fun x => (AV.flt .f32 x)) (fun _ => rfl) (fun _ => rfl) rfl F248.ag25 ?_
              refine so_bin rfl rfl ab_fmul ?_
              refine so_bin rfl rfl ab_fadd ?_
              refine so_bin rfl rfl ab_fadd ?_
              refine sv_idx (hs.shows 0 rfl) c175 (fun _ => rfl) (by decide) rfl rfl F248.tl37 ?_
              refine sv_set hs 0 rfl c175 (fop .add .f32 (out170.getD ((Int.tmod (IntKind.i64.wrap ((IntKind.i64.wrap ((2 : Int) * x157)) + x171)) (IntKind.i64.wrap ((2 : Int) * (l0.length : Int))))).toNat (0 : Nat)) (fop .add .f32 (fop .mul .f32 (l2.getD (x171).toNat (0 : Nat)) (l0.getD (x157).toNat (0 : Nat))) (fop .mul .f32 (y117.getD (x171).toNat (0 : Nat)) (l1.getD (x157).toNat (0 : Nat))))) (fun _ => rfl) (by decide) rfl rfl rfl rfl F248.sz25 (fun _ => by kernel_rfl) (fun H179 hs => ?_)
              refine so_nil ?_
              refine fi_inBlock ?_
              refine fi_region ?_
              refine so_bin rfl rfl ab_add ?_
              refine so_move (v := (.v (.int .i64 (IntKind.i64.wrap (x171 + (1 : Int)))))) rfl ?_
              refine so_nil ?_
              exact fi_at [(0, (.v v0)), (1, (.v v1)), (5, (.v (.ptr id101 0))), (8, (.v v118)), (9, (.v (.int .i64 (IntKind.i64.wrap ((2 : Int) * (l0.length : Int)))))), (10, (.v v122)), (11, (.v (.int .i64 x157))), (45, (.v (.int .i64 (l0.length : Int)))), (46, (.v (.int .i64 x157))), (50, (.v v2)), (51, (.v (.int .i64 (l2.length : Int)))), (52, (.v (.int .i64 (IntKind.i64.wrap (x171 + (1 : Int))))))] ⟨rfl, rfl, rfl, rfl, rfl, rfl, rfl, rfl, rfl, rfl, rfl, rfl, trivial⟩ (h _ _  hs)
            · refine fi_false rfl (decide_eq_false c172) ?_
              refine fi_exit rfl ?_
              refine fi_inBlock ?_
              refine fi_region ?_
              refine so_bin rfl rfl ab_add ?_
              refine so_move (v := (.v (.int .i64 (IntKind.i64.wrap (x157 + (1 : Int)))))) rfl ?_
              refine so_nil ?_
              exact fi_at [(0, (.v v0)), (1, (.v v1)), (5, (.v (.ptr id101 0))), (8, (.v v118)), (9, (.v (.int .i64 (IntKind.i64.wrap ((2 : Int) * (l0.length : Int)))))), (10, (.v v122)), (45, (.v (.int .i64 (l0.length : Int)))), (46, (.v (.int .i64 (IntKind.i64.wrap (x157 + (1 : Int))))))] ⟨rfl, rfl, rfl, rfl, rfl, rfl, rfl, rfl, trivial⟩ (h _ _  hs)
          · refine fi_false rfl (decide_eq_false c158) ?_
            refine fi_exit rfl ?_
            refine fi_seq ?_
            refine fi_region ?_
            refine so_move (v := (.v v122)) rfl ?_
            refine sv_call (impl_finiteList_ok v122 out156 hs (fun _ hs => (hs.shows 0 rfl)) _ h) rfl rfl nofun ?_
            clear h hs
            rintro _ H184 ⟨y182, y183, h, rfl, hs⟩
            replace h := ofT h; rcases h with ⟨c185, h⟩ | ⟨c185, h⟩
            · subst c185
              refine so_extract rfl rfl rfl ?_
              refine so_extract rfl rfl rfl ?_
              refine so_assign (v := (.v v122)) rfl ?_
              refine so_assign (v := (.v (.bool y183))) rfl ?_
              refine so_nil ?_
              exact by_ret rfl ⟨_, _, h, _, rfl, (Sep.del 1 (Sep.del 1 hs))⟩
            · subst c185
              refine so_extract rfl rfl rfl ?_
              refine so_extract rfl rfl rfl ?_
              refine so_assign (v := (.v .nilsl)) rfl ?_
              refine so_assign (v := (.v (.bool y183))) rfl ?_
              refine so_nil ?_
              exact by_ret rfl ⟨_, _, h, _, rfl, (Sep.nil (Sep.del 0 (Sep.del 0 (Sep.del 0 hs))) 1)⟩
        · refine fi_true rfl (not_t c116) ?_
          refine fi_seq ?_
          refine fi_region ?_
          refine so_assign (v := (.v .nilsl)) rfl ?_
          refine so_assign (v := (.v (.bool false))) rfl ?_
          refine so_nil ?_
          exact by_ret rfl ⟨_, _, h, _, rfl, (Sep.nil (Sep.del 0 (Sep.del 0 hs)) 1)⟩
      · refine so_gno rfl (not_t c113) ?_
        refine so_gno rfl (not_t c113) ?_
        refine so_gno rfl (not_t c113) ?_
        refine so_pick_t (v := (.v (.bool true))) rfl (not_t c113) rfl ?_
        refine so_nil ?_
        refine fi_true rfl rfl ?_
        refine fi_seq ?_
        refine fi_region ?_
        refine so_assign (v := (.v .nilsl)) rfl ?_
        refine so_assign (v := (.v (.bool false))) rfl ?_
        refine so_nil ?_
        exact by_ret rfl ⟨_, _, h, _, rfl, (Sep.nil (Sep.del 0 (Sep.del 0 hs)) 1)⟩
    · refine so_gno rfl (not_t (decide_eq_false c107)) ?_
      refine so_gno rfl (not_t (decide_eq_false c107)) ?_
      refine so_gno rfl (not_t (decide_eq_false c107)) ?_
      refine so_gno rfl (not_t (decide_eq_false c107)) ?_
      refine so_gno rfl (not_t (decide_eq_false c107)) ?_
      refine so_pick_t (v := (.v (.bool true))) rfl (not_t (decide_eq_false c107)) rfl ?_
      refine so_move (v := (.v (.bool true))) rfl ?_
      refine so_gno rfl rfl ?_
      refine so_gno rfl rfl ?_
      refine so_gno rfl rfl ?_
      refine so_pick_t (v := (.v (.bool true))) rfl rfl rfl ?_
      refine so_nil ?_
      refine fi_true rfl rfl ?_
      refine fi_seq ?_
      refine fi_region ?_
      refine so_assign (v := (.v .nilsl)) rfl ?_
      refine so_assign (v := (.v (.bool false))) rfl ?_
      refine so_nil ?_
      exact by_ret rfl ⟨_, _, h, _, rfl, (Sep.nil (Sep.del 0 hs) 1)⟩
  · refine so_gno rfl (not_t c106) ?_
    refine so_gno rfl (not_t c106) ?_
    refine so_gno rfl (not_t c106) ?_
    refine so_gno rfl (not_t c106) ?_
    refine so_gno rfl (not_t c106) ?_
    refine so_pick_t (v := (.v (.bool true))) rfl (not_t c106) rfl ?_
    refine so_move (v := (.v (.bool true))) rfl ?_
    refine so_gno rfl rfl ?_
    refine so_gno rfl rfl ?_
    refine so_gno rfl rfl ?_
    refine so_gno rfl rfl ?_
    refine so_gno rfl rfl ?_
    refine so_pick_t (v := (.v (.bool true))) rfl rfl rfl ?_
    refine so_move (v := (.v (.bool true))) rfl ?_
    refine so_gno rfl rfl ?_
    refine so_gno rfl rfl ?_
    refine so_gno rfl rfl ?_
    refine so_pick_t (v := (.v (.bool true))) rfl rfl rfl ?_
    refine so_nil ?_
    refine fi_true rfl rfl ?_
    refine fi_seq ?_
    refine fi_region ?_
    refine so_assign (v := (.v .nilsl)) rfl ?_
    refine so_assign (v := (.v (.bool false))) rfl ?_
    refine so_nil ?_
    exact by_ret rfl ⟨_, _, h, _, rfl, (Sep.nil (Sep.del 0 hs) 1)⟩

end Go.Proofs.Ytpeijfnfffogeaa.G

namespace Go.Proofs.Ytpeijfnfffogeaa.G
open Go Go.Ab Go.Proofs Go.Proofs.Ytpeijfnfffogeaa
set_option maxRecDepth 100000
set_option linter.unusedVariables false
set_option linter.unusedSimpArgs false
set_option maxHeartbeats 1000000
attribute [local irreducible] wops wopf Go.Ab.Fin
theorem F194.ag153 : tagg Try.prog 153 = some false := by kernel_rfl
theorem F194.ag155 : tagg Try.prog 155 = some true := by kernel_rfl
theorem F194.ag37 : tagg Try.prog 37 = some false := by kernel_rfl
theorem F194.ag78 : tagg Try.prog 78 = some true := by kernel_rfl
theorem F194.fd155_0 : tfield Try.prog 155 0 = some (0, 1, false) := by kernel_rfl
theorem F194.fd155_1 : tfield Try.prog 155 1 = some (1, 1, false) := by kernel_rfl
theorem F194.inf155 : (Try.prog.info? 155).isSome = true := by kernel_rfl
theorem F194.inf78 : (Try.prog.info? 78).isSome = true := by kernel_rfl
theorem F194.sz155 : tsz Try.prog 155 = some 2 := by kernel_rfl
theorem F194.sz78 : tsz Try.prog 78 = some 1 := by kernel_rfl
theorem F194.ti153 : (telem Try.prog 153).isSome = true := by kernel_rfl
theorem F194.tl153 : (telem Try.prog 153).bind (tsz Try.prog) = some 1 := by kernel_rfl
theorem impl_JoinLevels_ok {fr : List Pc} {H : Heap} (v0 : AV) (l0 : List (Nat)) (v1 : AV) (w1 : List (List AV)) (l1 : List (List (Nat))) (v2 : AV) (l2 : List (Nat)) (hs : Sep H (fr)) (g0 : ∀ H, Sep H fr → Shows H v0 1 (enc (eFlt .f32) l0)) (g1 : ∀ H, Sep H fr → DSh H v1 1 R_LeFlt_f32_o l1 w1) (g2 : ∀ H, Sep H fr → Shows H v2 1 (enc (eFlt .f32) l2)) (K : (List (Nat)) → Bool → Prop) (h : impl_JoinLevels.wp l0 l1 l2 K) : OkQ Try.prog 194 [(.g [v0, v1]), (.g [v2])] H (fun r H2 => ∃ (y0 : List (Nat)) (y1 : Bool), K y0 y1 ∧ ∃ (w0_ : AV), r = (.t [(.v w0_), (.v (.bool y1))]) ∧ Sep H2 (Pc.osl w0_ 1 (enc (eFlt .f32) y0) :: fr)) := by
  unfold impl_JoinLevels.wp at h
  refine of_body Try.f194 F.hm Try.func194 rfl Try.call194 (by kernel_rfl) (by simp) ?_
  refine fi_seq ?_
  refine fi_region ?_
  refine sv_box hs rfl (c := [v0, v1]) rfl F194.inf155 (stc (g0 _ hs).stor (stc (g1 _ hs).stor stn)) nofun (fun id101 H102 hs => ?_)
  refine sv_box hs rfl (c := [v2]) rfl F194.inf78 (stc (g2 _ hs.tl).stor stn) nofun (fun id104 H105 hs => ?_)
  refine so_assign (v := (.v .nilsl)) rfl ?_
  refine so_assign (v := (.v (.bool false))) rfl ?_
  refine so_nil ?_
  refine fi_seq ?_
  refine fi_seq ?_
  refine fi_region ?_
  refine sv_lds hs 1 rfl rfl (leb rfl) rfl F194.ag155 F194.sz155 ?_
  refine sv_call (impl_ValidBands_ok v0 l0 v1 w1 l1 hs (fun _ hs => (g0 _ hs.tl.tl)) (fun _ hs => (g1 _ hs.tl.tl)) _ h) rfl rfl nofun ?_
  clear h hs
  rintro _ H108 ⟨y107, h, rfl, hs⟩
  refine so_un rfl au_not ?_
  refine so_move (v := (.v (.bool (!y107)))) rfl ?_
  replace h := ofT h; rcases h with ⟨c109, h⟩ | ⟨c109, h⟩
  · refine so_gyes rfl (not_f c109) ?_
    refine sv_lds hs 0 rfl rfl (leb rfl) rfl F194.ag78 F194.sz78 ?_
    refine so_gyes rfl (not_f c109) ?_
    refine sv_call (impl_ValidPair_ok v2 l2 hs (fun _ hs => (g2 _ hs.tl.tl)) _ h) rfl rfl nofun ?_
    clear h hs
    rintro _ H111 ⟨y110, h, rfl, hs⟩
    refine so_gyes rfl (not_f c109) ?_
    refine so_un rfl au_not ?_
    refine so_pick_f (v := (.v (.bool (!y110)))) rfl (not_f c109) rfl ?_
    refine so_nil ?_
    replace h := ofT h; rcases h with ⟨c112, h⟩ | ⟨c112, h⟩
    · refine fi_false rfl (not_f c112) ?_
      refine fi_skip ?_
      refine fi_seq ?_
      refine fi_region ?_
      refine so_fieldAddr rfl F194.fd155_0 ?_
      refine sv_ld hs 1 rfl rfl rfl F194.ag37 ?_
      refine so_assign (v := (.v v0)) rfl ?_
      refine so_nil ?_
      refine fi_seq ?_
      refine fi_seq ?_
      refine fi_region ?_
      refine so_fieldAddr rfl F194.fd155_1 ?_
      refine sv_ld hs 1 rfl rfl rfl F194.ag153 ?_
      refine sd_len ((g1 _ hs.tl.tl) : DSh _ _ 1 R_LeFlt_f32_o l1 w1) (by decide) rfl F194.ti153 ?_
      refine so_bin rfl rfl ab_sub ?_
      refine so_assign (v := (.v (.int .i64 (IntKind.i64.wrap ((l1.length : Int) - (1 : Int)))))) rfl ?_
      refine so_nil ?_
      refine fi_block ?_
      refine fi_loop ?_
      refine fi_inLoop ?_
      refine fi_seq ?_
      refine fi_seq ?_
      refine fi_region ?_
      refine so_move (v := (.v (.int .i64 (IntKind.i64.wrap ((l1.length : Int) - (1 : Int)))))) rfl ?_
      refine so_bin rfl rfl ab_geq ?_
      refine so_nil ?_
      replace h := ofP h; rcases h with ⟨c114, h⟩ | ⟨c114, h⟩
      · refine fi_true rfl (decide_eq_true c114) ?_
        refine fi_skip ?_
        refine fi_seq ?_
        refine fi_block ?_
        refine fi_seq ?_
        refine fi_region ?_
        refine so_move (v := (.v v0)) rfl ?_
        refine so_fieldAddr rfl F194.fd155_1 ?_
        refine sv_ld hs 1 rfl rfl rfl F194.ag153 ?_
        refine so_move (v := (.v (.int .i64 (IntKind.i64.wrap ((l1.length : Int) - (1 : Int)))))) rfl ?_
        obtain ⟨c115, h⟩ := h
        refine sd_idx ((g1 _ hs.tl.tl) : DSh _ _ 1 R_LeFlt_f32_o l1 w1) c115 ([] : List (Nat)) (by decide) rfl rfl F194.tl153 ?_
        refine su_ld ((((g1 _ hs.tl.tl) : DSh _ _ 1 R_LeFlt_f32_o l1 w1)).at (by decide) c115 ([] : List (Nat))).2.2 0 (congrArg (fun c => c[0]?) ((((g1 _ hs.tl.tl) : DSh _ _ 1 R_LeFlt_f32_o l1 w1)).at (by decide) c115 ([] : List (Nat))).2.1.1) rfl F194.ag37 ?_
        refine sv_lds hs 0 rfl rfl (leb rfl) rfl F194.ag78 F194.sz78 ?_
        refine sv_call (impl_JoinRing_ok v0 l0 ((w1.getD ((IntKind.i64.wrap ((l1.length : Int) - (1 : Int)))).toNat []).getD 0 .und) (l1.getD ((IntKind.i64.wrap ((l1.length : Int) - (1 : Int)))).toNat ([] : List (Nat))) v2 l2 hs (fun _ hs => (g0 _ hs.tl.tl)) (fun _ hs => ((((g1 _ hs.tl.tl) : DSh _ _ 1 R_LeFlt_f32_o l1 w1)).at (by decide) c115 ([] : List (Nat))).2.1.2) (fun _ hs => (g2 _ hs.tl.tl)) _ h) rfl rfl (fun _ => by kernel_rfl) ?_
        clear h hs
        rintro _ H120 ⟨y116, y119, h, v117, rfl, hs⟩
        refine so_move (v := (.t [(.v v117), (.v (.bool y119))])) rfl ?_
        refine so_extract rfl rfl rfl ?_
        refine so_extract rfl rfl rfl ?_
        refine so_assign (v := (.v v117)) rfl ?_
        refine so_assign (v := (.v (.bool y119))) rfl ?_
        refine so_nil ?_
        refine fi_seq ?_
        refine fi_seq ?_
        refine fi_region ?_
        refine so_move (v := (.v (.bool y119))) rfl ?_
        refine so_un rfl au_not ?_
        refine so_nil ?_
        replace h := ofT h; rcases h with ⟨c121, h⟩ | ⟨c121, h⟩
        · refine fi_false rfl (not_f c121) ?_
          refine fi_skip ?_
          refine fi_region ?_
          refine so_move (v := (.v v117)) rfl ?_
          refine so_assign (v := (.v v117)) rfl ?_
          refine so_nil ?_
          refine fi_inBlock ?_
          refine fi_region ?_
          refine so_move (v := (.v (.int .i64 (IntKind.i64.wrap ((l1.length : Int) - (1 : Int)))))) rfl ?_
          refine so_bin rfl rfl ab_sub ?_
          refine so_assign (v := (.v (.int .i64 (IntKind.i64.wrap ((IntKind.i64.wrap ((l1.length : Int) - (1 : Int))) - (1 : Int)))))) rfl ?_
          refine so_nil ?_
          refine fi_at [(2, (.v (.ptr id101 0))), (3, (.v (.ptr id104 0))), (6, (.v v117)), (7, (.v (.int .i64 (IntKind.i64.wrap ((IntKind.i64.wrap ((l1.length : Int) - (1 : Int))) - (1 : Int))))))] ⟨rfl, rfl, rfl, rfl, trivial⟩ ?_
          refine h (fun (now123 : List (Nat)) (i125 : Int) => ∀ (s : Nat → TV) (H : Heap) (v124 : AV), Sep H (Pc.osl v124 1 (enc (eFlt .f32) now123) :: Pc.box id104 [v2] :: Pc.box id101 [v0, v1] :: fr) → Fin _ _ (updL s [(2, (.v (.ptr id101 0))), (3, (.v (.ptr id104 0))), (6, (.v v124)), (7, (.v (.int .i64 i125)))]) H _) ?_ _ _ _ hs
          intro now123 i125 h s134 H135 v124 hs
          refine fi_inLoop ?_
          refine fi_seq ?_
          refine fi_seq ?_
          refine fi_region ?_
          refine so_move (v := (.v (.int .i64 i125))) rfl ?_
          refine so_bin rfl rfl ab_geq ?_
          refine so_nil ?_
          replace h := ofP h; rcases h with ⟨c126, h⟩ | ⟨c126, h⟩
          · refine fi_true rfl (decide_eq_true c126) ?_
            refine fi_skip ?_
            refine fi_seq ?_
            refine fi_block ?_
            refine fi_seq ?_
            refine fi_region ?_
            refine so_move (v := (.v v124)) rfl ?_
            refine so_fieldAddr rfl F194.fd155_1 ?_
            refine sv_ld hs 2 rfl rfl rfl F194.ag153 ?_
            refine so_move (v := (.v (.int .i64 i125))) rfl ?_
            obtain ⟨c127, h⟩ := h
            refine sd_idx ((g1 _ hs.tl.tl.tl) : DSh _ _ 1 R_LeFlt_f32_o l1 w1) c127 ([] : List (Nat)) (by decide) rfl rfl F194.tl153 ?_
            refine su_ld ((((g1 _ hs.tl.tl.tl) : DSh _ _ 1 R_LeFlt_f32_o l1 w1)).at (by decide) c127 ([] : List (Nat))).2.2 0 (congrArg (fun c => c[0]?) ((((g1 _ hs.tl.tl.tl) : DSh _ _ 1 R_LeFlt_f32_o l1 w1)).at (by decide) c127 ([] : List (Nat))).2.1.1) rfl F194.ag37 ?_
            refine sv_lds hs 1 rfl rfl (leb rfl) rfl F194.ag78 F194.sz78 ?_
            refine sv_call (impl_JoinRing_ok v124 now123 ((w1.getD (i125).toNat []).getD 0 .und) (l1.getD (i125).toNat ([] : List (Nat))) v2 l2 hs (fun _ hs => (hs.shows 0 rfl)) (fun _ hs => ((((g1 _ hs.tl.tl.tl) : DSh _ _ 1 R_LeFlt_f32_o l1 w1)).at (by decide) c127 ([] : List (Nat))).2.1.2) (fun _ hs => (g2 _ hs.tl.tl.tl)) _ h) rfl rfl (fun _ => by kernel_rfl) ?_
            clear h hs
            rintro _ H132 ⟨y128, y131, h, v129, rfl, hs⟩
            refine so_move (v := (.t [(.v v129), (.v (.bool y131))])) rfl ?_
            refine so_extract rfl rfl rfl ?_
            refine so_extract rfl rfl rfl ?_
            refine so_assign (v := (.v v129)) rfl ?_
            refine so_assign (v := (.v (.bool y131))) rfl ?_
            refine so_nil ?_
            refine fi_seq ?_
            refine fi_seq ?_
            refine fi_region ?_
            refine so_move (v := (.v (.bool y131))) rfl ?_
            refine so_un rfl au_not ?_
            refine so_nil ?_
            replace h := ofT h; rcases h with ⟨c133, h⟩ | ⟨c133, h⟩
            · refine fi_false rfl (not_f c133) ?_
              refine fi_skip ?_
              refine fi_region ?_
              refine so_move (v := (.v v129)) rfl ?_
              refine so_assign (v := (.v v129)) rfl ?_
              refine so_nil ?_
              refine fi_inBlock ?_
              refine fi_region ?_
              refine so_move (v := (.v (.int .i64 i125))) rfl ?_
              refine so_bin rfl rfl ab_sub ?_
              refine so_assign (v := (.v (.int .i64 (IntKind.i64.wrap (i125 - (1 : Int)))))) rfl ?_
              refine so_nil ?_
              exact fi_at [(2, (.v (.ptr id101 0))), (3, (.v (.ptr id104 0))), (6, (.v v129)), (7, (.v (.int .i64 (IntKind.i64.wrap (i125 - (1 : Int))))))] ⟨rfl, rfl, rfl, rfl, trivial⟩ (h _ _ _ (Sep.del 1 hs))
            · refine fi_true rfl (not_t c133) ?_
              refine fi_seq ?_
              refine fi_region ?_
              refine so_assign (v := (.v .nilsl)) rfl ?_
              refine so_assign (v := (.v (.bool false))) rfl ?_
              refine so_nil ?_
              exact by_ret rfl ⟨_, _, h, _, rfl, (Sep.nil (Sep.dropn 4 hs) 1)⟩
          · refine fi_false rfl (decide_eq_false c126) ?_
            refine fi_exit rfl ?_
            refine fi_seq ?_
            refine fi_region ?_
            refine so_move (v := (.v v124)) rfl ?_
            refine so_assign (v := (.v v124)) rfl ?_
            refine so_assign (v := (.v (.bool true))) rfl ?_
            refine so_nil ?_
            exact by_ret rfl ⟨_, _, h, _, rfl, (Sep.del 1 (Sep.del 1 hs))⟩
        · refine fi_true rfl (not_t c121) ?_
          refine fi_seq ?_
          refine fi_region ?_
          refine so_assign (v := (.v .nilsl)) rfl ?_
          refine so_assign (v := (.v (.bool false))) rfl ?_
          refine so_nil ?_
          exact by_ret rfl ⟨_, _, h, _, rfl, (Sep.nil (Sep.del 0 (Sep.del 0 (Sep.del 0 hs))) 1)⟩
      · refine fi_false rfl (decide_eq_false c114) ?_
        refine fi_exit rfl ?_
        refine fi_seq ?_
        refine fi_region ?_
        refine so_move (v := (.v v0)) rfl ?_
        refine so_assign (v := (.v v0)) rfl ?_
        refine so_assign (v := (.v (.bool true))) rfl ?_
        refine so_nil ?_
        exact h.elim
    · refine fi_true rfl (not_t c112) ?_
      refine fi_seq ?_
      refine fi_region ?_
      refine so_assign (v := (.v .nilsl)) rfl ?_
      refine so_assign (v := (.v (.bool false))) rfl ?_
      refine so_nil ?_
      exact by_ret rfl ⟨_, _, h, _, rfl, (Sep.nil (Sep.del 0 (Sep.del 0 hs)) 1)⟩
  · refine so_gno rfl (not_t c109) ?_
    refine so_gno rfl (not_t c109) ?_
    refine so_gno rfl (not_t c109) ?_
    refine so_pick_t (v := (.v (.bool true))) rfl (not_t c109) rfl ?_
    refine so_nil ?_
    refine fi_true rfl rfl ?_
    refine fi_seq ?_
    refine fi_region ?_
    refine so_assign (v := (.v .nilsl)) rfl ?_
    refine so_assign (v := (.v (.bool false))) rfl ?_
    refine so_nil ?_
    exact by_ret rfl ⟨_, _, h, _, rfl, (Sep.nil (Sep.del 0 (Sep.del 0 hs)) 1)⟩

end Go.Proofs.Ytpeijfnfffogeaa.G

namespace Go.Proofs.Ytpeijfnfffogeaa.G
open Go Go.Ab Go.Proofs Go.Proofs.Ytpeijfnfffogeaa
set_option maxRecDepth 100000
set_option linter.unusedVariables false
set_option linter.unusedSimpArgs false
set_option maxHeartbeats 1000000
attribute [local irreducible] wops wopf Go.Ab.Fin
theorem F127.ag153 : tagg Try.prog 153 = some false := by kernel_rfl
theorem F127.ag155 : tagg Try.prog 155 = some true := by kernel_rfl
theorem F127.ag78 : tagg Try.prog 78 = some true := by kernel_rfl
theorem F127.fd155_1 : tfield Try.prog 155 1 = some (1, 1, false) := by kernel_rfl
theorem F127.inf78 : (Try.prog.info? 78).isSome = true := by kernel_rfl
theorem F127.sz155 : tsz Try.prog 155 = some 2 := by kernel_rfl
theorem F127.sz25 : tsz Try.prog 25 = some 1 := by kernel_rfl
theorem F127.sz78 : tsz Try.prog 78 = some 1 := by kernel_rfl
theorem F127.ta37_37 : tapp Try.prog 37 37 = some (1, 4) := by kernel_rfl
theorem F127.te37 : telem Try.prog 37 = some 25 := by kernel_rfl
theorem F127.ti153 : (telem Try.prog 153).isSome = true := by kernel_rfl
theorem F127.ze155 : tzero Try.prog 155 = some [.nilsl, .nilsl] := by kernel_rfl
theorem F127.ze25 : tzero Try.prog 25 = some [(.flt .f32 (0 : Nat))] := by kernel_rfl
theorem impl_fillTurn_ok {fr : List Pc} {H : Heap} (v0 : AV) (l0 : List (Nat)) (v1 : AV) (l1 : List (Nat)) (a2 : Int) (a3 : Nat) (hs : Sep H (fr)) (g0 : ∀ H, Sep H fr → Shows H v0 1 (enc (eFlt .f32) l0)) (g1 : ∀ H, Sep H fr → Shows H v1 1 (enc (eFlt .f32) l1)) (K : (List (Nat)) → Bool → Prop) (h : impl_fillTurn.wp l0 l1 a2 a3 K) : OkQ Try.prog 127 [(.v v0), (.g [v1]), (.v (.int .i64 a2)), (.v (.flt .f32 a3))] H (fun r H2 => ∃ (y0 : List (Nat)) (y1 : Bool), K y0 y1 ∧ ∃ (w0_ : AV), r = (.t [(.v w0_), (.v (.bool y1))]) ∧ Sep H2 (Pc.osl w0_ 1 (enc (eFlt .f32) y0) :: fr)) := by
  unfold impl_fillTurn.wp at h
  refine of_body Try.f127 F.hm Try.func127 rfl Try.call127 (by kernel_rfl) (by simp) ?_
  refine fi_seq ?_
  refine fi_region ?_
  refine sv_box hs rfl (c := [v1]) rfl F127.inf78 (stc (g1 _ hs).stor stn) nofun (fun id101 H102 hs => ?_)
  refine so_assign (v := (.v .nilsl)) rfl ?_
  refine so_assign (v := (.v (.bool false))) rfl ?_
  refine so_nil ?_
  refine fi_seq ?_
  refine fi_region ?_
  refine so_move (v := (.v v0)) rfl ?_
  refine sv_lds hs 0 rfl rfl (leb rfl) rfl F127.ag78 F127.sz78 ?_
  refine so_move (v := (.v (.int .i64 a2))) rfl ?_
  refine sv_call (impl_SplitLevels_ok v0 l0 v1 l1 a2 hs (fun _ hs => (g0 _ hs.tl)) (fun _ hs => (g1 _ hs.tl)) _ h) rfl rfl nofun ?_
  clear h hs
  rintro _ H113 ⟨y104, y107, y112, h, v105, v108, ws110, S111, rfl, hs⟩
  refine so_move (v := (.t [(.g [v105, v108]), (.v (.bool y112))])) rfl ?_
  refine so_extract rfl rfl rfl ?_
  refine so_extract rfl rfl rfl ?_
  refine sv_alloc hs F127.ze155 rfl nofun (fun id114 H115 hs => ?_)
  refine sv_st hs 0 rfl rfl rfl (c := [v105, v108]) rfl F127.sz155 rfl (stc (hs.shows 1 rfl).stor (stc (hs.dshows 2 rfl).stor stn)) (leb rfl) (cs' := [v105, v108]) rfl nofun (fun H117 hs => ?_)
  refine so_assign (v := (.v (.bool y112))) rfl ?_
  refine so_nil ?_
  refine fi_seq ?_
  refine fi_seq ?_
  refine fi_region ?_
  refine so_move (v := (.v (.bool y112))) rfl ?_
  refine so_un rfl au_not ?_
  refine so_nil ?_
  replace h := ofT h; rcases h with ⟨c118, h⟩ | ⟨c118, h⟩
  · refine fi_false rfl (not_f c118) ?_
    refine fi_skip ?_
    refine fi_seq ?_
    refine fi_region ?_
    refine sv_bslice hs (eFlt .f32) ([] : List (Nat)) [] F127.te37 F127.sz25 F127.ze25 rfl rfl rfl rfl (fun _ => rfl) rfl (by decide) nofun (fun v119 H120 nv119 hs => ?_)
    refine so_assign (v := (.v v119)) rfl ?_
    refine so_nil ?_
    refine fi_seq ?_
    refine fi_seq ?_
    refine fi_region ?_
    refine so_fieldAddr rfl F127.fd155_1 ?_
    refine sv_ld hs 1 rfl rfl rfl F127.ag153 ?_
    refine sd_len ((hs.dshows 3 rfl) : DSh _ _ 1 R_LeFlt_f32_o y107 ws110) (by decide) rfl F127.ti153 ?_
    refine so_move (v := (.v (.int .i64 (0 : Int)))) rfl ?_
    refine so_nil ?_
    refine fi_block ?_
    refine fi_loop ?_
    refine fi_at [(3, (.v (.flt .f32 a3))), (5, (.v (.ptr id101 0))), (10, (.v (.ptr id114 0))), (12, (.v v119)), (25, (.v (.int .i64 (y107.length : Int)))), (26, (.v (.int .i64 (0 : Int))))] ⟨rfl, rfl, rfl, rfl, rfl, rfl, trivial⟩ ?_
    refine h (fun (limits151 : List (Nat)) (x153 : Int) => ∀ (s : Nat → TV) (H : Heap) (v152 : AV) (nv152 : v152 ≠ .nilsl), Sep H (Pc.osl v152 1 (enc (eFlt .f32) limits151) :: Pc.box id114 [v105, v108] :: Pc.osl v105 1 (enc (eFlt .f32) y104) :: dpc v108 1 R_LeFlt_f32_o y107 ws110 S111 :: Pc.box id101 [v1] :: fr) → Fin _ _ (updL s [(3, (.v (.flt .f32 a3))), (5, (.v (.ptr id101 0))), (10, (.v (.ptr id114 0))), (12, (.v v152)), (25, (.v (.int .i64 (y107.length : Int)))), (26, (.v (.int .i64 x153)))]) H _) ?_ _ _ _ nv119 hs
    intro limits151 x153 h s178 H179 v152 nv152 hs
    refine fi_inLoop ?_
    refine fi_seq ?_
    refine fi_region ?_
    refine so_bin rfl rfl ab_lss ?_
    refine so_nil ?_
    refine fi_seq ?_
    replace h := ofP h; rcases h with ⟨c154, h⟩ | ⟨c154, h⟩
    · refine fi_true rfl (decide_eq_true c154) ?_
      refine fi_skip ?_
      refine fi_seq ?_
      refine fi_block ?_
      refine fi_region ?_
      refine so_move (v := (.v v152)) rfl ?_
      refine so_move (v := (.v (.flt .f32 a3))) rfl ?_
      refine sv_bslice hs (eFlt .f32) ([a3] : List (Nat)) [[(.flt .f32 a3)]] F127.te37 F127.sz25 F127.ze25 rfl rfl rfl rfl (fun _ => rfl) rfl (by decide) nofun (fun v155 H156 nv155 hs => ?_)
      obtain ⟨c160, h⟩ := h
      refine sv_app hs 1 rfl (hs.shows 0 rfl) (fun _ => rfl) (by decide) F127.ta37_37 (by decide) c160 rfl rfl nofun (fun v158 H159 kv158 hs => ?_)
      replace hs := hs.del 0
      have nv158 := kv158 nv152
      refine so_assign (v := (.v v158)) rfl ?_
      refine so_nil ?_
      refine fi_inBlock ?_
      refine fi_region ?_
      refine so_bin rfl rfl ab_add ?_
      refine so_move (v := (.v (.int .i64 (IntKind.i64.wrap (x153 + (1 : Int)))))) rfl ?_
      refine so_nil ?_
      exact fi_at [(3, (.v (.flt .f32 a3))), (5, (.v (.ptr id101 0))), (10, (.v (.ptr id114 0))), (12, (.v v158)), (25, (.v (.int .i64 (y107.length : Int)))), (26, (.v (.int .i64 (IntKind.i64.wrap (x153 + (1 : Int))))))] ⟨rfl, rfl, rfl, rfl, rfl, rfl, trivial⟩ (h _ _ _ nv158 hs)
    · refine fi_false rfl (decide_eq_false c154) ?_
      refine fi_exit rfl ?_
      refine fi_seq ?_
      refine fi_region ?_
      refine sv_lds hs 1 rfl rfl (leb rfl) rfl F127.ag155 F127.sz155 ?_
      refine so_move (v := (.v v152)) rfl ?_
      refine sv_call (impl_ShrinkBands_ok v105 y104 v108 ws110 y107 v152 limits151 false hs (fun _ hs => (hs.shows 2 rfl)) (fun _ hs => (hs.dshows 3 rfl)) (fun _ hs => (hs.shows 0 rfl)) _ h) rfl rfl nofun ?_
      clear h hs
      rintro _ H170 ⟨y161, y164, y169, h, v162, v165, ws167, S168, rfl, hs⟩
      refine so_move (v := (.t [(.g [v162, v165]), (.v (.bool y169))])) rfl ?_
      refine so_extract rfl rfl rfl ?_
      refine so_extract rfl rfl rfl ?_
      refine sv_st hs 3 rfl rfl rfl (c := [v162, v165]) rfl F127.sz155 rfl (stc (hs.shows 0 rfl).stor (stc (hs.dshows 1 rfl).stor stn)) (leb rfl) (cs' := [v162, v165]) rfl nofun (fun H171 hs => ?_)
      refine so_assign (v := (.v (.bool y169))) rfl ?_
      refine so_nil ?_
      refine fi_seq ?_
      refine fi_seq ?_
      refine fi_region ?_
      refine so_move (v := (.v (.bool y169))) rfl ?_
      refine so_un rfl au_not ?_
      refine so_nil ?_
      replace h := ofT h; rcases h with ⟨c172, h⟩ | ⟨c172, h⟩
      · refine fi_false rfl (not_f c172) ?_
        refine fi_skip ?_
        refine fi_seq ?_
        refine fi_region ?_
        refine sv_lds hs 3 rfl rfl (leb rfl) rfl F127.ag155 F127.sz155 ?_
        refine sv_lds hs 6 rfl rfl (leb rfl) rfl F127.ag78 F127.sz78 ?_
        refine sv_call (impl_JoinLevels_ok v162 y161 v165 ws167 y164 v1 l1 hs (fun _ hs => (hs.shows 0 rfl)) (fun _ hs => (hs.dshows 1 rfl)) (fun _ hs => (g1 _ hs.tl.tl.tl.tl.tl.tl.tl)) _ h) rfl rfl nofun ?_
        clear h hs
        rintro _ H177 ⟨y173, y176, h, v174, rfl, hs⟩
        refine so_extract rfl rfl rfl ?_
        refine so_extract rfl rfl rfl ?_
        refine so_assign (v := (.v v174)) rfl ?_
        refine so_assign (v := (.v (.bool y176))) rfl ?_
        refine so_nil ?_
        exact by_ret rfl ⟨_, _, h, _, rfl, (Sep.del 1 (Sep.del 1 (Sep.del 1 (Sep.del 1 (Sep.del 1 (Sep.del 1 (Sep.del 1 hs)))))))⟩
      · refine fi_true rfl (not_t c172) ?_
        refine fi_seq ?_
        refine fi_region ?_
        refine so_assign (v := (.v .nilsl)) rfl ?_
        refine so_assign (v := (.v (.bool false))) rfl ?_
        refine so_nil ?_
        exact by_ret rfl ⟨_, _, h, _, rfl, (Sep.nil (Sep.dropn 7 hs) 1)⟩
  · refine fi_true rfl (not_t c118) ?_
    refine fi_seq ?_
    refine fi_region ?_
    refine so_assign (v := (.v .nilsl)) rfl ?_
    refine so_assign (v := (.v (.bool false))) rfl ?_
    refine so_nil ?_
    exact by_ret rfl ⟨_, _, h, _, rfl, (Sep.nil (Sep.dropn 4 hs) 1)⟩

end Go.Proofs.Ytpeijfnfffogeaa.G

namespace Go.Proofs.Ytpeijfnfffogeaa.G
open Go Go.Ab Go.Proofs Go.Proofs.Ytpeijfnfffogeaa
set_option maxRecDepth 100000
set_option linter.unusedVariables false
set_option linter.unusedSimpArgs false
set_option maxHeartbeats 1000000
attribute [local irreducible] wops wopf Go.Ab.Fin
theorem F46.ag25 : tagg Try.prog 25 = some false := by kernel_rfl
theorem F46.ag4 : tagg Try.prog 4 = some false := by kernel_rfl
theorem F46.ag78 : tagg Try.prog 78 = some true := by kernel_rfl
theorem F46.inf78 : (Try.prog.info? 78).isSome = true := by kernel_rfl
theorem F46.sz25 : tsz Try.prog 25 = some 1 := by kernel_rfl
theorem F46.sz78 : tsz Try.prog 78 = some 1 := by kernel_rfl
theorem F46.ta37_37 : tapp Try.prog 37 37 = some (1, 4) := by kernel_rfl
theorem F46.te37 : telem Try.prog 37 = some 25 := by kernel_rfl
theorem F46.ti37 : (telem Try.prog 37).isSome = true := by kernel_rfl
theorem F46.ti42 : (telem Try.prog 42).isSome = true := by kernel_rfl
theorem F46.tl37 : (telem Try.prog 37).bind (tsz Try.prog) = some 1 := by kernel_rfl
theorem F46.tl42 : (telem Try.prog 42).bind (tsz Try.prog) = some 1 := by kernel_rfl
theorem F46.ze25 : tzero Try.prog 25 = some [(.flt .f32 (0 : Nat))] := by kernel_rfl
theorem impl_FillRounds_ok {fr : List Pc} {H : Heap} (v0 : AV) (l0 : List (Nat)) (v1 : AV) (l1 : List (Bool)) (v2 : AV) (l2 : List (Nat)) (a3 : Int) (a4 : Nat) (a5 : Nat) (a6 : Int) (hs : Sep H (fr)) (g0 : ∀ H, Sep H fr → Shows H v0 1 (enc (eFlt .f32) l0)) (g1 : ∀ H, Sep H fr → Shows H v1 1 (enc eBool l1)) (g2 : ∀ H, Sep H fr → Shows H v2 1 (enc (eFlt .f32) l2)) (K : (List (Nat)) → Bool → Prop) (h : impl_FillRounds.wp l0 l1 l2 a3 a4 a5 a6 K) : OkQ Try.prog 46 [(.v v0), (.v v1), (.g [v2]), (.v (.int .i64 a3)), (.v (.flt .f32 a4)), (.v (.flt .f32 a5)), (.v (.int .i64 a6))] H (fun r H2 => ∃ (y0 : List (Nat)) (y1 : Bool), K y0 y1 ∧ ∃ (w0_ : AV), r = (.t [(.v w0_), (.v (.bool y1))]) ∧ Sep H2 (Pc.osl w0_ 1 (enc (eFlt .f32) y0) :: fr)) := by
  unfold impl_FillRounds.wp at h
  refine of_body Try.f46 F.hm Try.func46 rfl Try.call46 (by kernel_rfl) (by simp) ?_
  refine fi_seq ?_
  refine fi_region ?_
  refine sv_box hs rfl (c := [v2]) rfl F46.inf78 (stc (g2 _ hs).stor stn) nofun (fun id101 H102 hs => ?_)
  refine so_assign (v := (.v .nilsl)) rfl ?_
  refine so_assign (v := (.v (.bool false))) rfl ?_
  refine so_nil ?_
  refine fi_seq ?_
  refine fi_seq ?_
  refine fi_region ?_
  refine so_move (v := (.v v0)) rfl ?_
  refine sv_call (impl_isLong_ok v0 l0 hs (fun _ hs => (g0 _ hs.tl)) _ h) rfl rfl nofun ?_
  clear h hs
  rintro _ H105 ⟨y104, h, rfl, hs⟩
  refine so_un rfl au_not ?_
  refine so_move (v := (.v (.bool (!y104)))) rfl ?_
  replace h := ofT h; rcases h with ⟨c106, h⟩ | ⟨c106, h⟩
  · refine so_gyes rfl (not_f c106) ?_
    refine so_move (v := (.v v1)) rfl ?_
    refine so_gyes rfl (not_f c106) ?_
    refine sv_len (g1 _ hs.tl) (fun _ => rfl) (by decide) rfl F46.ti42 ?_
    refine so_gyes rfl (not_f c106) ?_
    refine so_move (v := (.v v0)) rfl ?_
    refine so_gyes rfl (not_f c106) ?_
    refine sv_len (g0 _ hs.tl) (fun _ => rfl) (by decide) rfl F46.ti37 ?_
    refine so_gyes rfl (not_f c106) ?_
    refine so_bin rfl rfl ab_neq ?_
    refine so_pick_f (v := (.v (.bool (!(decide ((l1.length : Int) = (l0.length : Int))))))) rfl (not_f c106) rfl ?_
    refine so_move (v := (.v (.bool (!(decide ((l1.length : Int) = (l0.length : Int))))))) rfl ?_
    replace h := ofP h; rcases h with ⟨c107, h⟩ | ⟨c107, h⟩
    · refine so_gyes rfl (not_f (decide_eq_true c107)) ?_
      refine sv_lds hs 0 rfl rfl (leb rfl) rfl F46.ag78 F46.sz78 ?_
      refine so_gyes rfl (not_f (decide_eq_true c107)) ?_
      refine sv_call (impl_ValidPair_ok v2 l2 hs (fun _ hs => (g2 _ hs.tl)) _ h) rfl rfl nofun ?_
      clear h hs
      rintro _ H109 ⟨y108, h, rfl, hs⟩
      refine so_gyes rfl (not_f (decide_eq_true c107)) ?_
      refine so_un rfl au_not ?_
      refine so_pick_f (v := (.v (.bool (!y108)))) rfl (not_f (decide_eq_true c107)) rfl ?_
      refine so_move (v := (.v (.bool (!y108)))) rfl ?_
      replace h := ofT h; rcases h with ⟨c110, h⟩ | ⟨c110, h⟩
      · refine so_gyes rfl (not_f c110) ?_
        refine so_move (v := (.v (.int .i64 a3))) rfl ?_
        refine so_gyes rfl (not_f c110) ?_
        refine sv_callS (impl_within_ok a3 (1 : Int) (6 : Int) hs  _ h) (fun _ _ ⟨_, _, _, e⟩ => e) rfl rfl ?_
        clear h
        rintro _ _ ⟨y111, h, rfl, rfl⟩
        refine so_gyes rfl (not_f c110) ?_
        refine so_un rfl au_not ?_
        refine so_pick_f (v := (.v (.bool (!y111)))) rfl (not_f c110) rfl ?_
        refine so_move (v := (.v (.bool (!y111)))) rfl ?_
        replace h := ofT h; rcases h with ⟨c113, h⟩ | ⟨c113, h⟩
        · refine so_gyes rfl (not_f c113) ?_
          refine so_move (v := (.v v0)) rfl ?_
          refine so_gyes rfl (not_f c113) ?_
          refine sv_len (g0 _ hs.tl) (fun _ => rfl) (by decide) rfl F46.ti37 ?_
          refine so_gyes rfl (not_f c113) ?_
          refine so_move (v := (.v (.int .i64 a3))) rfl ?_
          refine so_gyes rfl (not_f c113) ?_
          obtain ⟨c114, h⟩ := h
          refine so_bin rfl rfl (ab_shl c114) ?_
          refine so_gyes rfl (not_f c113) ?_
          obtain ⟨c115, h⟩ := h
          refine so_bin rfl rfl (ab_rem c115) ?_
          refine so_gyes rfl (not_f c113) ?_
          refine so_bin rfl rfl ab_neq ?_
          refine so_pick_f (v := (.v (.bool (!(decide ((Int.tmod (l0.length : Int) (IntKind.i64.wrap ((1 : Int) * (2 ^ (min (a3).toNat IntKind.i64.bits))))) = (0 : Int))))))) rfl (not_f c113) rfl ?_
          refine so_nil ?_
          replace h := ofP h; rcases h with ⟨c116, h⟩ | ⟨c116, h⟩
          · refine fi_false rfl (not_f (decide_eq_true c116)) ?_
            refine fi_skip ?_
            refine fi_seq ?_
            refine fi_seq ?_
            refine fi_region ?_
            refine so_move (v := (.v (.flt .f32 a4))) rfl ?_
            refine sv_callS (impl_isLeast_ok a4 hs  _ h) (fun _ _ ⟨_, _, _, e⟩ => e) rfl rfl ?_
            clear h
            rintro _ _ ⟨y117, h, rfl, rfl⟩
            refine so_un rfl au_not ?_
            refine so_move (v := (.v (.bool (!y117)))) rfl ?_
            replace h := ofT h; rcases h with ⟨c119, h⟩ | ⟨c119, h⟩
            · refine so_gyes rfl (not_f c119) ?_
              refine so_move (v := (.v (.flt .f32 a5))) rfl ?_
              refine so_gyes rfl (not_f c119) ?_
              refine sv_callS (impl_isShare_ok a5 hs  _ h) (fun _ _ ⟨_, _, _, e⟩ => e) rfl rfl ?_
              clear h
              rintro _ _ ⟨y120, h, rfl, rfl⟩
              refine so_gyes rfl (not_f c119) ?_
              refine so_un rfl au_not ?_
              refine so_pick_f (v := (.v (.bool (!y120)))) rfl (not_f c119) rfl ?_
              refine so_move (v := (.v (.bool (!y120)))) rfl ?_
              replace h := ofT h; rcases h with ⟨c122, h⟩ | ⟨c122, h⟩
              · refine so_gyes rfl (not_f c122) ?_
                refine so_move (v := (.v (.int .i64 a6))) rfl ?_
                refine so_gyes rfl (not_f c122) ?_
                refine sv_callS (impl_within_ok a6 (0 : Int) (32 : Int) hs  _ h) (fun _ _ ⟨_, _, _, e⟩ => e) rfl rfl ?_
                clear h
                rintro _ _ ⟨y123, h, rfl, rfl⟩
                refine so_gyes rfl (not_f c122) ?_
                refine so_un rfl au_not ?_
                refine so_pick_f (v := (.v (.bool (!y123)))) rfl (not_f c122) rfl ?_
                refine so_move (v := (.v (.bool (!y123)))) rfl ?_
                replace h := ofT h; rcases h with ⟨c125, h⟩ | ⟨c125, h⟩
                · refine so_gyes rfl (not_f c125) ?_
                  refine so_move (v := (.v v1)) rfl ?_
                  refine so_gyes rfl (not_f c125) ?_
                  refine sv_callS (slices_Contains_bool_bool_ok v1 l1 true hs (fun _ hs => (g1 _ hs.tl)) _ h) (fun _ _ ⟨_, _, _, e⟩ => e) rfl rfl ?_
                  clear h
                  rintro _ _ ⟨y126, h, rfl, rfl⟩
                  refine so_gyes rfl (not_f c125) ?_
                  refine so_un rfl au_not ?_
                  refine so_pick_f (v := (.v (.bool (!y126)))) rfl (not_f c125) rfl ?_
                  refine so_nil ?_
                  replace h := ofT h; rcases h with ⟨c128, h⟩ | ⟨c128, h⟩
                  · refine fi_false rfl (not_f c128) ?_
                    refine fi_skip ?_
                    refine fi_seq ?_
                    refine fi_region ?_
                    refine sv_bslice hs (eFlt .f32) ([] : List (Nat)) [] F46.te37 F46.sz25 F46.ze25 rfl rfl rfl rfl (fun _ => rfl) rfl (by decide) nofun (fun v129 H130 nv129 hs => ?_)
                    refine so_assign (v := (.v v129)) rfl ?_
                    refine so_nil ?_
                    refine fi_seq ?_
                    refine fi_seq ?_
                    refine fi_region ?_
                    refine so_move (v := (.v v0)) rfl ?_
                    refine sv_len (g0 _ hs.tl.tl) (fun _ => rfl) (by decide) rfl F46.ti37 ?_
                    refine so_move (v := (.v (.int .i64 (0 : Int)))) rfl ?_
                    refine so_nil ?_
                    refine fi_block ?_
                    refine fi_loop ?_
                    refine fi_at [(0, (.v v0)), (1, (.v v1)), (3, (.v (.int .i64 a3))), (4, (.v (.flt .f32 a4))), (5, (.v (.flt .f32 a5))), (6, (.v (.int .i64 a6))), (9, (.v (.ptr id101 0))), (16, (.v v129)), (74, (.v v0)), (75, (.v (.int .i64 (l0.length : Int)))), (76, (.v (.int .i64 (0 : Int))))] ⟨rfl, rfl, rfl, rfl, rfl, rfl, rfl, rfl, rfl, rfl, rfl, trivial⟩ ?_
                    refine h (fun (some308 : List (Nat)) (x310 : Int) => ∀ (s : Nat → TV) (H : Heap) (v309 : AV) (nv309 : v309 ≠ .nilsl), Sep H (Pc.osl v309 1 (enc (eFlt .f32) some308) :: Pc.box id101 [v2] :: fr) → Fin _ _ (updL s [(0, (.v v0)), (1, (.v v1)), (3, (.v (.int .i64 a3))), (4, (.v (.flt .f32 a4))), (5, (.v (.flt .f32 a5))), (6, (.v (.int .i64 a6))), (9, (.v (.ptr id101 0))), (16, (.v v309)), (74, (.v v0)), (75, (.v (.int .i64 (l0.length : Int)))), (76, (.v (.int .i64 x310)))]) H _) ?_ _ _ _ nv129 hs
                    intro some308 x310 h s482 H483 v309 nv309 hs
                    refine fi_inLoop ?_
                    refine fi_seq ?_
                    refine fi_region ?_
                    refine so_bin rfl rfl ab_lss ?_
                    refine so_nil ?_
                    refine fi_seq ?_
                    replace h := ofP h; rcases h with ⟨c311, h⟩ | ⟨c311, h⟩
                    · refine fi_true rfl (decide_eq_true c311) ?_
                      refine fi_skip ?_
                      refine fi_seq ?_
                      refine fi_block ?_
                      refine fi_seq ?_
                      refine fi_region ?_
                      refine so_move (v := (.v (.int .i64 x310))) rfl ?_
                      obtain ⟨c312, h⟩ := h
                      refine sv_idx (g0 _ hs.tl.tl) c312 (fun _ => rfl) (by decide) rfl rfl F46.tl37 ?_
                      refine sv_cell (g0 _ hs.tl.tl) c312 (0 : Nat) 0 (fun x => (AV.flt .f32 x)) (fun _ => rfl) (fun _ => rfl) rfl F46.ag25 ?_
                      refine so_assign (v := (.v (.int .i64 x310))) rfl ?_
                      refine so_assign (v := (.v (.flt .f32 (l0.getD (x310).toNat (0 : Nat))))) rfl ?_
                      refine so_nil ?_
                      refine fi_seq ?_
                      refine fi_region ?_
                      refine so_move (v := (.v v1)) rfl ?_
                      refine so_move (v := (.v (.int .i64 x310))) rfl ?_
                      obtain ⟨c313, h⟩ := h
                      refine sv_idx (g1 _ hs.tl.tl) c313 (fun _ => rfl) (by decide) rfl rfl F46.tl42 ?_
                      refine sv_cell (g1 _ hs.tl.tl) c313 false 0 (fun x => (AV.bool x)) (fun _ => rfl) (fun _ => rfl) rfl F46.ag4 ?_
                      refine so_nil ?_
                      replace h := ofT h; rcases h with ⟨c314, h⟩ | ⟨c314, h⟩
                      · refine fi_true rfl c314 ?_
                        refine fi_region ?_
                        refine so_move (v := (.v v309)) rfl ?_
                        refine so_move (v := (.v (.flt .f32 (l0.getD (x310).toNat (0 : Nat))))) rfl ?_
                        refine sv_bslice hs (eFlt .f32) ([(l0.getD (x310).toNat (0 : Nat))] : List (Nat)) [[(.flt .f32 (l0.getD (x310).toNat (0 : Nat)))]] F46.te37 F46.sz25 F46.ze25 rfl rfl rfl rfl (fun _ => rfl) rfl (by decide) nofun (fun v315 H316 nv315 hs => ?_)
                        obtain ⟨c320, h⟩ := h
                        refine sv_app hs 1 rfl (hs.shows 0 rfl) (fun _ => rfl) (by decide) F46.ta37_37 (by decide) c320 rfl rfl nofun (fun v318 H319 kv318 hs => ?_)
                        replace hs := hs.del 0
                        have nv318 := kv318 nv309
                        refine so_assign (v := (.v v318)) rfl ?_
                        refine so_nil ?_
                        refine fi_inBlock ?_
                        refine fi_region ?_
                        refine so_bin rfl rfl ab_add ?_
                        refine so_move (v := (.v (.int .i64 (IntKind.i64.wrap (x310 + (1 : Int)))))) rfl ?_
                        refine so_nil ?_
                        exact fi_at [(0, (.v v0)), (1, (.v v1)), (3, (.v (.int .i64 a3))), (4, (.v (.flt .f32 a4))), (5, (.v (.flt .f32 a5))), (6, (.v (.int .i64 a6))), (9, (.v (.ptr id101 0))), (16, (.v v318)), (74, (.v v0)), (75, (.v (.int .i64 (l0.length : Int)))), (76, (.v (.int .i64 (IntKind.i64.wrap (x310 + (1 : Int))))))] ⟨rfl, rfl, rfl, rfl, rfl, rfl, rfl, rfl, rfl, rfl, rfl, trivial⟩ (h _ _ _ nv318 hs)
                      · refine fi_false rfl c314 ?_
                        refine fi_skip ?_
                        refine fi_inBlock ?_
                        refine fi_region ?_
                        refine so_bin rfl rfl ab_add ?_
                        refine so_move (v := (.v (.int .i64 (IntKind.i64.wrap (x310 + (1 : Int)))))) rfl ?_
                        refine so_nil ?_
                        exact fi_at [(0, (.v v0)), (1, (.v v1)), (3, (.v (.int .i64 a3))), (4, (.v (.flt .f32 a4))), (5, (.v (.flt .f32 a5))), (6, (.v (.int .i64 a6))), (9, (.v (.ptr id101 0))), (16, (.v v309)), (74, (.v v0)), (75, (.v (.int .i64 (l0.length : Int)))), (76, (.v (.int .i64 (IntKind.i64.wrap (x310 + (1 : Int))))))] ⟨rfl, rfl, rfl, rfl, rfl, rfl, rfl, rfl, rfl, rfl, rfl, trivial⟩ (h _ _ _ nv309 hs)
                    · refine fi_false rfl (decide_eq_false c311) ?_
                      refine fi_exit rfl ?_
                      refine fi_seq ?_
                      refine fi_region ?_
                      refine so_move (v := (.v v309)) rfl ?_
                      refine sv_callS (impl_mean_ok v309 some308 hs (fun _ hs => (hs.shows 0 rfl)) _ h) (fun _ _ ⟨_, _, _, e⟩ => e) rfl rfl ?_
                      clear h
                      rintro _ _ ⟨y321, h, rfl, rfl⟩
                      refine so_assign (v := (.v (.flt .f32 y321))) rfl ?_
                      refine so_nil ?_
                      refine fi_seq ?_
                      refine fi_region ?_
                      refine sv_bslice hs (eFlt .f32) ([] : List (Nat)) [] F46.te37 F46.sz25 F46.ze25 rfl rfl rfl rfl (fun _ => rfl) rfl (by decide) nofun (fun v323 H324 nv323 hs => ?_)
                      refine so_assign (v := (.v v323)) rfl ?_
                      refine so_nil ?_
                      refine fi_seq ?_
                      refine fi_seq ?_
                      refine fi_region ?_
                      refine so_move (v := (.v v0)) rfl ?_
                      refine sv_len (g0 _ hs.tl.tl.tl) (fun _ => rfl) (by decide) rfl F46.ti37 ?_
                      refine so_move (v := (.v (.int .i64 (0 : Int)))) rfl ?_
                      refine so_nil ?_
                      refine fi_block ?_
                      refine fi_loop ?_
                      replace hs := hs.del 1
                      refine fi_at [(0, (.v v0)), (1, (.v v1)), (3, (.v (.int .i64 a3))), (4, (.v (.flt .f32 a4))), (5, (.v (.flt .f32 a5))), (6, (.v (.int .i64 a6))), (9, (.v (.ptr id101 0))), (19, (.v (.flt .f32 y321))), (20, (.v v323)), (93, (.v v0)), (94, (.v (.int .i64 (l0.length : Int)))), (95, (.v (.int .i64 (0 : Int))))] ⟨rfl, rfl, rfl, rfl, rfl, rfl, rfl, rfl, rfl, rfl, rfl, rfl, trivial⟩ ?_
                      refine h (fun (now404 : List (Nat)) (x406 : Int) => ∀ (s : Nat → TV) (H : Heap) (v405 : AV) (nv405 : v405 ≠ .nilsl), Sep H (Pc.osl v405 1 (enc (eFlt .f32) now404) :: Pc.box id101 [v2] :: fr) → Fin _ _ (updL s [(0, (.v v0)), (1, (.v v1)), (3, (.v (.int .i64 a3))), (4, (.v (.flt .f32 a4))), (5, (.v (.flt .f32 a5))), (6, (.v (.int .i64 a6))), (9, (.v (.ptr id101 0))), (19, (.v (.flt .f32 y321))), (20, (.v v405)), (93, (.v v0)), (94, (.v (.int .i64 (l0.length : Int)))), (95, (.v (.int .i64 x406)))]) H _) ?_ _ _ _ nv323 hs
                      intro now404 x406 h s480 H481 v405 nv405 hs
                      refine fi_inLoop ?_
                      refine fi_seq ?_
                      refine fi_region ?_
                      refine so_bin rfl rfl ab_lss ?_
                      refine so_nil ?_
                      refine fi_seq ?_
                      replace h := ofP h; rcases h with ⟨c407, h⟩ | ⟨c407, h⟩
                      · refine fi_true rfl (decide_eq_true c407) ?_
                        refine fi_skip ?_
                        refine fi_seq ?_
                        refine fi_block ?_
                        refine fi_seq ?_
                        refine fi_region ?_
                        refine so_move (v := (.v (.int .i64 x406))) rfl ?_
                        obtain ⟨c408, h⟩ := h
                        refine sv_idx (g0 _ hs.tl.tl) c408 (fun _ => rfl) (by decide) rfl rfl F46.tl37 ?_
                        refine sv_cell (g0 _ hs.tl.tl) c408 (0 : Nat) 0 (fun x => (AV.flt .f32 x)) (fun _ => rfl) (fun _ => rfl) rfl F46.ag25 ?_
                        refine so_assign (v := (.v (.int .i64 x406))) rfl ?_
                        refine so_assign (v := (.v (.flt .f32 (l0.getD (x406).toNat (0 : Nat))))) rfl ?_
                        refine so_nil ?_
                        refine fi_seq ?_
                        refine fi_seq ?_
                        refine fi_region ?_
                        refine so_move (v := (.v v1)) rfl ?_
                        refine so_move (v := (.v (.int .i64 x406))) rfl ?_
                        obtain ⟨c409, h⟩ := h
                        refine sv_idx (g1 _ hs.tl.tl) c409 (fun _ => rfl) (by decide) rfl rfl F46.tl42 ?_
                        refine sv_cell (g1 _ hs.tl.tl) c409 false 0 (fun x => (AV.bool x)) (fun _ => rfl) (fun _ => rfl) rfl F46.ag4 ?_
                        refine so_un rfl au_not ?_
                        refine so_nil ?_
                        replace h := ofT h; rcases h with ⟨c410, h⟩ | ⟨c410, h⟩
                        · refine fi_false rfl (not_f c410) ?_
                          refine fi_skip ?_
                          refine fi_region ?_
                          refine so_move (v := (.v v405)) rfl ?_
                          refine so_move (v := (.v (.flt .f32 (l0.getD (x406).toNat (0 : Nat))))) rfl ?_
                          refine sv_bslice hs (eFlt .f32) ([(l0.getD (x406).toNat (0 : Nat))] : List (Nat)) [[(.flt .f32 (l0.getD (x406).toNat (0 : Nat)))]] F46.te37 F46.sz25 F46.ze25 rfl rfl rfl rfl (fun _ => rfl) rfl (by decide) nofun (fun v411 H412 nv411 hs => ?_)
                          obtain ⟨c416, h⟩ := h
                          refine sv_app hs 1 rfl (hs.shows 0 rfl) (fun _ => rfl) (by decide) F46.ta37_37 (by decide) c416 rfl rfl nofun (fun v414 H415 kv414 hs => ?_)
                          replace hs := hs.del 0
                          have nv414 := kv414 nv405
                          refine so_assign (v := (.v v414)) rfl ?_
                          refine so_nil ?_
                          refine fi_inBlock ?_
                          refine fi_region ?_
                          refine so_bin rfl rfl ab_add ?_
                          refine so_move (v := (.v (.int .i64 (IntKind.i64.wrap (x406 + (1 : Int)))))) rfl ?_
                          refine so_nil ?_
                          exact fi_at [(0, (.v v0)), (1, (.v v1)), (3, (.v (.int .i64 a3))), (4, (.v (.flt .f32 a4))), (5, (.v (.flt .f32 a5))), (6, (.v (.int .i64 a6))), (9, (.v (.ptr id101 0))), (19, (.v (.flt .f32 y321))), (20, (.v v414)), (93, (.v v0)), (94, (.v (.int .i64 (l0.length : Int)))), (95, (.v (.int .i64 (IntKind.i64.wrap (x406 + (1 : Int))))))] ⟨rfl, rfl, rfl, rfl, rfl, rfl, rfl, rfl, rfl, rfl, rfl, rfl, trivial⟩ (h _ _ _ nv414 hs)
                        · refine fi_true rfl (not_t c410) ?_
                          refine fi_region ?_
                          refine so_move (v := (.v (.flt .f32 y321))) rfl ?_
                          refine so_assign (v := (.v (.flt .f32 y321))) rfl ?_
                          refine so_nil ?_
                          refine fi_region ?_
                          refine so_move (v := (.v v405)) rfl ?_
                          refine so_move (v := (.v (.flt .f32 y321))) rfl ?_
                          refine sv_bslice hs (eFlt .f32) ([y321] : List (Nat)) [[(.flt .f32 y321)]] F46.te37 F46.sz25 F46.ze25 rfl rfl rfl rfl (fun _ => rfl) rfl (by decide) nofun (fun v417 H418 nv417 hs => ?_)
                          obtain ⟨c422, h⟩ := h
                          refine sv_app hs 1 rfl (hs.shows 0 rfl) (fun _ => rfl) (by decide) F46.ta37_37 (by decide) c422 rfl rfl nofun (fun v420 H421 kv420 hs => ?_)
                          replace hs := hs.del 0
                          have nv420 := kv420 nv405
                          refine so_assign (v := (.v v420)) rfl ?_
                          refine so_nil ?_
                          refine fi_inBlock ?_
                          refine fi_region ?_
                          refine so_bin rfl rfl ab_add ?_
                          refine so_move (v := (.v (.int .i64 (IntKind.i64.wrap (x406 + (1 : Int)))))) rfl ?_
                          refine so_nil ?_
                          exact fi_at [(0, (.v v0)), (1, (.v v1)), (3, (.v (.int .i64 a3))), (4, (.v (.flt .f32 a4))), (5, (.v (.flt .f32 a5))), (6, (.v (.int .i64 a6))), (9, (.v (.ptr id101 0))), (19, (.v (.flt .f32 y321))), (20, (.v v420)), (93, (.v v0)), (94, (.v (.int .i64 (l0.length : Int)))), (95, (.v (.int .i64 (IntKind.i64.wrap (x406 + (1 : Int))))))] ⟨rfl, rfl, rfl, rfl, rfl, rfl, rfl, rfl, rfl, rfl, rfl, rfl, trivial⟩ (h _ _ _ nv420 hs)
                      · refine fi_false rfl (decide_eq_false c407) ?_
                        refine fi_exit rfl ?_
                        refine fi_seq ?_
                        refine fi_seq ?_
                        refine fi_region ?_
                        refine so_move (v := (.v (.int .i64 a6))) rfl ?_
                        refine so_move (v := (.v (.int .i64 (0 : Int)))) rfl ?_
                        refine so_nil ?_
                        refine fi_block ?_
                        refine fi_loop ?_
                        refine fi_at [(0, (.v v0)), (1, (.v v1)), (3, (.v (.int .i64 a3))), (4, (.v (.flt .f32 a4))), (5, (.v (.flt .f32 a5))), (9, (.v (.ptr id101 0))), (20, (.v v405)), (111, (.v (.int .i64 a6))), (112, (.v (.int .i64 (0 : Int))))] ⟨rfl, rfl, rfl, rfl, rfl, rfl, rfl, rfl, rfl, trivial⟩ ?_
                        refine h (fun (now444 : List (Nat)) (limit446 : Nat) (x447 : Int) => ∀ (s : Nat → TV) (H : Heap) (v445 : AV), Sep H (Pc.osl v445 1 (enc (eFlt .f32) now444) :: Pc.box id101 [v2] :: fr) → Fin _ _ (updL s [(0, (.v v0)), (1, (.v v1)), (3, (.v (.int .i64 a3))), (4, (.v (.flt .f32 limit446))), (5, (.v (.flt .f32 a5))), (9, (.v (.ptr id101 0))), (20, (.v v445)), (111, (.v (.int .i64 a6))), (112, (.v (.int .i64 x447)))]) H _) ?_ _ _ _ hs
                        intro now444 limit446 x447 h s478 H479 v445 hs
                        refine fi_inLoop ?_
                        refine fi_seq ?_
                        refine fi_region ?_
                        refine so_bin rfl rfl ab_lss ?_
                        refine so_nil ?_
                        refine fi_seq ?_
                        replace h := ofP h; rcases h with ⟨c448, h⟩ | ⟨c448, h⟩
                        · refine fi_true rfl (decide_eq_true c448) ?_
                          refine fi_skip ?_
                          refine fi_seq ?_
                          refine fi_block ?_
                          refine fi_seq ?_
                          refine fi_region ?_
                          refine so_move (v := (.v v445)) rfl ?_
                          refine sv_lds hs 1 rfl rfl (leb rfl) rfl F46.ag78 F46.sz78 ?_
                          refine so_move (v := (.v (.int .i64 a3))) rfl ?_
                          refine so_move (v := (.v (.flt .f32 limit446))) rfl ?_
                          refine sv_call (impl_fillTurn_ok v445 now444 v2 l2 a3 limit446 hs (fun _ hs => (hs.shows 0 rfl)) (fun _ hs => (g2 _ hs.tl.tl)) _ h) rfl rfl nofun ?_
                          clear h hs
                          rintro _ H453 ⟨y449, y452, h, v450, rfl, hs⟩
                          refine so_move (v := (.t [(.v v450), (.v (.bool y452))])) rfl ?_
                          refine so_extract rfl rfl rfl ?_
                          refine so_extract rfl rfl rfl ?_
                          refine so_assign (v := (.v v450)) rfl ?_
                          refine so_assign (v := (.v (.bool y452))) rfl ?_
                          refine so_nil ?_
                          refine fi_seq ?_
                          refine fi_seq ?_
                          refine fi_region ?_
                          refine so_move (v := (.v (.bool y452))) rfl ?_
                          refine so_un rfl au_not ?_
                          refine so_nil ?_
                          replace h := ofT h; rcases h with ⟨c454, h⟩ | ⟨c454, h⟩
                          · refine fi_false rfl (not_f c454) ?_
                            refine fi_skip ?_
                            refine fi_seq ?_
                            refine fi_seq ?_
                            refine fi_region ?_
                            refine so_move (v := (.v v0)) rfl ?_
                            refine sv_len (g0 _ hs.tl.tl.tl) (fun _ => rfl) (by decide) rfl F46.ti37 ?_
                            refine so_move (v := (.v (.int .i64 (0 : Int)))) rfl ?_
                            refine so_nil ?_
                            refine fi_block ?_
                            refine fi_loop ?_
                            replace hs := hs.del 1
                            refine fi_at [(0, (.v v0)), (1, (.v v1)), (3, (.v (.int .i64 a3))), (4, (.v (.flt .f32 limit446))), (5, (.v (.flt .f32 a5))), (9, (.v (.ptr id101 0))), (23, (.v v450)), (111, (.v (.int .i64 a6))), (112, (.v (.int .i64 x447))), (124, (.v v0)), (125, (.v (.int .i64 (l0.length : Int)))), (126, (.v (.int .i64 (0 : Int))))] ⟨rfl, rfl, rfl, rfl, rfl, rfl, rfl, rfl, rfl, rfl, rfl, rfl, trivial⟩ ?_
                            refine h (fun (next464 : List (Nat)) (x465 : Int) => ∀ (s : Nat → TV) (H : Heap), Sep H (Pc.osl v450 1 (enc (eFlt .f32) next464) :: Pc.box id101 [v2] :: fr) → Fin _ _ (updL s [(0, (.v v0)), (1, (.v v1)), (3, (.v (.int .i64 a3))), (4, (.v (.flt .f32 limit446))), (5, (.v (.flt .f32 a5))), (9, (.v (.ptr id101 0))), (23, (.v v450)), (111, (.v (.int .i64 a6))), (112, (.v (.int .i64 x447))), (124, (.v v0)), (125, (.v (.int .i64 (l0.length : Int)))), (126, (.v (.int .i64 x465)))]) H _) ?_ _ _ hs
                            intro next464 x465 h s472 H473 hs
                            refine fi_inLoop ?_
                            refine fi_seq ?_
                            refine fi_region ?_
                            refine so_bin rfl rfl ab_lss ?_
                            refine so_nil ?_
                            refine fi_seq ?_
                            replace h := ofP h; rcases h with ⟨c466, h⟩ | ⟨c466, h⟩
                            · refine fi_true rfl (decide_eq_true c466) ?_
                              refine fi_skip ?_
                              refine fi_seq ?_
                              refine fi_block ?_
                              refine fi_seq ?_
                              refine fi_region ?_
                              refine so_move (v := (.v (.int .i64 x465))) rfl ?_
                              obtain ⟨c467, h⟩ := h
                              refine sv_idx (g0 _ hs.tl.tl) c467 (fun _ => rfl) (by decide) rfl rfl F46.tl37 ?_
                              refine sv_cell (g0 _ hs.tl.tl) c467 (0 : Nat) 0 (fun x => (AV.flt .f32 x)) (fun _ => rfl) (fun _ => rfl) rfl F46.ag25 ?_
                              refine so_assign (v := (.v (.int .i64 x465))) rfl ?_
                              refine so_assign (v := (.v (.flt .f32 (l0.getD (x465).toNat (0 : Nat))))) rfl ?_
                              refine so_nil ?_
                              refine fi_seq ?_
                              refine fi_region ?_
                              refine so_move (v := (.v v1)) rfl ?_
                              refine so_move (v := (.v (.int .i64 x465))) rfl ?_
                              obtain ⟨c468, h⟩ := h
                              refine sv_idx (g1 _ hs.tl.tl) c468 (fun _ => rfl) (by decide) rfl rfl F46.tl42 ?_
                              refine sv_cell (g1 _ hs.tl.tl) c468 false 0 (fun x => (AV.bool x)) (fun _ => rfl) (fun _ => rfl) rfl F46.ag4 ?_
                              refine so_nil ?_
                              replace h := ofT h; rcases h with ⟨c469, h⟩ | ⟨c469, h⟩
                              · refine fi_true rfl c469 ?_
                                refine fi_region ?_
                                refine so_move (v := (.v v450)) rfl ?_
                                refine so_move (v := (.v (.int .i64 x465))) rfl ?_
                                refine so_move (v := (.v (.flt .f32 (l0.getD (x465).toNat (0 : Nat))))) rfl ?_
                                obtain ⟨c470, h⟩ := h
                                refine sv_idx (hs.shows 0 rfl) c470 (fun _ => rfl) (by decide) rfl rfl F46.tl37 ?_
                                refine sv_set hs 0 rfl c470 (l0.getD (x465).toNat (0 : Nat)) (fun _ => rfl) (by decide) rfl rfl rfl rfl F46.sz25 nofun (fun H471 hs => ?_)
                                refine so_nil ?_
                                refine fi_inBlock ?_
                                refine fi_region ?_
                                refine so_bin rfl rfl ab_add ?_
                                refine so_move (v := (.v (.int .i64 (IntKind.i64.wrap (x465 + (1 : Int)))))) rfl ?_
                                refine so_nil ?_
                                exact fi_at [(0, (.v v0)), (1, (.v v1)), (3, (.v (.int .i64 a3))), (4, (.v (.flt .f32 limit446))), (5, (.v (.flt .f32 a5))), (9, (.v (.ptr id101 0))), (23, (.v v450)), (111, (.v (.int .i64 a6))), (112, (.v (.int .i64 x447))), (124, (.v v0)), (125, (.v (.int .i64 (l0.length : Int)))), (126, (.v (.int .i64 (IntKind.i64.wrap (x465 + (1 : Int))))))] ⟨rfl, rfl, rfl, rfl, rfl, rfl, rfl, rfl, rfl, rfl, rfl, rfl, trivial⟩ (h _ _  hs)
                              · refine fi_false rfl c469 ?_
                                refine fi_skip ?_
                                refine fi_inBlock ?_
                                refine fi_region ?_
                                refine so_bin rfl rfl ab_add ?_
                                refine so_move (v := (.v (.int .i64 (IntKind.i64.wrap (x465 + (1 : Int)))))) rfl ?_
                                refine so_nil ?_
                                exact fi_at [(0, (.v v0)), (1, (.v v1)), (3, (.v (.int .i64 a3))), (4, (.v (.flt .f32 limit446))), (5, (.v (.flt .f32 a5))), (9, (.v (.ptr id101 0))), (23, (.v v450)), (111, (.v (.int .i64 a6))), (112, (.v (.int .i64 x447))), (124, (.v v0)), (125, (.v (.int .i64 (l0.length : Int)))), (126, (.v (.int .i64 (IntKind.i64.wrap (x465 + (1 : Int))))))] ⟨rfl, rfl, rfl, rfl, rfl, rfl, rfl, rfl, rfl, rfl, rfl, rfl, trivial⟩ (h _ _  hs)
                            · refine fi_false rfl (decide_eq_false c466) ?_
                              refine fi_exit rfl ?_
                              refine fi_seq ?_
                              refine fi_region ?_
                              refine so_move (v := (.v v450)) rfl ?_
                              refine so_assign (v := (.v v450)) rfl ?_
                              refine so_nil ?_
                              refine fi_region ?_
                              refine so_move (v := (.v (.flt .f32 limit446))) rfl ?_
                              refine so_move (v := (.v (.flt .f32 a5))) rfl ?_
                              refine so_bin rfl rfl ab_fmul ?_
                              refine so_assign (v := (.v (.flt .f32 (fop .mul .f32 limit446 a5)))) rfl ?_
                              refine so_nil ?_
                              refine fi_inBlock ?_
                              refine fi_region ?_
                              refine so_bin rfl rfl ab_add ?_
                              refine so_move (v := (.v (.int .i64 (IntKind.i64.wrap (x447 + (1 : Int)))))) rfl ?_
                              refine so_nil ?_
                              exact fi_at [(0, (.v v0)), (1, (.v v1)), (3, (.v (.int .i64 a3))), (4, (.v (.flt .f32 (fop .mul .f32 limit446 a5)))), (5, (.v (.flt .f32 a5))), (9, (.v (.ptr id101 0))), (20, (.v v450)), (111, (.v (.int .i64 a6))), (112, (.v (.int .i64 (IntKind.i64.wrap (x447 + (1 : Int))))))] ⟨rfl, rfl, rfl, rfl, rfl, rfl, rfl, rfl, rfl, trivial⟩ (h _ _ _ hs)
                          · refine fi_true rfl (not_t c454) ?_
                            refine fi_seq ?_
                            refine fi_region ?_
                            refine so_assign (v := (.v .nilsl)) rfl ?_
                            refine so_assign (v := (.v (.bool false))) rfl ?_
                            refine so_nil ?_
                            exact by_ret rfl ⟨_, _, h, _, rfl, (Sep.nil (Sep.del 0 (Sep.del 0 (Sep.del 0 hs))) 1)⟩
                        · refine fi_false rfl (decide_eq_false c448) ?_
                          refine fi_exit rfl ?_
                          refine fi_seq ?_
                          refine fi_region ?_
                          refine so_move (v := (.v v445)) rfl ?_
                          refine sv_call (impl_finiteList_ok v445 now444 hs (fun _ hs => (hs.shows 0 rfl)) _ h) rfl rfl nofun ?_
                          clear h hs
                          rintro _ H476 ⟨y474, y475, h, rfl, hs⟩
                          replace h := ofT h; rcases h with ⟨c477, h⟩ | ⟨c477, h⟩
                          · subst c477
                            refine so_extract rfl rfl rfl ?_
                            refine so_extract rfl rfl rfl ?_
                            refine so_assign (v := (.v v445)) rfl ?_
                            refine so_assign (v := (.v (.bool y475))) rfl ?_
                            refine so_nil ?_
                            exact by_ret rfl ⟨_, _, h, _, rfl, (Sep.del 1 hs)⟩
                          · subst c477
                            refine so_extract rfl rfl rfl ?_
                            refine so_extract rfl rfl rfl ?_
                            refine so_assign (v := (.v .nilsl)) rfl ?_
                            refine so_assign (v := (.v (.bool y475))) rfl ?_
                            refine so_nil ?_
                            exact by_ret rfl ⟨_, _, h, _, rfl, (Sep.nil (Sep.del 0 (Sep.del 0 hs)) 1)⟩
                  · refine fi_true rfl (not_t c128) ?_
                    refine fi_seq ?_
                    refine fi_region ?_
                    refine so_assign (v := (.v .nilsl)) rfl ?_
                    refine so_assign (v := (.v (.bool false))) rfl ?_
                    refine so_nil ?_
                    exact by_ret rfl ⟨_, _, h, _, rfl, (Sep.nil (Sep.del 0 hs) 1)⟩
                · refine so_gno rfl (not_t c125) ?_
                  refine so_gno rfl (not_t c125) ?_
                  refine so_gno rfl (not_t c125) ?_
                  refine so_pick_t (v := (.v (.bool true))) rfl (not_t c125) rfl ?_
                  refine so_nil ?_
                  refine fi_true rfl rfl ?_
                  refine fi_seq ?_
                  refine fi_region ?_
                  refine so_assign (v := (.v .nilsl)) rfl ?_
                  refine so_assign (v := (.v (.bool false))) rfl ?_
                  refine so_nil ?_
                  exact by_ret rfl ⟨_, _, h, _, rfl, (Sep.nil (Sep.del 0 hs) 1)⟩
              · refine so_gno rfl (not_t c122) ?_
                refine so_gno rfl (not_t c122) ?_
                refine so_gno rfl (not_t c122) ?_
                refine so_pick_t (v := (.v (.bool true))) rfl (not_t c122) rfl ?_
                refine so_move (v := (.v (.bool true))) rfl ?_
                refine so_gno rfl rfl ?_
                refine so_gno rfl rfl ?_
                refine so_gno rfl rfl ?_
                refine so_pick_t (v := (.v (.bool true))) rfl rfl rfl ?_
                refine so_nil ?_
                refine fi_true rfl rfl ?_
                refine fi_seq ?_
                refine fi_region ?_
                refine so_assign (v := (.v .nilsl)) rfl ?_
                refine so_assign (v := (.v (.bool false))) rfl ?_
                refine so_nil ?_
                exact by_ret rfl ⟨_, _, h, _, rfl, (Sep.nil (Sep.del 0 hs) 1)⟩
            · refine so_gno rfl (not_t c119) ?_
              refine so_gno rfl (not_t c119) ?_
              refine so_gno rfl (not_t c119) ?_
              refine so_pick_t (v := (.v (.bool true))) rfl (not_t c119) rfl ?_
              refine so_move (v := (.v (.bool true))) rfl ?_
              refine so_gno rfl rfl ?_
              refine so_gno rfl rfl ?_
              refine so_gno rfl rfl ?_
              refine so_pick_t (v := (.v (.bool true))) rfl rfl rfl ?_
              refine so_move (v := (.v (.bool true))) rfl ?_
              refine so_gno rfl rfl ?_
              refine so_gno rfl rfl ?_
              refine so_gno rfl rfl ?_
              refine so_pick_t (v := (.v (.bool true))) rfl rfl rfl ?_
              refine so_nil ?_
              refine fi_true rfl rfl ?_
              refine fi_seq ?_
              refine fi_region ?_
              refine so_assign (v := (.v .nilsl)) rfl ?_
              refine so_assign (v := (.v (.bool false))) rfl ?_
              refine so_nil ?_
              exact by_ret rfl ⟨_, _, h, _, rfl, (Sep.nil (Sep.del 0 hs) 1)⟩
          · refine fi_true rfl (not_t (decide_eq_false c116)) ?_
            refine fi_seq ?_
            refine fi_region ?_
            refine so_assign (v := (.v .nilsl)) rfl ?_
            refine so_assign (v := (.v (.bool false))) rfl ?_
            refine so_nil ?_
            exact by_ret rfl ⟨_, _, h, _, rfl, (Sep.nil (Sep.del 0 hs) 1)⟩
        · refine so_gno rfl (not_t c113) ?_
          refine so_gno rfl (not_t c113) ?_
          refine so_gno rfl (not_t c113) ?_
          refine so_gno rfl (not_t c113) ?_
          refine so_gno rfl (not_t c113) ?_
          refine so_gno rfl (not_t c113) ?_
          refine so_pick_t (v := (.v (.bool true))) rfl (not_t c113) rfl ?_
          refine so_nil ?_
          refine fi_true rfl rfl ?_
          refine fi_seq ?_
          refine fi_region ?_
          refine so_assign (v := (.v .nilsl)) rfl ?_
          refine so_assign (v := (.v (.bool false))) rfl ?_
          refine so_nil ?_
          exact by_ret rfl ⟨_, _, h, _, rfl, (Sep.nil (Sep.del 0 hs) 1)⟩
      · refine so_gno rfl (not_t c110) ?_
        refine so_gno rfl (not_t c110) ?_
        refine so_gno rfl (not_t c110) ?_
        refine so_pick_t (v := (.v (.bool true))) rfl (not_t c110) rfl ?_
        refine so_move (v := (.v (.bool true))) rfl ?_
        refine so_gno rfl rfl ?_
        refine so_gno rfl rfl ?_
        refine so_gno rfl rfl ?_
        refine so_gno rfl rfl ?_
        refine so_gno rfl rfl ?_
        refine so_gno rfl rfl ?_
        refine so_pick_t (v := (.v (.bool true))) rfl rfl rfl ?_
        refine so_nil ?_
        refine fi_true rfl rfl ?_
        refine fi_seq ?_
        refine fi_region ?_
        refine so_assign (v := (.v .nilsl)) rfl ?_
        refine so_assign (v := (.v (.bool false))) rfl ?_
        refine so_nil ?_
        exact by_ret rfl ⟨_, _, h, _, rfl, (Sep.nil (Sep.del 0 hs) 1)⟩
    · refine so_gno rfl (not_t (decide_eq_false c107)) ?_
      refine so_gno rfl (not_t (decide_eq_false c107)) ?_
      refine so_gno rfl (not_t (decide_eq_false c107)) ?_
      refine so_pick_t (v := (.v (.bool true))) rfl (not_t (decide_eq_false c107)) rfl ?_
      refine so_move (v := (.v (.bool true))) rfl ?_
      refine so_gno rfl rfl ?_
      refine so_gno rfl rfl ?_
      refine so_gno rfl rfl ?_
      refine so_pick_t (v := (.v (.bool true))) rfl rfl rfl ?_
      refine so_move (v := (.v (.bool true))) rfl ?_
      refine so_gno rfl rfl ?_
      refine so_gno rfl rfl ?_
      refine so_gno rfl rfl ?_
      refine so_gno rfl rfl ?_
      refine so_gno rfl rfl ?_
      refine so_gno rfl rfl ?_
      refine so_pick_t (v := (.v (.bool true))) rfl rfl rfl ?_
      refine so_nil ?_
      refine fi_true rfl rfl ?_
      refine fi_seq ?_
      refine fi_region ?_
      refine so_assign (v := (.v .nilsl)) rfl ?_
      refine so_assign (v := (.v (.bool false))) rfl ?_
      refine so_nil ?_
      exact by_ret rfl ⟨_, _, h, _, rfl, (Sep.nil (Sep.del 0 hs) 1)⟩
  · refine so_gno rfl (not_t c106) ?_
    refine so_gno rfl (not_t c106) ?_
    refine so_gno rfl (not_t c106) ?_
    refine so_gno rfl (not_t c106) ?_
    refine so_gno rfl (not_t c106) ?_
    refine so_pick_t (v := (.v (.bool true))) rfl (not_t c106) rfl ?_
    refine so_move (v := (.v (.bool true))) rfl ?_
    refine so_gno rfl rfl ?_
    refine so_gno rfl rfl ?_
    refine so_gno rfl rfl ?_
    refine so_pick_t (v := (.v (.bool true))) rfl rfl rfl ?_
    refine so_move (v := (.v (.bool true))) rfl ?_
    refine so_gno rfl rfl ?_
    refine so_gno rfl rfl ?_
    refine so_gno rfl rfl ?_
    refine so_pick_t (v := (.v (.bool true))) rfl rfl rfl ?_
    refine so_move (v := (.v (.bool true))) rfl ?_
    refine so_gno rfl rfl ?_
    refine so_gno rfl rfl ?_
    refine so_gno rfl rfl ?_
    refine so_gno rfl rfl ?_
    refine so_gno rfl rfl ?_
    refine so_gno rfl rfl ?_
    refine so_pick_t (v := (.v (.bool true))) rfl rfl rfl ?_
    refine so_nil ?_
    refine fi_true rfl rfl ?_
    refine fi_seq ?_
    refine fi_region ?_
    refine so_assign (v := (.v .nilsl)) rfl ?_
    refine so_assign (v := (.v (.bool false))) rfl ?_
    refine so_nil ?_
    exact by_ret rfl ⟨_, _, h, _, rfl, (Sep.nil (Sep.del 0 hs) 1)⟩

end Go.Proofs.Ytpeijfnfffogeaa.G

namespace Go.Proofs.Ytpeijfnfffogeaa.G
open Go Go.Ab Go.Proofs Go.Proofs.Ytpeijfnfffogeaa
set_option maxRecDepth 100000
set_option linter.unusedVariables false
set_option linter.unusedSimpArgs false
set_option maxHeartbeats 1000000
attribute [local irreducible] wops wopf Go.Ab.Fin
theorem F17.tb4 : tbool Try.prog 4 = true := by kernel_rfl
theorem laws_sameFloat_ok {fr : List Pc} {H : Heap} (a0 : Nat) (a1 : Nat) (hs : Sep H (fr))  (K : Bool → Prop) (h : laws_sameFloat.wp a0 a1 K) : OkQ Try.prog 17 [(.v (.flt .f64 a0)), (.v (.flt .f64 a1))] H (fun r H2 => ∃ (y0 : Bool), K y0 ∧ r = (.v (.bool y0)) ∧ H = H2) := by
  unfold laws_sameFloat.wp at h
  refine of_body Try.f17 F.hm Try.func17 rfl Try.call17 (by kernel_rfl) (by simp) ?_
  refine fi_seq ?_
  refine fi_region ?_
  refine so_assign (v := (.v (.bool false))) rfl ?_
  refine so_nil ?_
  refine fi_seq ?_
  refine fi_seq ?_
  refine fi_region ?_
  refine so_move (v := (.v (.flt .f64 a0))) rfl ?_
  refine so_move (v := (.v (.flt .f64 a0))) rfl ?_
  refine so_bin rfl rfl ab_fneq ?_
  refine so_move (v := (.v (.bool (fcmp .neq .f64 a0 a0)))) rfl ?_
  replace h := ofT h; rcases h with ⟨c101, h⟩ | ⟨c101, h⟩
  · refine so_gno rfl c101 ?_
    refine so_gno rfl c101 ?_
    refine so_gno rfl c101 ?_
    refine so_pick_t (v := (.v (.bool true))) rfl c101 rfl ?_
    refine so_nil ?_
    refine fi_true rfl rfl ?_
    refine fi_seq ?_
    refine fi_region ?_
    refine so_move (v := (.v (.flt .f64 a0))) rfl ?_
    refine so_move (v := (.v (.flt .f64 a0))) rfl ?_
    refine so_bin rfl rfl ab_fneq ?_
    refine so_move (v := (.v (.bool (fcmp .neq .f64 a0 a0)))) rfl ?_
    refine so_gyes rfl c101 ?_
    refine so_move (v := (.v (.flt .f64 a1))) rfl ?_
    refine so_gyes rfl c101 ?_
    refine so_move (v := (.v (.flt .f64 a1))) rfl ?_
    refine so_gyes rfl c101 ?_
    refine so_bin rfl rfl ab_fneq ?_
    refine so_pick_t (v := (.v (.bool (fcmp .neq .f64 a1 a1)))) rfl c101 rfl ?_
    refine so_assign (v := (.v (.bool (fcmp .neq .f64 a1 a1)))) rfl ?_
    refine so_nil ?_
    exact by_ret rfl ⟨_, h, rfl, rfl⟩
  · refine so_gyes rfl c101 ?_
    refine so_move (v := (.v (.flt .f64 a1))) rfl ?_
    refine so_gyes rfl c101 ?_
    refine so_move (v := (.v (.flt .f64 a1))) rfl ?_
    refine so_gyes rfl c101 ?_
    refine so_bin rfl rfl ab_fneq ?_
    refine so_pick_f (v := (.v (.bool (fcmp .neq .f64 a1 a1)))) rfl c101 rfl ?_
    refine so_nil ?_
    replace h := ofT h; rcases h with ⟨c102, h⟩ | ⟨c102, h⟩
    · refine fi_true rfl c102 ?_
      refine fi_seq ?_
      refine fi_region ?_
      refine so_move (v := (.v (.flt .f64 a0))) rfl ?_
      refine so_move (v := (.v (.flt .f64 a0))) rfl ?_
      refine so_bin rfl rfl ab_fneq ?_
      refine so_move (v := (.v (.bool (fcmp .neq .f64 a0 a0)))) rfl ?_
      refine so_gno rfl c101 ?_
      refine so_gno rfl c101 ?_
      refine so_gno rfl c101 ?_
      refine so_pick_f (v := (.v (.bool false))) rfl c101 rfl ?_
      refine so_assign (v := (.v (.bool false))) rfl ?_
      refine so_nil ?_
      exact by_ret rfl ⟨_, h, rfl, rfl⟩
    · refine fi_false rfl c102 ?_
      refine fi_skip ?_
      refine fi_seq ?_
      refine fi_seq ?_
      refine fi_region ?_
      refine so_move (v := (.v (.flt .f64 a0))) rfl ?_
      refine so_bin rfl rfl ab_feql ?_
      refine so_move (v := (.v (.bool (fcmp .eql .f64 a0 (cz .f64 0))))) rfl ?_
      replace h := ofT h; rcases h with ⟨c103, h⟩ | ⟨c103, h⟩
      · refine so_gyes rfl c103 ?_
        refine so_move (v := (.v (.flt .f64 a1))) rfl ?_
        refine so_gyes rfl c103 ?_
        refine so_bin rfl rfl ab_feql ?_
        refine so_pick_t (v := (.v (.bool (fcmp .eql .f64 a1 (cz .f64 0))))) rfl c103 rfl ?_
        refine so_nil ?_
        replace h := ofT h; rcases h with ⟨c104, h⟩ | ⟨c104, h⟩
        · refine fi_true rfl c104 ?_
          refine fi_seq ?_
          refine fi_region ?_
          refine so_move (v := (.v (.flt .f64 a0))) rfl ?_
          refine so_bin rfl rfl ab_fquo ?_
          refine so_bin rfl rfl ab_fgtr ?_
          refine so_move (v := (.v (.flt .f64 a1))) rfl ?_
          refine so_bin rfl rfl ab_fquo ?_
          refine so_bin rfl rfl ab_fgtr ?_
          refine so_bin rfl rfl (ab_beql F17.tb4) ?_
          refine so_assign (v := (.v (.bool ((fcmp .gtr .f64 (fop .quo .f64 (cz .f64 4607182418800017408) a0) (cz .f64 0)) == (fcmp .gtr .f64 (fop .quo .f64 (cz .f64 4607182418800017408) a1) (cz .f64 0)))))) rfl ?_
          refine so_nil ?_
          exact by_ret rfl ⟨_, h, rfl, rfl⟩
        · refine fi_false rfl c104 ?_
          refine fi_skip ?_
          refine fi_seq ?_
          refine fi_region ?_
          refine so_move (v := (.v (.flt .f64 a0))) rfl ?_
          refine so_move (v := (.v (.flt .f64 a1))) rfl ?_
          refine so_bin rfl rfl ab_feql ?_
          refine so_assign (v := (.v (.bool (fcmp .eql .f64 a0 a1)))) rfl ?_
          refine so_nil ?_
          exact by_ret rfl ⟨_, h, rfl, rfl⟩
      · refine so_gno rfl c103 ?_
        refine so_gno rfl c103 ?_
        refine so_pick_f (v := (.v (.bool false))) rfl c103 rfl ?_
        refine so_nil ?_
        refine fi_false rfl rfl ?_
        refine fi_skip ?_
        refine fi_seq ?_
        refine fi_region ?_
        refine so_move (v := (.v (.flt .f64 a0))) rfl ?_
        refine so_move (v := (.v (.flt .f64 a1))) rfl ?_
        refine so_bin rfl rfl ab_feql ?_
        refine so_assign (v := (.v (.bool (fcmp .eql .f64 a0 a1)))) rfl ?_
        refine so_nil ?_
        exact by_ret rfl ⟨_, h, rfl, rfl⟩

end Go.Proofs.Ytpeijfnfffogeaa.G

namespace Go.Proofs.Ytpeijfnfffogeaa.G
open Go Go.Ab Go.Proofs Go.Proofs.Ytpeijfnfffogeaa
set_option maxRecDepth 100000
set_option linter.unusedVariables false
set_option linter.unusedSimpArgs false
set_option maxHeartbeats 1000000
attribute [local irreducible] wops wopf Go.Ab.Fin
theorem F47.ag25 : tagg Try.prog 25 = some false := by kernel_rfl
theorem F47.fl32 : tflt Try.prog 32 = some .f64 := by kernel_rfl
theorem F47.in32 : tint Try.prog 32 = none := by kernel_rfl
theorem F47.ti37 : (telem Try.prog 37).isSome = true := by kernel_rfl
theorem F47.tl37 : (telem Try.prog 37).bind (tsz Try.prog) = some 1 := by kernel_rfl
theorem F47.us25 : (Try.prog.underlying 25).isSome = true := by kernel_rfl
theorem laws_eqFloat32S_ok {fr : List Pc} {H : Heap} (v0 : AV) (l0 : List (Nat)) (v1 : AV) (l1 : List (Nat)) (hs : Sep H (fr)) (g0 : ∀ H, Sep H fr → Shows H v0 1 (enc (eFlt .f32) l0)) (g1 : ∀ H, Sep H fr → Shows H v1 1 (enc (eFlt .f32) l1)) (K : Bool → Prop) (h : laws_eqFloat32S.wp l0 l1 K) : OkQ Try.prog 47 [(.v v0), (.v v1)] H (fun r H2 => ∃ (y0 : Bool), K y0 ∧ r = (.v (.bool y0)) ∧ H = H2) := by
  unfold laws_eqFloat32S.wp at h
  refine of_body Try.f47 F.hm Try.func47 rfl Try.call47 (by kernel_rfl) (by simp) ?_
  refine fi_seq ?_
  refine fi_region ?_
  refine so_assign (v := (.v (.bool false))) rfl ?_
  refine so_nil ?_
  refine fi_seq ?_
  refine fi_seq ?_
  refine fi_region ?_
  refine so_move (v := (.v v0)) rfl ?_
  refine sv_len (g0 _ hs) (fun _ => rfl) (by decide) rfl F47.ti37 ?_
  refine so_move (v := (.v v1)) rfl ?_
  refine sv_len (g1 _ hs) (fun _ => rfl) (by decide) rfl F47.ti37 ?_
  refine so_bin rfl rfl ab_neq ?_
  refine so_nil ?_
  replace h := ofP h; rcases h with ⟨c101, h⟩ | ⟨c101, h⟩
  · refine fi_false rfl (not_f (decide_eq_true c101)) ?_
    refine fi_skip ?_
    refine fi_seq ?_
    refine fi_seq ?_
    refine fi_region ?_
    refine so_assign (v := (.v (.int .i64 (0 : Int)))) rfl ?_
    refine so_nil ?_
    refine fi_block ?_
    refine fi_loop ?_
    refine fi_at [(0, (.v v0)), (1, (.v v1)), (5, (.v (.int .i64 (0 : Int))))] ⟨rfl, rfl, rfl, trivial⟩ ?_
    refine h (fun (i103 : Int) => ∀ (s : Nat → TV), Fin _ _ (updL s [(0, (.v v0)), (1, (.v v1)), (5, (.v (.int .i64 i103)))]) _ _) ?_ _
    intro i103 h s110
    refine fi_inLoop ?_
    refine fi_seq ?_
    refine fi_seq ?_
    refine fi_region ?_
    refine so_move (v := (.v (.int .i64 i103))) rfl ?_
    refine so_move (v := (.v v0)) rfl ?_
    refine sv_len (g0 _ hs) (fun _ => rfl) (by decide) rfl F47.ti37 ?_
    refine so_bin rfl rfl ab_lss ?_
    refine so_nil ?_
    replace h := ofP h; rcases h with ⟨c104, h⟩ | ⟨c104, h⟩
    · refine fi_true rfl (decide_eq_true c104) ?_
      refine fi_skip ?_
      refine fi_seq ?_
      refine fi_block ?_
      refine fi_seq ?_
      refine fi_region ?_
      refine so_move (v := (.v v0)) rfl ?_
      refine so_move (v := (.v (.int .i64 i103))) rfl ?_
      obtain ⟨c105, h⟩ := h
      refine sv_idx (g0 _ hs) c105 (fun _ => rfl) (by decide) rfl rfl F47.tl37 ?_
      refine sv_cell (g0 _ hs) c105 (0 : Nat) 0 (fun x => (AV.flt .f32 x)) (fun _ => rfl) (fun _ => rfl) rfl F47.ag25 ?_
      refine sv_ffw rfl F47.us25 F47.in32 F47.fl32 ?_
      refine so_move (v := (.v v1)) rfl ?_
      refine so_move (v := (.v (.int .i64 i103))) rfl ?_
      obtain ⟨c106, h⟩ := h
      refine sv_idx (g1 _ hs) c106 (fun _ => rfl) (by decide) rfl rfl F47.tl37 ?_
      refine sv_cell (g1 _ hs) c106 (0 : Nat) 0 (fun x => (AV.flt .f32 x)) (fun _ => rfl) (fun _ => rfl) rfl F47.ag25 ?_
      refine sv_ffw rfl F47.us25 F47.in32 F47.fl32 ?_
      refine sv_callS (laws_sameFloat_ok (widen (l0.getD (i103).toNat (0 : Nat))) (widen (l1.getD (i103).toNat (0 : Nat))) hs  _ h) (fun _ _ ⟨_, _, _, e⟩ => e) rfl rfl ?_
      clear h
      rintro _ _ ⟨y107, h, rfl, rfl⟩
      refine so_un rfl au_not ?_
      refine so_nil ?_
      replace h := ofT h; rcases h with ⟨c109, h⟩ | ⟨c109, h⟩
      · refine fi_false rfl (not_f c109) ?_
        refine fi_skip ?_
        refine fi_inBlock ?_
        refine fi_region ?_
        refine so_move (v := (.v (.int .i64 i103))) rfl ?_
        refine so_bin rfl rfl ab_add ?_
        refine so_assign (v := (.v (.int .i64 (IntKind.i64.wrap (i103 + (1 : Int)))))) rfl ?_
        refine so_nil ?_
        exact fi_at [(0, (.v v0)), (1, (.v v1)), (5, (.v (.int .i64 (IntKind.i64.wrap (i103 + (1 : Int))))))] ⟨rfl, rfl, rfl, trivial⟩ (h _)
      · refine fi_true rfl (not_t c109) ?_
        refine fi_seq ?_
        refine fi_region ?_
        refine so_assign (v := (.v (.bool false))) rfl ?_
        refine so_nil ?_
        exact by_ret rfl ⟨_, h, rfl, rfl⟩
    · refine fi_false rfl (decide_eq_false c104) ?_
      refine fi_exit rfl ?_
      refine fi_seq ?_
      refine fi_region ?_
      refine so_assign (v := (.v (.bool true))) rfl ?_
      refine so_nil ?_
      exact by_ret rfl ⟨_, h, rfl, rfl⟩
  · refine fi_true rfl (not_t (decide_eq_false c101)) ?_
    refine fi_seq ?_
    refine fi_region ?_
    refine so_assign (v := (.v (.bool false))) rfl ?_
    refine so_nil ?_
    exact by_ret rfl ⟨_, h, rfl, rfl⟩

end Go.Proofs.Ytpeijfnfffogeaa.G

namespace Go.Proofs.Ytpeijfnfffogeaa.G
open Go Go.Ab Go.Proofs Go.Proofs.Ytpeijfnfffogeaa
set_option maxRecDepth 100000
set_option linter.unusedVariables false
set_option linter.unusedSimpArgs false
set_option maxHeartbeats 1000000
attribute [local irreducible] wops wopf Go.Ab.Fin
theorem F48.ag4 : tagg Try.prog 4 = some false := by kernel_rfl
theorem F48.tb4 : tbool Try.prog 4 = true := by kernel_rfl
theorem F48.ti42 : (telem Try.prog 42).isSome = true := by kernel_rfl
theorem F48.tl42 : (telem Try.prog 42).bind (tsz Try.prog) = some 1 := by kernel_rfl
theorem laws_eqBoolS_ok {fr : List Pc} {H : Heap} (v0 : AV) (l0 : List (Bool)) (v1 : AV) (l1 : List (Bool)) (hs : Sep H (fr)) (g0 : ∀ H, Sep H fr → Shows H v0 1 (enc eBool l0)) (g1 : ∀ H, Sep H fr → Shows H v1 1 (enc eBool l1)) (K : Bool → Prop) (h : laws_eqBoolS.wp l0 l1 K) : OkQ Try.prog 48 [(.v v0), (.v v1)] H (fun r H2 => ∃ (y0 : Bool), K y0 ∧ r = (.v (.bool y0)) ∧ H = H2) := by
  unfold laws_eqBoolS.wp at h
  refine of_body Try.f48 F.hm Try.func48 rfl Try.call48 (by kernel_rfl) (by simp) ?_
  refine fi_seq ?_
  refine fi_region ?_
  refine so_assign (v := (.v (.bool false))) rfl ?_
  refine so_nil ?_
  refine fi_seq ?_
  refine fi_seq ?_
  refine fi_region ?_
  refine so_move (v := (.v v0)) rfl ?_
  refine sv_len (g0 _ hs) (fun _ => rfl) (by decide) rfl F48.ti42 ?_
  refine so_move (v := (.v v1)) rfl ?_
  refine sv_len (g1 _ hs) (fun _ => rfl) (by decide) rfl F48.ti42 ?_
  refine so_bin rfl rfl ab_neq ?_
  refine so_nil ?_
  replace h := ofP h; rcases h with ⟨c101, h⟩ | ⟨c101, h⟩
  · refine fi_false rfl (not_f (decide_eq_true c101)) ?_
    refine fi_skip ?_
    refine fi_seq ?_
    refine fi_seq ?_
    refine fi_region ?_
    refine so_assign (v := (.v (.int .i64 (0 : Int)))) rfl ?_
    refine so_nil ?_
    refine fi_block ?_
    refine fi_loop ?_
    refine fi_at [(0, (.v v0)), (1, (.v v1)), (5, (.v (.int .i64 (0 : Int))))] ⟨rfl, rfl, rfl, trivial⟩ ?_
    refine h (fun (i103 : Int) => ∀ (s : Nat → TV), Fin _ _ (updL s [(0, (.v v0)), (1, (.v v1)), (5, (.v (.int .i64 i103)))]) _ _) ?_ _
    intro i103 h s108
    refine fi_inLoop ?_
    refine fi_seq ?_
    refine fi_seq ?_
    refine fi_region ?_
    refine so_move (v := (.v (.int .i64 i103))) rfl ?_
    refine so_move (v := (.v v0)) rfl ?_
    refine sv_len (g0 _ hs) (fun _ => rfl) (by decide) rfl F48.ti42 ?_
    refine so_bin rfl rfl ab_lss ?_
    refine so_nil ?_
    replace h := ofP h; rcases h with ⟨c104, h⟩ | ⟨c104, h⟩
    · refine fi_true rfl (decide_eq_true c104) ?_
      refine fi_skip ?_
      refine fi_seq ?_
      refine fi_block ?_
      refine fi_seq ?_
      refine fi_region ?_
      refine so_move (v := (.v v0)) rfl ?_
      refine so_move (v := (.v (.int .i64 i103))) rfl ?_
      obtain ⟨c105, h⟩ := h
      refine sv_idx (g0 _ hs) c105 (fun _ => rfl) (by decide) rfl rfl F48.tl42 ?_
      refine sv_cell (g0 _ hs) c105 false 0 (fun x => (AV.bool x)) (fun _ => rfl) (fun _ => rfl) rfl F48.ag4 ?_
      refine so_move (v := (.v v1)) rfl ?_
      refine so_move (v := (.v (.int .i64 i103))) rfl ?_
      obtain ⟨c106, h⟩ := h
      refine sv_idx (g1 _ hs) c106 (fun _ => rfl) (by decide) rfl rfl F48.tl42 ?_
      refine sv_cell (g1 _ hs) c106 false 0 (fun x => (AV.bool x)) (fun _ => rfl) (fun _ => rfl) rfl F48.ag4 ?_
      refine so_bin rfl rfl (ab_bneq F48.tb4) ?_
      refine so_nil ?_
      replace h := ofT h; rcases h with ⟨c107, h⟩ | ⟨c107, h⟩
      · refine fi_false rfl (not_f c107) ?_
        refine fi_skip ?_
        refine fi_inBlock ?_
        refine fi_region ?_
        refine so_move (v := (.v (.int .i64 i103))) rfl ?_
        refine so_bin rfl rfl ab_add ?_
        refine so_assign (v := (.v (.int .i64 (IntKind.i64.wrap (i103 + (1 : Int)))))) rfl ?_
        refine so_nil ?_
        exact fi_at [(0, (.v v0)), (1, (.v v1)), (5, (.v (.int .i64 (IntKind.i64.wrap (i103 + (1 : Int))))))] ⟨rfl, rfl, rfl, trivial⟩ (h _)
      · refine fi_true rfl (not_t c107) ?_
        refine fi_seq ?_
        refine fi_region ?_
        refine so_assign (v := (.v (.bool false))) rfl ?_
        refine so_nil ?_
        exact by_ret rfl ⟨_, h, rfl, rfl⟩
    · refine fi_false rfl (decide_eq_false c104) ?_
      refine fi_exit rfl ?_
      refine fi_seq ?_
      refine fi_region ?_
      refine so_assign (v := (.v (.bool true))) rfl ?_
      refine so_nil ?_
      exact by_ret rfl ⟨_, h, rfl, rfl⟩
  · refine fi_true rfl (not_t (decide_eq_false c101)) ?_
    refine fi_seq ?_
    refine fi_region ?_
    refine so_assign (v := (.v (.bool false))) rfl ?_
    refine so_nil ?_
    exact by_ret rfl ⟨_, h, rfl, rfl⟩

end Go.Proofs.Ytpeijfnfffogeaa.G

namespace Go.Proofs.Ytpeijfnfffogeaa.G
open Go Go.Ab Go.Proofs Go.Proofs.Ytpeijfnfffogeaa
set_option maxRecDepth 100000
set_option linter.unusedVariables false
set_option linter.unusedSimpArgs false
set_option maxHeartbeats 1000000
attribute [local irreducible] wops wopf Go.Ab.Fin
theorem F49.ag37 : tagg Try.prog 37 = some false := by kernel_rfl
theorem F49.fd78_0 : tfield Try.prog 78 0 = some (0, 1, false) := by kernel_rfl
theorem F49.inf78 : (Try.prog.info? 78).isSome = true := by kernel_rfl
theorem laws_eqPair_ok {fr : List Pc} {H : Heap} (v0 : AV) (l0 : List (Nat)) (v1 : AV) (l1 : List (Nat)) (hs : Sep H (fr)) (g0 : ∀ H, Sep H fr → Shows H v0 1 (enc (eFlt .f32) l0)) (g1 : ∀ H, Sep H fr → Shows H v1 1 (enc (eFlt .f32) l1)) (K : Bool → Prop) (h : laws_eqPair.wp l0 l1 K) : OkQ Try.prog 49 [(.g [v0]), (.g [v1])] H (fun r H2 => ∃ (y0 : Bool), K y0 ∧ r = (.v (.bool y0)) ∧ Sep H2 (fr)) := by
  unfold laws_eqPair.wp at h
  refine of_body Try.f49 F.hm Try.func49 rfl Try.call49 (by kernel_rfl) (by simp) ?_
  refine fi_seq ?_
  refine fi_region ?_
  refine sv_box hs rfl (c := [v0]) rfl F49.inf78 (stc (g0 _ hs).stor stn) nofun (fun id101 H102 hs => ?_)
  refine sv_box hs rfl (c := [v1]) rfl F49.inf78 (stc (g1 _ hs.tl).stor stn) nofun (fun id104 H105 hs => ?_)
  refine so_assign (v := (.v (.bool false))) rfl ?_
  refine so_nil ?_
  refine fi_seq ?_
  refine fi_seq ?_
  refine fi_region ?_
  refine so_fieldAddr rfl F49.fd78_0 ?_
  refine sv_ld hs 1 rfl rfl rfl F49.ag37 ?_
  refine so_fieldAddr rfl F49.fd78_0 ?_
  refine sv_ld hs 0 rfl rfl rfl F49.ag37 ?_
  refine sv_callS (laws_eqFloat32S_ok v0 l0 v1 l1 hs (fun _ hs => (g0 _ hs.tl.tl)) (fun _ hs => (g1 _ hs.tl.tl)) _ h) (fun _ _ ⟨_, _, _, e⟩ => e) rfl rfl ?_
  clear h
  rintro _ _ ⟨y107, h, rfl, rfl⟩
  refine so_un rfl au_not ?_
  refine so_nil ?_
  replace h := ofT h; rcases h with ⟨c109, h⟩ | ⟨c109, h⟩
  · refine fi_false rfl (not_f c109) ?_
    refine fi_skip ?_
    refine fi_seq ?_
    refine fi_region ?_
    refine so_assign (v := (.v (.bool true))) rfl ?_
    refine so_nil ?_
    exact by_ret rfl ⟨_, h, rfl, (Sep.del 0 (Sep.del 0 hs))⟩
  · refine fi_true rfl (not_t c109) ?_
    refine fi_seq ?_
    refine fi_region ?_
    refine so_assign (v := (.v (.bool false))) rfl ?_
    refine so_nil ?_
    exact by_ret rfl ⟨_, h, rfl, (Sep.del 0 (Sep.del 0 hs))⟩

end Go.Proofs.Ytpeijfnfffogeaa.G

namespace Go.Proofs.Ytpeijfnfffogeaa.G
open Go Go.Ab Go.Proofs Go.Proofs.Ytpeijfnfffogeaa
set_option maxRecDepth 100000
set_option linter.unusedVariables false
set_option linter.unusedSimpArgs false
set_option maxHeartbeats 1000000
attribute [local irreducible] wops wopf Go.Ab.Fin
theorem F50.fl25 : tflt Try.prog 25 = some .f32 := by kernel_rfl
theorem F50.in25 : tint Try.prog 25 = none := by kernel_rfl
theorem F50.sz25 : tsz Try.prog 25 = some 1 := by kernel_rfl
theorem F50.ti37 : (telem Try.prog 37).isSome = true := by kernel_rfl
theorem F50.tl37 : (telem Try.prog 37).bind (tsz Try.prog) = some 1 := by kernel_rfl
theorem F50.us3 : (Try.prog.underlying 3).isSome = true := by kernel_rfl
theorem laws_markFloat32S_ok {fr : List Pc} {H : Heap} (v0 : AV) (l0 : List (Nat)) (a1 : Int) (hs : Sep H (Pc.osl v0 1 (enc (eFlt .f32) l0) :: fr))  (K : Int → (List (Nat)) → Prop) (h : laws_markFloat32S.wp l0 a1 K) : OkQ Try.prog 50 [(.v v0), (.v (.int .i64 a1))] H (fun r H2 => ∃ (y0 : Int) (y1 : List (Nat)), K y0 y1 ∧ r = (.v (.int .i64 y0)) ∧ Sep H2 (Pc.osl v0 1 (enc (eFlt .f32) y1) :: fr)) := by
  unfold laws_markFloat32S.wp at h
  refine of_body Try.f50 F.hm Try.func50 rfl Try.call50 (by kernel_rfl) (by simp) ?_
  refine fi_seq ?_
  refine fi_region ?_
  refine so_assign (v := (.v (.int .i64 (0 : Int)))) rfl ?_
  refine so_nil ?_
  refine fi_seq ?_
  refine fi_seq ?_
  refine fi_region ?_
  refine so_assign (v := (.v (.int .i64 (0 : Int)))) rfl ?_
  refine so_nil ?_
  refine fi_block ?_
  refine fi_loop ?_
  refine fi_at [(0, (.v v0)), (1, (.v (.int .i64 a1))), (5, (.v (.int .i64 (0 : Int))))] ⟨rfl, rfl, rfl, trivial⟩ ?_
  refine h (fun (a109 : List (Nat)) (k110 : Int) (i111 : Int) => ∀ (s : Nat → TV) (H : Heap), Sep H (Pc.osl v0 1 (enc (eFlt .f32) a109) :: fr) → Fin _ _ (updL s [(0, (.v v0)), (1, (.v (.int .i64 k110))), (5, (.v (.int .i64 i111)))]) H _) ?_ _ _ hs
  intro a109 k110 i111 h s115 H116 hs
  refine fi_inLoop ?_
  refine fi_seq ?_
  refine fi_seq ?_
  refine fi_region ?_
  refine so_move (v := (.v (.int .i64 i111))) rfl ?_
  refine so_move (v := (.v v0)) rfl ?_
  refine sv_len (hs.shows 0 rfl) (fun _ => rfl) (by decide) rfl F50.ti37 ?_
  refine so_bin rfl rfl ab_lss ?_
  refine so_nil ?_
  replace h := ofP h; rcases h with ⟨c112, h⟩ | ⟨c112, h⟩
  · refine fi_true rfl (decide_eq_true c112) ?_
    refine fi_skip ?_
    refine fi_seq ?_
    refine fi_block ?_
    refine fi_seq ?_
    refine fi_region ?_
    refine so_move (v := (.v v0)) rfl ?_
    refine so_move (v := (.v (.int .i64 i111))) rfl ?_
    refine so_move (v := (.v (.int .i64 k110))) rfl ?_
    refine sv_if rfl F50.us3 F50.in25 F50.fl25 ?_
    obtain ⟨c113, h⟩ := h
    refine sv_idx (hs.shows 0 rfl) c113 (fun _ => rfl) (by decide) rfl rfl F50.tl37 ?_
    refine sv_set hs 0 rfl c113 (itof .f32 k110) (fun _ => rfl) (by decide) rfl rfl rfl rfl F50.sz25 nofun (fun H114 hs => ?_)
    refine so_nil ?_
    refine fi_region ?_
    refine so_move (v := (.v (.int .i64 k110))) rfl ?_
    refine so_bin rfl rfl ab_add ?_
    refine so_assign (v := (.v (.int .i64 (IntKind.i64.wrap (k110 + (1 : Int)))))) rfl ?_
    refine so_nil ?_
    refine fi_inBlock ?_
    refine fi_region ?_
    refine so_move (v := (.v (.int .i64 i111))) rfl ?_
    refine so_bin rfl rfl ab_add ?_
    refine so_assign (v := (.v (.int .i64 (IntKind.i64.wrap (i111 + (1 : Int)))))) rfl ?_
    refine so_nil ?_
    exact fi_at [(0, (.v v0)), (1, (.v (.int .i64 (IntKind.i64.wrap (k110 + (1 : Int)))))), (5, (.v (.int .i64 (IntKind.i64.wrap (i111 + (1 : Int))))))] ⟨rfl, rfl, rfl, trivial⟩ (h _ _  hs)
  · refine fi_false rfl (decide_eq_false c112) ?_
    refine fi_exit rfl ?_
    refine fi_seq ?_
    refine fi_region ?_
    refine so_move (v := (.v (.int .i64 k110))) rfl ?_
    refine so_assign (v := (.v (.int .i64 k110))) rfl ?_
    refine so_nil ?_
    exact by_ret rfl ⟨_, _, h, rfl, hs⟩

end Go.Proofs.Ytpeijfnfffogeaa.G

namespace Go.Proofs.Ytpeijfnfffogeaa.G
open Go Go.Ab Go.Proofs Go.Proofs.Ytpeijfnfffogeaa
set_option maxRecDepth 100000
set_option linter.unusedVariables false
set_option linter.unusedSimpArgs false
set_option maxHeartbeats 1000000
attribute [local irreducible] wops wopf Go.Ab.Fin
theorem F51.sz4 : tsz Try.prog 4 = some 1 := by kernel_rfl
theorem F51.ti42 : (telem Try.prog 42).isSome = true := by kernel_rfl
theorem F51.tl42 : (telem Try.prog 42).bind (tsz Try.prog) = some 1 := by kernel_rfl
theorem laws_markBoolS_ok {fr : List Pc} {H : Heap} (v0 : AV) (l0 : List (Bool)) (a1 : Int) (hs : Sep H (Pc.osl v0 1 (enc eBool l0) :: fr))  (K : Int → (List (Bool)) → Prop) (h : laws_markBoolS.wp l0 a1 K) : OkQ Try.prog 51 [(.v v0), (.v (.int .i64 a1))] H (fun r H2 => ∃ (y0 : Int) (y1 : List (Bool)), K y0 y1 ∧ r = (.v (.int .i64 y0)) ∧ Sep H2 (Pc.osl v0 1 (enc eBool y1) :: fr)) := by
  unfold laws_markBoolS.wp at h
  refine of_body Try.f51 F.hm Try.func51 rfl Try.call51 (by kernel_rfl) (by simp) ?_
  refine fi_seq ?_
  refine fi_region ?_
  refine so_assign (v := (.v (.int .i64 (0 : Int)))) rfl ?_
  refine so_nil ?_
  refine fi_seq ?_
  refine fi_seq ?_
  refine fi_region ?_
  refine so_assign (v := (.v (.int .i64 (0 : Int)))) rfl ?_
  refine so_nil ?_
  refine fi_block ?_
  refine fi_loop ?_
  refine fi_at [(0, (.v v0)), (1, (.v (.int .i64 a1))), (5, (.v (.int .i64 (0 : Int))))] ⟨rfl, rfl, rfl, trivial⟩ ?_
  refine h (fun (a109 : List (Bool)) (k110 : Int) (i111 : Int) => ∀ (s : Nat → TV) (H : Heap), Sep H (Pc.osl v0 1 (enc eBool a109) :: fr) → Fin _ _ (updL s [(0, (.v v0)), (1, (.v (.int .i64 k110))), (5, (.v (.int .i64 i111)))]) H _) ?_ _ _ hs
  intro a109 k110 i111 h s115 H116 hs
  refine fi_inLoop ?_
  refine fi_seq ?_
  refine fi_seq ?_
  refine fi_region ?_
  refine so_move (v := (.v (.int .i64 i111))) rfl ?_
  refine so_move (v := (.v v0)) rfl ?_
  refine sv_len (hs.shows 0 rfl) (fun _ => rfl) (by decide) rfl F51.ti42 ?_
  refine so_bin rfl rfl ab_lss ?_
  refine so_nil ?_
  replace h := ofP h; rcases h with ⟨c112, h⟩ | ⟨c112, h⟩
  · refine fi_true rfl (decide_eq_true c112) ?_
    refine fi_skip ?_
    refine fi_seq ?_
    refine fi_block ?_
    refine fi_seq ?_
    refine fi_region ?_
    refine so_move (v := (.v v0)) rfl ?_
    refine so_move (v := (.v (.int .i64 i111))) rfl ?_
    refine so_move (v := (.v (.int .i64 k110))) rfl ?_
    refine so_bin rfl rfl (ab_rem (by decide)) ?_
    refine so_bin rfl rfl ab_eql ?_
    obtain ⟨c113, h⟩ := h
    refine sv_idx (hs.shows 0 rfl) c113 (fun _ => rfl) (by decide) rfl rfl F51.tl42 ?_
    refine sv_set hs 0 rfl c113 (decide ((Int.tmod k110 (3 : Int)) = (0 : Int))) (fun _ => rfl) (by decide) rfl rfl rfl rfl F51.sz4 nofun (fun H114 hs => ?_)
    refine so_nil ?_
    refine fi_region ?_
    refine so_move (v := (.v (.int .i64 k110))) rfl ?_
    refine so_bin rfl rfl ab_add ?_
    refine so_assign (v := (.v (.int .i64 (IntKind.i64.wrap (k110 + (1 : Int)))))) rfl ?_
    refine so_nil ?_
    refine fi_inBlock ?_
    refine fi_region ?_
    refine so_move (v := (.v (.int .i64 i111))) rfl ?_
    refine so_bin rfl rfl ab_add ?_
    refine so_assign (v := (.v (.int .i64 (IntKind.i64.wrap (i111 + (1 : Int)))))) rfl ?_
    refine so_nil ?_
    exact fi_at [(0, (.v v0)), (1, (.v (.int .i64 (IntKind.i64.wrap (k110 + (1 : Int)))))), (5, (.v (.int .i64 (IntKind.i64.wrap (i111 + (1 : Int))))))] ⟨rfl, rfl, rfl, trivial⟩ (h _ _  hs)
  · refine fi_false rfl (decide_eq_false c112) ?_
    refine fi_exit rfl ?_
    refine fi_seq ?_
    refine fi_region ?_
    refine so_move (v := (.v (.int .i64 k110))) rfl ?_
    refine so_assign (v := (.v (.int .i64 k110))) rfl ?_
    refine so_nil ?_
    exact by_ret rfl ⟨_, _, h, rfl, hs⟩

end Go.Proofs.Ytpeijfnfffogeaa.G

namespace Go.Proofs.Ytpeijfnfffogeaa.G
open Go Go.Ab Go.Proofs Go.Proofs.Ytpeijfnfffogeaa
set_option maxRecDepth 100000
set_option linter.unusedVariables false
set_option linter.unusedSimpArgs false
set_option maxHeartbeats 1000000
attribute [local irreducible] wops wopf Go.Ab.Fin
theorem F52.ag37 : tagg Try.prog 37 = some false := by kernel_rfl
theorem F52.fd78_0 : tfield Try.prog 78 0 = some (0, 1, false) := by kernel_rfl
theorem F52.inf78 : (Try.prog.info? 78).isSome = true := by kernel_rfl
theorem laws_markPair_ok {fr : List Pc} {H : Heap} (v0 : AV) (l0 : List (Nat)) (a1 : Int) (hs : Sep H (Pc.osl v0 1 (enc (eFlt .f32) l0) :: fr))  (K : Int → (List (Nat)) → Prop) (h : laws_markPair.wp l0 a1 K) : OkQ Try.prog 52 [(.g [v0]), (.v (.int .i64 a1))] H (fun r H2 => ∃ (y0 : Int) (y1 : List (Nat)), K y0 y1 ∧ r = (.v (.int .i64 y0)) ∧ Sep H2 (Pc.osl v0 1 (enc (eFlt .f32) y1) :: fr)) := by
  unfold laws_markPair.wp at h
  refine of_body Try.f52 F.hm Try.func52 rfl Try.call52 (by kernel_rfl) (by simp) ?_
  refine fi_seq ?_
  refine fi_region ?_
  refine sv_box hs rfl (c := [v0]) rfl F52.inf78 (stc (hs.shows 0 rfl).stor stn) nofun (fun id102 H103 hs => ?_)
  refine so_assign (v := (.v (.int .i64 (0 : Int)))) rfl ?_
  refine so_nil ?_
  refine fi_seq ?_
  refine fi_region ?_
  refine so_fieldAddr rfl F52.fd78_0 ?_
  refine sv_ld hs 0 rfl rfl rfl F52.ag37 ?_
  refine so_move (v := (.v (.int .i64 a1))) rfl ?_
  replace hs := (Sep.front 1 hs rfl)
  refine sv_call (laws_markFloat32S_ok v0 l0 a1 hs  _ h) rfl rfl nofun ?_
  clear h hs
  rintro _ H107 ⟨y105, y106, h, rfl, hs⟩
  refine so_assign (v := (.v (.int .i64 y105))) rfl ?_
  refine so_nil ?_
  refine fi_seq ?_
  refine fi_region ?_
  refine so_move (v := (.v (.int .i64 y105))) rfl ?_
  refine so_assign (v := (.v (.int .i64 y105))) rfl ?_
  refine so_nil ?_
  exact by_ret rfl ⟨_, _, h, rfl, (Sep.del 1 hs)⟩

end Go.Proofs.Ytpeijfnfffogeaa.G

namespace Go.Proofs.Ytpeijfnfffogeaa.G
open Go Go.Ab Go.Proofs Go.Proofs.Ytpeijfnfffogeaa
set_option maxRecDepth 100000
set_option linter.unusedVariables false
set_option linter.unusedSimpArgs false
set_option maxHeartbeats 1000000
attribute [local irreducible] wops wopf Go.Ab.Fin
theorem F53.ag25 : tagg Try.prog 25 = some false := by kernel_rfl
theorem F53.fl25 : tflt Try.prog 25 = some .f32 := by kernel_rfl
theorem F53.in25 : tint Try.prog 25 = none := by kernel_rfl
theorem F53.ti37 : (telem Try.prog 37).isSome = true := by kernel_rfl
theorem F53.tl37 : (telem Try.prog 37).bind (tsz Try.prog) = some 1 := by kernel_rfl
theorem F53.us3 : (Try.prog.underlying 3).isSome = true := by kernel_rfl
theorem laws_heldFloat32S_ok {fr : List Pc} {H : Heap} (v0 : AV) (l0 : List (Nat)) (a1 : Int) (hs : Sep H (fr)) (g0 : ∀ H, Sep H fr → Shows H v0 1 (enc (eFlt .f32) l0)) (K : Int → Prop) (h : laws_heldFloat32S.wp l0 a1 K) : OkQ Try.prog 53 [(.v v0), (.v (.int .i64 a1))] H (fun r H2 => ∃ (y0 : Int), K y0 ∧ r = (.v (.int .i64 y0)) ∧ H = H2) := by
  unfold laws_heldFloat32S.wp at h
  refine of_body Try.f53 F.hm Try.func53 rfl Try.call53 (by kernel_rfl) (by simp) ?_
  refine fi_seq ?_
  refine fi_region ?_
  refine so_assign (v := (.v (.int .i64 (0 : Int)))) rfl ?_
  refine so_nil ?_
  refine fi_seq ?_
  refine fi_seq ?_
  refine fi_region ?_
  refine so_assign (v := (.v (.int .i64 (0 : Int)))) rfl ?_
  refine so_nil ?_
  refine fi_block ?_
  refine fi_loop ?_
  refine fi_at [(0, (.v v0)), (1, (.v (.int .i64 a1))), (5, (.v (.int .i64 (0 : Int))))] ⟨rfl, rfl, rfl, trivial⟩ ?_
  refine h (fun (k102 : Int) (i103 : Int) => ∀ (s : Nat → TV), Fin _ _ (updL s [(0, (.v v0)), (1, (.v (.int .i64 k102))), (5, (.v (.int .i64 i103)))]) _ _) ?_ _
  intro k102 i103 h s107
  refine fi_inLoop ?_
  refine fi_seq ?_
  refine fi_seq ?_
  refine fi_region ?_
  refine so_move (v := (.v (.int .i64 i103))) rfl ?_
  refine so_move (v := (.v v0)) rfl ?_
  refine sv_len (g0 _ hs) (fun _ => rfl) (by decide) rfl F53.ti37 ?_
  refine so_bin rfl rfl ab_lss ?_
  refine so_nil ?_
  replace h := ofP h; rcases h with ⟨c104, h⟩ | ⟨c104, h⟩
  · refine fi_true rfl (decide_eq_true c104) ?_
    refine fi_skip ?_
    refine fi_seq ?_
    refine fi_block ?_
    refine fi_seq ?_
    refine fi_seq ?_
    refine fi_region ?_
    refine so_move (v := (.v v0)) rfl ?_
    refine so_move (v := (.v (.int .i64 i103))) rfl ?_
    obtain ⟨c105, h⟩ := h
    refine sv_idx (g0 _ hs) c105 (fun _ => rfl) (by decide) rfl rfl F53.tl37 ?_
    refine sv_cell (g0 _ hs) c105 (0 : Nat) 0 (fun x => (AV.flt .f32 x)) (fun _ => rfl) (fun _ => rfl) rfl F53.ag25 ?_
    refine so_move (v := (.v (.int .i64 k102))) rfl ?_
    refine sv_if rfl F53.us3 F53.in25 F53.fl25 ?_
    refine so_bin rfl rfl ab_fneq ?_
    refine so_nil ?_
    replace h := ofT h; rcases h with ⟨c106, h⟩ | ⟨c106, h⟩
    · refine fi_true rfl c106 ?_
      refine fi_seq ?_
      refine fi_region ?_
      refine so_assign (v := (.v (.int .i64 (-1 : Int)))) rfl ?_
      refine so_nil ?_
      exact by_ret rfl ⟨_, h, rfl, rfl⟩
    · refine fi_false rfl c106 ?_
      refine fi_skip ?_
      refine fi_region ?_
      refine so_move (v := (.v (.int .i64 k102))) rfl ?_
      refine so_bin rfl rfl ab_add ?_
      refine so_assign (v := (.v (.int .i64 (IntKind.i64.wrap (k102 + (1 : Int)))))) rfl ?_
      refine so_nil ?_
      refine fi_inBlock ?_
      refine fi_region ?_
      refine so_move (v := (.v (.int .i64 i103))) rfl ?_
      refine so_bin rfl rfl ab_add ?_
      refine so_assign (v := (.v (.int .i64 (IntKind.i64.wrap (i103 + (1 : Int)))))) rfl ?_
      refine so_nil ?_
      exact fi_at [(0, (.v v0)), (1, (.v (.int .i64 (IntKind.i64.wrap (k102 + (1 : Int)))))), (5, (.v (.int .i64 (IntKind.i64.wrap (i103 + (1 : Int))))))] ⟨rfl, rfl, rfl, trivial⟩ (h _)
  · refine fi_false rfl (decide_eq_false c104) ?_
    refine fi_exit rfl ?_
    refine fi_seq ?_
    refine fi_region ?_
    refine so_move (v := (.v (.int .i64 k102))) rfl ?_
    refine so_assign (v := (.v (.int .i64 k102))) rfl ?_
    refine so_nil ?_
    exact by_ret rfl ⟨_, h, rfl, rfl⟩

end Go.Proofs.Ytpeijfnfffogeaa.G

namespace Go.Proofs.Ytpeijfnfffogeaa.G
open Go Go.Ab Go.Proofs Go.Proofs.Ytpeijfnfffogeaa
set_option maxRecDepth 100000
set_option linter.unusedVariables false
set_option linter.unusedSimpArgs false
set_option maxHeartbeats 1000000
attribute [local irreducible] wops wopf Go.Ab.Fin
theorem F8.ag72 : tagg Try.prog 72 = some true := by kernel_rfl
theorem F8.ag78 : tagg Try.prog 78 = some true := by kernel_rfl
theorem F8.inf72 : (Try.prog.info? 72).isSome = true := by kernel_rfl
theorem F8.sz72 : tsz Try.prog 72 = some 1 := by kernel_rfl
theorem F8.sz78 : tsz Try.prog 78 = some 1 := by kernel_rfl
theorem F8.tb4 : tbool Try.prog 4 = true := by kernel_rfl
theorem F8.ti37 : (telem Try.prog 37).isSome = true := by kernel_rfl
theorem F8.ti42 : (telem Try.prog 42).isSome = true := by kernel_rfl
theorem F8.ze78 : tzero Try.prog 78 = some [.nilsl] := by kernel_rfl
theorem laws_FnExactFillRounds_ok {fr : List Pc} {H : Heap} (v0 : AV) (l0 : List (Nat)) (v1 : AV) (l1 : List (Bool)) (v2 : AV) (l2 : List (Nat)) (a3 : Int) (a4 : Nat) (a5 : Nat) (a6 : Int) (hs : Sep H (fr)) (g0 : ∀ H, Sep H fr → Shows H v0 1 (enc (eFlt .f32) l0)) (g1 : ∀ H, Sep H fr → Shows H v1 1 (enc eBool l1)) (g2 : ∀ H, Sep H fr → Shows H v2 1 (enc (eFlt .f32) l2)) (K : Bool → Prop) (h : laws_FnExactFillRounds.wp l0 l1 l2 a3 a4 a5 a6 K) : OkQ Try.prog 8 [(.v v0), (.v v1), (.g [v2]), (.v (.int .i64 a3)), (.v (.flt .f32 a4)), (.v (.flt .f32 a5)), (.v (.int .i64 a6))] H (fun r H2 => ∃ (y0 : Bool), K y0 ∧ r = (.v (.bool y0)) ∧ Sep H2 (fr)) := by
  unfold laws_FnExactFillRounds.wp at h
  refine of_body Try.f8 F.hm Try.func8 rfl Try.call8 (by kernel_rfl) (by simp) ?_
  refine fi_seq ?_
  refine fi_region ?_
  refine sv_box hs rfl (c := [v2]) rfl F8.inf72 (stc (g2 _ hs).stor stn) nofun (fun id101 H102 hs => ?_)
  refine so_assign (v := (.v (.bool false))) rfl ?_
  refine so_nil ?_
  refine fi_seq ?_
  refine fi_seq ?_
  refine fi_region ?_
  refine so_move (v := (.v v0)) rfl ?_
  refine sv_len (g0 _ hs.tl) (fun _ => rfl) (by decide) rfl F8.ti37 ?_
  refine so_bin rfl rfl ab_gtr ?_
  refine so_nil ?_
  replace h := ofP h; rcases h with ⟨c104, h⟩ | ⟨c104, h⟩
  · refine fi_true rfl (decide_eq_true c104) ?_
    refine fi_seq ?_
    refine fi_region ?_
    refine so_assign (v := (.v (.bool true))) rfl ?_
    refine so_nil ?_
    exact by_ret rfl ⟨_, h, rfl, (Sep.del 0 hs)⟩
  · refine fi_false rfl (decide_eq_false c104) ?_
    refine fi_skip ?_
    refine fi_seq ?_
    refine fi_seq ?_
    refine fi_region ?_
    refine so_move (v := (.v v1)) rfl ?_
    refine sv_len (g1 _ hs.tl) (fun _ => rfl) (by decide) rfl F8.ti42 ?_
    refine so_bin rfl rfl ab_gtr ?_
    refine so_nil ?_
    replace h := ofP h; rcases h with ⟨c105, h⟩ | ⟨c105, h⟩
    · refine fi_true rfl (decide_eq_true c105) ?_
      refine fi_seq ?_
      refine fi_region ?_
      refine so_assign (v := (.v (.bool true))) rfl ?_
      refine so_nil ?_
      exact by_ret rfl ⟨_, h, rfl, (Sep.del 0 hs)⟩
    · refine fi_false rfl (decide_eq_false c105) ?_
      refine fi_skip ?_
      refine fi_seq ?_
      refine fi_region ?_
      refine so_assign (v := (.v (.int .i64 (1048576 : Int)))) rfl ?_
      refine so_nil ?_
      refine fi_seq ?_
      refine fi_region ?_
      refine sv_lds hs 0 rfl rfl (leb rfl) rfl F8.ag72 F8.sz72 ?_
      refine so_move (v := (.v (.int .i64 (1048576 : Int)))) rfl ?_
      refine sv_call (laws_szPair_ok v2 l2 (1048576 : Int) hs (fun _ hs => (g2 _ hs.tl)) _ h) rfl rfl nofun ?_
      clear h hs
      rintro _ H107 ⟨y106, h, rfl, hs⟩
      refine so_assign (v := (.v (.int .i64 y106))) rfl ?_
      refine so_nil ?_
      refine fi_seq ?_
      refine fi_seq ?_
      refine fi_region ?_
      refine so_move (v := (.v (.int .i64 y106))) rfl ?_
      refine so_bin rfl rfl ab_lss ?_
      refine so_nil ?_
      replace h := ofP h; rcases h with ⟨c108, h⟩ | ⟨c108, h⟩
      · refine fi_true rfl (decide_eq_true c108) ?_
        refine fi_seq ?_
        refine fi_region ?_
        refine so_assign (v := (.v (.bool true))) rfl ?_
        refine so_nil ?_
        exact by_ret rfl ⟨_, h, rfl, (Sep.del 0 hs)⟩
      · refine fi_false rfl (decide_eq_false c108) ?_
        refine fi_skip ?_
        refine fi_seq ?_
        refine fi_free [4] ?_
        refine wf_pure rfl (by kernel_rfl) ?_
        refine so_move (v := (.v v0)) rfl ?_
        refine so_end ?_
        have hs0_ := hs
        refine wf_chg (by kernel_rfl) ?_
        refine sv_call (laws_toFloat32S_ok v0 l0 hs (fun _ hs => (g0 _ hs.tl)) _ h) rfl rfl nofun ?_
        clear h
        rintro _ H112 ⟨y109, h, v110, rfl, hs⟩
        refine so_end ⟨fan, ?_⟩
        refine wf_pure rfl (by kernel_rfl) ?_
        refine so_move (v := (.v v1)) rfl ?_
        refine so_end ?_
        have hs1_ := hs
        refine wf_chg (by kernel_rfl) ?_
        refine sv_call (laws_toBoolS_ok v1 l1 hs (fun _ hs => (g1 _ hs.tl.tl)) _ h) rfl rfl nofun ?_
        clear h
        rintro _ H116 ⟨y113, h, v114, rfl, hs⟩
        refine so_end ⟨fan, ?_⟩
        refine wf_free (.g [v2]) rfl (by kernel_rfl) (stepr (i := 0) rfl (by refine sv_lds hs 2 rfl rfl (leb rfl) rfl F8.ag72 F8.sz72 ?_; exact so_end ⟨rfl, rfl⟩)) (fac (.inr (stepr (i := 0) rfl (by refine sv_lds hs1_ 1 rfl rfl (leb rfl) rfl F8.ag72 F8.sz72 ?_; exact so_end ⟨rfl, rfl⟩))) (fac (.inr (stepr (i := 0) rfl (by refine sv_lds hs0_ 0 rfl rfl (leb rfl) rfl F8.ag72 F8.sz72 ?_; exact so_end ⟨rfl, rfl⟩))) fan)) ?_
        have hs2_ := hs
        refine wf_chg (by kernel_rfl) ?_
        refine sv_call (laws_toPair_ok v2 l2 hs (fun _ hs => (g2 _ hs.tl.tl.tl)) _ h) rfl rfl nofun ?_
        clear h
        rintro _ H120 ⟨y117, h, v118, rfl, hs⟩
        refine so_end ⟨(fac (.inl ⟨5, by kernel_rfl⟩) fan), ?_⟩
        refine wf_pure rfl (by kernel_rfl) ?_
        refine so_move (v := (.v (.int .i64 a3))) rfl ?_
        refine so_end ?_
        refine wf_pure rfl (by kernel_rfl) ?_
        refine so_move (v := (.v (.flt .f32 a4))) rfl ?_
        refine so_end ?_
        refine wf_pure rfl (by kernel_rfl) ?_
        refine so_move (v := (.v (.flt .f32 a5))) rfl ?_
        refine so_end ?_
        refine wf_pure rfl (by kernel_rfl) ?_
        refine so_move (v := (.v (.int .i64 a6))) rfl ?_
        refine so_end ?_
        have hs3_ := hs
        refine wf_chg (by kernel_rfl) ?_
        refine sv_call (spec_FillRounds_ok v110 y109 v114 y113 v118 y117 a3 a4 a5 a6 hs (fun _ hs => (hs.shows 2 rfl)) (fun _ hs => (hs.shows 1 rfl)) (fun _ hs => (hs.shows 0 rfl)) _ h) rfl rfl nofun ?_
        clear h
        rintro _ H125 ⟨y121, y124, h, v122, rfl, hs⟩
        refine so_end ⟨(fac (.inl ⟨5, by kernel_rfl⟩) fan), ?_⟩
        refine wf_pure rfl (by kernel_rfl) ?_
        refine so_move (v := (.t [(.v v122), (.v (.bool y124))])) rfl ?_
        refine so_end ?_
        refine wf_pure rfl (by kernel_rfl) ?_
        refine so_extract rfl rfl rfl ?_
        refine so_end ?_
        refine wf_pure rfl (by kernel_rfl) ?_
        refine so_extract rfl rfl rfl ?_
        refine so_end ?_
        refine wf_pure rfl (by kernel_rfl) ?_
        refine so_assign (v := (.v v122)) rfl ?_
        refine so_end ?_
        refine wf_pure rfl (by kernel_rfl) ?_
        refine so_assign (v := (.v (.bool y124))) rfl ?_
        refine so_end ?_
        refine wf_nil ?_
        refine fi_seq ?_
        refine fi_region ?_
        refine so_move (v := (.v v0)) rfl ?_
        refine sv_call (laws_toFloat32S_ok v0 l0 hs (fun _ hs => (g0 _ hs.tl.tl.tl.tl.tl)) _ h) rfl rfl nofun ?_
        clear h hs
        rintro _ H129 ⟨y126, h, v127, rfl, hs⟩
        refine so_assign (v := (.v v127)) rfl ?_
        refine so_nil ?_
        refine fi_seq ?_
        refine fi_region ?_
        refine so_move (v := (.v v1)) rfl ?_
        refine sv_call (laws_toBoolS_ok v1 l1 hs (fun _ hs => (g1 _ hs.tl.tl.tl.tl.tl.tl)) _ h) rfl rfl nofun ?_
        clear h hs
        rintro _ H133 ⟨y130, h, v131, rfl, hs⟩
        refine so_assign (v := (.v v131)) rfl ?_
        refine so_nil ?_
        refine fi_seq ?_
        refine fi_region ?_
        refine sv_lds hs 6 rfl rfl (leb rfl) rfl F8.ag72 F8.sz72 ?_
        refine sv_call (laws_toPair_ok v2 l2 hs (fun _ hs => (g2 _ hs.tl.tl.tl.tl.tl.tl.tl)) _ h) rfl rfl nofun ?_
        clear h hs
        rintro _ H137 ⟨y134, h, v135, rfl, hs⟩
        refine sv_alloc hs F8.ze78 rfl nofun (fun id138 H139 hs => ?_)
        refine sv_st hs 0 rfl rfl rfl (c := [v135]) rfl F8.sz78 rfl (stc (hs.shows 1 rfl).stor stn) (leb rfl) (cs' := [v135]) rfl nofun (fun H141 hs => ?_)
        refine so_nil ?_
        refine fi_seq ?_
        refine fi_region ?_
        refine so_move (v := (.v v127)) rfl ?_
        refine so_move (v := (.v v131)) rfl ?_
        refine sv_lds hs 0 rfl rfl (leb rfl) rfl F8.ag78 F8.sz78 ?_
        refine so_move (v := (.v (.int .i64 a3))) rfl ?_
        refine so_move (v := (.v (.flt .f32 a4))) rfl ?_
        refine so_move (v := (.v (.flt .f32 a5))) rfl ?_
        refine so_move (v := (.v (.int .i64 a6))) rfl ?_
        refine sv_call (impl_FillRounds_ok v127 y126 v131 y130 v135 y134 a3 a4 a5 a6 hs (fun _ hs => (hs.shows 3 rfl)) (fun _ hs => (hs.shows 2 rfl)) (fun _ hs => (hs.shows 1 rfl)) _ h) rfl rfl nofun ?_
        clear h hs
        rintro _ H146 ⟨y142, y145, h, v143, rfl, hs⟩
        refine so_move (v := (.t [(.v v143), (.v (.bool y145))])) rfl ?_
        refine so_extract rfl rfl rfl ?_
        refine so_extract rfl rfl rfl ?_
        refine so_assign (v := (.v v143)) rfl ?_
        refine so_assign (v := (.v (.bool y145))) rfl ?_
        refine so_nil ?_
        refine fi_seq ?_
        refine fi_seq ?_
        refine fi_region ?_
        refine so_move (v := (.v v143)) rfl ?_
        refine so_move (v := (.v v122)) rfl ?_
        refine sv_callS (laws_eqFloat32S_ok v143 y142 v122 y121 hs (fun _ hs => (hs.shows 0 rfl)) (fun _ hs => (hs.shows 5 rfl)) _ h) (fun _ _ ⟨_, _, _, e⟩ => e) rfl rfl ?_
        clear h
        rintro _ _ ⟨y147, h, rfl, rfl⟩
        refine so_un rfl au_not ?_
        refine so_move (v := (.v (.bool (!y147)))) rfl ?_
        replace h := ofT h; rcases h with ⟨c149, h⟩ | ⟨c149, h⟩
        · refine so_gyes rfl (not_f c149) ?_
          refine so_move (v := (.v (.bool y145))) rfl ?_
          refine so_gyes rfl (not_f c149) ?_
          refine so_move (v := (.v (.bool y124))) rfl ?_
          refine so_gyes rfl (not_f c149) ?_
          refine so_bin rfl rfl (ab_bneq F8.tb4) ?_
          refine so_pick_f (v := (.v (.bool (!(y145 == y124))))) rfl (not_f c149) rfl ?_
          refine so_nil ?_
          replace h := ofT h; rcases h with ⟨c150, h⟩ | ⟨c150, h⟩
          · refine fi_false rfl (not_f c150) ?_
            refine fi_skip ?_
            refine fi_seq ?_
            refine fi_seq ?_
            refine fi_region ?_
            refine so_move (v := (.v v127)) rfl ?_
            refine so_move (v := (.v v0)) rfl ?_
            refine sv_call (laws_toFloat32S_ok v0 l0 hs (fun _ hs => (g0 _ hs.tl.tl.tl.tl.tl.tl.tl.tl.tl.tl)) _ h) rfl rfl nofun ?_
            clear h hs
            rintro _ H154 ⟨y151, h, v152, rfl, hs⟩
            refine sv_callS (laws_eqFloat32S_ok v127 y126 v152 y151 hs (fun _ hs => (hs.shows 5 rfl)) (fun _ hs => (hs.shows 0 rfl)) _ h) (fun _ _ ⟨_, _, _, e⟩ => e) rfl rfl ?_
            clear h
            rintro _ _ ⟨y155, h, rfl, rfl⟩
            refine so_un rfl au_not ?_
            refine so_nil ?_
            replace h := ofT h; rcases h with ⟨c157, h⟩ | ⟨c157, h⟩
            · refine fi_false rfl (not_f c157) ?_
              refine fi_skip ?_
              refine fi_seq ?_
              refine fi_seq ?_
              refine fi_region ?_
              refine so_move (v := (.v v131)) rfl ?_
              refine so_move (v := (.v v1)) rfl ?_
              refine sv_call (laws_toBoolS_ok v1 l1 hs (fun _ hs => (g1 _ hs.tl.tl.tl.tl.tl.tl.tl.tl.tl.tl.tl)) _ h) rfl rfl nofun ?_
              clear h hs
              rintro _ H161 ⟨y158, h, v159, rfl, hs⟩
              refine sv_callS (laws_eqBoolS_ok v131 y130 v159 y158 hs (fun _ hs => (hs.shows 5 rfl)) (fun _ hs => (hs.shows 0 rfl)) _ h) (fun _ _ ⟨_, _, _, e⟩ => e) rfl rfl ?_
              clear h
              rintro _ _ ⟨y162, h, rfl, rfl⟩
              refine so_un rfl au_not ?_
              refine so_nil ?_
              replace h := ofT h; rcases h with ⟨c164, h⟩ | ⟨c164, h⟩
              · refine fi_false rfl (not_f c164) ?_
                refine fi_skip ?_
                refine fi_seq ?_
                refine fi_seq ?_
                refine fi_free [0] ?_
                refine wf_free (.g [v135]) rfl (by kernel_rfl) (stepr (i := 0) rfl (by refine sv_lds hs 3 rfl rfl (leb rfl) rfl F8.ag78 F8.sz78 ?_; exact so_end ⟨rfl, rfl⟩)) fan ?_
                refine wf_same (by decide +kernel) (by kernel_rfl) ?_
                refine sv_lds hs 11 rfl rfl (leb rfl) rfl F8.ag72 F8.sz72 ?_
                refine so_end ⟨rfl, ?_⟩
                have hs0_ := hs
                refine wf_chg (by kernel_rfl) ?_
                refine sv_call (laws_toPair_ok v2 l2 hs (fun _ hs => (g2 _ hs.tl.tl.tl.tl.tl.tl.tl.tl.tl.tl.tl.tl)) _ h) rfl rfl nofun ?_
                clear h
                rintro _ H168 ⟨y165, h, v166, rfl, hs⟩
                refine so_end ⟨(fac (.inr (stepr (i := 0) rfl (by refine sv_lds hs 4 rfl rfl (leb rfl) rfl F8.ag78 F8.sz78 ?_; exact so_end ⟨rfl, rfl⟩))) fan), ?_⟩
                have hs1_ := hs
                refine wf_chg (by kernel_rfl) ?_
                refine sv_call (laws_eqPair_ok v135 y134 v166 y165 hs (fun _ hs => (hs.shows 5 rfl)) (fun _ hs => (hs.shows 0 rfl)) _ h) rfl rfl nofun ?_
                clear h
                rintro _ H170 ⟨y169, h, rfl, hs⟩
                refine so_end ⟨(fac (.inl ⟨3, by kernel_rfl⟩) fan), ?_⟩
                refine wf_pure rfl (by kernel_rfl) ?_
                refine so_un rfl au_not ?_
                refine so_end ?_
                refine wf_nil ?_
                replace h := ofT h; rcases h with ⟨c171, h⟩ | ⟨c171, h⟩
                · refine fi_false rfl (not_f c171) ?_
                  refine fi_skip ?_
                  refine fi_seq ?_
                  refine fi_region ?_
                  refine so_assign (v := (.v (.int .i64 (1 : Int)))) rfl ?_
                  refine so_nil ?_
                  refine fi_seq ?_
                  refine fi_region ?_
                  refine so_move (v := (.v v127)) rfl ?_
                  refine so_move (v := (.v (.int .i64 (1 : Int)))) rfl ?_
                  replace hs := (Sep.front 7 hs rfl)
                  refine sv_call (laws_markFloat32S_ok v127 y126 (1 : Int) hs  _ h) rfl rfl nofun ?_
                  clear h hs
                  rintro _ H174 ⟨y172, y173, h, rfl, hs⟩
                  refine so_assign (v := (.v (.int .i64 y172))) rfl ?_
                  refine so_nil ?_
                  refine fi_seq ?_
                  refine fi_region ?_
                  refine so_move (v := (.v v131)) rfl ?_
                  refine so_move (v := (.v (.int .i64 y172))) rfl ?_
                  replace hs := (Sep.front 7 hs rfl)
                  refine sv_call (laws_markBoolS_ok v131 y130 y172 hs  _ h) rfl rfl nofun ?_
                  clear h hs
                  rintro _ H177 ⟨y175, y176, h, rfl, hs⟩
                  refine so_assign (v := (.v (.int .i64 y175))) rfl ?_
                  refine so_nil ?_
                  refine fi_seq ?_
                  refine fi_region ?_
                  refine sv_lds hs 6 rfl rfl (leb rfl) rfl F8.ag78 F8.sz78 ?_
                  refine so_move (v := (.v (.int .i64 y175))) rfl ?_
                  replace hs := (Sep.front 7 hs rfl)
                  refine sv_call (laws_markPair_ok v135 y134 y175 hs  _ h) rfl rfl nofun ?_
                  clear h hs
                  rintro _ H180 ⟨y178, y179, h, rfl, hs⟩
                  refine so_assign (v := (.v (.int .i64 y178))) rfl ?_
                  refine so_nil ?_
                  refine fi_seq ?_
                  refine fi_seq ?_
                  refine fi_region ?_
                  refine so_move (v := (.v (.int .i64 y178))) rfl ?_
                  refine so_bin rfl rfl ab_lss ?_
                  refine so_move (v := (.v (.bool (decide (y178 < (0 : Int)))))) rfl ?_
                  replace h := ofP h; rcases h with ⟨c181, h⟩ | ⟨c181, h⟩
                  · refine so_gno rfl (decide_eq_true c181) ?_
                    refine so_gno rfl (decide_eq_true c181) ?_
                    refine so_gno rfl (decide_eq_true c181) ?_
                    refine so_gno rfl (decide_eq_true c181) ?_
                    refine so_pick_t (v := (.v (.bool true))) rfl (decide_eq_true c181) rfl ?_
                    refine so_move (v := (.v (.bool true))) rfl ?_
                    refine so_gno rfl rfl ?_
                    refine so_gno rfl rfl ?_
                    refine so_gno rfl rfl ?_
                    refine so_pick_t (v := (.v (.bool true))) rfl rfl rfl ?_
                    refine so_nil ?_
                    refine fi_true rfl rfl ?_
                    refine fi_seq ?_
                    refine fi_region ?_
                    refine so_assign (v := (.v (.bool false))) rfl ?_
                    refine so_nil ?_
                    exact by_ret rfl ⟨_, h, rfl, (Sep.dropn 13 hs)⟩
                  · refine so_gyes rfl (decide_eq_false c181) ?_
                    refine so_move (v := (.v v143)) rfl ?_
                    refine so_gyes rfl (decide_eq_false c181) ?_
                    refine so_move (v := (.v v122)) rfl ?_
                    refine so_gyes rfl (decide_eq_false c181) ?_
                    refine sv_callS (laws_eqFloat32S_ok v143 y142 v122 y121 hs (fun _ hs => (hs.shows 6 rfl)) (fun _ hs => (hs.shows 8 rfl)) _ h) (fun _ _ ⟨_, _, _, e⟩ => e) rfl rfl ?_
                    clear h
                    rintro _ _ ⟨y182, h, rfl, rfl⟩
                    refine so_gyes rfl (decide_eq_false c181) ?_
                    refine so_un rfl au_not ?_
                    refine so_pick_f (v := (.v (.bool (!y182)))) rfl (decide_eq_false c181) rfl ?_
                    refine so_move (v := (.v (.bool (!y182)))) rfl ?_
                    replace h := ofT h; rcases h with ⟨c184, h⟩ | ⟨c184, h⟩
                    · refine so_gyes rfl (not_f c184) ?_
                      refine so_move (v := (.v (.bool y145))) rfl ?_
                      refine so_gyes rfl (not_f c184) ?_
                      refine so_move (v := (.v (.bool y124))) rfl ?_
                      refine so_gyes rfl (not_f c184) ?_
                      refine so_bin rfl rfl (ab_bneq F8.tb4) ?_
                      refine so_pick_f (v := (.v (.bool (!(y145 == y124))))) rfl (not_f c184) rfl ?_
                      refine so_nil ?_
                      refine fi_false rfl (not_f c150) ?_
                      refine fi_skip ?_
                      refine fi_seq ?_
                      refine fi_region ?_
                      refine so_assign (v := (.v (.int .i64 (1 : Int)))) rfl ?_
                      refine so_nil ?_
                      refine fi_seq ?_
                      refine fi_region ?_
                      refine so_move (v := (.v v143)) rfl ?_
                      refine so_move (v := (.v (.int .i64 (1 : Int)))) rfl ?_
                      replace hs := (Sep.front 6 hs rfl)
                      refine sv_call (laws_markFloat32S_ok v143 y142 (1 : Int) hs  _ h) rfl rfl nofun ?_
                      clear h hs
                      rintro _ H187 ⟨y185, y186, h, rfl, hs⟩
                      refine so_assign (v := (.v (.int .i64 y185))) rfl ?_
                      refine so_nil ?_
                      refine fi_seq ?_
                      refine fi_region ?_
                      refine so_assign (v := (.v (.int .i64 (1 : Int)))) rfl ?_
                      refine so_nil ?_
                      refine fi_seq ?_
                      refine fi_region ?_
                      refine so_move (v := (.v v143)) rfl ?_
                      refine so_move (v := (.v (.int .i64 (1 : Int)))) rfl ?_
                      refine sv_callS (laws_heldFloat32S_ok v143 y186 (1 : Int) hs (fun _ hs => (hs.shows 0 rfl)) _ h) (fun _ _ ⟨_, _, _, e⟩ => e) rfl rfl ?_
                      clear h
                      rintro _ _ ⟨y188, h, rfl, rfl⟩
                      refine so_assign (v := (.v (.int .i64 y188))) rfl ?_
                      refine so_nil ?_
                      refine fi_seq ?_
                      refine fi_seq ?_
                      refine fi_region ?_
                      refine so_move (v := (.v (.int .i64 y188))) rfl ?_
                      refine so_bin rfl rfl ab_lss ?_
                      refine so_nil ?_
                      replace h := ofP h; rcases h with ⟨c190, h⟩ | ⟨c190, h⟩
                      · refine fi_true rfl (decide_eq_true c190) ?_
                        refine fi_seq ?_
                        refine fi_region ?_
                        refine so_assign (v := (.v (.bool false))) rfl ?_
                        refine so_nil ?_
                        exact by_ret rfl ⟨_, h, rfl, (Sep.dropn 13 hs)⟩
                      · refine fi_false rfl (decide_eq_false c190) ?_
                        refine fi_skip ?_
                        refine fi_seq ?_
                        refine fi_seq ?_
                        refine fi_region ?_
                        refine so_move (v := (.v (.int .i64 y188))) rfl ?_
                        refine so_move (v := (.v (.int .i64 y185))) rfl ?_
                        refine so_bin rfl rfl ab_neq ?_
                        refine so_nil ?_
                        replace h := ofP h; rcases h with ⟨c191, h⟩ | ⟨c191, h⟩
                        · refine fi_false rfl (not_f (decide_eq_true c191)) ?_
                          refine fi_skip ?_
                          refine fi_seq ?_
                          refine fi_free [4] ?_
                          refine wf_pure rfl (by kernel_rfl) ?_
                          refine so_move (v := (.v v0)) rfl ?_
                          refine so_end ?_
                          have hs0_ := hs
                          refine wf_chg (by kernel_rfl) ?_
                          refine sv_call (laws_toFloat32S_ok v0 l0 hs (fun _ hs => (g0 _ hs.tl.tl.tl.tl.tl.tl.tl.tl.tl.tl.tl.tl.tl)) _ h) rfl rfl nofun ?_
                          clear h
                          rintro _ H195 ⟨y192, h, v193, rfl, hs⟩
                          refine so_end ⟨fan, ?_⟩
                          refine wf_pure rfl (by kernel_rfl) ?_
                          refine so_move (v := (.v v1)) rfl ?_
                          refine so_end ?_
                          have hs1_ := hs
                          refine wf_chg (by kernel_rfl) ?_
                          refine sv_call (laws_toBoolS_ok v1 l1 hs (fun _ hs => (g1 _ hs.tl.tl.tl.tl.tl.tl.tl.tl.tl.tl.tl.tl.tl.tl)) _ h) rfl rfl nofun ?_
                          clear h
                          rintro _ H199 ⟨y196, h, v197, rfl, hs⟩
                          refine so_end ⟨fan, ?_⟩
                          refine wf_free (.g [v2]) rfl (by kernel_rfl) (stepr (i := 0) rfl (by refine sv_lds hs 14 rfl rfl (leb rfl) rfl F8.ag72 F8.sz72 ?_; exact so_end ⟨rfl, rfl⟩)) (fac (.inr (stepr (i := 0) rfl (by refine sv_lds hs1_ 13 rfl rfl (leb rfl) rfl F8.ag72 F8.sz72 ?_; exact so_end ⟨rfl, rfl⟩))) (fac (.inr (stepr (i := 0) rfl (by refine sv_lds hs0_ 12 rfl rfl (leb rfl) rfl F8.ag72 F8.sz72 ?_; exact so_end ⟨rfl, rfl⟩))) fan)) ?_
                          have hs2_ := hs
                          refine wf_chg (by kernel_rfl) ?_
                          refine sv_call (laws_toPair_ok v2 l2 hs (fun _ hs => (g2 _ hs.tl.tl.tl.tl.tl.tl.tl.tl.tl.tl.tl.tl.tl.tl.tl)) _ h) rfl rfl nofun ?_
                          clear h
                          rintro _ H203 ⟨y200, h, v201, rfl, hs⟩
                          refine so_end ⟨(fac (.inl ⟨5, by kernel_rfl⟩) fan), ?_⟩
                          refine wf_pure rfl (by kernel_rfl) ?_
                          refine so_move (v := (.v (.int .i64 a3))) rfl ?_
                          refine so_end ?_
                          refine wf_pure rfl (by kernel_rfl) ?_
                          refine so_move (v := (.v (.flt .f32 a4))) rfl ?_
                          refine so_end ?_
                          refine wf_pure rfl (by kernel_rfl) ?_
                          refine so_move (v := (.v (.flt .f32 a5))) rfl ?_
                          refine so_end ?_
                          refine wf_pure rfl (by kernel_rfl) ?_
                          refine so_move (v := (.v (.int .i64 a6))) rfl ?_
                          refine so_end ?_
                          have hs3_ := hs
                          refine wf_chg (by kernel_rfl) ?_
                          refine sv_call (impl_FillRounds_ok v193 y192 v197 y196 v201 y200 a3 a4 a5 a6 hs (fun _ hs => (hs.shows 2 rfl)) (fun _ hs => (hs.shows 1 rfl)) (fun _ hs => (hs.shows 0 rfl)) _ h) rfl rfl nofun ?_
                          clear h
                          rintro _ H208 ⟨y204, y207, h, v205, rfl, hs⟩
                          refine so_end ⟨(fac (.inl ⟨5, by kernel_rfl⟩) fan), ?_⟩
                          refine wf_pure rfl (by kernel_rfl) ?_
                          refine so_move (v := (.t [(.v v205), (.v (.bool y207))])) rfl ?_
                          refine so_end ?_
                          refine wf_pure rfl (by kernel_rfl) ?_
                          refine so_extract rfl rfl rfl ?_
                          refine so_end ?_
                          refine wf_pure rfl (by kernel_rfl) ?_
                          refine so_extract rfl rfl rfl ?_
                          refine so_end ?_
                          refine wf_pure rfl (by kernel_rfl) ?_
                          refine so_assign (v := (.v v205)) rfl ?_
                          refine so_end ?_
                          refine wf_pure rfl (by kernel_rfl) ?_
                          refine so_assign (v := (.v (.bool y207))) rfl ?_
                          refine so_end ?_
                          refine wf_nil ?_
                          refine fi_seq ?_
                          refine fi_seq ?_
                          refine fi_region ?_
                          refine so_move (v := (.v v205)) rfl ?_
                          refine so_move (v := (.v v122)) rfl ?_
                          refine sv_callS (laws_eqFloat32S_ok v205 y204 v122 y121 hs (fun _ hs => (hs.shows 0 rfl)) (fun _ hs => (hs.shows 12 rfl)) _ h) (fun _ _ ⟨_, _, _, e⟩ => e) rfl rfl ?_
                          clear h
                          rintro _ _ ⟨y209, h, rfl, rfl⟩
                          refine so_un rfl au_not ?_
                          refine so_move (v := (.v (.bool (!y209)))) rfl ?_
                          replace h := ofT h; rcases h with ⟨c211, h⟩ | ⟨c211, h⟩
                          · refine so_gyes rfl (not_f c211) ?_
                            refine so_move (v := (.v (.bool y207))) rfl ?_
                            refine so_gyes rfl (not_f c211) ?_
                            refine so_move (v := (.v (.bool y124))) rfl ?_
                            refine so_gyes rfl (not_f c211) ?_
                            refine so_bin rfl rfl (ab_bneq F8.tb4) ?_
                            refine so_pick_f (v := (.v (.bool (!(y207 == y124))))) rfl (not_f c211) rfl ?_
                            refine so_nil ?_
                            replace h := ofT h; rcases h with ⟨c212, h⟩ | ⟨c212, h⟩
                            · refine fi_false rfl (not_f c212) ?_
                              refine fi_skip ?_
                              refine fi_seq ?_
                              refine fi_region ?_
                              refine so_assign (v := (.v (.int .i64 (1 : Int)))) rfl ?_
                              refine so_nil ?_
                              refine fi_seq ?_
                              refine fi_region ?_
                              refine so_move (v := (.v v143)) rfl ?_
                              refine so_move (v := (.v (.int .i64 (1 : Int)))) rfl ?_
                              refine sv_callS (laws_heldFloat32S_ok v143 y186 (1 : Int) hs (fun _ hs => (hs.shows 4 rfl)) _ h) (fun _ _ ⟨_, _, _, e⟩ => e) rfl rfl ?_
                              clear h
                              rintro _ _ ⟨y213, h, rfl, rfl⟩
                              refine so_assign (v := (.v (.int .i64 y213))) rfl ?_
                              refine so_nil ?_
                              refine fi_seq ?_
                              refine fi_seq ?_
                              refine fi_region ?_
                              refine so_move (v := (.v (.int .i64 y213))) rfl ?_
                              refine so_bin rfl rfl ab_lss ?_
                              refine so_nil ?_
                              replace h := ofP h; rcases h with ⟨c215, h⟩ | ⟨c215, h⟩
                              · refine fi_true rfl (decide_eq_true c215) ?_
                                refine fi_seq ?_
                                refine fi_region ?_
                                refine so_assign (v := (.v (.bool false))) rfl ?_
                                refine so_nil ?_
                                exact by_ret rfl ⟨_, h, rfl, (Sep.dropn 17 hs)⟩
                              · refine fi_false rfl (decide_eq_false c215) ?_
                                refine fi_skip ?_
                                refine fi_seq ?_
                                refine fi_seq ?_
                                refine fi_region ?_
                                refine so_move (v := (.v (.int .i64 y213))) rfl ?_
                                refine so_move (v := (.v (.int .i64 y185))) rfl ?_
                                refine so_bin rfl rfl ab_neq ?_
                                refine so_nil ?_
                                replace h := ofP h; rcases h with ⟨c216, h⟩ | ⟨c216, h⟩
                                · refine fi_false rfl (not_f (decide_eq_true c216)) ?_
                                  refine fi_skip ?_
                                  refine fi_seq ?_
                                  refine fi_region ?_
                                  refine so_assign (v := (.v (.bool true))) rfl ?_
                                  refine so_nil ?_
                                  exact by_ret rfl ⟨_, h, rfl, (Sep.dropn 17 hs)⟩
                                · refine fi_true rfl (not_t (decide_eq_false c216)) ?_
                                  refine fi_seq ?_
                                  refine fi_region ?_
                                  refine so_assign (v := (.v (.bool false))) rfl ?_
                                  refine so_nil ?_
                                  exact by_ret rfl ⟨_, h, rfl, (Sep.dropn 17 hs)⟩
                            · refine fi_true rfl (not_t c212) ?_
                              refine fi_seq ?_
                              refine fi_region ?_
                              refine so_assign (v := (.v (.bool false))) rfl ?_
                              refine so_nil ?_
                              exact by_ret rfl ⟨_, h, rfl, (Sep.dropn 17 hs)⟩
                          · refine so_gno rfl (not_t c211) ?_
                            refine so_gno rfl (not_t c211) ?_
                            refine so_gno rfl (not_t c211) ?_
                            refine so_pick_t (v := (.v (.bool true))) rfl (not_t c211) rfl ?_
                            refine so_nil ?_
                            refine fi_true rfl rfl ?_
                            refine fi_seq ?_
                            refine fi_region ?_
                            refine so_assign (v := (.v (.bool false))) rfl ?_
                            refine so_nil ?_
                            exact by_ret rfl ⟨_, h, rfl, (Sep.dropn 17 hs)⟩
                        · refine fi_true rfl (not_t (decide_eq_false c191)) ?_
                          refine fi_seq ?_
                          refine fi_region ?_
                          refine so_assign (v := (.v (.bool false))) rfl ?_
                          refine so_nil ?_
                          exact by_ret rfl ⟨_, h, rfl, (Sep.dropn 13 hs)⟩
                    · refine so_gno rfl (not_t c184) ?_
                      refine so_gno rfl (not_t c184) ?_
                      refine so_gno rfl (not_t c184) ?_
                      refine so_pick_t (v := (.v (.bool true))) rfl (not_t c184) rfl ?_
                      refine so_nil ?_
                      refine fi_true rfl rfl ?_
                      refine fi_seq ?_
                      refine fi_region ?_
                      refine so_assign (v := (.v (.bool false))) rfl ?_
                      refine so_nil ?_
                      exact by_ret rfl ⟨_, h, rfl, (Sep.dropn 13 hs)⟩
                · refine fi_true rfl (not_t c171) ?_
                  refine fi_seq ?_
                  refine fi_region ?_
                  refine so_assign (v := (.v (.bool false))) rfl ?_
                  refine so_nil ?_
                  exact by_ret rfl ⟨_, h, rfl, (Sep.dropn 13 hs)⟩
              · refine fi_true rfl (not_t c164) ?_
                refine fi_seq ?_
                refine fi_region ?_
                refine so_assign (v := (.v (.bool false))) rfl ?_
                refine so_nil ?_
                exact by_ret rfl ⟨_, h, rfl, (Sep.dropn 12 hs)⟩
            · refine fi_true rfl (not_t c157) ?_
              refine fi_seq ?_
              refine fi_region ?_
              refine so_assign (v := (.v (.bool false))) rfl ?_
              refine so_nil ?_
              exact by_ret rfl ⟨_, h, rfl, (Sep.dropn 11 hs)⟩
          · refine fi_true rfl (not_t c150) ?_
            refine fi_seq ?_
            refine fi_region ?_
            refine so_assign (v := (.v (.bool false))) rfl ?_
            refine so_nil ?_
            exact by_ret rfl ⟨_, h, rfl, (Sep.dropn 10 hs)⟩
        · refine so_gno rfl (not_t c149) ?_
          refine so_gno rfl (not_t c149) ?_
          refine so_gno rfl (not_t c149) ?_
          refine so_pick_t (v := (.v (.bool true))) rfl (not_t c149) rfl ?_
          refine so_nil ?_
          refine fi_true rfl rfl ?_
          refine fi_seq ?_
          refine fi_region ?_
          refine so_assign (v := (.v (.bool false))) rfl ?_
          refine so_nil ?_
          exact by_ret rfl ⟨_, h, rfl, (Sep.dropn 10 hs)⟩

end Go.Proofs.Ytpeijfnfffogeaa.G

