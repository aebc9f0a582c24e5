/-
  The model ends so. Printed by a program of the session; nothing here is trusted.
-/
import Derived.Test.YtfhlhgnipmgfdaaProg
import Derived.KernelRfl
import Derived.Test.YtfhlhgnipmgfdaaMExactRateTableWa
import Derived.Test.YtfhlhgnipmgfdaaMExactRateTableKa
namespace Go.Proofs.Ytfhlhgnipmgfdaa.G
open Go Go.Ab Go.Proofs Go.Proofs.Ytfhlhgnipmgfdaa
set_option maxRecDepth 100000
set_option linter.unusedVariables false
set_option linter.unusedSimpArgs false
set_option maxHeartbeats 1000000
attribute [local irreducible] wops wopf Go.Ab.Fin
theorem impl_finite_ok {fr : List Pc} {H : Heap} (a0 : Nat) (hs : Sep H (fr))  (K : Nat → Bool → Prop) (h : impl_finite.wp a0 K) : OkQ Try.prog 99 [(.v (.flt .f32 a0))] H (fun r H2 => ∃ (y0 : Nat) (y1 : Bool), K y0 y1 ∧ r = (.t [(.v (.flt .f32 y0)), (.v (.bool y1))]) ∧ H = H2) := by
  unfold impl_finite.wp at h
  refine of_body Try.f99 F.hm Try.func99 rfl Try.call99 (by kernel_rfl) (by simp) ?_
  refine fi_seq ?_
  refine fi_region ?_
  refine so_assign (v := (.v (.flt .f32 (cz .f32 0)))) rfl ?_
  refine so_assign (v := (.v (.bool false))) rfl ?_
  refine so_nil ?_
  refine fi_seq ?_
  refine fi_seq ?_
  refine fi_region ?_
  refine so_move (v := (.v (.flt .f32 a0))) rfl ?_
  refine sv_callS (impl_IsFinite_ok a0 hs  _ h) (fun _ _ ⟨_, _, _, e⟩ => e) rfl rfl ?_
  clear h
  rintro _ _ ⟨y101, h, rfl, rfl⟩
  refine so_un rfl au_not ?_
  refine so_nil ?_
  replace h := ofT h; rcases h with ⟨c103, h⟩ | ⟨c103, h⟩
  · refine fi_false rfl (not_f c103) ?_
    refine fi_skip ?_
    refine fi_seq ?_
    refine fi_region ?_
    refine so_move (v := (.v (.flt .f32 a0))) rfl ?_
    refine so_assign (v := (.v (.flt .f32 a0))) rfl ?_
    refine so_assign (v := (.v (.bool true))) rfl ?_
    refine so_nil ?_
    exact by_ret rfl ⟨_, _, h, rfl, rfl⟩
  · refine fi_true rfl (not_t c103) ?_
    refine fi_seq ?_
    refine fi_region ?_
    refine so_assign (v := (.v (.flt .f32 (cz .f32 0)))) rfl ?_
    refine so_assign (v := (.v (.bool false))) rfl ?_
    refine so_nil ?_
    exact by_ret rfl ⟨_, _, h, rfl, rfl⟩
theorem F50.ag2 : tagg Try.prog 2 = some false := by kernel_rfl
theorem F50.ag26 : tagg Try.prog 26 = some false := by kernel_rfl
theorem F50.ag38 : tagg Try.prog 38 = some true := by kernel_rfl
theorem F50.fl26 : tflt Try.prog 26 = some .f32 := by kernel_rfl
theorem F50.in26 : tint Try.prog 26 = none := by kernel_rfl
theorem F50.inf38 : (Try.prog.info? 38).isSome = true := by kernel_rfl
theorem F50.sz2 : tsz Try.prog 2 = some 1 := by kernel_rfl
theorem F50.sz38 : tsz Try.prog 38 = some 2 := by kernel_rfl
theorem F50.ta28_28 : tapp Try.prog 28 28 = some (1, 8) := by kernel_rfl
theorem F50.te28 : telem Try.prog 28 = some 2 := by kernel_rfl
theorem F50.ti24 : (telem Try.prog 24).isSome = true := by kernel_rfl
theorem F50.ti28 : (telem Try.prog 28).isSome = true := by kernel_rfl
theorem F50.tl24 : (telem Try.prog 24).bind (tsz Try.prog) = some 1 := by kernel_rfl
theorem F50.tl28 : (telem Try.prog 28).bind (tsz Try.prog) = some 1 := by kernel_rfl
theorem F50.us3 : (Try.prog.underlying 3).isSome = true := by kernel_rfl
theorem F50.ze2 : tzero Try.prog 2 = some [(.int .i64 (0 : Int))] := by kernel_rfl
theorem impl_missAbove_ok {fr : List Pc} {H : Heap} (v0 : AV) (l0 : List (Nat)) (a1 : Nat) (v2 : AV) (l2 : List (Nat)) (v3 : AV) (l3 : List (Int)) (a4 : Int) (a5 : Int) (a6 : Nat) (hs : Sep H (fr)) (g0 : ∀ H, Sep H fr → Shows H v0 1 (enc (eFlt .f32) l0)) (g2 : ∀ H, Sep H fr → Shows H v2 1 (enc (eFlt .f32) l2)) (g3 : ∀ H, Sep H fr → Shows H v3 1 (enc (eInt .i64) l3)) (K : Nat → Bool → Prop) (h : impl_missAbove.wp l0 a1 l2 l3 a4 a5 a6 K) : OkQ Try.prog 50 [(.g [v0, (.flt .f32 a1)]), (.v v2), (.v v3), (.v (.int .i64 a4)), (.v (.int .i64 a5)), (.v (.flt .f32 a6))] H (fun r H2 => ∃ (y0 : Nat) (y1 : Bool), K y0 y1 ∧ r = (.t [(.v (.flt .f32 y0)), (.v (.bool y1))]) ∧ Sep H2 (fr)) := by
  unfold impl_missAbove.wp at h
  refine of_body Try.f50 F.hm Try.func50 rfl Try.call50 (by kernel_rfl) (by simp) ?_
  refine fi_seq ?_
  refine fi_region ?_
  refine sv_box hs rfl (c := [v0, (.flt .f32 a1)]) rfl F50.inf38 (stc (g0 _ hs).stor (stc rfl stn)) nofun (fun id101 H102 hs => ?_)
  refine so_assign (v := (.v (.flt .f32 (cz .f32 0)))) rfl ?_
  refine so_assign (v := (.v (.bool false))) rfl ?_
  refine so_nil ?_
  refine fi_seq ?_
  refine fi_region ?_
  refine sv_bslice hs (eInt .i64) ([] : List (Int)) [] F50.te28 F50.sz2 F50.ze2 rfl rfl rfl rfl (fun _ => rfl) rfl (by decide) nofun (fun v104 H105 nv104 hs => ?_)
  refine so_assign (v := (.v v104)) rfl ?_
  refine so_nil ?_
  refine fi_seq ?_
  refine fi_seq ?_
  refine fi_region ?_
  refine so_move (v := (.v v3)) rfl ?_
  refine sv_len (g3 _ hs.tl.tl) (fun _ => rfl) (by decide) rfl F50.ti28 ?_
  refine so_move (v := (.v (.int .i64 (0 : Int)))) rfl ?_
  refine so_nil ?_
  refine fi_block ?_
  refine fi_loop ?_
  refine fi_at [(1, (.v v2)), (3, (.v (.int .i64 a4))), (4, (.v (.int .i64 a5))), (5, (.v (.flt .f32 a6))), (6, (.v (.ptr id101 0))), (14, (.v v104)), (26, (.v v3)), (27, (.v (.int .i64 (l3.length : Int)))), (28, (.v (.int .i64 (0 : Int))))] ⟨rfl, rfl, rfl, rfl, rfl, rfl, rfl, rfl, rfl, trivial⟩ ?_
  refine h (fun (cut155 : List (Int)) (x157 : Int) => ∀ (s : Nat → TV) (H : Heap) (v156 : AV) (nv156 : v156 ≠ .nilsl), Sep H (Pc.osl v156 1 (enc (eInt .i64) cut155) :: Pc.box id101 [v0, (.flt .f32 a1)] :: fr) → Fin _ _ (updL s [(1, (.v v2)), (3, (.v (.int .i64 a4))), (4, (.v (.int .i64 a5))), (5, (.v (.flt .f32 a6))), (6, (.v (.ptr id101 0))), (14, (.v v156)), (26, (.v v3)), (27, (.v (.int .i64 (l3.length : Int)))), (28, (.v (.int .i64 x157)))]) H _) ?_ _ _ _ nv104 hs
  intro cut155 x157 h s201 H202 v156 nv156 hs
  refine fi_inLoop ?_
  refine fi_seq ?_
  refine fi_region ?_
  refine so_bin rfl rfl ab_lss ?_
  refine so_nil ?_
  refine fi_seq ?_
  replace h := ofP h; rcases h with ⟨c158, h⟩ | ⟨c158, h⟩
  · refine fi_true rfl (decide_eq_true c158) ?_
    refine fi_skip ?_
    refine fi_seq ?_
    refine fi_block ?_
    refine fi_seq ?_
    refine fi_region ?_
    obtain ⟨c159, h⟩ := h
    refine sv_idx (g3 _ hs.tl.tl) c159 (fun _ => rfl) (by decide) rfl rfl F50.tl28 ?_
    refine sv_cell (g3 _ hs.tl.tl) c159 (0 : Int) 0 (fun x => (AV.int .i64 x)) (fun _ => rfl) (fun _ => rfl) rfl F50.ag2 ?_
    refine so_assign (v := (.v (.int .i64 (l3.getD (x157).toNat (0 : Int))))) rfl ?_
    refine so_nil ?_
    refine fi_region ?_
    refine so_move (v := (.v v156)) rfl ?_
    refine so_move (v := (.v (.int .i64 (l3.getD (x157).toNat (0 : Int))))) rfl ?_
    refine so_move (v := (.v (.int .i64 a5))) rfl ?_
    refine sv_callS (impl_above_ok (l3.getD (x157).toNat (0 : Int)) a5 hs  _ h) (fun _ _ ⟨_, _, _, e⟩ => e) rfl rfl ?_
    clear h
    rintro _ _ ⟨y160, h, rfl, rfl⟩
    refine sv_bslice hs (eInt .i64) ([y160] : List (Int)) [[(.int .i64 y160)]] F50.te28 F50.sz2 F50.ze2 rfl rfl rfl rfl (fun _ => rfl) rfl (by decide) nofun (fun v162 H163 nv162 hs => ?_)
    obtain ⟨c167, h⟩ := h
    refine sv_app hs 1 rfl (hs.shows 0 rfl) (fun _ => rfl) (by decide) F50.ta28_28 (by decide) c167 rfl rfl nofun (fun v165 H166 kv165 hs => ?_)
    replace hs := hs.del 0
    have nv165 := kv165 nv156
    refine so_assign (v := (.v v165)) rfl ?_
    refine so_nil ?_
    refine fi_inBlock ?_
    refine fi_region ?_
    refine so_bin rfl rfl ab_add ?_
    refine so_move (v := (.v (.int .i64 (IntKind.i64.wrap (x157 + (1 : Int)))))) rfl ?_
    refine so_nil ?_
    exact fi_at [(1, (.v v2)), (3, (.v (.int .i64 a4))), (4, (.v (.int .i64 a5))), (5, (.v (.flt .f32 a6))), (6, (.v (.ptr id101 0))), (14, (.v v165)), (26, (.v v3)), (27, (.v (.int .i64 (l3.length : Int)))), (28, (.v (.int .i64 (IntKind.i64.wrap (x157 + (1 : Int))))))] ⟨rfl, rfl, rfl, rfl, rfl, rfl, rfl, rfl, rfl, trivial⟩ (h _ _ _ nv165 hs)
  · refine fi_false rfl (decide_eq_false c158) ?_
    refine fi_exit rfl ?_
    refine fi_seq ?_
    refine fi_region ?_
    refine so_move (v := (.v v156)) rfl ?_
    refine so_move (v := (.v (.flt .f32 a6))) rfl ?_
    refine sv_call (impl_ListOfScale_ok v156 cut155 a6 (cz .f32 1056964608) hs (fun _ hs => (hs.shows 0 rfl)) _ h) rfl rfl nofun ?_
    clear h hs
    rintro _ H172 ⟨y168, y171, h, v169, rfl, hs⟩
    refine so_move (v := (.t [(.v v169), (.v (.bool y171))])) rfl ?_
    refine so_extract rfl rfl rfl ?_
    refine so_extract rfl rfl rfl ?_
    refine so_assign (v := (.v v169)) rfl ?_
    refine so_assign (v := (.v (.bool y171))) rfl ?_
    refine so_nil ?_
    refine fi_seq ?_
    refine fi_seq ?_
    refine fi_region ?_
    refine so_move (v := (.v (.bool y171))) rfl ?_
    refine so_un rfl au_not ?_
    refine so_nil ?_
    replace h := ofT h; rcases h with ⟨c173, h⟩ | ⟨c173, h⟩
    · refine fi_false rfl (not_f c173) ?_
      refine fi_skip ?_
      refine fi_seq ?_
      refine fi_region ?_
      refine so_move (v := (.v v169)) rfl ?_
      refine so_move (v := (.v (.int .i64 a4))) rfl ?_
      refine sv_call (impl_CutFlat_ok v169 y168 a4 hs (fun _ hs => (hs.shows 0 rfl)) _ h) rfl rfl nofun ?_
      clear h hs
      rintro _ H180 ⟨y174, y179, h, v175, ws177, S178, rfl, hs⟩
      refine so_move (v := (.t [(.v v175), (.v (.bool y179))])) rfl ?_
      refine so_extract rfl rfl rfl ?_
      refine so_extract rfl rfl rfl ?_
      refine so_assign (v := (.v v175)) rfl ?_
      refine so_assign (v := (.v (.bool y179))) rfl ?_
      refine so_nil ?_
      refine fi_seq ?_
      refine fi_seq ?_
      refine fi_region ?_
      refine so_move (v := (.v (.bool y179))) rfl ?_
      refine so_un rfl au_not ?_
      refine so_nil ?_
      replace h := ofT h; rcases h with ⟨c181, h⟩ | ⟨c181, h⟩
      · refine fi_false rfl (not_f c181) ?_
        refine fi_skip ?_
        refine fi_seq ?_
        refine fi_region ?_
        refine sv_lds hs 3 rfl rfl (leb rfl) rfl F50.ag38 F50.sz38 ?_
        refine so_move (v := (.v v175)) rfl ?_
        refine sv_call (impl_DropDeep_ok v0 l0 a1 v175 ws177 y174 hs (fun _ hs => (g0 _ hs.tl.tl.tl.tl)) (fun _ hs => (hs.dshows 0 rfl)) _ h) rfl rfl nofun ?_
        clear h hs
        rintro _ H186 ⟨y182, y185, h, v183, rfl, hs⟩
        refine so_move (v := (.t [(.v v183), (.v (.bool y185))])) rfl ?_
        refine so_extract rfl rfl rfl ?_
        refine so_extract rfl rfl rfl ?_
        refine so_assign (v := (.v v183)) rfl ?_
        refine so_assign (v := (.v (.bool y185))) rfl ?_
        refine so_nil ?_
        refine fi_seq ?_
        refine fi_seq ?_
        refine fi_region ?_
        refine so_move (v := (.v (.bool y185))) rfl ?_
        refine so_un rfl au_not ?_
        refine so_nil ?_
        replace h := ofT h; rcases h with ⟨c187, h⟩ | ⟨c187, h⟩
        · refine fi_false rfl (not_f c187) ?_
          refine fi_skip ?_
          refine fi_seq ?_
          refine fi_region ?_
          refine so_assign (v := (.v (.flt .f32 (cz .f32 0)))) rfl ?_
          refine so_nil ?_
          refine fi_seq ?_
          refine fi_seq ?_
          refine fi_region ?_
          refine so_move (v := (.v v2)) rfl ?_
          refine sv_len (g2 _ hs.tl.tl.tl.tl.tl) (fun _ => rfl) (by decide) rfl F50.ti24 ?_
          refine so_move (v := (.v (.int .i64 (0 : Int)))) rfl ?_
          refine so_nil ?_
          refine fi_block ?_
          refine fi_loop ?_
          replace hs := hs.del 1
          replace hs := hs.del 1
          replace hs := hs.del 1
          replace hs := hs.del 1
          refine fi_at [(1, (.v v2)), (20, (.v v183)), (21, (.v (.flt .f32 (cz .f32 0)))), (63, (.v v2)), (64, (.v (.int .i64 (l2.length : Int)))), (65, (.v (.int .i64 (0 : Int))))] ⟨rfl, rfl, rfl, rfl, rfl, rfl, trivial⟩ ?_
          refine h (fun (sum189 : Nat) (x190 : Int) => ∀ (s : Nat → TV) (H : Heap), Sep H (Pc.osl v183 1 (enc (eFlt .f32) y182) :: fr) → Fin _ _ (updL s [(1, (.v v2)), (20, (.v v183)), (21, (.v (.flt .f32 sum189))), (63, (.v v2)), (64, (.v (.int .i64 (l2.length : Int)))), (65, (.v (.int .i64 x190)))]) H _) ?_ _ _ hs
          intro sum189 x190 h s199 H200 hs
          refine fi_inLoop ?_
          refine fi_seq ?_
          refine fi_region ?_
          refine so_bin rfl rfl ab_lss ?_
          refine so_nil ?_
          refine fi_seq ?_
          replace h := ofP h; rcases h with ⟨c191, h⟩ | ⟨c191, h⟩
          · refine fi_true rfl (decide_eq_true c191) ?_
            refine fi_skip ?_
            refine fi_seq ?_
            refine fi_block ?_
            refine fi_seq ?_
            refine fi_region ?_
            refine so_move (v := (.v (.int .i64 x190))) rfl ?_
            obtain ⟨c192, h⟩ := h
            refine sv_idx (g2 _ hs.tl) c192 (fun _ => rfl) (by decide) rfl rfl F50.tl24 ?_
            refine sv_cell (g2 _ hs.tl) c192 (0 : Nat) 0 (fun x => (AV.flt .f32 x)) (fun _ => rfl) (fun _ => rfl) rfl F50.ag26 ?_
            refine so_assign (v := (.v (.int .i64 x190))) rfl ?_
            refine so_assign (v := (.v (.flt .f32 (l2.getD (x190).toNat (0 : Nat))))) rfl ?_
            refine so_nil ?_
            refine fi_seq ?_
            refine fi_region ?_
            refine so_move (v := (.v (.flt .f32 (l2.getD (x190).toNat (0 : Nat))))) rfl ?_
            refine so_move (v := (.v v183)) rfl ?_
            refine so_move (v := (.v (.int .i64 x190))) rfl ?_
            obtain ⟨c193, h⟩ := h
            refine sv_idx (hs.shows 0 rfl) c193 (fun _ => rfl) (by decide) rfl rfl F50.tl24 ?_
            refine sv_cell (hs.shows 0 rfl) c193 (0 : Nat) 0 (fun x => (AV.flt .f32 x)) (fun _ => rfl) (fun _ => rfl) rfl F50.ag26 ?_
            refine so_bin rfl rfl ab_fsub ?_
            refine so_assign (v := (.v (.flt .f32 (fop .sub .f32 (l2.getD (x190).toNat (0 : Nat)) (y182.getD (x190).toNat (0 : Nat)))))) rfl ?_
            refine so_nil ?_
            refine fi_region ?_
            refine so_move (v := (.v (.flt .f32 sum189))) rfl ?_
            refine so_move (v := (.v (.flt .f32 (fop .sub .f32 (l2.getD (x190).toNat (0 : Nat)) (y182.getD (x190).toNat (0 : Nat)))))) rfl ?_
            refine so_move (v := (.v (.flt .f32 (fop .sub .f32 (l2.getD (x190).toNat (0 : Nat)) (y182.getD (x190).toNat (0 : Nat)))))) rfl ?_
            refine so_bin rfl rfl ab_fmul ?_
            refine so_bin rfl rfl ab_fadd ?_
            refine so_assign (v := (.v (.flt .f32 (fop .add .f32 sum189 (fop .mul .f32 (fop .sub .f32 (l2.getD (x190).toNat (0 : Nat)) (y182.getD (x190).toNat (0 : Nat))) (fop .sub .f32 (l2.getD (x190).toNat (0 : Nat)) (y182.getD (x190).toNat (0 : Nat)))))))) rfl ?_
            refine so_nil ?_
            refine fi_inBlock ?_
            refine fi_region ?_
            refine so_bin rfl rfl ab_add ?_
            refine so_move (v := (.v (.int .i64 (IntKind.i64.wrap (x190 + (1 : Int)))))) rfl ?_
            refine so_nil ?_
            exact fi_at [(1, (.v v2)), (20, (.v v183)), (21, (.v (.flt .f32 (fop .add .f32 sum189 (fop .mul .f32 (fop .sub .f32 (l2.getD (x190).toNat (0 : Nat)) (y182.getD (x190).toNat (0 : Nat))) (fop .sub .f32 (l2.getD (x190).toNat (0 : Nat)) (y182.getD (x190).toNat (0 : Nat)))))))), (63, (.v v2)), (64, (.v (.int .i64 (l2.length : Int)))), (65, (.v (.int .i64 (IntKind.i64.wrap (x190 + (1 : Int))))))] ⟨rfl, rfl, rfl, rfl, rfl, rfl, trivial⟩ (h _ _  hs)
          · refine fi_false rfl (decide_eq_false c191) ?_
            refine fi_exit rfl ?_
            refine fi_seq ?_
            refine fi_region ?_
            refine so_move (v := (.v (.flt .f32 sum189))) rfl ?_
            refine so_move (v := (.v v2)) rfl ?_
            refine sv_len (g2 _ hs.tl) (fun _ => rfl) (by decide) rfl F50.ti24 ?_
            refine sv_if rfl F50.us3 F50.in26 F50.fl26 ?_
            refine so_bin rfl rfl ab_fquo ?_
            refine sv_callS (impl_RootNumber_ok (fop .quo .f32 sum189 (itof .f32 (l2.length : Int))) hs  _ h) (fun _ _ ⟨_, _, _, e⟩ => e) rfl rfl ?_
            clear h
            rintro _ _ ⟨y194, h, rfl, rfl⟩
            refine sv_callS (impl_finite_ok y194 hs  _ h) (fun _ _ ⟨_, _, _, _, e⟩ => e) rfl rfl ?_
            clear h
            rintro _ _ ⟨y196, y197, h, rfl, rfl⟩
            refine so_extract rfl rfl rfl ?_
            refine so_extract rfl rfl rfl ?_
            refine so_assign (v := (.v (.flt .f32 y196))) rfl ?_
            refine so_assign (v := (.v (.bool y197))) rfl ?_
            refine so_nil ?_
            exact by_ret rfl ⟨_, _, h, rfl, (Sep.del 0 hs)⟩
        · refine fi_true rfl (not_t c187) ?_
          refine fi_seq ?_
          refine fi_region ?_
          refine so_assign (v := (.v (.flt .f32 (cz .f32 0)))) rfl ?_
          refine so_assign (v := (.v (.bool false))) rfl ?_
          refine so_nil ?_
          exact by_ret rfl ⟨_, _, h, rfl, (Sep.dropn 5 hs)⟩
      · refine fi_true rfl (not_t c181) ?_
        refine fi_seq ?_
        refine fi_region ?_
        refine so_assign (v := (.v (.flt .f32 (cz .f32 0)))) rfl ?_
        refine so_assign (v := (.v (.bool false))) rfl ?_
        refine so_nil ?_
        exact by_ret rfl ⟨_, _, h, rfl, (Sep.dropn 4 hs)⟩
    · refine fi_true rfl (not_t c173) ?_
      refine fi_seq ?_
      refine fi_region ?_
      refine so_assign (v := (.v (.flt .f32 (cz .f32 0)))) rfl ?_
      refine so_assign (v := (.v (.bool false))) rfl ?_
      refine so_nil ?_
      exact by_ret rfl ⟨_, _, h, rfl, (Sep.del 0 (Sep.del 0 (Sep.del 0 hs)))⟩
theorem impl_missAbove_okS {fr : List Pc} {H : Heap} (v0 : AV) (l0 : List (Nat)) (a1 : Nat) (v2 : AV) (l2 : List (Nat)) (v3 : AV) (l3 : List (Int)) (a4 : Int) (a5 : Int) (a6 : Nat) (hs : Sep H fr) (g0 : ∀ H, Sep H fr → Shows H v0 1 (enc (eFlt .f32) l0)) (g2 : ∀ H, Sep H fr → Shows H v2 1 (enc (eFlt .f32) l2)) (g3 : ∀ H, Sep H fr → Shows H v3 1 (enc (eInt .i64) l3)) (K : Nat → Bool → Prop) (h : impl_missAbove.wp l0 a1 l2 l3 a4 a5 a6 K) : OkQ Try.prog 50 [(.g [v0, (.flt .f32 a1)]), (.v v2), (.v v3), (.v (.int .i64 a4)), (.v (.int .i64 a5)), (.v (.flt .f32 a6))] H (fun r H2 => ∃ (y0 : Nat) (y1 : Bool), K y0 y1 ∧ r = (.t [(.v (.flt .f32 y0)), (.v (.bool y1))]) ∧ H = H2) := by
  obtain ⟨r, H2, h1, y0, y1, hK, hr, hsep⟩ := impl_missAbove_ok (fr := came H) (H := H) v0 l0 a1 v2 l2 v3 l3 a4 a5 a6 (came_sep H) (came_shows (g0 H hs)) (came_shows (g2 H hs)) (came_shows (g3 H hs)) K h
  have hk : H.n ≤ H2.n ∧ ∀ i, i < H.n → H2.f i = H.f i := hsep.1.2.1
  exact ⟨r, H, h1.forget hk.1 hk.2 (by subst hr; rfl), y0, y1, hK, hr, rfl⟩
theorem impl_size_ok {fr : List Pc} {H : Heap} (a0 : Nat) (hs : Sep H (fr))  (K : Nat → Prop) (h : impl_size.wp a0 K) : OkQ Try.prog 42 [(.v (.flt .f32 a0))] H (fun r H2 => ∃ (y0 : Nat), K y0 ∧ r = (.v (.flt .f32 y0)) ∧ H = H2) := by
  unfold impl_size.wp at h
  refine of_body Try.f42 F.hm Try.func42 rfl Try.call42 (by kernel_rfl) (by simp) ?_
  refine fi_seq ?_
  refine fi_region ?_
  refine so_assign (v := (.v (.flt .f32 (cz .f32 0)))) rfl ?_
  refine so_nil ?_
  refine fi_seq ?_
  refine fi_seq ?_
  refine fi_region ?_
  refine so_move (v := (.v (.flt .f32 a0))) rfl ?_
  refine so_bin rfl rfl ab_flss ?_
  refine so_nil ?_
  replace h := ofT h; rcases h with ⟨c101, h⟩ | ⟨c101, h⟩
  · refine fi_true rfl c101 ?_
    refine fi_seq ?_
    refine fi_region ?_
    refine so_move (v := (.v (.flt .f32 a0))) rfl ?_
    refine so_un rfl au_fneg' ?_
    refine so_assign (v := (.v (.flt .f32 (fneg .f32 a0)))) rfl ?_
    refine so_nil ?_
    exact by_ret rfl ⟨_, h, rfl, rfl⟩
  · refine fi_false rfl c101 ?_
    refine fi_skip ?_
    refine fi_seq ?_
    refine fi_seq ?_
    refine fi_region ?_
    refine so_move (v := (.v (.flt .f32 a0))) rfl ?_
    refine so_bin rfl rfl ab_feql ?_
    refine so_nil ?_
    replace h := ofT h; rcases h with ⟨c102, h⟩ | ⟨c102, h⟩
    · refine fi_true rfl c102 ?_
      refine fi_seq ?_
      refine fi_region ?_
      refine so_assign (v := (.v (.flt .f32 (cz .f32 0)))) rfl ?_
      refine so_nil ?_
      exact by_ret rfl ⟨_, h, rfl, rfl⟩
    · refine fi_false rfl c102 ?_
      refine fi_skip ?_
      refine fi_seq ?_
      refine fi_region ?_
      refine so_move (v := (.v (.flt .f32 a0))) rfl ?_
      refine so_assign (v := (.v (.flt .f32 a0))) rfl ?_
      refine so_nil ?_
      exact by_ret rfl ⟨_, h, rfl, rfl⟩
theorem F9.ag26 : tagg Try.prog 26 = some false := by kernel_rfl
theorem F9.it2 : tint Try.prog 2 = some .i64 := by kernel_rfl
theorem F9.sz2 : tsz Try.prog 2 = some 1 := by kernel_rfl
theorem F9.ta28_28 : tapp Try.prog 28 28 = some (1, 8) := by kernel_rfl
theorem F9.te28 : telem Try.prog 28 = some 2 := by kernel_rfl
theorem F9.ti24 : (telem Try.prog 24).isSome = true := by kernel_rfl
theorem F9.tl24 : (telem Try.prog 24).bind (tsz Try.prog) = some 1 := by kernel_rfl
theorem F9.us26 : (Try.prog.underlying 26).isSome = true := by kernel_rfl
theorem F9.ze2 : tzero Try.prog 2 = some [(.int .i64 (0 : Int))] := by kernel_rfl
theorem impl_ScaleList_ok {fr : List Pc} {H : Heap} (v0 : AV) (l0 : List (Nat)) (a1 : Nat) (hs : Sep H (fr)) (g0 : ∀ H, Sep H fr → Shows H v0 1 (enc (eFlt .f32) l0)) (K : (List (Int)) → Bool → Prop) (h : impl_ScaleList.wp l0 a1 K) : OkQ Try.prog 9 [(.v v0), (.v (.flt .f32 a1))] H (fun r H2 => ∃ (y0 : List (Int)) (y1 : Bool), K y0 y1 ∧ ∃ (w0_ : AV), r = (.t [(.v w0_), (.v (.bool y1))]) ∧ Sep H2 (Pc.osl w0_ 1 (enc (eInt .i64) y0) :: fr)) := by
  unfold impl_ScaleList.wp at h
  refine of_body Try.f9 F.hm Try.func9 rfl Try.call9 (by kernel_rfl) (by simp) ?_
  refine fi_seq ?_
  refine fi_region ?_
  refine so_assign (v := (.v .nilsl)) rfl ?_
  refine so_assign (v := (.v (.bool false))) rfl ?_
  refine so_nil ?_
  refine fi_seq ?_
  refine fi_seq ?_
  refine fi_region ?_
  refine so_move (v := (.v v0)) rfl ?_
  refine sv_callS (impl_IsList_okS v0 l0 hs (fun _ hs => (g0 _ hs)) _ h) (fun _ _ ⟨_, _, _, e⟩ => e) rfl rfl ?_
  clear h
  rintro _ _ ⟨y101, h, rfl, rfl⟩
  refine so_un rfl au_not ?_
  refine so_move (v := (.v (.bool (!y101)))) rfl ?_
  replace h := ofT h; rcases h with ⟨c103, h⟩ | ⟨c103, h⟩
  · refine so_gyes rfl (not_f c103) ?_
    refine so_move (v := (.v (.flt .f32 a1))) rfl ?_
    refine so_gyes rfl (not_f c103) ?_
    refine sv_callS (impl_isOver_ok a1 hs  _ h) (fun _ _ ⟨_, _, _, e⟩ => e) rfl rfl ?_
    clear h
    rintro _ _ ⟨y104, h, rfl, rfl⟩
    refine so_gyes rfl (not_f c103) ?_
    refine so_un rfl au_not ?_
    refine so_pick_f (v := (.v (.bool (!y104)))) rfl (not_f c103) rfl ?_
    refine so_nil ?_
    replace h := ofT h; rcases h with ⟨c106, h⟩ | ⟨c106, h⟩
    · refine fi_false rfl (not_f c106) ?_
      refine fi_skip ?_
      refine fi_seq ?_
      refine fi_region ?_
      refine sv_bslice hs (eInt .i64) ([] : List (Int)) [] F9.te28 F9.sz2 F9.ze2 rfl rfl rfl rfl (fun _ => rfl) rfl (by decide) nofun (fun v107 H108 nv107 hs => ?_)
      refine so_assign (v := (.v v107)) rfl ?_
      refine so_nil ?_
      refine fi_seq ?_
      refine fi_seq ?_
      refine fi_region ?_
      refine so_move (v := (.v v0)) rfl ?_
      refine sv_len (g0 _ hs.tl) (fun _ => rfl) (by decide) rfl F9.ti24 ?_
      refine so_move (v := (.v (.int .i64 (0 : Int)))) rfl ?_
      refine so_nil ?_
      refine fi_block ?_
      refine fi_loop ?_
      refine fi_at [(1, (.v (.flt .f32 a1))), (6, (.v v107)), (19, (.v v0)), (20, (.v (.int .i64 (l0.length : Int)))), (21, (.v (.int .i64 (0 : Int))))] ⟨rfl, rfl, rfl, rfl, rfl, trivial⟩ ?_
      refine h (fun (out127 : List (Int)) (x129 : Int) => ∀ (s : Nat → TV) (H : Heap) (v128 : AV) (nv128 : v128 ≠ .nilsl), Sep H (Pc.osl v128 1 (enc (eInt .i64) out127) :: fr) → Fin _ _ (updL s [(1, (.v (.flt .f32 a1))), (6, (.v v128)), (19, (.v v0)), (20, (.v (.int .i64 (l0.length : Int)))), (21, (.v (.int .i64 x129)))]) H _) ?_ _ _ _ nv107 hs
      intro out127 x129 h s142 H143 v128 nv128 hs
      refine fi_inLoop ?_
      refine fi_seq ?_
      refine fi_region ?_
      refine so_bin rfl rfl ab_lss ?_
      refine so_nil ?_
      refine fi_seq ?_
      replace h := ofP h; rcases h with ⟨c130, h⟩ | ⟨c130, h⟩
      · refine fi_true rfl (decide_eq_true c130) ?_
        refine fi_skip ?_
        refine fi_seq ?_
        refine fi_block ?_
        refine fi_seq ?_
        refine fi_region ?_
        obtain ⟨c131, h⟩ := h
        refine sv_idx (g0 _ hs.tl) c131 (fun _ => rfl) (by decide) rfl rfl F9.tl24 ?_
        refine sv_cell (g0 _ hs.tl) c131 (0 : Nat) 0 (fun x => (AV.flt .f32 x)) (fun _ => rfl) (fun _ => rfl) rfl F9.ag26 ?_
        refine so_assign (v := (.v (.flt .f32 (l0.getD (x129).toNat (0 : Nat))))) rfl ?_
        refine so_nil ?_
        refine fi_seq ?_
        refine fi_region ?_
        refine so_move (v := (.v (.flt .f32 (l0.getD (x129).toNat (0 : Nat))))) rfl ?_
        refine so_move (v := (.v (.flt .f32 a1))) rfl ?_
        refine so_bin rfl rfl ab_fquo ?_
        refine so_assign (v := (.v (.flt .f32 (fop .quo .f32 (l0.getD (x129).toNat (0 : Nat)) a1)))) rfl ?_
        refine so_nil ?_
        refine fi_seq ?_
        refine fi_seq ?_
        refine fi_region ?_
        refine so_move (v := (.v (.flt .f32 (fop .quo .f32 (l0.getD (x129).toNat (0 : Nat)) a1)))) rfl ?_
        refine sv_callS (impl_size_ok (fop .quo .f32 (l0.getD (x129).toNat (0 : Nat)) a1) hs  _ h) (fun _ _ ⟨_, _, _, e⟩ => e) rfl rfl ?_
        clear h
        rintro _ _ ⟨y132, h, rfl, rfl⟩
        refine so_bin rfl rfl ab_flss ?_
        refine so_un rfl au_not ?_
        refine so_nil ?_
        replace h := ofT h; rcases h with ⟨c134, h⟩ | ⟨c134, h⟩
        · refine fi_false rfl (not_f c134) ?_
          refine fi_skip ?_
          refine fi_region ?_
          refine so_move (v := (.v v128)) rfl ?_
          refine so_move (v := (.v (.flt .f32 (fop .quo .f32 (l0.getD (x129).toNat (0 : Nat)) a1)))) rfl ?_
          obtain ⟨c135, h⟩ := h
          refine sv_fi c135 rfl F9.us26 F9.it2 ?_
          refine sv_bslice hs (eInt .i64) ([(ftoi .f32 (fop .quo .f32 (l0.getD (x129).toNat (0 : Nat)) a1) .i64)] : List (Int)) [[(.int .i64 (ftoi .f32 (fop .quo .f32 (l0.getD (x129).toNat (0 : Nat)) a1) .i64))]] F9.te28 F9.sz2 F9.ze2 rfl rfl rfl rfl (fun _ => rfl) rfl (by decide) nofun (fun v136 H137 nv136 hs => ?_)
          obtain ⟨c141, h⟩ := h
          refine sv_app hs 1 rfl (hs.shows 0 rfl) (fun _ => rfl) (by decide) F9.ta28_28 (by decide) c141 rfl rfl nofun (fun v139 H140 kv139 hs => ?_)
          replace hs := hs.del 0
          have nv139 := kv139 nv128
          refine so_assign (v := (.v v139)) rfl ?_
          refine so_nil ?_
          refine fi_inBlock ?_
          refine fi_region ?_
          refine so_bin rfl rfl ab_add ?_
          refine so_move (v := (.v (.int .i64 (IntKind.i64.wrap (x129 + (1 : Int)))))) rfl ?_
          refine so_nil ?_
          exact fi_at [(1, (.v (.flt .f32 a1))), (6, (.v v139)), (19, (.v v0)), (20, (.v (.int .i64 (l0.length : Int)))), (21, (.v (.int .i64 (IntKind.i64.wrap (x129 + (1 : Int))))))] ⟨rfl, rfl, rfl, rfl, rfl, trivial⟩ (h _ _ _ nv139 hs)
        · refine fi_true rfl (not_t c134) ?_
          refine fi_seq ?_
          refine fi_region ?_
          refine so_assign (v := (.v .nilsl)) rfl ?_
          refine so_assign (v := (.v (.bool false))) rfl ?_
          refine so_nil ?_
          exact by_ret rfl ⟨_, _, h, _, rfl, (Sep.nil (Sep.del 0 hs) 1)⟩
      · refine fi_false rfl (decide_eq_false c130) ?_
        refine fi_exit rfl ?_
        refine fi_seq ?_
        refine fi_region ?_
        refine so_move (v := (.v v128)) rfl ?_
        refine so_assign (v := (.v v128)) rfl ?_
        refine so_assign (v := (.v (.bool true))) rfl ?_
        refine so_nil ?_
        exact by_ret rfl ⟨_, _, h, _, rfl, hs⟩
    · refine fi_true rfl (not_t c106) ?_
      refine fi_seq ?_
      refine fi_region ?_
      refine so_assign (v := (.v .nilsl)) rfl ?_
      refine so_assign (v := (.v (.bool false))) rfl ?_
      refine so_nil ?_
      exact by_ret rfl ⟨_, _, h, _, rfl, (Sep.nil hs 1)⟩
  · refine so_gno rfl (not_t c103) ?_
    refine so_gno rfl (not_t c103) ?_
    refine so_gno rfl (not_t c103) ?_
    refine so_pick_t (v := (.v (.bool true))) rfl (not_t c103) rfl ?_
    refine so_nil ?_
    refine fi_true rfl rfl ?_
    refine fi_seq ?_
    refine fi_region ?_
    refine so_assign (v := (.v .nilsl)) rfl ?_
    refine so_assign (v := (.v (.bool false))) rfl ?_
    refine so_nil ?_
    exact by_ret rfl ⟨_, _, h, _, rfl, (Sep.nil hs 1)⟩
theorem F12.ag38 : tagg Try.prog 38 = some true := by kernel_rfl
theorem F12.inf38 : (Try.prog.info? 38).isSome = true := by kernel_rfl
theorem F12.sz2 : tsz Try.prog 2 = some 1 := by kernel_rfl
theorem F12.sz26 : tsz Try.prog 26 = some 1 := by kernel_rfl
theorem F12.sz38 : tsz Try.prog 38 = some 2 := by kernel_rfl
theorem F12.ta24_24 : tapp Try.prog 24 24 = some (1, 4) := by kernel_rfl
theorem F12.ta28_28 : tapp Try.prog 28 28 = some (1, 8) := by kernel_rfl
theorem F12.te24 : telem Try.prog 24 = some 26 := by kernel_rfl
theorem F12.te28 : telem Try.prog 28 = some 2 := by kernel_rfl
theorem F12.ze2 : tzero Try.prog 2 = some [(.int .i64 (0 : Int))] := by kernel_rfl
theorem F12.ze26 : tzero Try.prog 26 = some [(.flt .f32 (0 : Nat))] := by kernel_rfl
theorem impl_RateTable_ok {fr : List Pc} {H : Heap} (v0 : AV) (l0 : List (Nat)) (a1 : Nat) (v2 : AV) (l2 : List (Nat)) (a3 : Int) (a4 : Nat) (hs : Sep H (fr)) (g0 : ∀ H, Sep H fr → Shows H v0 1 (enc (eFlt .f32) l0)) (g2 : ∀ H, Sep H fr → Shows H v2 1 (enc (eFlt .f32) l2)) (K : (List (Int)) → (List (Nat)) → Bool → Prop) (h : impl_RateTable.wp l0 a1 l2 a3 a4 K) : OkQ Try.prog 12 [(.g [v0, (.flt .f32 a1)]), (.v v2), (.v (.int .i64 a3)), (.v (.flt .f32 a4))] H (fun r H2 => ∃ (y0 : List (Int)) (y1 : List (Nat)) (y2 : Bool), K y0 y1 y2 ∧ ∃ (w0_ : AV) (w1_ : AV), r = (.t [(.v w0_), (.v w1_), (.v (.bool y2))]) ∧ Sep H2 (Pc.osl w0_ 1 (enc (eInt .i64) y0) :: Pc.osl w1_ 1 (enc (eFlt .f32) y1) :: fr)) := by
  unfold impl_RateTable.wp at h
  refine of_body Try.f12 F.hm Try.func12 rfl Try.call12 (by kernel_rfl) (by simp) ?_
  refine fi_seq ?_
  refine fi_region ?_
  refine sv_box hs rfl (c := [v0, (.flt .f32 a1)]) rfl F12.inf38 (stc (g0 _ hs).stor (stc rfl stn)) nofun (fun id101 H102 hs => ?_)
  refine so_assign (v := (.v .nilsl)) rfl ?_
  refine so_assign (v := (.v .nilsl)) rfl ?_
  refine so_assign (v := (.v (.bool false))) rfl ?_
  refine so_nil ?_
  refine fi_seq ?_
  refine fi_region ?_
  refine sv_lds hs 0 rfl rfl (leb rfl) rfl F12.ag38 F12.sz38 ?_
  refine so_move (v := (.v v2)) rfl ?_
  refine so_move (v := (.v (.int .i64 a3))) rfl ?_
  refine sv_call (impl_LiftDeep_ok v0 l0 a1 v2 l2 a3 hs (fun _ hs => (g0 _ hs.tl)) (fun _ hs => (g2 _ hs.tl)) _ h) rfl rfl nofun ?_
  clear h hs
  rintro _ H110 ⟨y104, y109, h, v105, ws107, S108, rfl, hs⟩
  refine so_move (v := (.t [(.v v105), (.v (.bool y109))])) rfl ?_
  refine so_extract rfl rfl rfl ?_
  refine so_extract rfl rfl rfl ?_
  refine so_assign (v := (.v v105)) rfl ?_
  refine so_assign (v := (.v (.bool y109))) rfl ?_
  refine so_nil ?_
  refine fi_seq ?_
  refine fi_seq ?_
  refine fi_region ?_
  refine so_move (v := (.v (.bool y109))) rfl ?_
  refine so_un rfl au_not ?_
  refine so_nil ?_
  replace h := ofT h; rcases h with ⟨c111, h⟩ | ⟨c111, h⟩
  · refine fi_false rfl (not_f c111) ?_
    refine fi_skip ?_
    refine fi_seq ?_
    refine fi_region ?_
    refine so_move (v := (.v v105)) rfl ?_
    refine sv_call (impl_FlatBands_ok v105 ws107 y104 hs (fun _ hs => (hs.dshows 0 rfl)) _ h) rfl rfl nofun ?_
    clear h hs
    rintro _ H116 ⟨y112, y115, h, v113, rfl, hs⟩
    refine so_move (v := (.t [(.v v113), (.v (.bool y115))])) rfl ?_
    refine so_extract rfl rfl rfl ?_
    refine so_extract rfl rfl rfl ?_
    refine so_assign (v := (.v v113)) rfl ?_
    refine so_assign (v := (.v (.bool y115))) rfl ?_
    refine so_nil ?_
    refine fi_seq ?_
    refine fi_region ?_
    refine so_move (v := (.v v113)) rfl ?_
    refine so_move (v := (.v (.flt .f32 a4))) rfl ?_
    refine sv_call (impl_ScaleList_ok v113 y112 a4 hs (fun _ hs => (hs.shows 0 rfl)) _ h) rfl rfl nofun ?_
    clear h hs
    rintro _ H121 ⟨y117, y120, h, v118, rfl, hs⟩
    refine so_move (v := (.t [(.v v118), (.v (.bool y120))])) rfl ?_
    refine so_extract rfl rfl rfl ?_
    refine so_extract rfl rfl rfl ?_
    refine so_assign (v := (.v v118)) rfl ?_
    refine so_assign (v := (.v (.bool y120))) rfl ?_
    refine so_nil ?_
    refine fi_seq ?_
    refine fi_seq ?_
    refine fi_region ?_
    refine so_move (v := (.v (.bool y115))) rfl ?_
    refine so_un rfl au_not ?_
    refine so_move (v := (.v (.bool (!y115)))) rfl ?_
    replace h := ofT h; rcases h with ⟨c122, h⟩ | ⟨c122, h⟩
    · refine so_gyes rfl (not_f c122) ?_
      refine so_move (v := (.v (.bool y120))) rfl ?_
      refine so_gyes rfl (not_f c122) ?_
      refine so_un rfl au_not ?_
      refine so_pick_f (v := (.v (.bool (!y120)))) rfl (not_f c122) rfl ?_
      refine so_nil ?_
      replace h := ofT h; rcases h with ⟨c123, h⟩ | ⟨c123, h⟩
      · refine fi_false rfl (not_f c123) ?_
        refine fi_skip ?_
        refine fi_seq ?_
        refine fi_region ?_
        refine sv_bslice hs (eInt .i64) ([] : List (Int)) [] F12.te28 F12.sz2 F12.ze2 rfl rfl rfl rfl (fun _ => rfl) rfl (by decide) nofun (fun v124 H125 nv124 hs => ?_)
        refine sv_bslice hs (eFlt .f32) ([] : List (Nat)) [] F12.te24 F12.sz26 F12.ze26 rfl rfl rfl rfl (fun _ => rfl) rfl (by decide) nofun (fun v127 H128 nv127 hs => ?_)
        refine so_assign (v := (.v v124)) rfl ?_
        refine so_assign (v := (.v v127)) rfl ?_
        refine so_nil ?_
        refine fi_seq ?_
        refine fi_seq ?_
        refine fi_region ?_
        refine so_move (v := (.v v118)) rfl ?_
        refine sv_callS (impl_planesFor_ok v118 y117 hs (fun _ hs => (hs.shows 2 rfl)) _ h) (fun _ _ ⟨_, _, _, e⟩ => e) rfl rfl ?_
        clear h
        rintro _ _ ⟨y130, h, rfl, rfl⟩
        refine so_assign (v := (.v (.int .i64 y130))) rfl ?_
        refine so_nil ?_
        refine fi_block ?_
        refine fi_loop ?_
        replace hs := hs.del 3
        replace hs := hs.del 3
        refine fi_at [(1, (.v v2)), (2, (.v (.int .i64 a3))), (3, (.v (.flt .f32 a4))), (4, (.v (.ptr id101 0))), (15, (.v v118)), (17, (.v v124)), (18, (.v v127)), (19, (.v (.int .i64 y130)))] ⟨rfl, rfl, rfl, rfl, rfl, rfl, rfl, rfl, trivial⟩ ?_
        refine h (fun (misses160 : List (Nat)) (many162 : List (Int)) (plane164 : Int) => ∀ (s : Nat → TV) (H : Heap) (v161 : AV) (nv161 : v161 ≠ .nilsl) (v163 : AV) (nv163 : v163 ≠ .nilsl), Sep H (Pc.osl v161 1 (enc (eFlt .f32) misses160) :: Pc.osl v163 1 (enc (eInt .i64) many162) :: Pc.osl v118 1 (enc (eInt .i64) y117) :: Pc.box id101 [v0, (.flt .f32 a1)] :: fr) → Fin _ _ (updL s [(1, (.v v2)), (2, (.v (.int .i64 a3))), (3, (.v (.flt .f32 a4))), (4, (.v (.ptr id101 0))), (15, (.v v118)), (17, (.v v163)), (18, (.v v161)), (19, (.v (.int .i64 plane164)))]) H _) ?_ _ _ _ nv127 _ nv124 hs
        intro misses160 many162 plane164 h s186 H187 v161 nv161 v163 nv163 hs
        refine fi_inLoop ?_
        refine fi_seq ?_
        refine fi_seq ?_
        refine fi_region ?_
        refine so_move (v := (.v (.int .i64 plane164))) rfl ?_
        refine so_bin rfl rfl ab_geq ?_
        refine so_nil ?_
        replace h := ofP h; rcases h with ⟨c165, h⟩ | ⟨c165, h⟩
        · refine fi_true rfl (decide_eq_true c165) ?_
          refine fi_skip ?_
          refine fi_seq ?_
          refine fi_block ?_
          refine fi_seq ?_
          refine fi_region ?_
          refine so_move (v := (.v v118)) rfl ?_
          refine so_move (v := (.v (.int .i64 plane164))) rfl ?_
          refine sv_callS (impl_BitsUntil_okS v118 y117 plane164 hs (fun _ hs => (hs.shows 2 rfl)) _ h) (fun _ _ ⟨_, _, _, _, e⟩ => e) rfl rfl ?_
          clear h
          rintro _ _ ⟨y166, y167, h, rfl, rfl⟩
          refine so_move (v := (.t [(.v (.int .i64 y166)), (.v (.bool y167))])) rfl ?_
          refine so_extract rfl rfl rfl ?_
          refine so_extract rfl rfl rfl ?_
          refine so_assign (v := (.v (.int .i64 y166))) rfl ?_
          refine so_assign (v := (.v (.bool y167))) rfl ?_
          refine so_nil ?_
          refine fi_seq ?_
          refine fi_region ?_
          refine sv_lds hs 3 rfl rfl (leb rfl) rfl F12.ag38 F12.sz38 ?_
          refine so_move (v := (.v v2)) rfl ?_
          refine so_move (v := (.v v118)) rfl ?_
          refine so_move (v := (.v (.int .i64 a3))) rfl ?_
          refine so_move (v := (.v (.int .i64 plane164))) rfl ?_
          refine so_move (v := (.v (.flt .f32 a4))) rfl ?_
          refine sv_callS (impl_missAbove_okS v0 l0 a1 v2 l2 v118 y117 a3 plane164 a4 hs (fun _ hs => (g0 _ hs.tl.tl.tl.tl)) (fun _ hs => (g2 _ hs.tl.tl.tl.tl)) (fun _ hs => (hs.shows 2 rfl)) _ h) (fun _ _ ⟨_, _, _, _, e⟩ => e) rfl rfl ?_
          clear h
          rintro _ _ ⟨y169, y170, h, rfl, rfl⟩
          refine so_move (v := (.t [(.v (.flt .f32 y169)), (.v (.bool y170))])) rfl ?_
          refine so_extract rfl rfl rfl ?_
          refine so_extract rfl rfl rfl ?_
          refine so_assign (v := (.v (.flt .f32 y169))) rfl ?_
          refine so_assign (v := (.v (.bool y170))) rfl ?_
          refine so_nil ?_
          refine fi_seq ?_
          refine fi_seq ?_
          refine fi_region ?_
          refine so_move (v := (.v (.bool y167))) rfl ?_
          refine so_un rfl au_not ?_
          refine so_move (v := (.v (.bool (!y167)))) rfl ?_
          replace h := ofT h; rcases h with ⟨c172, h⟩ | ⟨c172, h⟩
          · refine so_gyes rfl (not_f c172) ?_
            refine so_move (v := (.v (.bool y170))) rfl ?_
            refine so_gyes rfl (not_f c172) ?_
            refine so_un rfl au_not ?_
            refine so_pick_f (v := (.v (.bool (!y170)))) rfl (not_f c172) rfl ?_
            refine so_nil ?_
            replace h := ofT h; rcases h with ⟨c173, h⟩ | ⟨c173, h⟩
            · refine fi_false rfl (not_f c173) ?_
              refine fi_skip ?_
              refine fi_region ?_
              refine so_move (v := (.v v163)) rfl ?_
              refine so_move (v := (.v (.int .i64 y166))) rfl ?_
              refine sv_bslice hs (eInt .i64) ([y166] : List (Int)) [[(.int .i64 y166)]] F12.te28 F12.sz2 F12.ze2 rfl rfl rfl rfl (fun _ => rfl) rfl (by decide) nofun (fun v174 H175 nv174 hs => ?_)
              obtain ⟨c179, h⟩ := h
              refine sv_app hs 2 rfl (hs.shows 0 rfl) (fun _ => rfl) (by decide) F12.ta28_28 (by decide) c179 rfl rfl nofun (fun v177 H178 kv177 hs => ?_)
              replace hs := hs.del 0
              have nv177 := kv177 nv163
              refine so_move (v := (.v v161)) rfl ?_
              refine so_move (v := (.v (.flt .f32 y169))) rfl ?_
              refine sv_bslice hs (eFlt .f32) ([y169] : List (Nat)) [[(.flt .f32 y169)]] F12.te24 F12.sz26 F12.ze26 rfl rfl rfl rfl (fun _ => rfl) rfl (by decide) nofun (fun v180 H181 nv180 hs => ?_)
              obtain ⟨c185, h⟩ := h
              refine sv_app hs 1 rfl (hs.shows 0 rfl) (fun _ => rfl) (by decide) F12.ta24_24 (by decide) c185 rfl rfl nofun (fun v183 H184 kv183 hs => ?_)
              replace hs := hs.del 0
              have nv183 := kv183 nv161
              refine so_assign (v := (.v v177)) rfl ?_
              refine so_assign (v := (.v v183)) rfl ?_
              refine so_nil ?_
              refine fi_inBlock ?_
              refine fi_region ?_
              refine so_move (v := (.v (.int .i64 plane164))) rfl ?_
              refine so_bin rfl rfl ab_sub ?_
              refine so_assign (v := (.v (.int .i64 (IntKind.i64.wrap (plane164 - (1 : Int)))))) rfl ?_
              refine so_nil ?_
              exact fi_at [(1, (.v v2)), (2, (.v (.int .i64 a3))), (3, (.v (.flt .f32 a4))), (4, (.v (.ptr id101 0))), (15, (.v v118)), (17, (.v v177)), (18, (.v v183)), (19, (.v (.int .i64 (IntKind.i64.wrap (plane164 - (1 : Int))))))] ⟨rfl, rfl, rfl, rfl, rfl, rfl, rfl, rfl, trivial⟩ (h _ _ _ nv183 _ nv177 hs)
            · refine fi_true rfl (not_t c173) ?_
              refine fi_seq ?_
              refine fi_region ?_
              refine so_assign (v := (.v .nilsl)) rfl ?_
              refine so_assign (v := (.v .nilsl)) rfl ?_
              refine so_assign (v := (.v (.bool false))) rfl ?_
              refine so_nil ?_
              exact by_ret rfl ⟨_, _, _, h, _, _, rfl, (Sep.nil (Sep.nil (Sep.dropn 4 hs) 1) 1)⟩
          · refine so_gno rfl (not_t c172) ?_
            refine so_gno rfl (not_t c172) ?_
            refine so_pick_t (v := (.v (.bool true))) rfl (not_t c172) rfl ?_
            refine so_nil ?_
            refine fi_true rfl rfl ?_
            refine fi_seq ?_
            refine fi_region ?_
            refine so_assign (v := (.v .nilsl)) rfl ?_
            refine so_assign (v := (.v .nilsl)) rfl ?_
            refine so_assign (v := (.v (.bool false))) rfl ?_
            refine so_nil ?_
            exact by_ret rfl ⟨_, _, _, h, _, _, rfl, (Sep.nil (Sep.nil (Sep.dropn 4 hs) 1) 1)⟩
        · refine fi_false rfl (decide_eq_false c165) ?_
          refine fi_exit rfl ?_
          refine fi_seq ?_
          refine fi_region ?_
          refine so_move (v := (.v v163)) rfl ?_
          refine so_move (v := (.v v161)) rfl ?_
          refine so_assign (v := (.v v163)) rfl ?_
          refine so_assign (v := (.v v161)) rfl ?_
          refine so_assign (v := (.v (.bool true))) rfl ?_
          refine so_nil ?_
          exact by_ret rfl ⟨_, _, _, h, _, _, rfl, (Sep.front 1 (Sep.del 2 (Sep.del 2 hs)) rfl)⟩
      · refine fi_true rfl (not_t c123) ?_
        refine fi_seq ?_
        refine fi_region ?_
        refine so_assign (v := (.v .nilsl)) rfl ?_
        refine so_assign (v := (.v .nilsl)) rfl ?_
        refine so_assign (v := (.v (.bool false))) rfl ?_
        refine so_nil ?_
        exact by_ret rfl ⟨_, _, _, h, _, _, rfl, (Sep.nil (Sep.nil (Sep.dropn 4 hs) 1) 1)⟩
    · refine so_gno rfl (not_t c122) ?_
      refine so_gno rfl (not_t c122) ?_
      refine so_pick_t (v := (.v (.bool true))) rfl (not_t c122) rfl ?_
      refine so_nil ?_
      refine fi_true rfl rfl ?_
      refine fi_seq ?_
      refine fi_region ?_
      refine so_assign (v := (.v .nilsl)) rfl ?_
      refine so_assign (v := (.v .nilsl)) rfl ?_
      refine so_assign (v := (.v (.bool false))) rfl ?_
      refine so_nil ?_
      exact by_ret rfl ⟨_, _, _, h, _, _, rfl, (Sep.nil (Sep.nil (Sep.dropn 4 hs) 1) 1)⟩
  · refine fi_true rfl (not_t c111) ?_
    refine fi_seq ?_
    refine fi_region ?_
    refine so_assign (v := (.v .nilsl)) rfl ?_
    refine so_assign (v := (.v .nilsl)) rfl ?_
    refine so_assign (v := (.v (.bool false))) rfl ?_
    refine so_nil ?_
    exact by_ret rfl ⟨_, _, _, h, _, _, rfl, (Sep.nil (Sep.nil (Sep.del 0 (Sep.del 0 hs)) 1) 1)⟩
theorem F73.ti24 : (telem Try.prog 24).isSome = true := by kernel_rfl
theorem laws_szFloat32S_ok {fr : List Pc} {H : Heap} (v0 : AV) (l0 : List (Nat)) (a1 : Int) (hs : Sep H (fr)) (g0 : ∀ H, Sep H fr → Shows H v0 1 (enc (eFlt .f32) l0)) (K : Int → Prop) (h : laws_szFloat32S.wp l0 a1 K) : OkQ Try.prog 73 [(.v v0), (.v (.int .i64 a1))] H (fun r H2 => ∃ (y0 : Int), K y0 ∧ r = (.v (.int .i64 y0)) ∧ H = H2) := by
  unfold laws_szFloat32S.wp at h
  refine of_body Try.f73 F.hm Try.func73 rfl Try.call73 (by kernel_rfl) (by simp) ?_
  refine fi_seq ?_
  refine fi_region ?_
  refine so_assign (v := (.v (.int .i64 (0 : Int)))) rfl ?_
  refine so_nil ?_
  refine fi_seq ?_
  refine fi_region ?_
  refine so_move (v := (.v (.int .i64 a1))) rfl ?_
  refine so_move (v := (.v v0)) rfl ?_
  refine sv_len (g0 _ hs) (fun _ => rfl) (by decide) rfl F73.ti24 ?_
  refine so_bin rfl rfl ab_sub ?_
  refine so_assign (v := (.v (.int .i64 (IntKind.i64.wrap (a1 - (l0.length : Int)))))) rfl ?_
  refine so_nil ?_
  refine fi_seq ?_
  refine fi_seq ?_
  refine fi_region ?_
  refine so_move (v := (.v (.int .i64 (IntKind.i64.wrap (a1 - (l0.length : Int)))))) rfl ?_
  refine so_bin rfl rfl ab_lss ?_
  refine so_nil ?_
  replace h := ofP h; rcases h with ⟨c101, h⟩ | ⟨c101, h⟩
  · refine fi_true rfl (decide_eq_true c101) ?_
    refine fi_seq ?_
    refine fi_region ?_
    refine so_assign (v := (.v (.int .i64 (-1 : Int)))) rfl ?_
    refine so_nil ?_
    exact by_ret rfl ⟨_, h, rfl, rfl⟩
  · refine fi_false rfl (decide_eq_false c101) ?_
    refine fi_skip ?_
    refine fi_seq ?_
    refine fi_region ?_
    refine so_move (v := (.v (.int .i64 (IntKind.i64.wrap (a1 - (l0.length : Int)))))) rfl ?_
    refine so_assign (v := (.v (.int .i64 (IntKind.i64.wrap (a1 - (l0.length : Int)))))) rfl ?_
    refine so_nil ?_
    exact by_ret rfl ⟨_, h, rfl, rfl⟩
theorem F26.ag24 : tagg Try.prog 24 = some false := by kernel_rfl
theorem F26.fd54_0 : tfield Try.prog 54 0 = some (0, 1, false) := by kernel_rfl
theorem F26.inf54 : (Try.prog.info? 54).isSome = true := by kernel_rfl
theorem laws_szScheme_ok {fr : List Pc} {H : Heap} (v0 : AV) (l0 : List (Nat)) (a1 : Nat) (a2 : Int) (hs : Sep H (fr)) (g0 : ∀ H, Sep H fr → Shows H v0 1 (enc (eFlt .f32) l0)) (K : Int → Prop) (h : laws_szScheme.wp l0 a1 a2 K) : OkQ Try.prog 26 [(.g [v0, (.flt .f32 a1)]), (.v (.int .i64 a2))] H (fun r H2 => ∃ (y0 : Int), K y0 ∧ r = (.v (.int .i64 y0)) ∧ Sep H2 (fr)) := by
  unfold laws_szScheme.wp at h
  refine of_body Try.f26 F.hm Try.func26 rfl Try.call26 (by kernel_rfl) (by simp) ?_
  refine fi_seq ?_
  refine fi_region ?_
  refine sv_box hs rfl (c := [v0, (.flt .f32 a1)]) rfl F26.inf54 (stc (g0 _ hs).stor (stc rfl stn)) nofun (fun id101 H102 hs => ?_)
  refine so_assign (v := (.v (.int .i64 (0 : Int)))) rfl ?_
  refine so_nil ?_
  refine fi_seq ?_
  refine fi_region ?_
  refine so_fieldAddr rfl F26.fd54_0 ?_
  refine sv_ld hs 0 rfl rfl rfl F26.ag24 ?_
  refine so_move (v := (.v (.int .i64 a2))) rfl ?_
  refine sv_callS (laws_szFloat32S_ok v0 l0 a2 hs (fun _ hs => (g0 _ hs.tl)) _ h) (fun _ _ ⟨_, _, _, e⟩ => e) rfl rfl ?_
  clear h
  rintro _ _ ⟨y104, h, rfl, rfl⟩
  refine so_assign (v := (.v (.int .i64 y104))) rfl ?_
  refine so_nil ?_
  refine fi_seq ?_
  refine fi_seq ?_
  refine fi_region ?_
  refine so_move (v := (.v (.int .i64 y104))) rfl ?_
  refine so_bin rfl rfl ab_lss ?_
  refine so_nil ?_
  replace h := ofP h; rcases h with ⟨c106, h⟩ | ⟨c106, h⟩
  · refine fi_true rfl (decide_eq_true c106) ?_
    refine fi_seq ?_
    refine fi_region ?_
    refine so_assign (v := (.v (.int .i64 (-1 : Int)))) rfl ?_
    refine so_nil ?_
    exact by_ret rfl ⟨_, h, rfl, (Sep.del 0 hs)⟩
  · refine fi_false rfl (decide_eq_false c106) ?_
    refine fi_skip ?_
    refine fi_seq ?_
    refine fi_region ?_
    refine so_move (v := (.v (.int .i64 y104))) rfl ?_
    refine so_assign (v := (.v (.int .i64 y104))) rfl ?_
    refine so_nil ?_
    exact by_ret rfl ⟨_, h, rfl, (Sep.del 0 hs)⟩
theorem laws_szScheme_okS {fr : List Pc} {H : Heap} (v0 : AV) (l0 : List (Nat)) (a1 : Nat) (a2 : Int) (hs : Sep H fr) (g0 : ∀ H, Sep H fr → Shows H v0 1 (enc (eFlt .f32) l0)) (K : Int → Prop) (h : laws_szScheme.wp l0 a1 a2 K) : OkQ Try.prog 26 [(.g [v0, (.flt .f32 a1)]), (.v (.int .i64 a2))] H (fun r H2 => ∃ (y0 : Int), K y0 ∧ r = (.v (.int .i64 y0)) ∧ H = H2) := by
  obtain ⟨r, H2, h1, y0, hK, hr, hsep⟩ := laws_szScheme_ok (fr := came H) (H := H) v0 l0 a1 a2 (came_sep H) (came_shows (g0 H hs)) K h
  have hk : H.n ≤ H2.n ∧ ∀ i, i < H.n → H2.f i = H.f i := hsep.1.2.1
  exact ⟨r, H, h1.forget hk.1 hk.2 (by subst hr; rfl), y0, hK, hr, rfl⟩
theorem spec_l01Finite_ok {fr : List Pc} {H : Heap} (a0 : Nat) (hs : Sep H (fr))  (K : Bool → Prop) (h : spec_l01Finite.wp a0 K) : OkQ Try.prog 108 [(.v (.flt .f32 a0))] H (fun r H2 => ∃ (y0 : Bool), K y0 ∧ r = (.v (.bool y0)) ∧ H = H2) := by
  unfold spec_l01Finite.wp at h
  refine of_body Try.f108 F.hm Try.func108 rfl Try.call108 (by kernel_rfl) (by simp) ?_
  refine fi_seq ?_
  refine fi_region ?_
  refine so_assign (v := (.v (.bool false))) rfl ?_
  refine so_nil ?_
  refine fi_seq ?_
  refine fi_region ?_
  refine so_move (v := (.v (.flt .f32 a0))) rfl ?_
  refine so_move (v := (.v (.flt .f32 a0))) rfl ?_
  refine so_bin rfl rfl ab_fsub ?_
  refine so_bin rfl rfl ab_feql ?_
  refine so_assign (v := (.v (.bool (fcmp .eql .f32 (fop .sub .f32 a0 a0) (cz .f32 0))))) rfl ?_
  refine so_nil ?_
  exact by_ret rfl ⟨_, h, rfl, rfl⟩
theorem F70.ag26 : tagg Try.prog 26 = some false := by kernel_rfl
theorem F70.ti24 : (telem Try.prog 24).isSome = true := by kernel_rfl
theorem F70.tl24 : (telem Try.prog 24).bind (tsz Try.prog) = some 1 := by kernel_rfl
theorem spec_l02Finite_ok {fr : List Pc} {H : Heap} (v0 : AV) (l0 : List (Nat)) (hs : Sep H (fr)) (g0 : ∀ H, Sep H fr → Shows H v0 1 (enc (eFlt .f32) l0)) (K : Bool → Prop) (h : spec_l02Finite.wp l0 K) : OkQ Try.prog 70 [(.v v0)] H (fun r H2 => ∃ (y0 : Bool), K y0 ∧ r = (.v (.bool y0)) ∧ H = H2) := by
  unfold spec_l02Finite.wp at h
  refine of_body Try.f70 F.hm Try.func70 rfl Try.call70 (by kernel_rfl) (by simp) ?_
  refine fi_seq ?_
  refine fi_region ?_
  refine so_assign (v := (.v (.bool false))) rfl ?_
  refine so_nil ?_
  refine fi_seq ?_
  refine fi_seq ?_
  refine fi_region ?_
  refine so_assign (v := (.v (.int .i64 (0 : Int)))) rfl ?_
  refine so_nil ?_
  refine fi_block ?_
  refine fi_loop ?_
  refine fi_at [(0, (.v v0)), (3, (.v (.int .i64 (0 : Int))))] ⟨rfl, rfl, trivial⟩ ?_
  refine h (fun (i102 : Int) => ∀ (s : Nat → TV), Fin _ _ (updL s [(0, (.v v0)), (3, (.v (.int .i64 i102)))]) _ _) ?_ _
  intro i102 h s108
  refine fi_inLoop ?_
  refine fi_seq ?_
  refine fi_seq ?_
  refine fi_region ?_
  refine so_move (v := (.v (.int .i64 i102))) rfl ?_
  refine so_move (v := (.v v0)) rfl ?_
  refine sv_len (g0 _ hs) (fun _ => rfl) (by decide) rfl F70.ti24 ?_
  refine so_bin rfl rfl ab_lss ?_
  refine so_nil ?_
  replace h := ofP h; rcases h with ⟨c103, h⟩ | ⟨c103, h⟩
  · refine fi_true rfl (decide_eq_true c103) ?_
    refine fi_skip ?_
    refine fi_seq ?_
    refine fi_block ?_
    refine fi_seq ?_
    refine fi_region ?_
    refine so_move (v := (.v v0)) rfl ?_
    refine so_move (v := (.v (.int .i64 i102))) rfl ?_
    obtain ⟨c104, h⟩ := h
    refine sv_idx (g0 _ hs) c104 (fun _ => rfl) (by decide) rfl rfl F70.tl24 ?_
    refine sv_cell (g0 _ hs) c104 (0 : Nat) 0 (fun x => (AV.flt .f32 x)) (fun _ => rfl) (fun _ => rfl) rfl F70.ag26 ?_
    refine sv_callS (spec_l01Finite_ok (l0.getD (i102).toNat (0 : Nat)) hs  _ h) (fun _ _ ⟨_, _, _, e⟩ => e) rfl rfl ?_
    clear h
    rintro _ _ ⟨y105, h, rfl, rfl⟩
    refine so_un rfl au_not ?_
    refine so_nil ?_
    replace h := ofT h; rcases h with ⟨c107, h⟩ | ⟨c107, h⟩
    · refine fi_false rfl (not_f c107) ?_
      refine fi_skip ?_
      refine fi_inBlock ?_
      refine fi_region ?_
      refine so_move (v := (.v (.int .i64 i102))) rfl ?_
      refine so_bin rfl rfl ab_add ?_
      refine so_assign (v := (.v (.int .i64 (IntKind.i64.wrap (i102 + (1 : Int)))))) rfl ?_
      refine so_nil ?_
      exact fi_at [(0, (.v v0)), (3, (.v (.int .i64 (IntKind.i64.wrap (i102 + (1 : Int))))))] ⟨rfl, rfl, trivial⟩ (h _)
    · refine fi_true rfl (not_t c107) ?_
      refine fi_seq ?_
      refine fi_region ?_
      refine so_assign (v := (.v (.bool false))) rfl ?_
      refine so_nil ?_
      exact by_ret rfl ⟨_, h, rfl, rfl⟩
  · refine fi_false rfl (decide_eq_false c103) ?_
    refine fi_exit rfl ?_
    refine fi_seq ?_
    refine fi_region ?_
    refine so_assign (v := (.v (.bool true))) rfl ?_
    refine so_nil ?_
    exact by_ret rfl ⟨_, h, rfl, rfl⟩
theorem spec_l02Above_ok {fr : List Pc} {H : Heap} (a0 : Nat) (hs : Sep H (fr))  (K : Bool → Prop) (h : spec_l02Above.wp a0 K) : OkQ Try.prog 119 [(.v (.flt .f32 a0))] H (fun r H2 => ∃ (y0 : Bool), K y0 ∧ r = (.v (.bool y0)) ∧ H = H2) := by
  unfold spec_l02Above.wp at h
  refine of_body Try.f119 F.hm Try.func119 rfl Try.call119 (by kernel_rfl) (by simp) ?_
  refine fi_seq ?_
  refine fi_region ?_
  refine so_assign (v := (.v (.bool false))) rfl ?_
  refine so_nil ?_
  refine fi_seq ?_
  refine fi_region ?_
  refine so_move (v := (.v (.flt .f32 a0))) rfl ?_
  refine sv_callS (spec_l01Finite_ok a0 hs  _ h) (fun _ _ ⟨_, _, _, e⟩ => e) rfl rfl ?_
  clear h
  rintro _ _ ⟨y101, h, rfl, rfl⟩
  refine so_move (v := (.v (.bool y101))) rfl ?_
  replace h := ofT h; rcases h with ⟨c103, h⟩ | ⟨c103, h⟩
  · refine so_gyes rfl c103 ?_
    refine so_move (v := (.v (.flt .f32 a0))) rfl ?_
    refine so_gyes rfl c103 ?_
    refine so_bin rfl rfl ab_fgtr ?_
    refine so_pick_t (v := (.v (.bool (fcmp .gtr .f32 a0 (cz .f32 0))))) rfl c103 rfl ?_
    refine so_assign (v := (.v (.bool (fcmp .gtr .f32 a0 (cz .f32 0))))) rfl ?_
    refine so_nil ?_
    exact by_ret rfl ⟨_, h, rfl, rfl⟩
  · refine so_gno rfl c103 ?_
    refine so_gno rfl c103 ?_
    refine so_pick_f (v := (.v (.bool false))) rfl c103 rfl ?_
    refine so_assign (v := (.v (.bool false))) rfl ?_
    refine so_nil ?_
    exact by_ret rfl ⟨_, h, rfl, rfl⟩
theorem F114.ag24 : tagg Try.prog 24 = some false := by kernel_rfl
theorem F114.ag26 : tagg Try.prog 26 = some false := by kernel_rfl
theorem F114.fd38_0 : tfield Try.prog 38 0 = some (0, 1, false) := by kernel_rfl
theorem F114.fd38_1 : tfield Try.prog 38 1 = some (1, 1, false) := by kernel_rfl
theorem F114.ti24 : (telem Try.prog 24).isSome = true := by kernel_rfl
theorem spec_l02Scheme_ok {fr : List Pc} {H : Heap} (i0 o0 : Nat) (v0 : AV) (l0 : List (Nat)) (a1 : Nat) (hs : Sep H (fr)) (g0 : ∀ H, Sep H fr → Shows H v0 1 (enc (eFlt .f32) l0)) (q0 : ∀ H, Sep H fr → PtAt H i0 o0 [v0, (.flt .f32 a1)]) (K : Bool → Prop) (h : spec_l02Scheme.wp l0 a1 K) : OkQ Try.prog 114 [(.v (.ptr i0 o0))] H (fun r H2 => ∃ (y0 : Bool), K y0 ∧ r = (.v (.bool y0)) ∧ H = H2) := by
  unfold spec_l02Scheme.wp at h
  refine of_body Try.f114 F.hm Try.func114 rfl Try.call114 (by kernel_rfl) (by simp) ?_
  refine fi_seq ?_
  refine fi_region ?_
  refine so_assign (v := (.v (.bool false))) rfl ?_
  refine so_nil ?_
  refine fi_seq ?_
  refine fi_region ?_
  refine so_move (v := (.v (.ptr i0 o0))) rfl ?_
  refine so_nilCheck rfl ?_
  refine so_fieldAddr rfl F114.fd38_0 ?_
  refine su_ld (q0 _ hs) 0 rfl rfl F114.ag24 ?_
  refine sv_len (g0 _ hs) (fun _ => rfl) (by decide) rfl F114.ti24 ?_
  refine so_bin rfl rfl ab_geq ?_
  refine so_move (v := (.v (.bool (decide ((1 : Int) ≤ (l0.length : Int)))))) rfl ?_
  replace h := ofP h; rcases h with ⟨c101, h⟩ | ⟨c101, h⟩
  · refine so_gyes rfl (decide_eq_true c101) ?_
    refine so_move (v := (.v (.ptr i0 o0))) rfl ?_
    refine so_gyes rfl (decide_eq_true c101) ?_
    refine so_nilCheck rfl ?_
    refine so_gyes rfl (decide_eq_true c101) ?_
    refine so_fieldAddr rfl F114.fd38_0 ?_
    refine so_gyes rfl (decide_eq_true c101) ?_
    refine su_ld (q0 _ hs) 0 rfl rfl F114.ag24 ?_
    refine so_gyes rfl (decide_eq_true c101) ?_
    refine sv_len (g0 _ hs) (fun _ => rfl) (by decide) rfl F114.ti24 ?_
    refine so_gyes rfl (decide_eq_true c101) ?_
    refine so_bin rfl rfl ab_leq ?_
    refine so_pick_t (v := (.v (.bool (decide ((l0.length : Int) ≤ (8 : Int)))))) rfl (decide_eq_true c101) rfl ?_
    refine so_move (v := (.v (.bool (decide ((l0.length : Int) ≤ (8 : Int)))))) rfl ?_
    replace h := ofP h; rcases h with ⟨c102, h⟩ | ⟨c102, h⟩
    · refine so_gyes rfl (decide_eq_true c102) ?_
      refine so_move (v := (.v (.ptr i0 o0))) rfl ?_
      refine so_gyes rfl (decide_eq_true c102) ?_
      refine so_nilCheck rfl ?_
      refine so_gyes rfl (decide_eq_true c102) ?_
      refine so_fieldAddr rfl F114.fd38_0 ?_
      refine so_gyes rfl (decide_eq_true c102) ?_
      refine su_ld (q0 _ hs) 0 rfl rfl F114.ag24 ?_
      refine so_gyes rfl (decide_eq_true c102) ?_
      refine sv_callS (spec_l02Finite_ok v0 l0 hs (fun _ hs => (g0 _ hs)) _ h) (fun _ _ ⟨_, _, _, e⟩ => e) rfl rfl ?_
      clear h
      rintro _ _ ⟨y103, h, rfl, rfl⟩
      refine so_pick_t (v := (.v (.bool y103))) rfl (decide_eq_true c102) rfl ?_
      refine so_move (v := (.v (.bool y103))) rfl ?_
      replace h := ofT h; rcases h with ⟨c105, h⟩ | ⟨c105, h⟩
      · refine so_gyes rfl c105 ?_
        refine so_move (v := (.v (.ptr i0 o0))) rfl ?_
        refine so_gyes rfl c105 ?_
        refine so_nilCheck rfl ?_
        refine so_gyes rfl c105 ?_
        refine so_fieldAddr rfl F114.fd38_1 ?_
        refine so_gyes rfl c105 ?_
        refine su_ld (q0 _ hs) 1 rfl rfl F114.ag26 ?_
        refine so_gyes rfl c105 ?_
        refine sv_callS (spec_l02Above_ok a1 hs  _ h) (fun _ _ ⟨_, _, _, e⟩ => e) rfl rfl ?_
        clear h
        rintro _ _ ⟨y106, h, rfl, rfl⟩
        refine so_pick_t (v := (.v (.bool y106))) rfl c105 rfl ?_
        refine so_assign (v := (.v (.bool y106))) rfl ?_
        refine so_nil ?_
        exact by_ret rfl ⟨_, h, rfl, rfl⟩
      · refine so_gno rfl c105 ?_
        refine so_gno rfl c105 ?_
        refine so_gno rfl c105 ?_
        refine so_gno rfl c105 ?_
        refine so_gno rfl c105 ?_
        refine so_pick_f (v := (.v (.bool false))) rfl c105 rfl ?_
        refine so_assign (v := (.v (.bool false))) rfl ?_
        refine so_nil ?_
        exact by_ret rfl ⟨_, h, rfl, rfl⟩
    · refine so_gno rfl (decide_eq_false c102) ?_
      refine so_gno rfl (decide_eq_false c102) ?_
      refine so_gno rfl (decide_eq_false c102) ?_
      refine so_gno rfl (decide_eq_false c102) ?_
      refine so_gno rfl (decide_eq_false c102) ?_
      refine so_pick_f (v := (.v (.bool false))) rfl (decide_eq_false c102) rfl ?_
      refine so_move (v := (.v (.bool false))) rfl ?_
      refine so_gno rfl rfl ?_
      refine so_gno rfl rfl ?_
      refine so_gno rfl rfl ?_
      refine so_gno rfl rfl ?_
      refine so_gno rfl rfl ?_
      refine so_pick_f (v := (.v (.bool false))) rfl rfl rfl ?_
      refine so_assign (v := (.v (.bool false))) rfl ?_
      refine so_nil ?_
      exact by_ret rfl ⟨_, h, rfl, rfl⟩
  · refine so_gno rfl (decide_eq_false c101) ?_
    refine so_gno rfl (decide_eq_false c101) ?_
    refine so_gno rfl (decide_eq_false c101) ?_
    refine so_gno rfl (decide_eq_false c101) ?_
    refine so_gno rfl (decide_eq_false c101) ?_
    refine so_gno rfl (decide_eq_false c101) ?_
    refine so_pick_f (v := (.v (.bool false))) rfl (decide_eq_false c101) rfl ?_
    refine so_move (v := (.v (.bool false))) rfl ?_
    refine so_gno rfl rfl ?_
    refine so_gno rfl rfl ?_
    refine so_gno rfl rfl ?_
    refine so_gno rfl rfl ?_
    refine so_gno rfl rfl ?_
    refine so_pick_f (v := (.v (.bool false))) rfl rfl rfl ?_
    refine so_move (v := (.v (.bool false))) rfl ?_
    refine so_gno rfl rfl ?_
    refine so_gno rfl rfl ?_
    refine so_gno rfl rfl ?_
    refine so_gno rfl rfl ?_
    refine so_gno rfl rfl ?_
    refine so_pick_f (v := (.v (.bool false))) rfl rfl rfl ?_
    refine so_assign (v := (.v (.bool false))) rfl ?_
    refine so_nil ?_
    exact by_ret rfl ⟨_, h, rfl, rfl⟩
theorem F115.ti24 : (telem Try.prog 24).isSome = true := by kernel_rfl
theorem spec_l02Is_ok {fr : List Pc} {H : Heap} (v0 : AV) (l0 : List (Nat)) (hs : Sep H (fr)) (g0 : ∀ H, Sep H fr → Shows H v0 1 (enc (eFlt .f32) l0)) (K : Bool → Prop) (h : spec_l02Is.wp l0 K) : OkQ Try.prog 115 [(.v v0)] H (fun r H2 => ∃ (y0 : Bool), K y0 ∧ r = (.v (.bool y0)) ∧ H = H2) := by
  unfold spec_l02Is.wp at h
  refine of_body Try.f115 F.hm Try.func115 rfl Try.call115 (by kernel_rfl) (by simp) ?_
  refine fi_seq ?_
  refine fi_region ?_
  refine so_assign (v := (.v (.bool false))) rfl ?_
  refine so_nil ?_
  refine fi_seq ?_
  refine fi_region ?_
  refine so_move (v := (.v v0)) rfl ?_
  refine sv_len (g0 _ hs) (fun _ => rfl) (by decide) rfl F115.ti24 ?_
  refine so_bin rfl rfl ab_geq ?_
  refine so_move (v := (.v (.bool (decide ((1 : Int) ≤ (l0.length : Int)))))) rfl ?_
  replace h := ofP h; rcases h with ⟨c101, h⟩ | ⟨c101, h⟩
  · refine so_gyes rfl (decide_eq_true c101) ?_
    refine so_move (v := (.v v0)) rfl ?_
    refine so_gyes rfl (decide_eq_true c101) ?_
    refine sv_len (g0 _ hs) (fun _ => rfl) (by decide) rfl F115.ti24 ?_
    refine so_gyes rfl (decide_eq_true c101) ?_
    refine so_bin rfl rfl ab_leq ?_
    refine so_pick_t (v := (.v (.bool (decide ((l0.length : Int) ≤ (128 : Int)))))) rfl (decide_eq_true c101) rfl ?_
    refine so_move (v := (.v (.bool (decide ((l0.length : Int) ≤ (128 : Int)))))) rfl ?_
    replace h := ofP h; rcases h with ⟨c102, h⟩ | ⟨c102, h⟩
    · refine so_gyes rfl (decide_eq_true c102) ?_
      refine so_move (v := (.v v0)) rfl ?_
      refine so_gyes rfl (decide_eq_true c102) ?_
      refine sv_callS (spec_l02Finite_ok v0 l0 hs (fun _ hs => (g0 _ hs)) _ h) (fun _ _ ⟨_, _, _, e⟩ => e) rfl rfl ?_
      clear h
      rintro _ _ ⟨y103, h, rfl, rfl⟩
      refine so_pick_t (v := (.v (.bool y103))) rfl (decide_eq_true c102) rfl ?_
      refine so_assign (v := (.v (.bool y103))) rfl ?_
      refine so_nil ?_
      exact by_ret rfl ⟨_, h, rfl, rfl⟩
    · refine so_gno rfl (decide_eq_false c102) ?_
      refine so_gno rfl (decide_eq_false c102) ?_
      refine so_pick_f (v := (.v (.bool false))) rfl (decide_eq_false c102) rfl ?_
      refine so_assign (v := (.v (.bool false))) rfl ?_
      refine so_nil ?_
      exact by_ret rfl ⟨_, h, rfl, rfl⟩
  · refine so_gno rfl (decide_eq_false c101) ?_
    refine so_gno rfl (decide_eq_false c101) ?_
    refine so_gno rfl (decide_eq_false c101) ?_
    refine so_pick_f (v := (.v (.bool false))) rfl (decide_eq_false c101) rfl ?_
    refine so_move (v := (.v (.bool false))) rfl ?_
    refine so_gno rfl rfl ?_
    refine so_gno rfl rfl ?_
    refine so_pick_f (v := (.v (.bool false))) rfl rfl rfl ?_
    refine so_assign (v := (.v (.bool false))) rfl ?_
    refine so_nil ?_
    exact by_ret rfl ⟨_, h, rfl, rfl⟩
theorem spec_l00In_ok {fr : List Pc} {H : Heap} (a0 : Int) (a1 : Int) (a2 : Int) (hs : Sep H (fr))  (K : Bool → Prop) (h : spec_l00In.wp a0 a1 a2 K) : OkQ Try.prog 64 [(.v (.int .i64 a0)), (.v (.int .i64 a1)), (.v (.int .i64 a2))] H (fun r H2 => ∃ (y0 : Bool), K y0 ∧ r = (.v (.bool y0)) ∧ H = H2) := by
  unfold spec_l00In.wp at h
  refine of_body Try.f64 F.hm Try.func64 rfl Try.call64 (by kernel_rfl) (by simp) ?_
  refine fi_seq ?_
  refine fi_region ?_
  refine so_assign (v := (.v (.bool false))) rfl ?_
  refine so_nil ?_
  refine fi_seq ?_
  refine fi_region ?_
  refine so_move (v := (.v (.int .i64 a0))) rfl ?_
  refine so_move (v := (.v (.int .i64 a1))) rfl ?_
  refine so_bin rfl rfl ab_geq ?_
  refine so_move (v := (.v (.bool (decide (a1 ≤ a0))))) rfl ?_
  replace h := ofP h; rcases h with ⟨c101, h⟩ | ⟨c101, h⟩
  · refine so_gyes rfl (decide_eq_true c101) ?_
    refine so_move (v := (.v (.int .i64 a0))) rfl ?_
    refine so_gyes rfl (decide_eq_true c101) ?_
    refine so_move (v := (.v (.int .i64 a2))) rfl ?_
    refine so_gyes rfl (decide_eq_true c101) ?_
    refine so_bin rfl rfl ab_leq ?_
    refine so_pick_t (v := (.v (.bool (decide (a0 ≤ a2))))) rfl (decide_eq_true c101) rfl ?_
    refine so_assign (v := (.v (.bool (decide (a0 ≤ a2))))) rfl ?_
    refine so_nil ?_
    exact by_ret rfl ⟨_, h, rfl, rfl⟩
  · refine so_gno rfl (decide_eq_false c101) ?_
    refine so_gno rfl (decide_eq_false c101) ?_
    refine so_gno rfl (decide_eq_false c101) ?_
    refine so_pick_f (v := (.v (.bool false))) rfl (decide_eq_false c101) rfl ?_
    refine so_assign (v := (.v (.bool false))) rfl ?_
    refine so_nil ?_
    exact by_ret rfl ⟨_, h, rfl, rfl⟩
theorem spec_l02Levels_ok {fr : List Pc} {H : Heap} (a0 : Int) (hs : Sep H (fr))  (K : Bool → Prop) (h : spec_l02Levels.wp a0 K) : OkQ Try.prog 116 [(.v (.int .i64 a0))] H (fun r H2 => ∃ (y0 : Bool), K y0 ∧ r = (.v (.bool y0)) ∧ H = H2) := by
  unfold spec_l02Levels.wp at h
  refine of_body Try.f116 F.hm Try.func116 rfl Try.call116 (by kernel_rfl) (by simp) ?_
  refine fi_seq ?_
  refine fi_region ?_
  refine so_assign (v := (.v (.bool false))) rfl ?_
  refine so_nil ?_
  refine fi_seq ?_
  refine fi_region ?_
  refine so_move (v := (.v (.int .i64 a0))) rfl ?_
  refine sv_callS (spec_l00In_ok a0 (1 : Int) (6 : Int) hs  _ h) (fun _ _ ⟨_, _, _, e⟩ => e) rfl rfl ?_
  clear h
  rintro _ _ ⟨y101, h, rfl, rfl⟩
  refine so_assign (v := (.v (.bool y101))) rfl ?_
  refine so_nil ?_
  exact by_ret rfl ⟨_, h, rfl, rfl⟩
theorem F158.ag26 : tagg Try.prog 26 = some false := by kernel_rfl
theorem F158.ti24 : (telem Try.prog 24).isSome = true := by kernel_rfl
theorem F158.tl24 : (telem Try.prog 24).bind (tsz Try.prog) = some 1 := by kernel_rfl
theorem spec_l02Beside_ok {fr : List Pc} {H : Heap} (v0 : AV) (l0 : List (Nat)) (a1 : Int) (hs : Sep H (fr)) (g0 : ∀ H, Sep H fr → Shows H v0 1 (enc (eFlt .f32) l0)) (K : Nat → Prop) (h : spec_l02Beside.wp l0 a1 K) : OkQ Try.prog 158 [(.v v0), (.v (.int .i64 a1))] H (fun r H2 => ∃ (y0 : Nat), K y0 ∧ r = (.v (.flt .f32 y0)) ∧ H = H2) := by
  unfold spec_l02Beside.wp at h
  refine of_body Try.f158 F.hm Try.func158 rfl Try.call158 (by kernel_rfl) (by simp) ?_
  refine fi_seq ?_
  refine fi_region ?_
  refine so_assign (v := (.v (.flt .f32 (cz .f32 0)))) rfl ?_
  refine so_nil ?_
  refine fi_seq ?_
  refine fi_region ?_
  refine so_move (v := (.v v0)) rfl ?_
  refine so_move (v := (.v v0)) rfl ?_
  refine sv_len (g0 _ hs) (fun _ => rfl) (by decide) rfl F158.ti24 ?_
  refine so_bin rfl rfl ab_sub ?_
  refine so_move (v := (.v (.int .i64 a1))) rfl ?_
  refine sv_min rfl rfl ?_
  refine sv_max rfl rfl ?_
  obtain ⟨c101, h⟩ := h
  refine sv_idx (g0 _ hs) c101 (fun _ => rfl) (by decide) rfl rfl F158.tl24 ?_
  refine sv_cell (g0 _ hs) c101 (0 : Nat) 0 (fun x => (AV.flt .f32 x)) (fun _ => rfl) (fun _ => rfl) rfl F158.ag26 ?_
  refine so_assign (v := (.v (.flt .f32 (l0.getD ((mxI (0 : Int) (mnI (IntKind.i64.wrap ((l0.length : Int) - (1 : Int))) a1))).toNat (0 : Nat))))) rfl ?_
  refine so_nil ?_
  exact by_ret rfl ⟨_, h, rfl, rfl⟩
theorem F148.ag26 : tagg Try.prog 26 = some false := by kernel_rfl
theorem F148.sz26 : tsz Try.prog 26 = some 1 := by kernel_rfl
theorem F148.ti24 : (telem Try.prog 24).isSome = true := by kernel_rfl
theorem F148.tl24 : (telem Try.prog 24).bind (tsz Try.prog) = some 1 := by kernel_rfl
theorem spec_l02Weigh_ok {fr : List Pc} {H : Heap} (v0 : AV) (l0 : List (Nat)) (v1 : AV) (l1 : List (Nat)) (a2 : Int) (a3 : Nat) (hs : Sep H (Pc.osl v0 1 (enc (eFlt .f32) l0) :: Pc.osl v1 1 (enc (eFlt .f32) l1) :: fr))  (K : (List (Nat)) → (List (Nat)) → Prop) (h : spec_l02Weigh.wp l0 l1 a2 a3 K) : OkQ Try.prog 148 [(.v v0), (.v v1), (.v (.int .i64 a2)), (.v (.flt .f32 a3))] H (fun r H2 => ∃ (y0 : List (Nat)) (y1 : List (Nat)), K y0 y1 ∧ r = (.t []) ∧ Sep H2 (Pc.osl v0 1 (enc (eFlt .f32) y0) :: Pc.osl v1 1 (enc (eFlt .f32) y1) :: fr)) := by
  unfold spec_l02Weigh.wp at h
  refine of_body Try.f148 F.hm Try.func148 rfl Try.call148 (by kernel_rfl) (by simp) ?_
  refine fi_seq ?_
  refine fi_seq ?_
  refine fi_region ?_
  refine so_move (v := (.v (.int .i64 a2))) rfl ?_
  refine so_bin rfl rfl (ab_rem (by decide)) ?_
  refine so_bin rfl rfl ab_eql ?_
  refine so_nil ?_
  replace h := ofP h; rcases h with ⟨c103, h⟩ | ⟨c103, h⟩
  · refine fi_true rfl (decide_eq_true c103) ?_
    refine fi_seq ?_
    refine fi_seq ?_
    refine fi_region ?_
    refine so_assign (v := (.v (.int .i64 (0 : Int)))) rfl ?_
    refine so_nil ?_
    refine fi_block ?_
    refine fi_loop ?_
    refine fi_at [(0, (.v v0)), (1, (.v v1)), (3, (.v (.flt .f32 a3))), (8, (.v (.int .i64 (0 : Int))))] ⟨rfl, rfl, rfl, rfl, trivial⟩ ?_
    refine h (fun (high113 : List (Nat)) (i114 : Int) => ∀ (s : Nat → TV) (H : Heap), Sep H (Pc.osl v0 1 (enc (eFlt .f32) l0) :: Pc.osl v1 1 (enc (eFlt .f32) high113) :: fr) → Fin _ _ (updL s [(0, (.v v0)), (1, (.v v1)), (3, (.v (.flt .f32 a3))), (8, (.v (.int .i64 i114)))]) H _) ?_ _ _ hs
    intro high113 i114 h s121 H122 hs
    refine fi_inLoop ?_
    refine fi_seq ?_
    refine fi_seq ?_
    refine fi_region ?_
    refine so_move (v := (.v (.int .i64 i114))) rfl ?_
    refine so_move (v := (.v v1)) rfl ?_
    refine sv_len (hs.shows 1 rfl) (fun _ => rfl) (by decide) rfl F148.ti24 ?_
    refine so_bin rfl rfl ab_lss ?_
    refine so_nil ?_
    replace h := ofP h; rcases h with ⟨c115, h⟩ | ⟨c115, h⟩
    · refine fi_true rfl (decide_eq_true c115) ?_
      refine fi_skip ?_
      refine fi_seq ?_
      refine fi_block ?_
      refine fi_region ?_
      refine so_move (v := (.v v1)) rfl ?_
      refine so_move (v := (.v (.int .i64 i114))) rfl ?_
      refine so_move (v := (.v v1)) rfl ?_
      refine so_move (v := (.v (.int .i64 i114))) rfl ?_
      obtain ⟨c116, h⟩ := h
      refine sv_idx (hs.shows 1 rfl) c116 (fun _ => rfl) (by decide) rfl rfl F148.tl24 ?_
      refine sv_cell (hs.shows 1 rfl) c116 (0 : Nat) 0 (fun x => (AV.flt .f32 x)) (fun _ => rfl) (fun _ => rfl) rfl F148.ag26 ?_
      refine so_move (v := (.v (.flt .f32 a3))) rfl ?_
      refine so_move (v := (.v v0)) rfl ?_
      refine so_move (v := (.v (.int .i64 i114))) rfl ?_
      obtain ⟨c117, h⟩ := h
      refine sv_idx (hs.shows 0 rfl) c117 (fun _ => rfl) (by decide) rfl rfl F148.tl24 ?_
      refine sv_cell (hs.shows 0 rfl) c117 (0 : Nat) 0 (fun x => (AV.flt .f32 x)) (fun _ => rfl) (fun _ => rfl) rfl F148.ag26 ?_
      refine so_move (v := (.v v0)) rfl ?_
      refine so_move (v := (.v (.int .i64 i114))) rfl ?_
      refine so_bin rfl rfl ab_add ?_
      refine sv_callS (spec_l02Beside_ok v0 l0 (IntKind.i64.wrap (i114 + (1 : Int))) hs (fun _ hs => (hs.shows 0 rfl)) _ h) (fun _ _ ⟨_, _, _, e⟩ => e) rfl rfl ?_
      clear h
      rintro _ _ ⟨y118, h, rfl, rfl⟩
      refine so_bin rfl rfl ab_fadd ?_
      refine so_bin rfl rfl ab_fmul ?_
      refine so_bin rfl rfl ab_fadd ?_
      refine sv_idx (hs.shows 1 rfl) c116 (fun _ => rfl) (by decide) rfl rfl F148.tl24 ?_
      refine sv_set hs 1 rfl c116 (fop .add .f32 (high113.getD (i114).toNat (0 : Nat)) (fop .mul .f32 a3 (fop .add .f32 (l0.getD (i114).toNat (0 : Nat)) y118))) (fun _ => rfl) (by decide) rfl rfl rfl rfl F148.sz26 (fun _ => by kernel_rfl) (fun H120 hs => ?_)
      refine so_nil ?_
      refine fi_inBlock ?_
      refine fi_region ?_
      refine so_move (v := (.v (.int .i64 i114))) rfl ?_
      refine so_bin rfl rfl ab_add ?_
      refine so_assign (v := (.v (.int .i64 (IntKind.i64.wrap (i114 + (1 : Int)))))) rfl ?_
      refine so_nil ?_
      exact fi_at [(0, (.v v0)), (1, (.v v1)), (3, (.v (.flt .f32 a3))), (8, (.v (.int .i64 (IntKind.i64.wrap (i114 + (1 : Int))))))] ⟨rfl, rfl, rfl, rfl, trivial⟩ (h _ _  hs)
    · refine fi_false rfl (decide_eq_false c115) ?_
      refine fi_exit rfl ?_
      exact by_ret rfl ⟨_, _, h, rfl, (Sep.front 1 (Sep.front 1 hs rfl) rfl)⟩
  · refine fi_false rfl (decide_eq_false c103) ?_
    refine fi_skip ?_
    refine fi_seq ?_
    refine fi_region ?_
    refine so_assign (v := (.v (.int .i64 (0 : Int)))) rfl ?_
    refine so_nil ?_
    refine fi_block ?_
    refine fi_loop ?_
    refine fi_at [(0, (.v v0)), (1, (.v v1)), (3, (.v (.flt .f32 a3))), (9, (.v (.int .i64 (0 : Int))))] ⟨rfl, rfl, rfl, rfl, trivial⟩ ?_
    refine h (fun (low133 : List (Nat)) (i134 : Int) => ∀ (s : Nat → TV) (H : Heap), Sep H (Pc.osl v0 1 (enc (eFlt .f32) low133) :: Pc.osl v1 1 (enc (eFlt .f32) l1) :: fr) → Fin _ _ (updL s [(0, (.v v0)), (1, (.v v1)), (3, (.v (.flt .f32 a3))), (9, (.v (.int .i64 i134)))]) H _) ?_ _ _ hs
    intro low133 i134 h s142 H143 hs
    refine fi_inLoop ?_
    refine fi_seq ?_
    refine fi_seq ?_
    refine fi_region ?_
    refine so_move (v := (.v (.int .i64 i134))) rfl ?_
    refine so_move (v := (.v v0)) rfl ?_
    refine sv_len (hs.shows 0 rfl) (fun _ => rfl) (by decide) rfl F148.ti24 ?_
    refine so_bin rfl rfl ab_lss ?_
    refine so_nil ?_
    replace h := ofP h; rcases h with ⟨c135, h⟩ | ⟨c135, h⟩
    · refine fi_true rfl (decide_eq_true c135) ?_
      refine fi_skip ?_
      refine fi_seq ?_
      refine fi_block ?_
      refine fi_region ?_
      refine so_move (v := (.v v0)) rfl ?_
      refine so_move (v := (.v (.int .i64 i134))) rfl ?_
      refine so_move (v := (.v v0)) rfl ?_
      refine so_move (v := (.v (.int .i64 i134))) rfl ?_
      obtain ⟨c136, h⟩ := h
      refine sv_idx (hs.shows 0 rfl) c136 (fun _ => rfl) (by decide) rfl rfl F148.tl24 ?_
      refine sv_cell (hs.shows 0 rfl) c136 (0 : Nat) 0 (fun x => (AV.flt .f32 x)) (fun _ => rfl) (fun _ => rfl) rfl F148.ag26 ?_
      refine so_move (v := (.v (.flt .f32 a3))) rfl ?_
      refine so_move (v := (.v v1)) rfl ?_
      refine so_move (v := (.v (.int .i64 i134))) rfl ?_
      refine so_bin rfl rfl ab_sub ?_
      refine sv_callS (spec_l02Beside_ok v1 l1 (IntKind.i64.wrap (i134 - (1 : Int))) hs (fun _ hs => (hs.shows 1 rfl)) _ h) (fun _ _ ⟨_, _, _, e⟩ => e) rfl rfl ?_
      clear h
      rintro _ _ ⟨y137, h, rfl, rfl⟩
      refine so_move (v := (.v v1)) rfl ?_
      refine so_move (v := (.v (.int .i64 i134))) rfl ?_
      refine sv_callS (spec_l02Beside_ok v1 l1 i134 hs (fun _ hs => (hs.shows 1 rfl)) _ h) (fun _ _ ⟨_, _, _, e⟩ => e) rfl rfl ?_
      clear h
      rintro _ _ ⟨y139, h, rfl, rfl⟩
      refine so_bin rfl rfl ab_fadd ?_
      refine so_bin rfl rfl ab_fmul ?_
      refine so_bin rfl rfl ab_fadd ?_
      refine sv_idx (hs.shows 0 rfl) c136 (fun _ => rfl) (by decide) rfl rfl F148.tl24 ?_
      refine sv_set hs 0 rfl c136 (fop .add .f32 (low133.getD (i134).toNat (0 : Nat)) (fop .mul .f32 a3 (fop .add .f32 y137 y139))) (fun _ => rfl) (by decide) rfl rfl rfl rfl F148.sz26 (fun _ => by kernel_rfl) (fun H141 hs => ?_)
      refine so_nil ?_
      refine fi_inBlock ?_
      refine fi_region ?_
      refine so_move (v := (.v (.int .i64 i134))) rfl ?_
      refine so_bin rfl rfl ab_add ?_
      refine so_assign (v := (.v (.int .i64 (IntKind.i64.wrap (i134 + (1 : Int)))))) rfl ?_
      refine so_nil ?_
      exact fi_at [(0, (.v v0)), (1, (.v v1)), (3, (.v (.flt .f32 a3))), (9, (.v (.int .i64 (IntKind.i64.wrap (i134 + (1 : Int))))))] ⟨rfl, rfl, rfl, rfl, trivial⟩ (h _ _  hs)
    · refine fi_false rfl (decide_eq_false c135) ?_
      refine fi_exit rfl ?_
      exact by_end rfl ⟨_, _, h, rfl, (Sep.front 1 (Sep.front 1 hs rfl) rfl)⟩
theorem F145.ag24 : tagg Try.prog 24 = some false := by kernel_rfl
theorem F145.ag26 : tagg Try.prog 26 = some false := by kernel_rfl
theorem F145.fd38_0 : tfield Try.prog 38 0 = some (0, 1, false) := by kernel_rfl
theorem F145.fd38_1 : tfield Try.prog 38 1 = some (1, 1, false) := by kernel_rfl
theorem F145.sz26 : tsz Try.prog 26 = some 1 := by kernel_rfl
theorem F145.ta24_24 : tapp Try.prog 24 24 = some (1, 4) := by kernel_rfl
theorem F145.te24 : telem Try.prog 24 = some 26 := by kernel_rfl
theorem F145.ti24 : (telem Try.prog 24).isSome = true := by kernel_rfl
theorem F145.tl24 : (telem Try.prog 24).bind (tsz Try.prog) = some 1 := by kernel_rfl
theorem F145.ze26 : tzero Try.prog 26 = some [(.flt .f32 (0 : Nat))] := by kernel_rfl
theorem spec_l02LiftOnce_ok {fr : List Pc} {H : Heap} (i0 o0 : Nat) (v0 : AV) (l0 : List (Nat)) (a1 : Nat) (v2 : AV) (l2 : List (Nat)) (hs : Sep H (fr)) (g0 : ∀ H, Sep H fr → Shows H v0 1 (enc (eFlt .f32) l0)) (q0 : ∀ H, Sep H fr → PtAt H i0 o0 [v0, (.flt .f32 a1)]) (g2 : ∀ H, Sep H fr → Shows H v2 1 (enc (eFlt .f32) l2)) (K : (List (Nat)) → (List (Nat)) → Bool → Prop) (h : spec_l02LiftOnce.wp l0 a1 l2 K) : OkQ Try.prog 145 [(.v (.ptr i0 o0)), (.v v2)] H (fun r H2 => ∃ (y0 : List (Nat)) (y1 : List (Nat)) (y2 : Bool), K y0 y1 y2 ∧ ∃ (w0_ : AV) (w1_ : AV), r = (.t [(.v w0_), (.v w1_), (.v (.bool y2))]) ∧ Sep H2 (Pc.osl w0_ 1 (enc (eFlt .f32) y0) :: Pc.osl w1_ 1 (enc (eFlt .f32) y1) :: fr)) := by
  unfold spec_l02LiftOnce.wp at h
  refine of_body Try.f145 F.hm Try.func145 rfl Try.call145 (by kernel_rfl) (by simp) ?_
  refine fi_seq ?_
  refine fi_region ?_
  refine so_assign (v := (.v .nilsl)) rfl ?_
  refine so_assign (v := (.v .nilsl)) rfl ?_
  refine so_assign (v := (.v (.bool false))) rfl ?_
  refine so_nil ?_
  refine fi_seq ?_
  refine fi_region ?_
  refine sv_bslice hs (eFlt .f32) ([] : List (Nat)) [] F145.te24 F145.sz26 F145.ze26 rfl rfl rfl rfl (fun _ => rfl) rfl (by decide) nofun (fun v101 H102 nv101 hs => ?_)
  refine so_assign (v := (.v v101)) rfl ?_
  refine so_nil ?_
  refine fi_seq ?_
  refine fi_region ?_
  refine sv_bslice hs (eFlt .f32) ([] : List (Nat)) [] F145.te24 F145.sz26 F145.ze26 rfl rfl rfl rfl (fun _ => rfl) rfl (by decide) nofun (fun v104 H105 nv104 hs => ?_)
  refine so_assign (v := (.v v104)) rfl ?_
  refine so_nil ?_
  refine fi_seq ?_
  refine fi_seq ?_
  refine fi_region ?_
  refine so_assign (v := (.v (.int .i64 (0 : Int)))) rfl ?_
  refine so_nil ?_
  refine fi_block ?_
  refine fi_loop ?_
  refine fi_at [(0, (.v (.ptr i0 o0))), (1, (.v v2)), (7, (.v v101)), (8, (.v v104)), (9, (.v (.int .i64 (0 : Int))))] ⟨rfl, rfl, rfl, rfl, rfl, trivial⟩ ?_
  refine h (fun (high267 : List (Nat)) (low269 : List (Nat)) (i271 : Int) => ∀ (s : Nat → TV) (H : Heap) (v268 : AV) (nv268 : v268 ≠ .nilsl) (v270 : AV) (nv270 : v270 ≠ .nilsl), Sep H (Pc.osl v268 1 (enc (eFlt .f32) high267) :: Pc.osl v270 1 (enc (eFlt .f32) low269) :: fr) → Fin _ _ (updL s [(0, (.v (.ptr i0 o0))), (1, (.v v2)), (7, (.v v270)), (8, (.v v268)), (9, (.v (.int .i64 i271)))]) H _) ?_ _ _ _ nv104 _ nv101 hs
  intro high267 low269 i271 h s425 H426 v268 nv268 v270 nv270 hs
  refine fi_inLoop ?_
  refine fi_seq ?_
  refine fi_seq ?_
  refine fi_region ?_
  refine so_move (v := (.v (.int .i64 i271))) rfl ?_
  refine so_move (v := (.v v2)) rfl ?_
  refine sv_len (g2 _ hs.tl.tl) (fun _ => rfl) (by decide) rfl F145.ti24 ?_
  refine so_bin rfl rfl ab_lss ?_
  refine so_nil ?_
  replace h := ofP h; rcases h with ⟨c272, h⟩ | ⟨c272, h⟩
  · refine fi_true rfl (decide_eq_true c272) ?_
    refine fi_skip ?_
    refine fi_seq ?_
    refine fi_block ?_
    refine fi_seq ?_
    refine fi_region ?_
    refine so_move (v := (.v (.int .i64 i271))) rfl ?_
    refine so_bin rfl rfl (ab_rem (by decide)) ?_
    refine so_bin rfl rfl ab_eql ?_
    refine so_nil ?_
    replace h := ofP h; rcases h with ⟨c273, h⟩ | ⟨c273, h⟩
    · refine fi_true rfl (decide_eq_true c273) ?_
      refine fi_region ?_
      refine so_move (v := (.v v270)) rfl ?_
      refine so_move (v := (.v v2)) rfl ?_
      refine so_move (v := (.v (.int .i64 i271))) rfl ?_
      obtain ⟨c274, h⟩ := h
      refine sv_idx (g2 _ hs.tl.tl) c274 (fun _ => rfl) (by decide) rfl rfl F145.tl24 ?_
      refine sv_cell (g2 _ hs.tl.tl) c274 (0 : Nat) 0 (fun x => (AV.flt .f32 x)) (fun _ => rfl) (fun _ => rfl) rfl F145.ag26 ?_
      refine sv_bslice hs (eFlt .f32) ([(l2.getD (i271).toNat (0 : Nat))] : List (Nat)) [[(.flt .f32 (l2.getD (i271).toNat (0 : Nat)))]] F145.te24 F145.sz26 F145.ze26 rfl rfl rfl rfl (fun _ => rfl) rfl (by decide) nofun (fun v275 H276 nv275 hs => ?_)
      obtain ⟨c280, h⟩ := h
      refine sv_app hs 2 rfl (hs.shows 0 rfl) (fun _ => rfl) (by decide) F145.ta24_24 (by decide) c280 rfl rfl nofun (fun v278 H279 kv278 hs => ?_)
      replace hs := hs.del 0
      have nv278 := kv278 nv270
      refine so_assign (v := (.v v278)) rfl ?_
      refine so_nil ?_
      refine fi_inBlock ?_
      refine fi_region ?_
      refine so_move (v := (.v (.int .i64 i271))) rfl ?_
      refine so_bin rfl rfl ab_add ?_
      refine so_assign (v := (.v (.int .i64 (IntKind.i64.wrap (i271 + (1 : Int)))))) rfl ?_
      refine so_nil ?_
      exact fi_at [(0, (.v (.ptr i0 o0))), (1, (.v v2)), (7, (.v v278)), (8, (.v v268)), (9, (.v (.int .i64 (IntKind.i64.wrap (i271 + (1 : Int))))))] ⟨rfl, rfl, rfl, rfl, rfl, trivial⟩ (h _ _ _ nv268 _ nv278 hs)
    · refine fi_false rfl (decide_eq_false c273) ?_
      refine fi_region ?_
      refine so_move (v := (.v v268)) rfl ?_
      refine so_move (v := (.v v2)) rfl ?_
      refine so_move (v := (.v (.int .i64 i271))) rfl ?_
      obtain ⟨c281, h⟩ := h
      refine sv_idx (g2 _ hs.tl.tl) c281 (fun _ => rfl) (by decide) rfl rfl F145.tl24 ?_
      refine sv_cell (g2 _ hs.tl.tl) c281 (0 : Nat) 0 (fun x => (AV.flt .f32 x)) (fun _ => rfl) (fun _ => rfl) rfl F145.ag26 ?_
      refine sv_bslice hs (eFlt .f32) ([(l2.getD (i271).toNat (0 : Nat))] : List (Nat)) [[(.flt .f32 (l2.getD (i271).toNat (0 : Nat)))]] F145.te24 F145.sz26 F145.ze26 rfl rfl rfl rfl (fun _ => rfl) rfl (by decide) nofun (fun v282 H283 nv282 hs => ?_)
      obtain ⟨c287, h⟩ := h
      refine sv_app hs 1 rfl (hs.shows 0 rfl) (fun _ => rfl) (by decide) F145.ta24_24 (by decide) c287 rfl rfl nofun (fun v285 H286 kv285 hs => ?_)
      replace hs := hs.del 0
      have nv285 := kv285 nv268
      refine so_assign (v := (.v v285)) rfl ?_
      refine so_nil ?_
      refine fi_inBlock ?_
      refine fi_region ?_
      refine so_move (v := (.v (.int .i64 i271))) rfl ?_
      refine so_bin rfl rfl ab_add ?_
      refine so_assign (v := (.v (.int .i64 (IntKind.i64.wrap (i271 + (1 : Int)))))) rfl ?_
      refine so_nil ?_
      exact fi_at [(0, (.v (.ptr i0 o0))), (1, (.v v2)), (7, (.v v270)), (8, (.v v285)), (9, (.v (.int .i64 (IntKind.i64.wrap (i271 + (1 : Int))))))] ⟨rfl, rfl, rfl, rfl, rfl, trivial⟩ (h _ _ _ nv285 _ nv270 hs)
  · refine fi_false rfl (decide_eq_false c272) ?_
    refine fi_exit rfl ?_
    refine fi_seq ?_
    refine fi_seq ?_
    refine fi_region ?_
    refine so_move (v := (.v v268)) rfl ?_
    refine sv_len (hs.shows 0 rfl) (fun _ => rfl) (by decide) rfl F145.ti24 ?_
    refine so_bin rfl rfl ab_eql ?_
    refine so_nil ?_
    replace h := ofP h; rcases h with ⟨c288, h⟩ | ⟨c288, h⟩
    · refine fi_true rfl (decide_eq_true c288) ?_
      refine fi_seq ?_
      refine fi_region ?_
      refine so_move (v := (.v v270)) rfl ?_
      refine so_move (v := (.v v268)) rfl ?_
      refine so_assign (v := (.v v270)) rfl ?_
      refine so_assign (v := (.v v268)) rfl ?_
      refine so_assign (v := (.v (.bool true))) rfl ?_
      refine so_nil ?_
      exact by_ret rfl ⟨_, _, _, h, _, _, rfl, (Sep.front 1 hs rfl)⟩
    · refine fi_false rfl (decide_eq_false c288) ?_
      refine fi_skip ?_
      refine fi_seq ?_
      refine fi_seq ?_
      refine fi_region ?_
      refine so_assign (v := (.v (.int .i64 (0 : Int)))) rfl ?_
      refine so_nil ?_
      refine fi_block ?_
      refine fi_loop ?_
      refine fi_at [(0, (.v (.ptr i0 o0))), (7, (.v v270)), (8, (.v v268)), (10, (.v (.int .i64 (0 : Int))))] ⟨rfl, rfl, rfl, rfl, trivial⟩ ?_
      refine h (fun (high356 : List (Nat)) (low357 : List (Nat)) (k358 : Int) => ∀ (s : Nat → TV) (H : Heap), Sep H (Pc.osl v268 1 (enc (eFlt .f32) high356) :: Pc.osl v270 1 (enc (eFlt .f32) low357) :: fr) → Fin _ _ (updL s [(0, (.v (.ptr i0 o0))), (7, (.v v270)), (8, (.v v268)), (10, (.v (.int .i64 k358)))]) H _) ?_ _ _ hs
      intro high356 low357 k358 h s423 H424 hs
      refine fi_inLoop ?_
      refine fi_seq ?_
      refine fi_seq ?_
      refine fi_region ?_
      refine so_move (v := (.v (.int .i64 k358))) rfl ?_
      refine so_move (v := (.v (.ptr i0 o0))) rfl ?_
      refine so_nilCheck rfl ?_
      refine so_fieldAddr rfl F145.fd38_0 ?_
      refine su_ld (q0 _ hs.tl.tl) 0 rfl rfl F145.ag24 ?_
      refine sv_len (g0 _ hs.tl.tl) (fun _ => rfl) (by decide) rfl F145.ti24 ?_
      refine so_bin rfl rfl ab_lss ?_
      refine so_nil ?_
      replace h := ofP h; rcases h with ⟨c359, h⟩ | ⟨c359, h⟩
      · refine fi_true rfl (decide_eq_true c359) ?_
        refine fi_skip ?_
        refine fi_seq ?_
        refine fi_block ?_
        refine fi_region ?_
        refine so_move (v := (.v v270)) rfl ?_
        refine so_move (v := (.v v268)) rfl ?_
        refine so_move (v := (.v (.int .i64 k358))) rfl ?_
        refine so_move (v := (.v (.ptr i0 o0))) rfl ?_
        refine so_nilCheck rfl ?_
        refine so_fieldAddr rfl F145.fd38_0 ?_
        refine su_ld (q0 _ hs.tl.tl) 0 rfl rfl F145.ag24 ?_
        refine so_move (v := (.v (.int .i64 k358))) rfl ?_
        obtain ⟨c360, h⟩ := h
        refine sv_idx (g0 _ hs.tl.tl) c360 (fun _ => rfl) (by decide) rfl rfl F145.tl24 ?_
        refine sv_cell (g0 _ hs.tl.tl) c360 (0 : Nat) 0 (fun x => (AV.flt .f32 x)) (fun _ => rfl) (fun _ => rfl) rfl F145.ag26 ?_
        replace hs := (Sep.front 1 hs rfl)
        refine sv_call (spec_l02Weigh_ok v270 low357 v268 high356 k358 (l0.getD (k358).toNat (0 : Nat)) hs  _ h) rfl rfl nofun ?_
        clear h hs
        rintro _ H363 ⟨y361, y362, h, rfl, hs⟩
        refine so_nil ?_
        refine fi_inBlock ?_
        refine fi_region ?_
        refine so_move (v := (.v (.int .i64 k358))) rfl ?_
        refine so_bin rfl rfl ab_add ?_
        refine so_assign (v := (.v (.int .i64 (IntKind.i64.wrap (k358 + (1 : Int)))))) rfl ?_
        refine so_nil ?_
        exact fi_at [(0, (.v (.ptr i0 o0))), (7, (.v v270)), (8, (.v v268)), (10, (.v (.int .i64 (IntKind.i64.wrap (k358 + (1 : Int))))))] ⟨rfl, rfl, rfl, rfl, trivial⟩ (h _ _  (Sep.front 1 (Sep.front 0 hs rfl) rfl))
      · refine fi_false rfl (decide_eq_false c359) ?_
        refine fi_exit rfl ?_
        refine fi_seq ?_
        refine fi_seq ?_
        refine fi_region ?_
        refine so_assign (v := (.v (.int .i64 (0 : Int)))) rfl ?_
        refine so_nil ?_
        refine fi_block ?_
        refine fi_loop ?_
        refine fi_at [(0, (.v (.ptr i0 o0))), (7, (.v v270)), (8, (.v v268)), (11, (.v (.int .i64 (0 : Int))))] ⟨rfl, rfl, rfl, rfl, trivial⟩ ?_
        refine h (fun (low393 : List (Nat)) (i394 : Int) => ∀ (s : Nat → TV) (H : Heap), Sep H (Pc.osl v268 1 (enc (eFlt .f32) high356) :: Pc.osl v270 1 (enc (eFlt .f32) low393) :: fr) → Fin _ _ (updL s [(0, (.v (.ptr i0 o0))), (7, (.v v270)), (8, (.v v268)), (11, (.v (.int .i64 i394)))]) H _) ?_ _ _ hs
        intro low393 i394 h s421 H422 hs
        refine fi_inLoop ?_
        refine fi_seq ?_
        refine fi_seq ?_
        refine fi_region ?_
        refine so_move (v := (.v (.int .i64 i394))) rfl ?_
        refine so_move (v := (.v v270)) rfl ?_
        refine sv_len (hs.shows 1 rfl) (fun _ => rfl) (by decide) rfl F145.ti24 ?_
        refine so_bin rfl rfl ab_lss ?_
        refine so_nil ?_
        replace h := ofP h; rcases h with ⟨c395, h⟩ | ⟨c395, h⟩
        · refine fi_true rfl (decide_eq_true c395) ?_
          refine fi_skip ?_
          refine fi_seq ?_
          refine fi_block ?_
          refine fi_region ?_
          refine so_move (v := (.v v270)) rfl ?_
          refine so_move (v := (.v (.int .i64 i394))) rfl ?_
          refine so_move (v := (.v v270)) rfl ?_
          refine so_move (v := (.v (.int .i64 i394))) rfl ?_
          obtain ⟨c396, h⟩ := h
          refine sv_idx (hs.shows 1 rfl) c396 (fun _ => rfl) (by decide) rfl rfl F145.tl24 ?_
          refine sv_cell (hs.shows 1 rfl) c396 (0 : Nat) 0 (fun x => (AV.flt .f32 x)) (fun _ => rfl) (fun _ => rfl) rfl F145.ag26 ?_
          refine so_move (v := (.v (.ptr i0 o0))) rfl ?_
          refine so_nilCheck rfl ?_
          refine so_fieldAddr rfl F145.fd38_1 ?_
          refine su_ld (q0 _ hs.tl.tl) 1 rfl rfl F145.ag26 ?_
          refine so_bin rfl rfl ab_fmul ?_
          refine sv_idx (hs.shows 1 rfl) c396 (fun _ => rfl) (by decide) rfl rfl F145.tl24 ?_
          refine sv_set hs 1 rfl c396 (fop .mul .f32 (low393.getD (i394).toNat (0 : Nat)) a1) (fun _ => rfl) (by decide) rfl rfl rfl rfl F145.sz26 (fun _ => by kernel_rfl) (fun H397 hs => ?_)
          refine so_nil ?_
          refine fi_inBlock ?_
          refine fi_region ?_
          refine so_move (v := (.v (.int .i64 i394))) rfl ?_
          refine so_bin rfl rfl ab_add ?_
          refine so_assign (v := (.v (.int .i64 (IntKind.i64.wrap (i394 + (1 : Int)))))) rfl ?_
          refine so_nil ?_
          exact fi_at [(0, (.v (.ptr i0 o0))), (7, (.v v270)), (8, (.v v268)), (11, (.v (.int .i64 (IntKind.i64.wrap (i394 + (1 : Int))))))] ⟨rfl, rfl, rfl, rfl, trivial⟩ (h _ _  hs)
        · refine fi_false rfl (decide_eq_false c395) ?_
          refine fi_exit rfl ?_
          refine fi_seq ?_
          refine fi_seq ?_
          refine fi_region ?_
          refine so_assign (v := (.v (.int .i64 (0 : Int)))) rfl ?_
          refine so_nil ?_
          refine fi_block ?_
          refine fi_loop ?_
          refine fi_at [(0, (.v (.ptr i0 o0))), (7, (.v v270)), (8, (.v v268)), (12, (.v (.int .i64 (0 : Int))))] ⟨rfl, rfl, rfl, rfl, trivial⟩ ?_
          refine h (fun (high409 : List (Nat)) (i410 : Int) => ∀ (s : Nat → TV) (H : Heap), Sep H (Pc.osl v268 1 (enc (eFlt .f32) high409) :: Pc.osl v270 1 (enc (eFlt .f32) low393) :: fr) → Fin _ _ (updL s [(0, (.v (.ptr i0 o0))), (7, (.v v270)), (8, (.v v268)), (12, (.v (.int .i64 i410)))]) H _) ?_ _ _ hs
          intro high409 i410 h s419 H420 hs
          refine fi_inLoop ?_
          refine fi_seq ?_
          refine fi_seq ?_
          refine fi_region ?_
          refine so_move (v := (.v (.int .i64 i410))) rfl ?_
          refine so_move (v := (.v v268)) rfl ?_
          refine sv_len (hs.shows 0 rfl) (fun _ => rfl) (by decide) rfl F145.ti24 ?_
          refine so_bin rfl rfl ab_lss ?_
          refine so_nil ?_
          replace h := ofP h; rcases h with ⟨c411, h⟩ | ⟨c411, h⟩
          · refine fi_true rfl (decide_eq_true c411) ?_
            refine fi_skip ?_
            refine fi_seq ?_
            refine fi_block ?_
            refine fi_region ?_
            refine so_move (v := (.v v268)) rfl ?_
            refine so_move (v := (.v (.int .i64 i410))) rfl ?_
            refine so_move (v := (.v v268)) rfl ?_
            refine so_move (v := (.v (.int .i64 i410))) rfl ?_
            obtain ⟨c412, h⟩ := h
            refine sv_idx (hs.shows 0 rfl) c412 (fun _ => rfl) (by decide) rfl rfl F145.tl24 ?_
            refine sv_cell (hs.shows 0 rfl) c412 (0 : Nat) 0 (fun x => (AV.flt .f32 x)) (fun _ => rfl) (fun _ => rfl) rfl F145.ag26 ?_
            refine so_move (v := (.v (.ptr i0 o0))) rfl ?_
            refine so_nilCheck rfl ?_
            refine so_fieldAddr rfl F145.fd38_1 ?_
            refine su_ld (q0 _ hs.tl.tl) 1 rfl rfl F145.ag26 ?_
            refine so_bin rfl rfl ab_fquo ?_
            refine sv_idx (hs.shows 0 rfl) c412 (fun _ => rfl) (by decide) rfl rfl F145.tl24 ?_
            refine sv_set hs 0 rfl c412 (fop .quo .f32 (high409.getD (i410).toNat (0 : Nat)) a1) (fun _ => rfl) (by decide) rfl rfl rfl rfl F145.sz26 (fun _ => by kernel_rfl) (fun H413 hs => ?_)
            refine so_nil ?_
            refine fi_inBlock ?_
            refine fi_region ?_
            refine so_move (v := (.v (.int .i64 i410))) rfl ?_
            refine so_bin rfl rfl ab_add ?_
            refine so_assign (v := (.v (.int .i64 (IntKind.i64.wrap (i410 + (1 : Int)))))) rfl ?_
            refine so_nil ?_
            exact fi_at [(0, (.v (.ptr i0 o0))), (7, (.v v270)), (8, (.v v268)), (12, (.v (.int .i64 (IntKind.i64.wrap (i410 + (1 : Int))))))] ⟨rfl, rfl, rfl, rfl, trivial⟩ (h _ _  hs)
          · refine fi_false rfl (decide_eq_false c411) ?_
            refine fi_exit rfl ?_
            refine fi_seq ?_
            refine fi_region ?_
            refine so_move (v := (.v v270)) rfl ?_
            refine so_move (v := (.v v268)) rfl ?_
            refine so_move (v := (.v v270)) rfl ?_
            refine sv_callS (spec_l02Finite_ok v270 low393 hs (fun _ hs => (hs.shows 1 rfl)) _ h) (fun _ _ ⟨_, _, _, e⟩ => e) rfl rfl ?_
            clear h
            rintro _ _ ⟨y414, h, rfl, rfl⟩
            refine so_move (v := (.v (.bool y414))) rfl ?_
            replace h := ofT h; rcases h with ⟨c416, h⟩ | ⟨c416, h⟩
            · refine so_gyes rfl c416 ?_
              refine so_move (v := (.v v268)) rfl ?_
              refine so_gyes rfl c416 ?_
              refine sv_callS (spec_l02Finite_ok v268 high409 hs (fun _ hs => (hs.shows 0 rfl)) _ h) (fun _ _ ⟨_, _, _, e⟩ => e) rfl rfl ?_
              clear h
              rintro _ _ ⟨y417, h, rfl, rfl⟩
              refine so_pick_t (v := (.v (.bool y417))) rfl c416 rfl ?_
              refine so_assign (v := (.v v270)) rfl ?_
              refine so_assign (v := (.v v268)) rfl ?_
              refine so_assign (v := (.v (.bool y417))) rfl ?_
              refine so_nil ?_
              exact by_ret rfl ⟨_, _, _, h, _, _, rfl, (Sep.front 1 hs rfl)⟩
            · refine so_gno rfl c416 ?_
              refine so_gno rfl c416 ?_
              refine so_pick_f (v := (.v (.bool false))) rfl c416 rfl ?_
              refine so_assign (v := (.v v270)) rfl ?_
              refine so_assign (v := (.v v268)) rfl ?_
              refine so_assign (v := (.v (.bool false))) rfl ?_
              refine so_nil ?_
              exact by_ret rfl ⟨_, _, _, h, _, _, rfl, (Sep.front 1 hs rfl)⟩
theorem F117.sz24 : tsz Try.prog 24 = some 1 := by kernel_rfl
theorem F117.sz26 : tsz Try.prog 26 = some 1 := by kernel_rfl
theorem F117.ta24_24 : tapp Try.prog 24 24 = some (1, 4) := by kernel_rfl
theorem F117.ta72_72 : tapp Try.prog 72 72 = some (1, 24) := by kernel_rfl
theorem F117.te24 : telem Try.prog 24 = some 26 := by kernel_rfl
theorem F117.te72 : telem Try.prog 72 = some 24 := by kernel_rfl
theorem F117.ti24 : (telem Try.prog 24).isSome = true := by kernel_rfl
theorem F117.ze24 : tzero Try.prog 24 = some [.nilsl] := by kernel_rfl
theorem F117.ze26 : tzero Try.prog 26 = some [(.flt .f32 (0 : Nat))] := by kernel_rfl
theorem spec_l02Deep_ok {fr : List Pc} {H : Heap} (i0 o0 : Nat) (v0 : AV) (l0 : List (Nat)) (a1 : Nat) (v2 : AV) (l2 : List (Nat)) (a3 : Int) (hs : Sep H (fr)) (g0 : ∀ H, Sep H fr → Shows H v0 1 (enc (eFlt .f32) l0)) (q0 : ∀ H, Sep H fr → PtAt H i0 o0 [v0, (.flt .f32 a1)]) (g2 : ∀ H, Sep H fr → Shows H v2 1 (enc (eFlt .f32) l2)) (K : (List (List (Nat))) → Bool → Prop) (h : spec_l02Deep.wp l0 a1 l2 a3 K) : OkQ Try.prog 117 [(.v (.ptr i0 o0)), (.v v2), (.v (.int .i64 a3))] H (fun r H2 => ∃ (y0 : List (List (Nat))) (y1 : Bool), K y0 y1 ∧ ∃ (w0_ : AV) (wsw0_ : List (List AV)) (Sw0_ : Nat → Prop), r = (.t [(.v w0_), (.v (.bool y1))]) ∧ Sep H2 (dpc w0_ 1 R_LeFlt_f32_o IR_LeFlt_f32_o y0 wsw0_ Sw0_ :: fr)) := by
  unfold spec_l02Deep.wp at h
  refine of_body Try.f117 F.hm Try.func117 rfl Try.call117 (by kernel_rfl) (by simp) ?_
  refine fi_seq ?_
  refine fi_region ?_
  refine so_assign (v := (.v .nilsl)) rfl ?_
  refine so_assign (v := (.v (.bool false))) rfl ?_
  refine so_nil ?_
  refine fi_seq ?_
  refine fi_region ?_
  refine sk_empty hs R_LeFlt_f32_o IR_LeFlt_f32_o F117.te72 F117.sz24 F117.ze24 rfl nofun (fun v101 ws102 S103 H104 _ hs => ?_)
  refine so_assign (v := (.v v101)) rfl ?_
  refine so_nil ?_
  refine fi_seq ?_
  refine fi_region ?_
  refine sv_bslice hs (eFlt .f32) ([] : List (Nat)) [] F117.te24 F117.sz26 F117.ze26 rfl rfl rfl rfl (fun _ => rfl) rfl (by decide) nofun (fun v106 H107 nv106 hs => ?_)
  refine so_move (v := (.v v2)) rfl ?_
  obtain ⟨c111, h⟩ := h
  refine sv_app hs 0 rfl (g2 _ hs.tl.tl) (fun _ => rfl) (by decide) F117.ta24_24 (by decide) c111 rfl rfl nofun (fun v109 H110 kv109 hs => ?_)
  have nv109 := kv109 nv106
  refine so_assign (v := (.v v109)) rfl ?_
  refine so_nil ?_
  refine fi_seq ?_
  refine fi_seq ?_
  refine fi_region ?_
  refine so_assign (v := (.v (.int .i64 (0 : Int)))) rfl ?_
  refine so_nil ?_
  refine fi_block ?_
  refine fi_loop ?_
  refine fi_at [(0, (.v (.ptr i0 o0))), (2, (.v (.int .i64 a3))), (8, (.v v101)), (9, (.v v109)), (10, (.v (.int .i64 (0 : Int))))] ⟨rfl, rfl, rfl, rfl, rfl, trivial⟩ ?_
  refine h (fun (now183 : List (Nat)) (out185 : List (List (Nat))) (k189 : Int) => ∀ (s : Nat → TV) (H : Heap) (v184 : AV) (v186 : AV) (ws187 : List (List AV)) (S188 : Nat → Prop), Sep H (Pc.osl v184 1 (enc (eFlt .f32) now183) :: dpc v186 1 R_LeFlt_f32_o IR_LeFlt_f32_o out185 ws187 S188 :: fr) → Fin _ _ (updL s [(0, (.v (.ptr i0 o0))), (2, (.v (.int .i64 a3))), (8, (.v v186)), (9, (.v v184)), (10, (.v (.int .i64 k189)))]) H _) ?_ _ _ _ _ _ _ hs
  intro now183 out185 k189 h s225 H226 v184 v186 ws187 S188 hs
  refine fi_inLoop ?_
  refine fi_seq ?_
  refine fi_seq ?_
  refine fi_region ?_
  refine so_move (v := (.v (.int .i64 k189))) rfl ?_
  refine so_move (v := (.v (.int .i64 a3))) rfl ?_
  refine so_bin rfl rfl ab_lss ?_
  refine so_move (v := (.v (.bool (decide (k189 < a3))))) rfl ?_
  replace h := ofP h; rcases h with ⟨c190, h⟩ | ⟨c190, h⟩
  · refine so_gyes rfl (decide_eq_true c190) ?_
    refine so_move (v := (.v v184)) rfl ?_
    refine so_gyes rfl (decide_eq_true c190) ?_
    refine sv_len (hs.shows 0 rfl) (fun _ => rfl) (by decide) rfl F117.ti24 ?_
    refine so_gyes rfl (decide_eq_true c190) ?_
    refine so_bin rfl rfl ab_geq ?_
    refine so_pick_t (v := (.v (.bool (decide ((2 : Int) ≤ (now183.length : Int)))))) rfl (decide_eq_true c190) rfl ?_
    refine so_nil ?_
    replace h := ofP h; rcases h with ⟨c191, h⟩ | ⟨c191, h⟩
    · refine fi_true rfl (decide_eq_true c191) ?_
      refine fi_skip ?_
      refine fi_seq ?_
      refine fi_block ?_
      refine fi_seq ?_
      refine fi_region ?_
      refine so_move (v := (.v (.ptr i0 o0))) rfl ?_
      refine so_move (v := (.v v184)) rfl ?_
      refine sv_call (spec_l02LiftOnce_ok i0 o0 v0 l0 a1 v184 now183 hs (fun _ hs => (g0 _ hs.tl.tl)) (fun _ hs => (q0 _ hs.tl.tl)) (fun _ hs => (hs.shows 0 rfl)) _ h) rfl rfl nofun ?_
      clear h hs
      rintro _ H199 ⟨y192, y195, y198, h, v193, v196, rfl, hs⟩
      refine so_move (v := (.t [(.v v193), (.v v196), (.v (.bool y198))])) rfl ?_
      refine so_extract rfl rfl rfl ?_
      refine so_extract rfl rfl rfl ?_
      refine so_extract rfl rfl rfl ?_
      refine so_assign (v := (.v v193)) rfl ?_
      refine so_assign (v := (.v v196)) rfl ?_
      refine so_assign (v := (.v (.bool y198))) rfl ?_
      refine so_nil ?_
      refine fi_seq ?_
      refine fi_seq ?_
      refine fi_region ?_
      refine so_move (v := (.v (.bool y198))) rfl ?_
      refine so_un rfl au_not ?_
      refine so_nil ?_
      replace h := ofT h; rcases h with ⟨c200, h⟩ | ⟨c200, h⟩
      · refine fi_false rfl (not_f c200) ?_
        refine fi_skip ?_
        refine fi_seq ?_
        refine fi_region ?_
        refine so_move (v := (.v v186)) rfl ?_
        refine so_move (v := (.v v196)) rfl ?_
        refine sd_bslice hs [[v196]] F117.te72 F117.sz24 F117.ze24 rfl rfl rfl (by simp) (fac (stc (hs.shows 1 rfl).stor stn) fan) (by decide) rfl nofun (fun v201 H202 _ hs => ?_)
        obtain ⟨c204, h⟩ := h
        replace hs := Sep.front 2 hs rfl
        refine sk_app hs 3 rfl y195 [v196] (hs.tl.shows 0 rfl) (fun _ hh => ⟨rfl, hh⟩) rfl rfl (by decide) F117.ta72_72 (by decide) c204 rfl rfl nofun (fun v205 ws206 S207 H208 hs => ?_)
        replace hs := hs.del 0
        refine so_assign (v := (.v v205)) rfl ?_
        refine so_nil ?_
        refine fi_region ?_
        refine so_move (v := (.v v193)) rfl ?_
        refine so_assign (v := (.v v193)) rfl ?_
        refine so_nil ?_
        refine fi_inBlock ?_
        refine fi_region ?_
        refine so_move (v := (.v (.int .i64 k189))) rfl ?_
        refine so_bin rfl rfl ab_add ?_
        refine so_assign (v := (.v (.int .i64 (IntKind.i64.wrap (k189 + (1 : Int)))))) rfl ?_
        refine so_nil ?_
        exact fi_at [(0, (.v (.ptr i0 o0))), (2, (.v (.int .i64 a3))), (8, (.v v205)), (9, (.v v193)), (10, (.v (.int .i64 (IntKind.i64.wrap (k189 + (1 : Int))))))] ⟨rfl, rfl, rfl, rfl, rfl, trivial⟩ (h _ _ _ _ _ _ (Sep.del 1 hs))
      · refine fi_true rfl (not_t c200) ?_
        refine fi_seq ?_
        refine fi_region ?_
        refine so_assign (v := (.v .nilsl)) rfl ?_
        refine so_assign (v := (.v (.bool false))) rfl ?_
        refine so_nil ?_
        exact by_ret rfl ⟨_, _, h, _, _, _, rfl, (Sep.dnil (Sep.dropn 4 hs) 1 R_LeFlt_f32_o IR_LeFlt_f32_o)⟩
    · refine fi_false rfl (decide_eq_false c191) ?_
      refine fi_exit rfl ?_
      refine fi_seq ?_
      refine fi_region ?_
      refine so_move (v := (.v v186)) rfl ?_
      refine so_move (v := (.v v184)) rfl ?_
      refine sd_bslice hs [[v184]] F117.te72 F117.sz24 F117.ze24 rfl rfl rfl (by simp) (fac (stc (hs.shows 0 rfl).stor stn) fan) (by decide) rfl nofun (fun v209 H210 _ hs => ?_)
      obtain ⟨c212, h⟩ := h
      replace hs := Sep.front 1 hs rfl
      refine sk_app hs 1 rfl now183 [v184] (hs.tl.shows 0 rfl) (fun _ hh => ⟨rfl, hh⟩) rfl rfl (by decide) F117.ta72_72 (by decide) c212 rfl rfl nofun (fun v213 ws214 S215 H216 hs => ?_)
      replace hs := hs.del 0
      refine so_assign (v := (.v v213)) rfl ?_
      refine so_assign (v := (.v (.bool true))) rfl ?_
      refine so_nil ?_
      exact by_ret rfl ⟨_, _, h, _, _, _, rfl, hs⟩
  · refine so_gno rfl (decide_eq_false c190) ?_
    refine so_gno rfl (decide_eq_false c190) ?_
    refine so_gno rfl (decide_eq_false c190) ?_
    refine so_pick_f (v := (.v (.bool false))) rfl (decide_eq_false c190) rfl ?_
    refine so_nil ?_
    refine fi_false rfl rfl ?_
    refine fi_exit rfl ?_
    refine fi_seq ?_
    refine fi_region ?_
    refine so_move (v := (.v v186)) rfl ?_
    refine so_move (v := (.v v184)) rfl ?_
    refine sd_bslice hs [[v184]] F117.te72 F117.sz24 F117.ze24 rfl rfl rfl (by simp) (fac (stc (hs.shows 0 rfl).stor stn) fan) (by decide) rfl nofun (fun v217 H218 _ hs => ?_)
    obtain ⟨c220, h⟩ := h
    replace hs := Sep.front 1 hs rfl
    refine sk_app hs 1 rfl now183 [v184] (hs.tl.shows 0 rfl) (fun _ hh => ⟨rfl, hh⟩) rfl rfl (by decide) F117.ta72_72 (by decide) c220 rfl rfl nofun (fun v221 ws222 S223 H224 hs => ?_)
    replace hs := hs.del 0
    refine so_assign (v := (.v v221)) rfl ?_
    refine so_assign (v := (.v (.bool true))) rfl ?_
    refine so_nil ?_
    exact by_ret rfl ⟨_, _, h, _, _, _, rfl, hs⟩
theorem F74.inf38 : (Try.prog.info? 38).isSome = true := by kernel_rfl
theorem spec_LiftDeep_ok {fr : List Pc} {H : Heap} (v0 : AV) (l0 : List (Nat)) (a1 : Nat) (v2 : AV) (l2 : List (Nat)) (a3 : Int) (hs : Sep H (fr)) (g0 : ∀ H, Sep H fr → Shows H v0 1 (enc (eFlt .f32) l0)) (g2 : ∀ H, Sep H fr → Shows H v2 1 (enc (eFlt .f32) l2)) (K : (List (List (Nat))) → Bool → Prop) (h : spec_LiftDeep.wp l0 a1 l2 a3 K) : OkQ Try.prog 74 [(.g [v0, (.flt .f32 a1)]), (.v v2), (.v (.int .i64 a3))] H (fun r H2 => ∃ (y0 : List (List (Nat))) (y1 : Bool), K y0 y1 ∧ ∃ (w0_ : AV) (wsw0_ : List (List AV)) (Sw0_ : Nat → Prop), r = (.t [(.v w0_), (.v (.bool y1))]) ∧ Sep H2 (dpc w0_ 1 R_LeFlt_f32_o IR_LeFlt_f32_o y0 wsw0_ Sw0_ :: fr)) := by
  unfold spec_LiftDeep.wp at h
  refine of_body Try.f74 F.hm Try.func74 rfl Try.call74 (by kernel_rfl) (by simp) ?_
  refine fi_seq ?_
  refine fi_region ?_
  refine sv_box hs rfl (c := [v0, (.flt .f32 a1)]) rfl F74.inf38 (stc (g0 _ hs).stor (stc rfl stn)) nofun (fun id101 H102 hs => ?_)
  refine so_assign (v := (.v .nilsl)) rfl ?_
  refine so_assign (v := (.v (.bool false))) rfl ?_
  refine so_nil ?_
  refine fi_seq ?_
  refine fi_seq ?_
  refine fi_region ?_
  refine sv_callS (spec_l02Scheme_ok id101 0 v0 l0 a1 hs (fun _ hs => (g0 _ hs.tl)) (fun _ hs => (hs.ptat 0 rfl)) _ h) (fun _ _ ⟨_, _, _, e⟩ => e) rfl rfl ?_
  clear h
  rintro _ _ ⟨y104, h, rfl, rfl⟩
  refine so_un rfl au_not ?_
  refine so_move (v := (.v (.bool (!y104)))) rfl ?_
  replace h := ofT h; rcases h with ⟨c106, h⟩ | ⟨c106, h⟩
  · refine so_gyes rfl (not_f c106) ?_
    refine so_move (v := (.v v2)) rfl ?_
    refine so_gyes rfl (not_f c106) ?_
    refine sv_callS (spec_l02Is_ok v2 l2 hs (fun _ hs => (g2 _ hs.tl)) _ h) (fun _ _ ⟨_, _, _, e⟩ => e) rfl rfl ?_
    clear h
    rintro _ _ ⟨y107, h, rfl, rfl⟩
    refine so_gyes rfl (not_f c106) ?_
    refine so_un rfl au_not ?_
    refine so_pick_f (v := (.v (.bool (!y107)))) rfl (not_f c106) rfl ?_
    refine so_move (v := (.v (.bool (!y107)))) rfl ?_
    replace h := ofT h; rcases h with ⟨c109, h⟩ | ⟨c109, h⟩
    · refine so_gyes rfl (not_f c109) ?_
      refine so_move (v := (.v (.int .i64 a3))) rfl ?_
      refine so_gyes rfl (not_f c109) ?_
      refine sv_callS (spec_l02Levels_ok a3 hs  _ h) (fun _ _ ⟨_, _, _, e⟩ => e) rfl rfl ?_
      clear h
      rintro _ _ ⟨y110, h, rfl, rfl⟩
      refine so_gyes rfl (not_f c109) ?_
      refine so_un rfl au_not ?_
      refine so_pick_f (v := (.v (.bool (!y110)))) rfl (not_f c109) rfl ?_
      refine so_nil ?_
      replace h := ofT h; rcases h with ⟨c112, h⟩ | ⟨c112, h⟩
      · refine fi_false rfl (not_f c112) ?_
        refine fi_skip ?_
        refine fi_seq ?_
        refine fi_region ?_
        refine so_move (v := (.v v2)) rfl ?_
        refine so_move (v := (.v (.int .i64 a3))) rfl ?_
        refine sv_call (spec_l02Deep_ok id101 0 v0 l0 a1 v2 l2 a3 hs (fun _ hs => (g0 _ hs.tl)) (fun _ hs => (hs.ptat 0 rfl)) (fun _ hs => (g2 _ hs.tl)) _ h) rfl rfl nofun ?_
        clear h hs
        rintro _ H119 ⟨y113, y118, h, v114, ws116, S117, rfl, hs⟩
        refine so_extract rfl rfl rfl ?_
        refine so_extract rfl rfl rfl ?_
        refine so_assign (v := (.v v114)) rfl ?_
        refine so_assign (v := (.v (.bool y118))) rfl ?_
        refine so_nil ?_
        exact by_ret rfl ⟨_, _, h, _, _, _, rfl, (Sep.del 1 hs)⟩
      · refine fi_true rfl (not_t c112) ?_
        refine fi_seq ?_
        refine fi_region ?_
        refine so_assign (v := (.v .nilsl)) rfl ?_
        refine so_assign (v := (.v (.bool false))) rfl ?_
        refine so_nil ?_
        exact by_ret rfl ⟨_, _, h, _, _, _, rfl, (Sep.dnil (Sep.del 0 hs) 1 R_LeFlt_f32_o IR_LeFlt_f32_o)⟩
    · refine so_gno rfl (not_t c109) ?_
      refine so_gno rfl (not_t c109) ?_
      refine so_gno rfl (not_t c109) ?_
      refine so_pick_t (v := (.v (.bool true))) rfl (not_t c109) rfl ?_
      refine so_nil ?_
      refine fi_true rfl rfl ?_
      refine fi_seq ?_
      refine fi_region ?_
      refine so_assign (v := (.v .nilsl)) rfl ?_
      refine so_assign (v := (.v (.bool false))) rfl ?_
      refine so_nil ?_
      exact by_ret rfl ⟨_, _, h, _, _, _, rfl, (Sep.dnil (Sep.del 0 hs) 1 R_LeFlt_f32_o IR_LeFlt_f32_o)⟩
  · refine so_gno rfl (not_t c106) ?_
    refine so_gno rfl (not_t c106) ?_
    refine so_gno rfl (not_t c106) ?_
    refine so_pick_t (v := (.v (.bool true))) rfl (not_t c106) rfl ?_
    refine so_move (v := (.v (.bool true))) rfl ?_
    refine so_gno rfl rfl ?_
    refine so_gno rfl rfl ?_
    refine so_gno rfl rfl ?_
    refine so_pick_t (v := (.v (.bool true))) rfl rfl rfl ?_
    refine so_nil ?_
    refine fi_true rfl rfl ?_
    refine fi_seq ?_
    refine fi_region ?_
    refine so_assign (v := (.v .nilsl)) rfl ?_
    refine so_assign (v := (.v (.bool false))) rfl ?_
    refine so_nil ?_
    exact by_ret rfl ⟨_, _, h, _, _, _, rfl, (Sep.dnil (Sep.del 0 hs) 1 R_LeFlt_f32_o IR_LeFlt_f32_o)⟩
theorem spec_l02Fit_ok {fr : List Pc} {H : Heap} (a0 : Int) (a1 : Int) (hs : Sep H (fr))  (K : Bool → Prop) (h : spec_l02Fit.wp a0 a1 K) : OkQ Try.prog 157 [(.v (.int .i64 a0)), (.v (.int .i64 a1))] H (fun r H2 => ∃ (y0 : Bool), K y0 ∧ r = (.v (.bool y0)) ∧ H = H2) := by
  unfold spec_l02Fit.wp at h
  refine of_body Try.f157 F.hm Try.func157 rfl Try.call157 (by kernel_rfl) (by simp) ?_
  refine fi_seq ?_
  refine fi_region ?_
  refine so_assign (v := (.v (.bool false))) rfl ?_
  refine so_nil ?_
  refine fi_seq ?_
  refine fi_region ?_
  refine so_move (v := (.v (.int .i64 a0))) rfl ?_
  refine so_bin rfl rfl ab_geq ?_
  refine so_move (v := (.v (.bool (decide ((1 : Int) ≤ a0))))) rfl ?_
  replace h := ofP h; rcases h with ⟨c101, h⟩ | ⟨c101, h⟩
  · refine so_gyes rfl (decide_eq_true c101) ?_
    refine so_move (v := (.v (.int .i64 a1))) rfl ?_
    refine so_gyes rfl (decide_eq_true c101) ?_
    refine so_move (v := (.v (.int .i64 a0))) rfl ?_
    refine so_gyes rfl (decide_eq_true c101) ?_
    refine so_bin rfl rfl ab_eql ?_
    refine so_gyes rfl (decide_eq_true c101) ?_
    refine so_move (v := (.v (.bool (decide (a1 = a0))))) rfl ?_
    replace h := ofP h; rcases h with ⟨c102, h⟩ | ⟨c102, h⟩
    · refine so_gno rfl (decide_eq_true c102) ?_
      refine so_gno rfl (decide_eq_true c102) ?_
      refine so_gno rfl (decide_eq_true c102) ?_
      refine so_gno rfl (decide_eq_true c102) ?_
      refine so_gyes rfl (decide_eq_true c101) ?_
      refine so_pick_t (v := (.v (.bool true))) rfl (decide_eq_true c102) rfl ?_
      refine so_pick_t (v := (.v (.bool true))) rfl (decide_eq_true c101) rfl ?_
      refine so_move (v := (.v (.bool true))) rfl ?_
      refine so_gyes rfl rfl ?_
      refine so_move (v := (.v (.int .i64 a0))) rfl ?_
      refine so_gyes rfl rfl ?_
      refine so_move (v := (.v (.int .i64 a1))) rfl ?_
      refine so_gyes rfl rfl ?_
      refine so_bin rfl rfl ab_add ?_
      refine so_gyes rfl rfl ?_
      refine so_bin rfl rfl ab_leq ?_
      refine so_pick_t (v := (.v (.bool (decide ((IntKind.i64.wrap (a0 + a1)) ≤ (128 : Int)))))) rfl rfl rfl ?_
      refine so_assign (v := (.v (.bool (decide ((IntKind.i64.wrap (a0 + a1)) ≤ (128 : Int)))))) rfl ?_
      refine so_nil ?_
      exact by_ret rfl ⟨_, h, rfl, rfl⟩
    · refine so_gyes rfl (decide_eq_false c102) ?_
      refine so_move (v := (.v (.int .i64 a1))) rfl ?_
      refine so_gyes rfl (decide_eq_false c102) ?_
      refine so_move (v := (.v (.int .i64 a0))) rfl ?_
      refine so_gyes rfl (decide_eq_false c102) ?_
      refine so_bin rfl rfl ab_sub ?_
      refine so_gyes rfl (decide_eq_false c102) ?_
      refine so_bin rfl rfl ab_eql ?_
      refine so_gyes rfl (decide_eq_true c101) ?_
      refine so_pick_f (v := (.v (.bool (decide (a1 = (IntKind.i64.wrap (a0 - (1 : Int)))))))) rfl (decide_eq_false c102) rfl ?_
      refine so_pick_t (v := (.v (.bool (decide (a1 = (IntKind.i64.wrap (a0 - (1 : Int)))))))) rfl (decide_eq_true c101) rfl ?_
      refine so_move (v := (.v (.bool (decide (a1 = (IntKind.i64.wrap (a0 - (1 : Int)))))))) rfl ?_
      replace h := ofP h; rcases h with ⟨c103, h⟩ | ⟨c103, h⟩
      · refine so_gyes rfl (decide_eq_true c103) ?_
        refine so_move (v := (.v (.int .i64 a0))) rfl ?_
        refine so_gyes rfl (decide_eq_true c103) ?_
        refine so_move (v := (.v (.int .i64 a1))) rfl ?_
        refine so_gyes rfl (decide_eq_true c103) ?_
        refine so_bin rfl rfl ab_add ?_
        refine so_gyes rfl (decide_eq_true c103) ?_
        refine so_bin rfl rfl ab_leq ?_
        refine so_pick_t (v := (.v (.bool (decide ((IntKind.i64.wrap (a0 + a1)) ≤ (128 : Int)))))) rfl (decide_eq_true c103) rfl ?_
        refine so_assign (v := (.v (.bool (decide ((IntKind.i64.wrap (a0 + a1)) ≤ (128 : Int)))))) rfl ?_
        refine so_nil ?_
        exact by_ret rfl ⟨_, h, rfl, rfl⟩
      · refine so_gno rfl (decide_eq_false c103) ?_
        refine so_gno rfl (decide_eq_false c103) ?_
        refine so_gno rfl (decide_eq_false c103) ?_
        refine so_gno rfl (decide_eq_false c103) ?_
        refine so_pick_f (v := (.v (.bool false))) rfl (decide_eq_false c103) rfl ?_
        refine so_assign (v := (.v (.bool false))) rfl ?_
        refine so_nil ?_
        exact by_ret rfl ⟨_, h, rfl, rfl⟩
  · refine so_gno rfl (decide_eq_false c101) ?_
    refine so_gno rfl (decide_eq_false c101) ?_
    refine so_gno rfl (decide_eq_false c101) ?_
    refine so_gno rfl (decide_eq_false c101) ?_
    refine so_gund rfl ?_
    refine so_gund rfl ?_
    refine so_gund rfl ?_
    refine so_gund rfl ?_
    refine so_gno rfl (decide_eq_false c101) ?_
    refine so_pick_f (v := (.v (.bool false))) rfl (decide_eq_false c101) rfl ?_
    refine so_move (v := (.v (.bool false))) rfl ?_
    refine so_gno rfl rfl ?_
    refine so_gno rfl rfl ?_
    refine so_gno rfl rfl ?_
    refine so_gno rfl rfl ?_
    refine so_pick_f (v := (.v (.bool false))) rfl rfl rfl ?_
    refine so_assign (v := (.v (.bool false))) rfl ?_
    refine so_nil ?_
    exact by_ret rfl ⟨_, h, rfl, rfl⟩
theorem F146.ag3 : tagg Try.prog 3 = some false := by kernel_rfl
theorem F146.ti140 : (telem Try.prog 140).isSome = true := by kernel_rfl
theorem F146.tl140 : (telem Try.prog 140).bind (tsz Try.prog) = some 1 := by kernel_rfl
theorem spec_l02Sizes_ok {fr : List Pc} {H : Heap} (v0 : AV) (l0 : List (Int)) (hs : Sep H (fr)) (g0 : ∀ H, Sep H fr → Shows H v0 1 (enc (eInt .i64) l0)) (K : Bool → Prop) (h : spec_l02Sizes.wp l0 K) : OkQ Try.prog 146 [(.v v0)] H (fun r H2 => ∃ (y0 : Bool), K y0 ∧ r = (.v (.bool y0)) ∧ H = H2) := by
  unfold spec_l02Sizes.wp at h
  refine of_body Try.f146 F.hm Try.func146 rfl Try.call146 (by kernel_rfl) (by simp) ?_
  refine fi_seq ?_
  refine fi_region ?_
  refine so_assign (v := (.v (.bool false))) rfl ?_
  refine so_nil ?_
  refine fi_seq ?_
  refine fi_region ?_
  refine so_move (v := (.v v0)) rfl ?_
  refine sv_len (g0 _ hs) (fun _ => rfl) (by decide) rfl F146.ti140 ?_
  refine so_bin rfl rfl ab_sub ?_
  refine so_assign (v := (.v (.int .i64 (IntKind.i64.wrap ((l0.length : Int) - (1 : Int)))))) rfl ?_
  refine so_nil ?_
  refine fi_seq ?_
  refine fi_seq ?_
  refine fi_region ?_
  refine so_move (v := (.v (.int .i64 (IntKind.i64.wrap ((l0.length : Int) - (1 : Int)))))) rfl ?_
  refine so_bin rfl rfl ab_lss ?_
  refine so_move (v := (.v (.bool (decide ((IntKind.i64.wrap ((l0.length : Int) - (1 : Int))) < (0 : Int)))))) rfl ?_
  replace h := ofP h; rcases h with ⟨c101, h⟩ | ⟨c101, h⟩
  · refine so_gno rfl (decide_eq_true c101) ?_
    refine so_gno rfl (decide_eq_true c101) ?_
    refine so_pick_t (v := (.v (.bool true))) rfl (decide_eq_true c101) rfl ?_
    refine so_move (v := (.v (.bool true))) rfl ?_
    refine so_gno rfl rfl ?_
    refine so_gno rfl rfl ?_
    refine so_gno rfl rfl ?_
    refine so_gno rfl rfl ?_
    refine so_gno rfl rfl ?_
    refine so_pick_t (v := (.v (.bool true))) rfl rfl rfl ?_
    refine so_move (v := (.v (.bool true))) rfl ?_
    refine so_gno rfl rfl ?_
    refine so_gno rfl rfl ?_
    refine so_gno rfl rfl ?_
    refine so_gund rfl ?_
    refine so_gund rfl ?_
    refine so_gund rfl ?_
    refine so_gund rfl ?_
    refine so_gno rfl rfl ?_
    refine so_pick_t (v := (.v (.bool true))) rfl rfl rfl ?_
    refine so_nil ?_
    refine fi_true rfl rfl ?_
    refine fi_seq ?_
    refine fi_region ?_
    refine so_assign (v := (.v (.bool false))) rfl ?_
    refine so_nil ?_
    exact by_ret rfl ⟨_, h, rfl, rfl⟩
  · refine so_gyes rfl (decide_eq_false c101) ?_
    refine so_move (v := (.v (.int .i64 (IntKind.i64.wrap ((l0.length : Int) - (1 : Int)))))) rfl ?_
    refine so_gyes rfl (decide_eq_false c101) ?_
    refine so_bin rfl rfl ab_gtr ?_
    refine so_pick_f (v := (.v (.bool (decide ((6 : Int) < (IntKind.i64.wrap ((l0.length : Int) - (1 : Int)))))))) rfl (decide_eq_false c101) rfl ?_
    refine so_move (v := (.v (.bool (decide ((6 : Int) < (IntKind.i64.wrap ((l0.length : Int) - (1 : Int)))))))) rfl ?_
    replace h := ofP h; rcases h with ⟨c102, h⟩ | ⟨c102, h⟩
    · refine so_gno rfl (decide_eq_true c102) ?_
      refine so_gno rfl (decide_eq_true c102) ?_
      refine so_gno rfl (decide_eq_true c102) ?_
      refine so_gno rfl (decide_eq_true c102) ?_
      refine so_gno rfl (decide_eq_true c102) ?_
      refine so_pick_t (v := (.v (.bool true))) rfl (decide_eq_true c102) rfl ?_
      refine so_move (v := (.v (.bool true))) rfl ?_
      refine so_gno rfl rfl ?_
      refine so_gno rfl rfl ?_
      refine so_gno rfl rfl ?_
      refine so_gund rfl ?_
      refine so_gund rfl ?_
      refine so_gund rfl ?_
      refine so_gund rfl ?_
      refine so_gno rfl rfl ?_
      refine so_pick_t (v := (.v (.bool true))) rfl rfl rfl ?_
      refine so_nil ?_
      refine fi_true rfl rfl ?_
      refine fi_seq ?_
      refine fi_region ?_
      refine so_assign (v := (.v (.bool false))) rfl ?_
      refine so_nil ?_
      exact by_ret rfl ⟨_, h, rfl, rfl⟩
    · refine so_gyes rfl (decide_eq_false c102) ?_
      refine so_move (v := (.v v0)) rfl ?_
      refine so_gyes rfl (decide_eq_false c102) ?_
      refine so_move (v := (.v (.int .i64 (IntKind.i64.wrap ((l0.length : Int) - (1 : Int)))))) rfl ?_
      refine so_gyes rfl (decide_eq_false c102) ?_
      obtain ⟨c103, h⟩ := h
      refine sv_idx (g0 _ hs) c103 (fun _ => rfl) (by decide) rfl rfl F146.tl140 ?_
      refine so_gyes rfl (decide_eq_false c102) ?_
      refine sv_cell (g0 _ hs) c103 (0 : Int) 0 (fun x => (AV.int .i64 x)) (fun _ => rfl) (fun _ => rfl) rfl F146.ag3 ?_
      refine so_gyes rfl (decide_eq_false c102) ?_
      refine so_bin rfl rfl ab_lss ?_
      refine so_pick_f (v := (.v (.bool (decide ((l0.getD ((IntKind.i64.wrap ((l0.length : Int) - (1 : Int)))).toNat (0 : Int)) < (1 : Int)))))) rfl (decide_eq_false c102) rfl ?_
      refine so_move (v := (.v (.bool (decide ((l0.getD ((IntKind.i64.wrap ((l0.length : Int) - (1 : Int)))).toNat (0 : Int)) < (1 : Int)))))) rfl ?_
      replace h := ofP h; rcases h with ⟨c104, h⟩ | ⟨c104, h⟩
      · refine so_gno rfl (decide_eq_true c104) ?_
        refine so_gno rfl (decide_eq_true c104) ?_
        refine so_gno rfl (decide_eq_true c104) ?_
        refine so_gund rfl ?_
        refine so_gund rfl ?_
        refine so_gund rfl ?_
        refine so_gund rfl ?_
        refine so_gno rfl (decide_eq_true c104) ?_
        refine so_pick_t (v := (.v (.bool true))) rfl (decide_eq_true c104) rfl ?_
        refine so_nil ?_
        refine fi_true rfl rfl ?_
        refine fi_seq ?_
        refine fi_region ?_
        refine so_assign (v := (.v (.bool false))) rfl ?_
        refine so_nil ?_
        exact by_ret rfl ⟨_, h, rfl, rfl⟩
      · refine so_gyes rfl (decide_eq_false c104) ?_
        refine so_move (v := (.v (.int .i64 (IntKind.i64.wrap ((l0.length : Int) - (1 : Int)))))) rfl ?_
        refine so_gyes rfl (decide_eq_false c104) ?_
        refine so_bin rfl rfl ab_eql ?_
        refine so_gyes rfl (decide_eq_false c104) ?_
        refine so_move (v := (.v (.bool (decide ((IntKind.i64.wrap ((l0.length : Int) - (1 : Int))) = (0 : Int)))))) rfl ?_
        replace h := ofP h; rcases h with ⟨c105, h⟩ | ⟨c105, h⟩
        · refine so_gyes rfl (decide_eq_true c105) ?_
          refine so_move (v := (.v v0)) rfl ?_
          refine so_gyes rfl (decide_eq_true c105) ?_
          obtain ⟨c106, h⟩ := h
          refine sv_idx (g0 _ hs) c106 (fun _ => rfl) (by decide) rfl rfl F146.tl140 ?_
          refine so_gyes rfl (decide_eq_true c105) ?_
          refine sv_cell (g0 _ hs) c106 (0 : Int) 0 (fun x => (AV.int .i64 x)) (fun _ => rfl) (fun _ => rfl) rfl F146.ag3 ?_
          refine so_gyes rfl (decide_eq_true c105) ?_
          refine so_bin rfl rfl ab_gtr ?_
          refine so_gyes rfl (decide_eq_false c104) ?_
          refine so_pick_t (v := (.v (.bool (decide ((1 : Int) < (l0.getD ((0 : Int)).toNat (0 : Int))))))) rfl (decide_eq_true c105) rfl ?_
          refine so_pick_f (v := (.v (.bool (decide ((1 : Int) < (l0.getD ((0 : Int)).toNat (0 : Int))))))) rfl (decide_eq_false c104) rfl ?_
          refine so_nil ?_
          replace h := ofP h; rcases h with ⟨c107, h⟩ | ⟨c107, h⟩
          · refine fi_true rfl (decide_eq_true c107) ?_
            refine fi_seq ?_
            refine fi_region ?_
            refine so_assign (v := (.v (.bool false))) rfl ?_
            refine so_nil ?_
            exact by_ret rfl ⟨_, h, rfl, rfl⟩
          · refine fi_false rfl (decide_eq_false c107) ?_
            refine fi_skip ?_
            refine fi_seq ?_
            refine fi_region ?_
            refine so_move (v := (.v v0)) rfl ?_
            refine so_move (v := (.v (.int .i64 (IntKind.i64.wrap ((l0.length : Int) - (1 : Int)))))) rfl ?_
            refine sv_idx (g0 _ hs) c103 (fun _ => rfl) (by decide) rfl rfl F146.tl140 ?_
            refine sv_cell (g0 _ hs) c103 (0 : Int) 0 (fun x => (AV.int .i64 x)) (fun _ => rfl) (fun _ => rfl) rfl F146.ag3 ?_
            refine so_assign (v := (.v (.int .i64 (l0.getD ((IntKind.i64.wrap ((l0.length : Int) - (1 : Int)))).toNat (0 : Int))))) rfl ?_
            refine so_nil ?_
            refine fi_seq ?_
            refine fi_seq ?_
            refine fi_region ?_
            refine so_move (v := (.v (.int .i64 (IntKind.i64.wrap ((l0.length : Int) - (1 : Int)))))) rfl ?_
            refine so_bin rfl rfl ab_sub ?_
            refine so_assign (v := (.v (.int .i64 (IntKind.i64.wrap ((IntKind.i64.wrap ((l0.length : Int) - (1 : Int))) - (1 : Int)))))) rfl ?_
            refine so_nil ?_
            refine fi_block ?_
            refine fi_loop ?_
            refine fi_at [(0, (.v v0)), (4, (.v (.int .i64 (l0.getD ((IntKind.i64.wrap ((l0.length : Int) - (1 : Int)))).toNat (0 : Int))))), (5, (.v (.int .i64 (IntKind.i64.wrap ((IntKind.i64.wrap ((l0.length : Int) - (1 : Int))) - (1 : Int))))))] ⟨rfl, rfl, rfl, trivial⟩ ?_
            refine h (fun (n109 : Int) (k110 : Int) => ∀ (s : Nat → TV), Fin _ _ (updL s [(0, (.v v0)), (4, (.v (.int .i64 n109))), (5, (.v (.int .i64 k110)))]) _ _) ?_ _
            intro n109 k110 h s117
            refine fi_inLoop ?_
            refine fi_seq ?_
            refine fi_seq ?_
            refine fi_region ?_
            refine so_move (v := (.v (.int .i64 k110))) rfl ?_
            refine so_bin rfl rfl ab_geq ?_
            refine so_nil ?_
            replace h := ofP h; rcases h with ⟨c111, h⟩ | ⟨c111, h⟩
            · refine fi_true rfl (decide_eq_true c111) ?_
              refine fi_skip ?_
              refine fi_seq ?_
              refine fi_block ?_
              refine fi_seq ?_
              refine fi_seq ?_
              refine fi_region ?_
              refine so_move (v := (.v v0)) rfl ?_
              refine so_move (v := (.v (.int .i64 k110))) rfl ?_
              obtain ⟨c112, h⟩ := h
              refine sv_idx (g0 _ hs) c112 (fun _ => rfl) (by decide) rfl rfl F146.tl140 ?_
              refine sv_cell (g0 _ hs) c112 (0 : Int) 0 (fun x => (AV.int .i64 x)) (fun _ => rfl) (fun _ => rfl) rfl F146.ag3 ?_
              refine so_bin rfl rfl ab_lss ?_
              refine so_move (v := (.v (.bool (decide ((l0.getD (k110).toNat (0 : Int)) < (1 : Int)))))) rfl ?_
              replace h := ofP h; rcases h with ⟨c113, h⟩ | ⟨c113, h⟩
              · refine so_gno rfl (decide_eq_true c113) ?_
                refine so_gno rfl (decide_eq_true c113) ?_
                refine so_gno rfl (decide_eq_true c113) ?_
                refine so_gno rfl (decide_eq_true c113) ?_
                refine so_gno rfl (decide_eq_true c113) ?_
                refine so_gno rfl (decide_eq_true c113) ?_
                refine so_gno rfl (decide_eq_true c113) ?_
                refine so_pick_t (v := (.v (.bool true))) rfl (decide_eq_true c113) rfl ?_
                refine so_nil ?_
                refine fi_true rfl rfl ?_
                refine fi_seq ?_
                refine fi_region ?_
                refine so_assign (v := (.v (.bool false))) rfl ?_
                refine so_nil ?_
                exact by_ret rfl ⟨_, h, rfl, rfl⟩
              · refine so_gyes rfl (decide_eq_false c113) ?_
                refine so_move (v := (.v (.int .i64 n109))) rfl ?_
                refine so_gyes rfl (decide_eq_false c113) ?_
                refine so_move (v := (.v v0)) rfl ?_
                refine so_gyes rfl (decide_eq_false c113) ?_
                refine so_move (v := (.v (.int .i64 k110))) rfl ?_
                refine so_gyes rfl (decide_eq_false c113) ?_
                refine sv_idx (g0 _ hs) c112 (fun _ => rfl) (by decide) rfl rfl F146.tl140 ?_
                refine so_gyes rfl (decide_eq_false c113) ?_
                refine sv_cell (g0 _ hs) c112 (0 : Int) 0 (fun x => (AV.int .i64 x)) (fun _ => rfl) (fun _ => rfl) rfl F146.ag3 ?_
                refine so_gyes rfl (decide_eq_false c113) ?_
                refine sv_callS (spec_l02Fit_ok n109 (l0.getD (k110).toNat (0 : Int)) hs  _ h) (fun _ _ ⟨_, _, _, e⟩ => e) rfl rfl ?_
                clear h
                rintro _ _ ⟨y114, h, rfl, rfl⟩
                refine so_gyes rfl (decide_eq_false c113) ?_
                refine so_un rfl au_not ?_
                refine so_pick_f (v := (.v (.bool (!y114)))) rfl (decide_eq_false c113) rfl ?_
                refine so_nil ?_
                replace h := ofT h; rcases h with ⟨c116, h⟩ | ⟨c116, h⟩
                · refine fi_false rfl (not_f c116) ?_
                  refine fi_skip ?_
                  refine fi_region ?_
                  refine so_move (v := (.v (.int .i64 n109))) rfl ?_
                  refine so_move (v := (.v v0)) rfl ?_
                  refine so_move (v := (.v (.int .i64 k110))) rfl ?_
                  refine sv_idx (g0 _ hs) c112 (fun _ => rfl) (by decide) rfl rfl F146.tl140 ?_
                  refine sv_cell (g0 _ hs) c112 (0 : Int) 0 (fun x => (AV.int .i64 x)) (fun _ => rfl) (fun _ => rfl) rfl F146.ag3 ?_
                  refine so_bin rfl rfl ab_add ?_
                  refine so_assign (v := (.v (.int .i64 (IntKind.i64.wrap (n109 + (l0.getD (k110).toNat (0 : Int))))))) rfl ?_
                  refine so_nil ?_
                  refine fi_inBlock ?_
                  refine fi_region ?_
                  refine so_move (v := (.v (.int .i64 k110))) rfl ?_
                  refine so_bin rfl rfl ab_sub ?_
                  refine so_assign (v := (.v (.int .i64 (IntKind.i64.wrap (k110 - (1 : Int)))))) rfl ?_
                  refine so_nil ?_
                  exact fi_at [(0, (.v v0)), (4, (.v (.int .i64 (IntKind.i64.wrap (n109 + (l0.getD (k110).toNat (0 : Int))))))), (5, (.v (.int .i64 (IntKind.i64.wrap (k110 - (1 : Int))))))] ⟨rfl, rfl, rfl, trivial⟩ (h _)
                · refine fi_true rfl (not_t c116) ?_
                  refine fi_seq ?_
                  refine fi_region ?_
                  refine so_assign (v := (.v (.bool false))) rfl ?_
                  refine so_nil ?_
                  exact by_ret rfl ⟨_, h, rfl, rfl⟩
            · refine fi_false rfl (decide_eq_false c111) ?_
              refine fi_exit rfl ?_
              refine fi_seq ?_
              refine fi_region ?_
              refine so_move (v := (.v (.int .i64 n109))) rfl ?_
              refine so_bin rfl rfl ab_leq ?_
              refine so_assign (v := (.v (.bool (decide (n109 ≤ (128 : Int)))))) rfl ?_
              refine so_nil ?_
              exact by_ret rfl ⟨_, h, rfl, rfl⟩
        · refine so_gno rfl (decide_eq_false c105) ?_
          refine so_gno rfl (decide_eq_false c105) ?_
          refine so_gno rfl (decide_eq_false c105) ?_
          refine so_gno rfl (decide_eq_false c105) ?_
          refine so_gyes rfl (decide_eq_false c104) ?_
          refine so_pick_f (v := (.v (.bool false))) rfl (decide_eq_false c105) rfl ?_
          refine so_pick_f (v := (.v (.bool false))) rfl (decide_eq_false c104) rfl ?_
          refine so_nil ?_
          refine fi_false rfl rfl ?_
          refine fi_skip ?_
          refine fi_seq ?_
          refine fi_region ?_
          refine so_move (v := (.v v0)) rfl ?_
          refine so_move (v := (.v (.int .i64 (IntKind.i64.wrap ((l0.length : Int) - (1 : Int)))))) rfl ?_
          refine sv_idx (g0 _ hs) c103 (fun _ => rfl) (by decide) rfl rfl F146.tl140 ?_
          refine sv_cell (g0 _ hs) c103 (0 : Int) 0 (fun x => (AV.int .i64 x)) (fun _ => rfl) (fun _ => rfl) rfl F146.ag3 ?_
          refine so_assign (v := (.v (.int .i64 (l0.getD ((IntKind.i64.wrap ((l0.length : Int) - (1 : Int)))).toNat (0 : Int))))) rfl ?_
          refine so_nil ?_
          refine fi_seq ?_
          refine fi_seq ?_
          refine fi_region ?_
          refine so_move (v := (.v (.int .i64 (IntKind.i64.wrap ((l0.length : Int) - (1 : Int)))))) rfl ?_
          refine so_bin rfl rfl ab_sub ?_
          refine so_assign (v := (.v (.int .i64 (IntKind.i64.wrap ((IntKind.i64.wrap ((l0.length : Int) - (1 : Int))) - (1 : Int)))))) rfl ?_
          refine so_nil ?_
          refine fi_block ?_
          refine fi_loop ?_
          refine fi_at [(0, (.v v0)), (4, (.v (.int .i64 (l0.getD ((IntKind.i64.wrap ((l0.length : Int) - (1 : Int)))).toNat (0 : Int))))), (5, (.v (.int .i64 (IntKind.i64.wrap ((IntKind.i64.wrap ((l0.length : Int) - (1 : Int))) - (1 : Int))))))] ⟨rfl, rfl, rfl, trivial⟩ ?_
          refine h (fun (n120 : Int) (k121 : Int) => ∀ (s : Nat → TV), Fin _ _ (updL s [(0, (.v v0)), (4, (.v (.int .i64 n120))), (5, (.v (.int .i64 k121)))]) _ _) ?_ _
          intro n120 k121 h s128
          refine fi_inLoop ?_
          refine fi_seq ?_
          refine fi_seq ?_
          refine fi_region ?_
          refine so_move (v := (.v (.int .i64 k121))) rfl ?_
          refine so_bin rfl rfl ab_geq ?_
          refine so_nil ?_
          replace h := ofP h; rcases h with ⟨c122, h⟩ | ⟨c122, h⟩
          · refine fi_true rfl (decide_eq_true c122) ?_
            refine fi_skip ?_
            refine fi_seq ?_
            refine fi_block ?_
            refine fi_seq ?_
            refine fi_seq ?_
            refine fi_region ?_
            refine so_move (v := (.v v0)) rfl ?_
            refine so_move (v := (.v (.int .i64 k121))) rfl ?_
            obtain ⟨c123, h⟩ := h
            refine sv_idx (g0 _ hs) c123 (fun _ => rfl) (by decide) rfl rfl F146.tl140 ?_
            refine sv_cell (g0 _ hs) c123 (0 : Int) 0 (fun x => (AV.int .i64 x)) (fun _ => rfl) (fun _ => rfl) rfl F146.ag3 ?_
            refine so_bin rfl rfl ab_lss ?_
            refine so_move (v := (.v (.bool (decide ((l0.getD (k121).toNat (0 : Int)) < (1 : Int)))))) rfl ?_
            replace h := ofP h; rcases h with ⟨c124, h⟩ | ⟨c124, h⟩
            · refine so_gno rfl (decide_eq_true c124) ?_
              refine so_gno rfl (decide_eq_true c124) ?_
              refine so_gno rfl (decide_eq_true c124) ?_
              refine so_gno rfl (decide_eq_true c124) ?_
              refine so_gno rfl (decide_eq_true c124) ?_
              refine so_gno rfl (decide_eq_true c124) ?_
              refine so_gno rfl (decide_eq_true c124) ?_
              refine so_pick_t (v := (.v (.bool true))) rfl (decide_eq_true c124) rfl ?_
              refine so_nil ?_
              refine fi_true rfl rfl ?_
              refine fi_seq ?_
              refine fi_region ?_
              refine so_assign (v := (.v (.bool false))) rfl ?_
              refine so_nil ?_
              exact by_ret rfl ⟨_, h, rfl, rfl⟩
            · refine so_gyes rfl (decide_eq_false c124) ?_
              refine so_move (v := (.v (.int .i64 n120))) rfl ?_
              refine so_gyes rfl (decide_eq_false c124) ?_
              refine so_move (v := (.v v0)) rfl ?_
              refine so_gyes rfl (decide_eq_false c124) ?_
              refine so_move (v := (.v (.int .i64 k121))) rfl ?_
              refine so_gyes rfl (decide_eq_false c124) ?_
              refine sv_idx (g0 _ hs) c123 (fun _ => rfl) (by decide) rfl rfl F146.tl140 ?_
              refine so_gyes rfl (decide_eq_false c124) ?_
              refine sv_cell (g0 _ hs) c123 (0 : Int) 0 (fun x => (AV.int .i64 x)) (fun _ => rfl) (fun _ => rfl) rfl F146.ag3 ?_
              refine so_gyes rfl (decide_eq_false c124) ?_
              refine sv_callS (spec_l02Fit_ok n120 (l0.getD (k121).toNat (0 : Int)) hs  _ h) (fun _ _ ⟨_, _, _, e⟩ => e) rfl rfl ?_
              clear h
              rintro _ _ ⟨y125, h, rfl, rfl⟩
              refine so_gyes rfl (decide_eq_false c124) ?_
              refine so_un rfl au_not ?_
              refine so_pick_f (v := (.v (.bool (!y125)))) rfl (decide_eq_false c124) rfl ?_
              refine so_nil ?_
              replace h := ofT h; rcases h with ⟨c127, h⟩ | ⟨c127, h⟩
              · refine fi_false rfl (not_f c127) ?_
                refine fi_skip ?_
                refine fi_region ?_
                refine so_move (v := (.v (.int .i64 n120))) rfl ?_
                refine so_move (v := (.v v0)) rfl ?_
                refine so_move (v := (.v (.int .i64 k121))) rfl ?_
                refine sv_idx (g0 _ hs) c123 (fun _ => rfl) (by decide) rfl rfl F146.tl140 ?_
                refine sv_cell (g0 _ hs) c123 (0 : Int) 0 (fun x => (AV.int .i64 x)) (fun _ => rfl) (fun _ => rfl) rfl F146.ag3 ?_
                refine so_bin rfl rfl ab_add ?_
                refine so_assign (v := (.v (.int .i64 (IntKind.i64.wrap (n120 + (l0.getD (k121).toNat (0 : Int))))))) rfl ?_
                refine so_nil ?_
                refine fi_inBlock ?_
                refine fi_region ?_
                refine so_move (v := (.v (.int .i64 k121))) rfl ?_
                refine so_bin rfl rfl ab_sub ?_
                refine so_assign (v := (.v (.int .i64 (IntKind.i64.wrap (k121 - (1 : Int)))))) rfl ?_
                refine so_nil ?_
                exact fi_at [(0, (.v v0)), (4, (.v (.int .i64 (IntKind.i64.wrap (n120 + (l0.getD (k121).toNat (0 : Int))))))), (5, (.v (.int .i64 (IntKind.i64.wrap (k121 - (1 : Int))))))] ⟨rfl, rfl, rfl, trivial⟩ (h _)
              · refine fi_true rfl (not_t c127) ?_
                refine fi_seq ?_
                refine fi_region ?_
                refine so_assign (v := (.v (.bool false))) rfl ?_
                refine so_nil ?_
                exact by_ret rfl ⟨_, h, rfl, rfl⟩
          · refine fi_false rfl (decide_eq_false c122) ?_
            refine fi_exit rfl ?_
            refine fi_seq ?_
            refine fi_region ?_
            refine so_move (v := (.v (.int .i64 n120))) rfl ?_
            refine so_bin rfl rfl ab_leq ?_
            refine so_assign (v := (.v (.bool (decide (n120 ≤ (128 : Int)))))) rfl ?_
            refine so_nil ?_
            exact by_ret rfl ⟨_, h, rfl, rfl⟩
theorem F118.ag24 : tagg Try.prog 24 = some false := by kernel_rfl
theorem F118.sz3 : tsz Try.prog 3 = some 1 := by kernel_rfl
theorem F118.ta140_140 : tapp Try.prog 140 140 = some (1, 8) := by kernel_rfl
theorem F118.te140 : telem Try.prog 140 = some 3 := by kernel_rfl
theorem F118.ti24 : (telem Try.prog 24).isSome = true := by kernel_rfl
theorem F118.ti72 : (telem Try.prog 72).isSome = true := by kernel_rfl
theorem F118.tl72 : (telem Try.prog 72).bind (tsz Try.prog) = some 1 := by kernel_rfl
theorem F118.ze3 : tzero Try.prog 3 = some [(.int .i64 (0 : Int))] := by kernel_rfl
theorem spec_l02Bands_ok {fr : List Pc} {H : Heap} (v0 : AV) (w0 : List (List AV)) (l0 : List (List (Nat))) (hs : Sep H (fr)) (g0 : ∀ H, Sep H fr → DSh H v0 1 R_LeFlt_f32_o l0 w0) (K : Bool → Prop) (h : spec_l02Bands.wp l0 K) : OkQ Try.prog 118 [(.v v0)] H (fun r H2 => ∃ (y0 : Bool), K y0 ∧ r = (.v (.bool y0)) ∧ Sep H2 (fr)) := by
  unfold spec_l02Bands.wp at h
  refine of_body Try.f118 F.hm Try.func118 rfl Try.call118 (by kernel_rfl) (by simp) ?_
  refine fi_seq ?_
  refine fi_region ?_
  refine so_assign (v := (.v (.bool false))) rfl ?_
  refine so_nil ?_
  refine fi_seq ?_
  refine fi_region ?_
  refine sv_bslice hs (eInt .i64) ([] : List (Int)) [] F118.te140 F118.sz3 F118.ze3 rfl rfl rfl rfl (fun _ => rfl) rfl (by decide) nofun (fun v101 H102 nv101 hs => ?_)
  refine so_assign (v := (.v v101)) rfl ?_
  refine so_nil ?_
  refine fi_seq ?_
  refine fi_seq ?_
  refine fi_region ?_
  refine so_assign (v := (.v (.int .i64 (0 : Int)))) rfl ?_
  refine so_nil ?_
  refine fi_block ?_
  refine fi_loop ?_
  refine fi_at [(0, (.v v0)), (3, (.v v101)), (4, (.v (.int .i64 (0 : Int))))] ⟨rfl, rfl, rfl, trivial⟩ ?_
  refine h (fun (sizes123 : List (Int)) (k125 : Int) => ∀ (s : Nat → TV) (H : Heap) (v124 : AV) (nv124 : v124 ≠ .nilsl), Sep H (Pc.osl v124 1 (enc (eInt .i64) sizes123) :: fr) → Fin _ _ (updL s [(0, (.v v0)), (3, (.v v124)), (4, (.v (.int .i64 k125)))]) H _) ?_ _ _ _ nv101 hs
  intro sizes123 k125 h s140 H141 v124 nv124 hs
  refine fi_inLoop ?_
  refine fi_seq ?_
  refine fi_seq ?_
  refine fi_region ?_
  refine so_move (v := (.v (.int .i64 k125))) rfl ?_
  refine so_move (v := (.v v0)) rfl ?_
  refine sd_len ((g0 _ hs.tl) : DSh _ _ 1 R_LeFlt_f32_o l0 w0) (by decide) rfl F118.ti72 ?_
  refine so_bin rfl rfl ab_lss ?_
  refine so_nil ?_
  replace h := ofP h; rcases h with ⟨c126, h⟩ | ⟨c126, h⟩
  · refine fi_true rfl (decide_eq_true c126) ?_
    refine fi_skip ?_
    refine fi_seq ?_
    refine fi_block ?_
    refine fi_seq ?_
    refine fi_region ?_
    refine so_move (v := (.v v124)) rfl ?_
    refine so_move (v := (.v v0)) rfl ?_
    refine so_move (v := (.v (.int .i64 k125))) rfl ?_
    obtain ⟨c127, h⟩ := h
    refine sd_idx ((g0 _ hs.tl) : DSh _ _ 1 R_LeFlt_f32_o l0 w0) c127 ([] : List (Nat)) (by decide) rfl rfl F118.tl72 ?_
    refine su_ld ((((g0 _ hs.tl) : DSh _ _ 1 R_LeFlt_f32_o l0 w0)).at (by decide) c127 ([] : List (Nat))).2.2 0 (congrArg (fun c => c[0]?) ((((g0 _ hs.tl) : DSh _ _ 1 R_LeFlt_f32_o l0 w0)).at (by decide) c127 ([] : List (Nat))).2.1.1) rfl F118.ag24 ?_
    refine sv_len ((((g0 _ hs.tl) : DSh _ _ 1 R_LeFlt_f32_o l0 w0)).at (by decide) c127 ([] : List (Nat))).2.1.2 (fun _ => rfl) (by decide) rfl F118.ti24 ?_
    refine sv_bslice hs (eInt .i64) ([((l0.getD (k125).toNat ([] : List (Nat))).length : Int)] : List (Int)) [[(.int .i64 ((l0.getD (k125).toNat ([] : List (Nat))).length : Int))]] F118.te140 F118.sz3 F118.ze3 rfl rfl rfl rfl (fun _ => rfl) rfl (by decide) nofun (fun v128 H129 nv128 hs => ?_)
    obtain ⟨c133, h⟩ := h
    refine sv_app hs 1 rfl (hs.shows 0 rfl) (fun _ => rfl) (by decide) F118.ta140_140 (by decide) c133 rfl rfl nofun (fun v131 H132 kv131 hs => ?_)
    replace hs := hs.del 0
    have nv131 := kv131 nv124
    refine so_assign (v := (.v v131)) rfl ?_
    refine so_nil ?_
    refine fi_seq ?_
    refine fi_region ?_
    refine so_move (v := (.v v0)) rfl ?_
    refine sd_len ((g0 _ hs.tl) : DSh _ _ 1 R_LeFlt_f32_o l0 w0) (by decide) rfl F118.ti72 ?_
    refine so_bin rfl rfl ab_gtr ?_
    refine so_move (v := (.v (.bool (decide ((7 : Int) < (l0.length : Int)))))) rfl ?_
    replace h := ofP h; rcases h with ⟨c134, h⟩ | ⟨c134, h⟩
    · refine so_gno rfl (decide_eq_true c134) ?_
      refine so_gno rfl (decide_eq_true c134) ?_
      refine so_gno rfl (decide_eq_true c134) ?_
      refine so_gno rfl (decide_eq_true c134) ?_
      refine so_gno rfl (decide_eq_true c134) ?_
      refine so_gno rfl (decide_eq_true c134) ?_
      refine so_pick_t (v := (.v (.bool true))) rfl (decide_eq_true c134) rfl ?_
      refine so_nil ?_
      refine fi_true rfl rfl ?_
      refine fi_seq ?_
      refine fi_region ?_
      refine so_assign (v := (.v (.bool false))) rfl ?_
      refine so_nil ?_
      exact by_ret rfl ⟨_, h, rfl, (Sep.del 0 hs)⟩
    · refine so_gyes rfl (decide_eq_false c134) ?_
      refine so_move (v := (.v v0)) rfl ?_
      refine so_gyes rfl (decide_eq_false c134) ?_
      refine so_move (v := (.v (.int .i64 k125))) rfl ?_
      refine so_gyes rfl (decide_eq_false c134) ?_
      refine sd_idx ((g0 _ hs.tl) : DSh _ _ 1 R_LeFlt_f32_o l0 w0) c127 ([] : List (Nat)) (by decide) rfl rfl F118.tl72 ?_
      refine so_gyes rfl (decide_eq_false c134) ?_
      refine su_ld ((((g0 _ hs.tl) : DSh _ _ 1 R_LeFlt_f32_o l0 w0)).at (by decide) c127 ([] : List (Nat))).2.2 0 (congrArg (fun c => c[0]?) ((((g0 _ hs.tl) : DSh _ _ 1 R_LeFlt_f32_o l0 w0)).at (by decide) c127 ([] : List (Nat))).2.1.1) rfl F118.ag24 ?_
      refine so_gyes rfl (decide_eq_false c134) ?_
      refine sv_callS (spec_l02Finite_ok ((w0.getD (k125).toNat []).getD 0 .und) (l0.getD (k125).toNat ([] : List (Nat))) hs (fun _ hs => ((((g0 _ hs.tl) : DSh _ _ 1 R_LeFlt_f32_o l0 w0)).at (by decide) c127 ([] : List (Nat))).2.1.2) _ h) (fun _ _ ⟨_, _, _, e⟩ => e) rfl rfl ?_
      clear h
      rintro _ _ ⟨y135, h, rfl, rfl⟩
      refine so_gyes rfl (decide_eq_false c134) ?_
      refine so_un rfl au_not ?_
      refine so_pick_f (v := (.v (.bool (!y135)))) rfl (decide_eq_false c134) rfl ?_
      refine so_nil ?_
      replace h := ofT h; rcases h with ⟨c137, h⟩ | ⟨c137, h⟩
      · refine fi_false rfl (not_f c137) ?_
        refine fi_skip ?_
        refine fi_inBlock ?_
        refine fi_region ?_
        refine so_move (v := (.v (.int .i64 k125))) rfl ?_
        refine so_bin rfl rfl ab_add ?_
        refine so_assign (v := (.v (.int .i64 (IntKind.i64.wrap (k125 + (1 : Int)))))) rfl ?_
        refine so_nil ?_
        exact fi_at [(0, (.v v0)), (3, (.v v131)), (4, (.v (.int .i64 (IntKind.i64.wrap (k125 + (1 : Int))))))] ⟨rfl, rfl, rfl, trivial⟩ (h _ _ _ nv131 hs)
      · refine fi_true rfl (not_t c137) ?_
        refine fi_seq ?_
        refine fi_region ?_
        refine so_assign (v := (.v (.bool false))) rfl ?_
        refine so_nil ?_
        exact by_ret rfl ⟨_, h, rfl, (Sep.del 0 hs)⟩
  · refine fi_false rfl (decide_eq_false c126) ?_
    refine fi_exit rfl ?_
    refine fi_seq ?_
    refine fi_region ?_
    refine so_move (v := (.v v124)) rfl ?_
    refine sv_callS (spec_l02Sizes_ok v124 sizes123 hs (fun _ hs => (hs.shows 0 rfl)) _ h) (fun _ _ ⟨_, _, _, e⟩ => e) rfl rfl ?_
    clear h
    rintro _ _ ⟨y138, h, rfl, rfl⟩
    refine so_assign (v := (.v (.bool y138))) rfl ?_
    refine so_nil ?_
    exact by_ret rfl ⟨_, h, rfl, (Sep.del 0 hs)⟩
theorem F75.ag24 : tagg Try.prog 24 = some false := by kernel_rfl
theorem F75.sz26 : tsz Try.prog 26 = some 1 := by kernel_rfl
theorem F75.ta24_24 : tapp Try.prog 24 24 = some (1, 4) := by kernel_rfl
theorem F75.te24 : telem Try.prog 24 = some 26 := by kernel_rfl
theorem F75.ti72 : (telem Try.prog 72).isSome = true := by kernel_rfl
theorem F75.tl72 : (telem Try.prog 72).bind (tsz Try.prog) = some 1 := by kernel_rfl
theorem F75.ze26 : tzero Try.prog 26 = some [(.flt .f32 (0 : Nat))] := by kernel_rfl
theorem spec_FlatBands_ok {fr : List Pc} {H : Heap} (v0 : AV) (w0 : List (List AV)) (l0 : List (List (Nat))) (hs : Sep H (fr)) (g0 : ∀ H, Sep H fr → DSh H v0 1 R_LeFlt_f32_o l0 w0) (K : (List (Nat)) → Bool → Prop) (h : spec_FlatBands.wp l0 K) : OkQ Try.prog 75 [(.v v0)] H (fun r H2 => ∃ (y0 : List (Nat)) (y1 : Bool), K y0 y1 ∧ ∃ (w0_ : AV), r = (.t [(.v w0_), (.v (.bool y1))]) ∧ Sep H2 (Pc.osl w0_ 1 (enc (eFlt .f32) y0) :: fr)) := by
  unfold spec_FlatBands.wp at h
  refine of_body Try.f75 F.hm Try.func75 rfl Try.call75 (by kernel_rfl) (by simp) ?_
  refine fi_seq ?_
  refine fi_region ?_
  refine so_assign (v := (.v .nilsl)) rfl ?_
  refine so_assign (v := (.v (.bool false))) rfl ?_
  refine so_nil ?_
  refine fi_seq ?_
  refine fi_seq ?_
  refine fi_region ?_
  refine so_move (v := (.v v0)) rfl ?_
  refine sv_call (spec_l02Bands_ok v0 w0 l0 hs (fun _ hs => (g0 _ hs)) _ h) rfl rfl nofun ?_
  clear h hs
  rintro _ H102 ⟨y101, h, rfl, hs⟩
  refine so_un rfl au_not ?_
  refine so_nil ?_
  replace h := ofT h; rcases h with ⟨c103, h⟩ | ⟨c103, h⟩
  · refine fi_false rfl (not_f c103) ?_
    refine fi_skip ?_
    refine fi_seq ?_
    refine fi_region ?_
    refine sv_bslice hs (eFlt .f32) ([] : List (Nat)) [] F75.te24 F75.sz26 F75.ze26 rfl rfl rfl rfl (fun _ => rfl) rfl (by decide) nofun (fun v104 H105 nv104 hs => ?_)
    refine so_assign (v := (.v v104)) rfl ?_
    refine so_nil ?_
    refine fi_seq ?_
    refine fi_seq ?_
    refine fi_region ?_
    refine so_move (v := (.v v0)) rfl ?_
    refine sd_len ((g0 _ hs.tl) : DSh _ _ 1 R_LeFlt_f32_o l0 w0) (by decide) rfl F75.ti72 ?_
    refine so_bin rfl rfl ab_sub ?_
    refine so_assign (v := (.v (.int .i64 (IntKind.i64.wrap ((l0.length : Int) - (1 : Int)))))) rfl ?_
    refine so_nil ?_
    refine fi_block ?_
    refine fi_loop ?_
    refine fi_at [(0, (.v v0)), (4, (.v v104)), (5, (.v (.int .i64 (IntKind.i64.wrap ((l0.length : Int) - (1 : Int))))))] ⟨rfl, rfl, rfl, trivial⟩ ?_
    refine h (fun (out117 : List (Nat)) (k119 : Int) => ∀ (s : Nat → TV) (H : Heap) (v118 : AV) (nv118 : v118 ≠ .nilsl), Sep H (Pc.osl v118 1 (enc (eFlt .f32) out117) :: fr) → Fin _ _ (updL s [(0, (.v v0)), (4, (.v v118)), (5, (.v (.int .i64 k119)))]) H _) ?_ _ _ _ nv104 hs
    intro out117 k119 h s125 H126 v118 nv118 hs
    refine fi_inLoop ?_
    refine fi_seq ?_
    refine fi_seq ?_
    refine fi_region ?_
    refine so_move (v := (.v (.int .i64 k119))) rfl ?_
    refine so_bin rfl rfl ab_geq ?_
    refine so_nil ?_
    replace h := ofP h; rcases h with ⟨c120, h⟩ | ⟨c120, h⟩
    · refine fi_true rfl (decide_eq_true c120) ?_
      refine fi_skip ?_
      refine fi_seq ?_
      refine fi_block ?_
      refine fi_region ?_
      refine so_move (v := (.v v118)) rfl ?_
      refine so_move (v := (.v v0)) rfl ?_
      refine so_move (v := (.v (.int .i64 k119))) rfl ?_
      obtain ⟨c121, h⟩ := h
      refine sd_idx ((g0 _ hs.tl) : DSh _ _ 1 R_LeFlt_f32_o l0 w0) c121 ([] : List (Nat)) (by decide) rfl rfl F75.tl72 ?_
      refine su_ld ((((g0 _ hs.tl) : DSh _ _ 1 R_LeFlt_f32_o l0 w0)).at (by decide) c121 ([] : List (Nat))).2.2 0 (congrArg (fun c => c[0]?) ((((g0 _ hs.tl) : DSh _ _ 1 R_LeFlt_f32_o l0 w0)).at (by decide) c121 ([] : List (Nat))).2.1.1) rfl F75.ag24 ?_
      obtain ⟨c124, h⟩ := h
      refine sv_app hs 0 rfl ((((g0 _ hs.tl) : DSh _ _ 1 R_LeFlt_f32_o l0 w0)).at (by decide) c121 ([] : List (Nat))).2.1.2 (fun _ => rfl) (by decide) F75.ta24_24 (by decide) c124 rfl rfl nofun (fun v122 H123 kv122 hs => ?_)
      have nv122 := kv122 nv118
      refine so_assign (v := (.v v122)) rfl ?_
      refine so_nil ?_
      refine fi_inBlock ?_
      refine fi_region ?_
      refine so_move (v := (.v (.int .i64 k119))) rfl ?_
      refine so_bin rfl rfl ab_sub ?_
      refine so_assign (v := (.v (.int .i64 (IntKind.i64.wrap (k119 - (1 : Int)))))) rfl ?_
      refine so_nil ?_
      exact fi_at [(0, (.v v0)), (4, (.v v122)), (5, (.v (.int .i64 (IntKind.i64.wrap (k119 - (1 : Int))))))] ⟨rfl, rfl, rfl, trivial⟩ (h _ _ _ nv122 hs)
    · refine fi_false rfl (decide_eq_false c120) ?_
      refine fi_exit rfl ?_
      refine fi_seq ?_
      refine fi_region ?_
      refine so_move (v := (.v v118)) rfl ?_
      refine so_assign (v := (.v v118)) rfl ?_
      refine so_assign (v := (.v (.bool true))) rfl ?_
      refine so_nil ?_
      exact by_ret rfl ⟨_, _, h, _, rfl, hs⟩
  · refine fi_true rfl (not_t c103) ?_
    refine fi_seq ?_
    refine fi_region ?_
    refine so_assign (v := (.v .nilsl)) rfl ?_
    refine so_assign (v := (.v (.bool false))) rfl ?_
    refine so_nil ?_
    exact by_ret rfl ⟨_, _, h, _, rfl, (Sep.nil hs 1)⟩
theorem F147.ag2 : tagg Try.prog 2 = some false := by kernel_rfl
theorem F147.ti28 : (telem Try.prog 28).isSome = true := by kernel_rfl
theorem F147.tl28 : (telem Try.prog 28).bind (tsz Try.prog) = some 1 := by kernel_rfl
theorem spec_l02Bound_ok {fr : List Pc} {H : Heap} (v0 : AV) (l0 : List (Int)) (a1 : Int) (hs : Sep H (fr)) (g0 : ∀ H, Sep H fr → Shows H v0 1 (enc (eInt .i64) l0)) (K : Bool → Prop) (h : spec_l02Bound.wp l0 a1 K) : OkQ Try.prog 147 [(.v v0), (.v (.int .i64 a1))] H (fun r H2 => ∃ (y0 : Bool), K y0 ∧ r = (.v (.bool y0)) ∧ H = H2) := by
  unfold spec_l02Bound.wp at h
  refine of_body Try.f147 F.hm Try.func147 rfl Try.call147 (by kernel_rfl) (by simp) ?_
  refine fi_seq ?_
  refine fi_region ?_
  refine so_assign (v := (.v (.bool false))) rfl ?_
  refine so_nil ?_
  refine fi_seq ?_
  refine fi_seq ?_
  refine fi_region ?_
  refine so_assign (v := (.v (.int .i64 (0 : Int)))) rfl ?_
  refine so_nil ?_
  refine fi_block ?_
  refine fi_loop ?_
  refine fi_at [(0, (.v v0)), (1, (.v (.int .i64 a1))), (5, (.v (.int .i64 (0 : Int))))] ⟨rfl, rfl, rfl, trivial⟩ ?_
  refine h (fun (i102 : Int) => ∀ (s : Nat → TV), Fin _ _ (updL s [(0, (.v v0)), (1, (.v (.int .i64 a1))), (5, (.v (.int .i64 i102)))]) _ _) ?_ _
  intro i102 h s108
  refine fi_inLoop ?_
  refine fi_seq ?_
  refine fi_seq ?_
  refine fi_region ?_
  refine so_move (v := (.v (.int .i64 i102))) rfl ?_
  refine so_move (v := (.v v0)) rfl ?_
  refine sv_len (g0 _ hs) (fun _ => rfl) (by decide) rfl F147.ti28 ?_
  refine so_bin rfl rfl ab_lss ?_
  refine so_nil ?_
  replace h := ofP h; rcases h with ⟨c103, h⟩ | ⟨c103, h⟩
  · refine fi_true rfl (decide_eq_true c103) ?_
    refine fi_skip ?_
    refine fi_seq ?_
    refine fi_block ?_
    refine fi_seq ?_
    refine fi_region ?_
    refine so_move (v := (.v v0)) rfl ?_
    refine so_move (v := (.v (.int .i64 i102))) rfl ?_
    obtain ⟨c104, h⟩ := h
    refine sv_idx (g0 _ hs) c104 (fun _ => rfl) (by decide) rfl rfl F147.tl28 ?_
    refine sv_cell (g0 _ hs) c104 (0 : Int) 0 (fun x => (AV.int .i64 x)) (fun _ => rfl) (fun _ => rfl) rfl F147.ag2 ?_
    refine so_move (v := (.v (.int .i64 a1))) rfl ?_
    refine so_un rfl au_neg ?_
    refine so_move (v := (.v (.int .i64 a1))) rfl ?_
    refine sv_callS (spec_l00In_ok (l0.getD (i102).toNat (0 : Int)) (IntKind.i64.wrap (0 - a1)) a1 hs  _ h) (fun _ _ ⟨_, _, _, e⟩ => e) rfl rfl ?_
    clear h
    rintro _ _ ⟨y105, h, rfl, rfl⟩
    refine so_un rfl au_not ?_
    refine so_nil ?_
    replace h := ofT h; rcases h with ⟨c107, h⟩ | ⟨c107, h⟩
    · refine fi_false rfl (not_f c107) ?_
      refine fi_skip ?_
      refine fi_inBlock ?_
      refine fi_region ?_
      refine so_move (v := (.v (.int .i64 i102))) rfl ?_
      refine so_bin rfl rfl ab_add ?_
      refine so_assign (v := (.v (.int .i64 (IntKind.i64.wrap (i102 + (1 : Int)))))) rfl ?_
      refine so_nil ?_
      exact fi_at [(0, (.v v0)), (1, (.v (.int .i64 a1))), (5, (.v (.int .i64 (IntKind.i64.wrap (i102 + (1 : Int))))))] ⟨rfl, rfl, rfl, trivial⟩ (h _)
    · refine fi_true rfl (not_t c107) ?_
      refine fi_seq ?_
      refine fi_region ?_
      refine so_assign (v := (.v (.bool false))) rfl ?_
      refine so_nil ?_
      exact by_ret rfl ⟨_, h, rfl, rfl⟩
  · refine fi_false rfl (decide_eq_false c103) ?_
    refine fi_exit rfl ?_
    refine fi_seq ?_
    refine fi_region ?_
    refine so_assign (v := (.v (.bool true))) rfl ?_
    refine so_nil ?_
    exact by_ret rfl ⟨_, h, rfl, rfl⟩
theorem F120.ti28 : (telem Try.prog 28).isSome = true := by kernel_rfl
theorem spec_l02Integers_ok {fr : List Pc} {H : Heap} (v0 : AV) (l0 : List (Int)) (hs : Sep H (fr)) (g0 : ∀ H, Sep H fr → Shows H v0 1 (enc (eInt .i64) l0)) (K : Bool → Prop) (h : spec_l02Integers.wp l0 K) : OkQ Try.prog 120 [(.v v0)] H (fun r H2 => ∃ (y0 : Bool), K y0 ∧ r = (.v (.bool y0)) ∧ H = H2) := by
  unfold spec_l02Integers.wp at h
  refine of_body Try.f120 F.hm Try.func120 rfl Try.call120 (by kernel_rfl) (by simp) ?_
  refine fi_seq ?_
  refine fi_region ?_
  refine so_assign (v := (.v (.bool false))) rfl ?_
  refine so_nil ?_
  refine fi_seq ?_
  refine fi_region ?_
  refine so_move (v := (.v v0)) rfl ?_
  refine sv_len (g0 _ hs) (fun _ => rfl) (by decide) rfl F120.ti28 ?_
  refine so_bin rfl rfl ab_geq ?_
  refine so_move (v := (.v (.bool (decide ((1 : Int) ≤ (l0.length : Int)))))) rfl ?_
  replace h := ofP h; rcases h with ⟨c101, h⟩ | ⟨c101, h⟩
  · refine so_gyes rfl (decide_eq_true c101) ?_
    refine so_move (v := (.v v0)) rfl ?_
    refine so_gyes rfl (decide_eq_true c101) ?_
    refine sv_len (g0 _ hs) (fun _ => rfl) (by decide) rfl F120.ti28 ?_
    refine so_gyes rfl (decide_eq_true c101) ?_
    refine so_bin rfl rfl ab_leq ?_
    refine so_pick_t (v := (.v (.bool (decide ((l0.length : Int) ≤ (128 : Int)))))) rfl (decide_eq_true c101) rfl ?_
    refine so_move (v := (.v (.bool (decide ((l0.length : Int) ≤ (128 : Int)))))) rfl ?_
    replace h := ofP h; rcases h with ⟨c102, h⟩ | ⟨c102, h⟩
    · refine so_gyes rfl (decide_eq_true c102) ?_
      refine so_move (v := (.v v0)) rfl ?_
      refine so_gyes rfl (decide_eq_true c102) ?_
      refine sv_callS (spec_l02Bound_ok v0 l0 (1000000 : Int) hs (fun _ hs => (g0 _ hs)) _ h) (fun _ _ ⟨_, _, _, e⟩ => e) rfl rfl ?_
      clear h
      rintro _ _ ⟨y103, h, rfl, rfl⟩
      refine so_pick_t (v := (.v (.bool y103))) rfl (decide_eq_true c102) rfl ?_
      refine so_assign (v := (.v (.bool y103))) rfl ?_
      refine so_nil ?_
      exact by_ret rfl ⟨_, h, rfl, rfl⟩
    · refine so_gno rfl (decide_eq_false c102) ?_
      refine so_gno rfl (decide_eq_false c102) ?_
      refine so_pick_f (v := (.v (.bool false))) rfl (decide_eq_false c102) rfl ?_
      refine so_assign (v := (.v (.bool false))) rfl ?_
      refine so_nil ?_
      exact by_ret rfl ⟨_, h, rfl, rfl⟩
  · refine so_gno rfl (decide_eq_false c101) ?_
    refine so_gno rfl (decide_eq_false c101) ?_
    refine so_gno rfl (decide_eq_false c101) ?_
    refine so_pick_f (v := (.v (.bool false))) rfl (decide_eq_false c101) rfl ?_
    refine so_move (v := (.v (.bool false))) rfl ?_
    refine so_gno rfl rfl ?_
    refine so_gno rfl rfl ?_
    refine so_pick_f (v := (.v (.bool false))) rfl rfl rfl ?_
    refine so_assign (v := (.v (.bool false))) rfl ?_
    refine so_nil ?_
    exact by_ret rfl ⟨_, h, rfl, rfl⟩
theorem F76.ag26 : tagg Try.prog 26 = some false := by kernel_rfl
theorem F76.it2 : tint Try.prog 2 = some .i64 := by kernel_rfl
theorem F76.sz2 : tsz Try.prog 2 = some 1 := by kernel_rfl
theorem F76.ta28_28 : tapp Try.prog 28 28 = some (1, 8) := by kernel_rfl
theorem F76.te28 : telem Try.prog 28 = some 2 := by kernel_rfl
theorem F76.ti24 : (telem Try.prog 24).isSome = true := by kernel_rfl
theorem F76.tl24 : (telem Try.prog 24).bind (tsz Try.prog) = some 1 := by kernel_rfl
theorem F76.us26 : (Try.prog.underlying 26).isSome = true := by kernel_rfl
theorem F76.ze2 : tzero Try.prog 2 = some [(.int .i64 (0 : Int))] := by kernel_rfl
theorem spec_ScaleList_ok {fr : List Pc} {H : Heap} (v0 : AV) (l0 : List (Nat)) (a1 : Nat) (hs : Sep H (fr)) (g0 : ∀ H, Sep H fr → Shows H v0 1 (enc (eFlt .f32) l0)) (K : (List (Int)) → Bool → Prop) (h : spec_ScaleList.wp l0 a1 K) : OkQ Try.prog 76 [(.v v0), (.v (.flt .f32 a1))] H (fun r H2 => ∃ (y0 : List (Int)) (y1 : Bool), K y0 y1 ∧ ∃ (w0_ : AV), r = (.t [(.v w0_), (.v (.bool y1))]) ∧ Sep H2 (Pc.osl w0_ 1 (enc (eInt .i64) y0) :: fr)) := by
  unfold spec_ScaleList.wp at h
  refine of_body Try.f76 F.hm Try.func76 rfl Try.call76 (by kernel_rfl) (by simp) ?_
  refine fi_seq ?_
  refine fi_region ?_
  refine so_assign (v := (.v .nilsl)) rfl ?_
  refine so_assign (v := (.v (.bool false))) rfl ?_
  refine so_nil ?_
  refine fi_seq ?_
  refine fi_seq ?_
  refine fi_region ?_
  refine so_move (v := (.v v0)) rfl ?_
  refine sv_callS (spec_l02Is_ok v0 l0 hs (fun _ hs => (g0 _ hs)) _ h) (fun _ _ ⟨_, _, _, e⟩ => e) rfl rfl ?_
  clear h
  rintro _ _ ⟨y101, h, rfl, rfl⟩
  refine so_un rfl au_not ?_
  refine so_move (v := (.v (.bool (!y101)))) rfl ?_
  replace h := ofT h; rcases h with ⟨c103, h⟩ | ⟨c103, h⟩
  · refine so_gyes rfl (not_f c103) ?_
    refine so_move (v := (.v (.flt .f32 a1))) rfl ?_
    refine so_gyes rfl (not_f c103) ?_
    refine sv_callS (spec_l02Above_ok a1 hs  _ h) (fun _ _ ⟨_, _, _, e⟩ => e) rfl rfl ?_
    clear h
    rintro _ _ ⟨y104, h, rfl, rfl⟩
    refine so_gyes rfl (not_f c103) ?_
    refine so_un rfl au_not ?_
    refine so_pick_f (v := (.v (.bool (!y104)))) rfl (not_f c103) rfl ?_
    refine so_nil ?_
    replace h := ofT h; rcases h with ⟨c106, h⟩ | ⟨c106, h⟩
    · refine fi_false rfl (not_f c106) ?_
      refine fi_skip ?_
      refine fi_seq ?_
      refine fi_region ?_
      refine sv_bslice hs (eInt .i64) ([] : List (Int)) [] F76.te28 F76.sz2 F76.ze2 rfl rfl rfl rfl (fun _ => rfl) rfl (by decide) nofun (fun v107 H108 nv107 hs => ?_)
      refine so_assign (v := (.v v107)) rfl ?_
      refine so_nil ?_
      refine fi_seq ?_
      refine fi_seq ?_
      refine fi_region ?_
      refine so_assign (v := (.v (.int .i64 (0 : Int)))) rfl ?_
      refine so_nil ?_
      refine fi_block ?_
      refine fi_loop ?_
      refine fi_at [(0, (.v v0)), (1, (.v (.flt .f32 a1))), (6, (.v v107)), (7, (.v (.int .i64 (0 : Int))))] ⟨rfl, rfl, rfl, rfl, trivial⟩ ?_
      refine h (fun (out129 : List (Int)) (i131 : Int) => ∀ (s : Nat → TV) (H : Heap) (v130 : AV) (nv130 : v130 ≠ .nilsl), Sep H (Pc.osl v130 1 (enc (eInt .i64) out129) :: fr) → Fin _ _ (updL s [(0, (.v v0)), (1, (.v (.flt .f32 a1))), (6, (.v v130)), (7, (.v (.int .i64 i131)))]) H _) ?_ _ _ _ nv107 hs
      intro out129 i131 h s146 H147 v130 nv130 hs
      refine fi_inLoop ?_
      refine fi_seq ?_
      refine fi_seq ?_
      refine fi_region ?_
      refine so_move (v := (.v (.int .i64 i131))) rfl ?_
      refine so_move (v := (.v v0)) rfl ?_
      refine sv_len (g0 _ hs.tl) (fun _ => rfl) (by decide) rfl F76.ti24 ?_
      refine so_bin rfl rfl ab_lss ?_
      refine so_nil ?_
      replace h := ofP h; rcases h with ⟨c132, h⟩ | ⟨c132, h⟩
      · refine fi_true rfl (decide_eq_true c132) ?_
        refine fi_skip ?_
        refine fi_seq ?_
        refine fi_block ?_
        refine fi_seq ?_
        refine fi_region ?_
        refine so_move (v := (.v v0)) rfl ?_
        refine so_move (v := (.v (.int .i64 i131))) rfl ?_
        obtain ⟨c133, h⟩ := h
        refine sv_idx (g0 _ hs.tl) c133 (fun _ => rfl) (by decide) rfl rfl F76.tl24 ?_
        refine sv_cell (g0 _ hs.tl) c133 (0 : Nat) 0 (fun x => (AV.flt .f32 x)) (fun _ => rfl) (fun _ => rfl) rfl F76.ag26 ?_
        refine so_move (v := (.v (.flt .f32 a1))) rfl ?_
        refine so_bin rfl rfl ab_fquo ?_
        refine so_assign (v := (.v (.flt .f32 (fop .quo .f32 (l0.getD (i131).toNat (0 : Nat)) a1)))) rfl ?_
        refine so_nil ?_
        refine fi_seq ?_
        refine fi_seq ?_
        refine fi_region ?_
        refine so_move (v := (.v (.flt .f32 (fop .quo .f32 (l0.getD (i131).toNat (0 : Nat)) a1)))) rfl ?_
        refine so_bin rfl rfl ab_fgtr ?_
        refine so_move (v := (.v (.bool (fcmp .gtr .f32 (fop .quo .f32 (l0.getD (i131).toNat (0 : Nat)) a1) (cz .f32 3379831824))))) rfl ?_
        replace h := ofT h; rcases h with ⟨c134, h⟩ | ⟨c134, h⟩
        · refine so_gyes rfl c134 ?_
          refine so_move (v := (.v (.flt .f32 (fop .quo .f32 (l0.getD (i131).toNat (0 : Nat)) a1)))) rfl ?_
          refine so_gyes rfl c134 ?_
          refine so_bin rfl rfl ab_flss ?_
          refine so_pick_t (v := (.v (.bool (fcmp .lss .f32 (fop .quo .f32 (l0.getD (i131).toNat (0 : Nat)) a1) (cz .f32 1232348176))))) rfl c134 rfl ?_
          refine so_un rfl au_not ?_
          refine so_nil ?_
          replace h := ofT h; rcases h with ⟨c135, h⟩ | ⟨c135, h⟩
          · refine fi_false rfl (not_f c135) ?_
            refine fi_skip ?_
            refine fi_region ?_
            refine so_move (v := (.v v130)) rfl ?_
            refine so_move (v := (.v (.flt .f32 (fop .quo .f32 (l0.getD (i131).toNat (0 : Nat)) a1)))) rfl ?_
            obtain ⟨c136, h⟩ := h
            refine sv_fi c136 rfl F76.us26 F76.it2 ?_
            refine sv_bslice hs (eInt .i64) ([(ftoi .f32 (fop .quo .f32 (l0.getD (i131).toNat (0 : Nat)) a1) .i64)] : List (Int)) [[(.int .i64 (ftoi .f32 (fop .quo .f32 (l0.getD (i131).toNat (0 : Nat)) a1) .i64))]] F76.te28 F76.sz2 F76.ze2 rfl rfl rfl rfl (fun _ => rfl) rfl (by decide) nofun (fun v137 H138 nv137 hs => ?_)
            obtain ⟨c142, h⟩ := h
            refine sv_app hs 1 rfl (hs.shows 0 rfl) (fun _ => rfl) (by decide) F76.ta28_28 (by decide) c142 rfl rfl nofun (fun v140 H141 kv140 hs => ?_)
            replace hs := hs.del 0
            have nv140 := kv140 nv130
            refine so_assign (v := (.v v140)) rfl ?_
            refine so_nil ?_
            refine fi_inBlock ?_
            refine fi_region ?_
            refine so_move (v := (.v (.int .i64 i131))) rfl ?_
            refine so_bin rfl rfl ab_add ?_
            refine so_assign (v := (.v (.int .i64 (IntKind.i64.wrap (i131 + (1 : Int)))))) rfl ?_
            refine so_nil ?_
            exact fi_at [(0, (.v v0)), (1, (.v (.flt .f32 a1))), (6, (.v v140)), (7, (.v (.int .i64 (IntKind.i64.wrap (i131 + (1 : Int))))))] ⟨rfl, rfl, rfl, rfl, trivial⟩ (h _ _ _ nv140 hs)
          · refine fi_true rfl (not_t c135) ?_
            refine fi_seq ?_
            refine fi_region ?_
            refine so_assign (v := (.v .nilsl)) rfl ?_
            refine so_assign (v := (.v (.bool false))) rfl ?_
            refine so_nil ?_
            exact by_ret rfl ⟨_, _, h, _, rfl, (Sep.nil (Sep.del 0 hs) 1)⟩
        · refine so_gno rfl c134 ?_
          refine so_gno rfl c134 ?_
          refine so_pick_f (v := (.v (.bool false))) rfl c134 rfl ?_
          refine so_un rfl au_not ?_
          refine so_nil ?_
          refine fi_true rfl (not_t rfl) ?_
          refine fi_seq ?_
          refine fi_region ?_
          refine so_assign (v := (.v .nilsl)) rfl ?_
          refine so_assign (v := (.v (.bool false))) rfl ?_
          refine so_nil ?_
          exact by_ret rfl ⟨_, _, h, _, rfl, (Sep.nil (Sep.del 0 hs) 1)⟩
      · refine fi_false rfl (decide_eq_false c132) ?_
        refine fi_exit rfl ?_
        refine fi_seq ?_
        refine fi_seq ?_
        refine fi_region ?_
        refine so_move (v := (.v v130)) rfl ?_
        refine sv_callS (spec_l02Integers_ok v130 out129 hs (fun _ hs => (hs.shows 0 rfl)) _ h) (fun _ _ ⟨_, _, _, e⟩ => e) rfl rfl ?_
        clear h
        rintro _ _ ⟨y143, h, rfl, rfl⟩
        refine so_un rfl au_not ?_
        refine so_nil ?_
        replace h := ofT h; rcases h with ⟨c145, h⟩ | ⟨c145, h⟩
        · refine fi_false rfl (not_f c145) ?_
          refine fi_skip ?_
          refine fi_seq ?_
          refine fi_region ?_
          refine so_move (v := (.v v130)) rfl ?_
          refine so_assign (v := (.v v130)) rfl ?_
          refine so_assign (v := (.v (.bool true))) rfl ?_
          refine so_nil ?_
          exact by_ret rfl ⟨_, _, h, _, rfl, hs⟩
        · refine fi_true rfl (not_t c145) ?_
          refine fi_seq ?_
          refine fi_region ?_
          refine so_assign (v := (.v .nilsl)) rfl ?_
          refine so_assign (v := (.v (.bool false))) rfl ?_
          refine so_nil ?_
          exact by_ret rfl ⟨_, _, h, _, rfl, (Sep.nil (Sep.del 0 hs) 1)⟩
    · refine fi_true rfl (not_t c106) ?_
      refine fi_seq ?_
      refine fi_region ?_
      refine so_assign (v := (.v .nilsl)) rfl ?_
      refine so_assign (v := (.v (.bool false))) rfl ?_
      refine so_nil ?_
      exact by_ret rfl ⟨_, _, h, _, rfl, (Sep.nil hs 1)⟩
  · refine so_gno rfl (not_t c103) ?_
    refine so_gno rfl (not_t c103) ?_
    refine so_gno rfl (not_t c103) ?_
    refine so_pick_t (v := (.v (.bool true))) rfl (not_t c103) rfl ?_
    refine so_nil ?_
    refine fi_true rfl rfl ?_
    refine fi_seq ?_
    refine fi_region ?_
    refine so_assign (v := (.v .nilsl)) rfl ?_
    refine so_assign (v := (.v (.bool false))) rfl ?_
    refine so_nil ?_
    exact by_ret rfl ⟨_, _, h, _, rfl, (Sep.nil hs 1)⟩
theorem spec_l06Abs_ok {fr : List Pc} {H : Heap} (a0 : Int) (hs : Sep H (fr))  (K : Int → Prop) (h : spec_l06Abs.wp a0 K) : OkQ Try.prog 121 [(.v (.int .i64 a0))] H (fun r H2 => ∃ (y0 : Int), K y0 ∧ r = (.v (.int .i64 y0)) ∧ H = H2) := by
  unfold spec_l06Abs.wp at h
  refine of_body Try.f121 F.hm Try.func121 rfl Try.call121 (by kernel_rfl) (by simp) ?_
  refine fi_seq ?_
  refine fi_region ?_
  refine so_assign (v := (.v (.int .i64 (0 : Int)))) rfl ?_
  refine so_nil ?_
  refine fi_seq ?_
  refine fi_seq ?_
  refine fi_region ?_
  refine so_move (v := (.v (.int .i64 a0))) rfl ?_
  refine so_bin rfl rfl ab_lss ?_
  refine so_nil ?_
  replace h := ofP h; rcases h with ⟨c101, h⟩ | ⟨c101, h⟩
  · refine fi_true rfl (decide_eq_true c101) ?_
    refine fi_seq ?_
    refine fi_region ?_
    refine so_move (v := (.v (.int .i64 a0))) rfl ?_
    refine so_un rfl au_neg ?_
    refine so_assign (v := (.v (.int .i64 (IntKind.i64.wrap (0 - a0))))) rfl ?_
    refine so_nil ?_
    exact by_ret rfl ⟨_, h, rfl, rfl⟩
  · refine fi_false rfl (decide_eq_false c101) ?_
    refine fi_skip ?_
    refine fi_seq ?_
    refine fi_region ?_
    refine so_move (v := (.v (.int .i64 a0))) rfl ?_
    refine so_assign (v := (.v (.int .i64 a0))) rfl ?_
    refine so_nil ?_
    exact by_ret rfl ⟨_, h, rfl, rfl⟩
theorem F77.ag2 : tagg Try.prog 2 = some false := by kernel_rfl
theorem F77.it129 : tint Try.prog 129 = some .u64 := by kernel_rfl
theorem F77.ti28 : (telem Try.prog 28).isSome = true := by kernel_rfl
theorem F77.tl28 : (telem Try.prog 28).bind (tsz Try.prog) = some 1 := by kernel_rfl
theorem F77.us2 : (Try.prog.underlying 2).isSome = true := by kernel_rfl
theorem spec_l06Planes_ok {fr : List Pc} {H : Heap} (v0 : AV) (l0 : List (Int)) (hs : Sep H (fr)) (g0 : ∀ H, Sep H fr → Shows H v0 1 (enc (eInt .i64) l0)) (K : Int → Prop) (h : spec_l06Planes.wp l0 K) : OkQ Try.prog 77 [(.v v0)] H (fun r H2 => ∃ (y0 : Int), K y0 ∧ r = (.v (.int .i64 y0)) ∧ H = H2) := by
  unfold spec_l06Planes.wp at h
  refine of_body Try.f77 F.hm Try.func77 rfl Try.call77 (by kernel_rfl) (by simp) ?_
  refine fi_seq ?_
  refine fi_region ?_
  refine so_assign (v := (.v (.int .i64 (0 : Int)))) rfl ?_
  refine so_nil ?_
  refine fi_seq ?_
  refine fi_region ?_
  refine so_assign (v := (.v (.int .i64 (0 : Int)))) rfl ?_
  refine so_nil ?_
  refine fi_seq ?_
  refine fi_seq ?_
  refine fi_region ?_
  refine so_assign (v := (.v (.int .i64 (0 : Int)))) rfl ?_
  refine so_nil ?_
  refine fi_block ?_
  refine fi_loop ?_
  refine fi_at [(0, (.v v0)), (3, (.v (.int .i64 (0 : Int)))), (4, (.v (.int .i64 (0 : Int))))] ⟨rfl, rfl, rfl, trivial⟩ ?_
  refine h (fun (n102 : Int) (i103 : Int) => ∀ (s : Nat → TV), Fin _ _ (updL s [(0, (.v v0)), (3, (.v (.int .i64 n102))), (4, (.v (.int .i64 i103)))]) _ _) ?_ _
  intro n102 i103 h s114
  refine fi_inLoop ?_
  refine fi_seq ?_
  refine fi_seq ?_
  refine fi_region ?_
  refine so_move (v := (.v (.int .i64 i103))) rfl ?_
  refine so_move (v := (.v v0)) rfl ?_
  refine sv_len (g0 _ hs) (fun _ => rfl) (by decide) rfl F77.ti28 ?_
  refine so_bin rfl rfl ab_lss ?_
  refine so_nil ?_
  replace h := ofP h; rcases h with ⟨c104, h⟩ | ⟨c104, h⟩
  · refine fi_true rfl (decide_eq_true c104) ?_
    refine fi_skip ?_
    refine fi_seq ?_
    refine fi_block ?_
    refine fi_block ?_
    refine fi_loop ?_
    refine fi_at [(0, (.v v0)), (3, (.v (.int .i64 n102))), (4, (.v (.int .i64 i103)))] ⟨rfl, rfl, rfl, trivial⟩ ?_
    refine h (fun (n106 : Int) => ∀ (s : Nat → TV), Fin _ _ (updL s [(0, (.v v0)), (3, (.v (.int .i64 n106))), (4, (.v (.int .i64 i103)))]) _ _) ?_ _
    intro n106 h s112
    refine fi_inLoop ?_
    refine fi_seq ?_
    refine fi_seq ?_
    refine fi_region ?_
    refine so_move (v := (.v v0)) rfl ?_
    refine so_move (v := (.v (.int .i64 i103))) rfl ?_
    obtain ⟨c107, h⟩ := h
    refine sv_idx (g0 _ hs) c107 (fun _ => rfl) (by decide) rfl rfl F77.tl28 ?_
    refine sv_cell (g0 _ hs) c107 (0 : Int) 0 (fun x => (AV.int .i64 x)) (fun _ => rfl) (fun _ => rfl) rfl F77.ag2 ?_
    refine sv_callS (spec_l06Abs_ok (l0.getD (i103).toNat (0 : Int)) hs  _ h) (fun _ _ ⟨_, _, _, e⟩ => e) rfl rfl ?_
    clear h
    rintro _ _ ⟨y108, h, rfl, rfl⟩
    refine so_move (v := (.v (.int .i64 n106))) rfl ?_
    refine sv_ii rfl F77.us2 F77.it129 ?_
    obtain ⟨c110, h⟩ := h
    refine so_bin rfl rfl (ab_shr c110) ?_
    refine so_bin rfl rfl ab_neq ?_
    refine so_nil ?_
    replace h := ofP h; rcases h with ⟨c111, h⟩ | ⟨c111, h⟩
    · refine fi_false rfl (not_f (decide_eq_true c111)) ?_
      refine fi_exit rfl ?_
      refine fi_inBlock ?_
      refine fi_region ?_
      refine so_move (v := (.v (.int .i64 i103))) rfl ?_
      refine so_bin rfl rfl ab_add ?_
      refine so_assign (v := (.v (.int .i64 (IntKind.i64.wrap (i103 + (1 : Int)))))) rfl ?_
      refine so_nil ?_
      exact fi_at [(0, (.v v0)), (3, (.v (.int .i64 n106))), (4, (.v (.int .i64 (IntKind.i64.wrap (i103 + (1 : Int))))))] ⟨rfl, rfl, rfl, trivial⟩ (h _)
    · refine fi_true rfl (not_t (decide_eq_false c111)) ?_
      refine fi_skip ?_
      refine fi_block ?_
      refine fi_region ?_
      refine so_move (v := (.v (.int .i64 n106))) rfl ?_
      refine so_bin rfl rfl ab_add ?_
      refine so_assign (v := (.v (.int .i64 (IntKind.i64.wrap (n106 + (1 : Int)))))) rfl ?_
      refine so_nil ?_
      refine fi_inBlock ?_
      exact fi_at [(0, (.v v0)), (3, (.v (.int .i64 (IntKind.i64.wrap (n106 + (1 : Int)))))), (4, (.v (.int .i64 i103)))] ⟨rfl, rfl, rfl, trivial⟩ (h _)
  · refine fi_false rfl (decide_eq_false c104) ?_
    refine fi_exit rfl ?_
    refine fi_seq ?_
    refine fi_region ?_
    refine so_move (v := (.v (.int .i64 n102))) rfl ?_
    refine so_assign (v := (.v (.int .i64 n102))) rfl ?_
    refine so_nil ?_
    exact by_ret rfl ⟨_, h, rfl, rfl⟩
theorem F122.fl26 : tflt Try.prog 26 = some .f32 := by kernel_rfl
theorem F122.in26 : tint Try.prog 26 = none := by kernel_rfl
theorem F122.us2 : (Try.prog.underlying 2).isSome = true := by kernel_rfl
theorem spec_l06Unscale_ok {fr : List Pc} {H : Heap} (a0 : Int) (a1 : Nat) (a2 : Nat) (hs : Sep H (fr))  (K : Nat → Prop) (h : spec_l06Unscale.wp a0 a1 a2 K) : OkQ Try.prog 122 [(.v (.int .i64 a0)), (.v (.flt .f32 a1)), (.v (.flt .f32 a2))] H (fun r H2 => ∃ (y0 : Nat), K y0 ∧ r = (.v (.flt .f32 y0)) ∧ H = H2) := by
  unfold spec_l06Unscale.wp at h
  refine of_body Try.f122 F.hm Try.func122 rfl Try.call122 (by kernel_rfl) (by simp) ?_
  refine fi_seq ?_
  refine fi_region ?_
  refine so_assign (v := (.v (.flt .f32 (cz .f32 0)))) rfl ?_
  refine so_nil ?_
  refine fi_seq ?_
  refine fi_seq ?_
  refine fi_region ?_
  refine so_move (v := (.v (.int .i64 a0))) rfl ?_
  refine so_bin rfl rfl ab_gtr ?_
  refine so_nil ?_
  replace h := ofP h; rcases h with ⟨c101, h⟩ | ⟨c101, h⟩
  · refine fi_true rfl (decide_eq_true c101) ?_
    refine fi_seq ?_
    refine fi_region ?_
    refine so_move (v := (.v (.flt .f32 a1))) rfl ?_
    refine so_move (v := (.v (.int .i64 a0))) rfl ?_
    refine sv_if rfl F122.us2 F122.in26 F122.fl26 ?_
    refine so_move (v := (.v (.flt .f32 a2))) rfl ?_
    refine so_bin rfl rfl ab_fadd ?_
    refine so_bin rfl rfl ab_fmul ?_
    refine so_assign (v := (.v (.flt .f32 (fop .mul .f32 a1 (fop .add .f32 (itof .f32 a0) a2))))) rfl ?_
    refine so_nil ?_
    exact by_ret rfl ⟨_, h, rfl, rfl⟩
  · refine fi_false rfl (decide_eq_false c101) ?_
    refine fi_skip ?_
    refine fi_seq ?_
    refine fi_seq ?_
    refine fi_region ?_
    refine so_move (v := (.v (.int .i64 a0))) rfl ?_
    refine so_bin rfl rfl ab_lss ?_
    refine so_nil ?_
    replace h := ofP h; rcases h with ⟨c102, h⟩ | ⟨c102, h⟩
    · refine fi_true rfl (decide_eq_true c102) ?_
      refine fi_seq ?_
      refine fi_region ?_
      refine so_move (v := (.v (.flt .f32 a1))) rfl ?_
      refine so_move (v := (.v (.int .i64 a0))) rfl ?_
      refine sv_if rfl F122.us2 F122.in26 F122.fl26 ?_
      refine so_move (v := (.v (.flt .f32 a2))) rfl ?_
      refine so_bin rfl rfl ab_fsub ?_
      refine so_bin rfl rfl ab_fmul ?_
      refine so_assign (v := (.v (.flt .f32 (fop .mul .f32 a1 (fop .sub .f32 (itof .f32 a0) a2))))) rfl ?_
      refine so_nil ?_
      exact by_ret rfl ⟨_, h, rfl, rfl⟩
    · refine fi_false rfl (decide_eq_false c102) ?_
      refine fi_skip ?_
      refine fi_seq ?_
      refine fi_region ?_
      refine so_assign (v := (.v (.flt .f32 (cz .f32 0)))) rfl ?_
      refine so_nil ?_
      exact by_ret rfl ⟨_, h, rfl, rfl⟩
theorem spec_l02List_ok {fr : List Pc} {H : Heap} (v0 : AV) (l0 : List (Nat)) (hs : Sep H (fr)) (g0 : ∀ H, Sep H fr → Shows H v0 1 (enc (eFlt .f32) l0)) (K : Bool → Bool → Prop) (h : spec_l02List.wp l0 K) : OkQ Try.prog 123 [(.v v0)] H (fun r H2 => ∃ (y0 : Bool) (y1 : Bool), K y0 y1 ∧ r = (.t [(.v (bif y0 then v0 else .nilsl)), (.v (.bool y1))]) ∧ H = H2) := by
  unfold spec_l02List.wp at h
  refine of_body Try.f123 F.hm Try.func123 rfl Try.call123 (by kernel_rfl) (by simp) ?_
  refine fi_seq ?_
  refine fi_region ?_
  refine so_assign (v := (.v .nilsl)) rfl ?_
  refine so_assign (v := (.v (.bool false))) rfl ?_
  refine so_nil ?_
  refine fi_seq ?_
  refine fi_seq ?_
  refine fi_region ?_
  refine so_move (v := (.v v0)) rfl ?_
  refine sv_callS (spec_l02Finite_ok v0 l0 hs (fun _ hs => (g0 _ hs)) _ h) (fun _ _ ⟨_, _, _, e⟩ => e) rfl rfl ?_
  clear h
  rintro _ _ ⟨y101, h, rfl, rfl⟩
  refine so_un rfl au_not ?_
  refine so_nil ?_
  replace h := ofT h; rcases h with ⟨c103, h⟩ | ⟨c103, h⟩
  · refine fi_false rfl (not_f c103) ?_
    refine fi_skip ?_
    refine fi_seq ?_
    refine fi_region ?_
    refine so_move (v := (.v v0)) rfl ?_
    refine so_assign (v := (.v v0)) rfl ?_
    refine so_assign (v := (.v (.bool true))) rfl ?_
    refine so_nil ?_
    exact by_ret rfl ⟨_, _, h, rfl, rfl⟩
  · refine fi_true rfl (not_t c103) ?_
    refine fi_seq ?_
    refine fi_region ?_
    refine so_assign (v := (.v .nilsl)) rfl ?_
    refine so_assign (v := (.v (.bool false))) rfl ?_
    refine so_nil ?_
    exact by_ret rfl ⟨_, _, h, rfl, rfl⟩
theorem spec_l02Share_ok {fr : List Pc} {H : Heap} (a0 : Nat) (hs : Sep H (fr))  (K : Bool → Prop) (h : spec_l02Share.wp a0 K) : OkQ Try.prog 66 [(.v (.flt .f32 a0))] H (fun r H2 => ∃ (y0 : Bool), K y0 ∧ r = (.v (.bool y0)) ∧ H = H2) := by
  unfold spec_l02Share.wp at h
  refine of_body Try.f66 F.hm Try.func66 rfl Try.call66 (by kernel_rfl) (by simp) ?_
  refine fi_seq ?_
  refine fi_region ?_
  refine so_assign (v := (.v (.bool false))) rfl ?_
  refine so_nil ?_
  refine fi_seq ?_
  refine fi_region ?_
  refine so_move (v := (.v (.flt .f32 a0))) rfl ?_
  refine so_bin rfl rfl ab_fgeq ?_
  refine so_move (v := (.v (.bool (fcmp .geq .f32 a0 (cz .f32 0))))) rfl ?_
  replace h := ofT h; rcases h with ⟨c101, h⟩ | ⟨c101, h⟩
  · refine so_gyes rfl c101 ?_
    refine so_move (v := (.v (.flt .f32 a0))) rfl ?_
    refine so_gyes rfl c101 ?_
    refine so_bin rfl rfl ab_fleq ?_
    refine so_pick_t (v := (.v (.bool (fcmp .leq .f32 a0 (cz .f32 1065353216))))) rfl c101 rfl ?_
    refine so_assign (v := (.v (.bool (fcmp .leq .f32 a0 (cz .f32 1065353216))))) rfl ?_
    refine so_nil ?_
    exact by_ret rfl ⟨_, h, rfl, rfl⟩
  · refine so_gno rfl c101 ?_
    refine so_gno rfl c101 ?_
    refine so_pick_f (v := (.v (.bool false))) rfl c101 rfl ?_
    refine so_assign (v := (.v (.bool false))) rfl ?_
    refine so_nil ?_
    exact by_ret rfl ⟨_, h, rfl, rfl⟩
theorem F78.ag2 : tagg Try.prog 2 = some false := by kernel_rfl
theorem F78.sz26 : tsz Try.prog 26 = some 1 := by kernel_rfl
theorem F78.ta24_24 : tapp Try.prog 24 24 = some (1, 4) := by kernel_rfl
theorem F78.te24 : telem Try.prog 24 = some 26 := by kernel_rfl
theorem F78.ti28 : (telem Try.prog 28).isSome = true := by kernel_rfl
theorem F78.tl28 : (telem Try.prog 28).bind (tsz Try.prog) = some 1 := by kernel_rfl
theorem F78.ze26 : tzero Try.prog 26 = some [(.flt .f32 (0 : Nat))] := by kernel_rfl
theorem spec_ListOfScale_ok {fr : List Pc} {H : Heap} (v0 : AV) (l0 : List (Int)) (a1 : Nat) (a2 : Nat) (hs : Sep H (fr)) (g0 : ∀ H, Sep H fr → Shows H v0 1 (enc (eInt .i64) l0)) (K : (List (Nat)) → Bool → Prop) (h : spec_ListOfScale.wp l0 a1 a2 K) : OkQ Try.prog 78 [(.v v0), (.v (.flt .f32 a1)), (.v (.flt .f32 a2))] H (fun r H2 => ∃ (y0 : List (Nat)) (y1 : Bool), K y0 y1 ∧ ∃ (w0_ : AV), r = (.t [(.v w0_), (.v (.bool y1))]) ∧ Sep H2 (Pc.osl w0_ 1 (enc (eFlt .f32) y0) :: fr)) := by
  unfold spec_ListOfScale.wp at h
  refine of_body Try.f78 F.hm Try.func78 rfl Try.call78 (by kernel_rfl) (by simp) ?_
  refine fi_seq ?_
  refine fi_region ?_
  refine so_assign (v := (.v .nilsl)) rfl ?_
  refine so_assign (v := (.v (.bool false))) rfl ?_
  refine so_nil ?_
  refine fi_seq ?_
  refine fi_seq ?_
  refine fi_region ?_
  refine so_move (v := (.v v0)) rfl ?_
  refine sv_callS (spec_l02Integers_ok v0 l0 hs (fun _ hs => (g0 _ hs)) _ h) (fun _ _ ⟨_, _, _, e⟩ => e) rfl rfl ?_
  clear h
  rintro _ _ ⟨y101, h, rfl, rfl⟩
  refine so_un rfl au_not ?_
  refine so_move (v := (.v (.bool (!y101)))) rfl ?_
  replace h := ofT h; rcases h with ⟨c103, h⟩ | ⟨c103, h⟩
  · refine so_gyes rfl (not_f c103) ?_
    refine so_move (v := (.v (.flt .f32 a1))) rfl ?_
    refine so_gyes rfl (not_f c103) ?_
    refine sv_callS (spec_l02Above_ok a1 hs  _ h) (fun _ _ ⟨_, _, _, e⟩ => e) rfl rfl ?_
    clear h
    rintro _ _ ⟨y104, h, rfl, rfl⟩
    refine so_gyes rfl (not_f c103) ?_
    refine so_un rfl au_not ?_
    refine so_pick_f (v := (.v (.bool (!y104)))) rfl (not_f c103) rfl ?_
    refine so_move (v := (.v (.bool (!y104)))) rfl ?_
    replace h := ofT h; rcases h with ⟨c106, h⟩ | ⟨c106, h⟩
    · refine so_gyes rfl (not_f c106) ?_
      refine so_move (v := (.v (.flt .f32 a2))) rfl ?_
      refine so_gyes rfl (not_f c106) ?_
      refine sv_callS (spec_l02Share_ok a2 hs  _ h) (fun _ _ ⟨_, _, _, e⟩ => e) rfl rfl ?_
      clear h
      rintro _ _ ⟨y107, h, rfl, rfl⟩
      refine so_gyes rfl (not_f c106) ?_
      refine so_un rfl au_not ?_
      refine so_pick_f (v := (.v (.bool (!y107)))) rfl (not_f c106) rfl ?_
      refine so_nil ?_
      replace h := ofT h; rcases h with ⟨c109, h⟩ | ⟨c109, h⟩
      · refine fi_false rfl (not_f c109) ?_
        refine fi_skip ?_
        refine fi_seq ?_
        refine fi_region ?_
        refine sv_bslice hs (eFlt .f32) ([] : List (Nat)) [] F78.te24 F78.sz26 F78.ze26 rfl rfl rfl rfl (fun _ => rfl) rfl (by decide) nofun (fun v110 H111 nv110 hs => ?_)
        refine so_assign (v := (.v v110)) rfl ?_
        refine so_nil ?_
        refine fi_seq ?_
        refine fi_seq ?_
        refine fi_region ?_
        refine so_assign (v := (.v (.int .i64 (0 : Int)))) rfl ?_
        refine so_nil ?_
        refine fi_block ?_
        refine fi_loop ?_
        refine fi_at [(0, (.v v0)), (1, (.v (.flt .f32 a1))), (2, (.v (.flt .f32 a2))), (8, (.v v110)), (9, (.v (.int .i64 (0 : Int))))] ⟨rfl, rfl, rfl, rfl, rfl, trivial⟩ ?_
        refine h (fun (out132 : List (Nat)) (i134 : Int) => ∀ (s : Nat → TV) (H : Heap) (v133 : AV) (nv133 : v133 ≠ .nilsl), Sep H (Pc.osl v133 1 (enc (eFlt .f32) out132) :: fr) → Fin _ _ (updL s [(0, (.v v0)), (1, (.v (.flt .f32 a1))), (2, (.v (.flt .f32 a2))), (8, (.v v133)), (9, (.v (.int .i64 i134)))]) H _) ?_ _ _ _ nv110 hs
        intro out132 i134 h s149 H150 v133 nv133 hs
        refine fi_inLoop ?_
        refine fi_seq ?_
        refine fi_seq ?_
        refine fi_region ?_
        refine so_move (v := (.v (.int .i64 i134))) rfl ?_
        refine so_move (v := (.v v0)) rfl ?_
        refine sv_len (g0 _ hs.tl) (fun _ => rfl) (by decide) rfl F78.ti28 ?_
        refine so_bin rfl rfl ab_lss ?_
        refine so_nil ?_
        replace h := ofP h; rcases h with ⟨c135, h⟩ | ⟨c135, h⟩
        · refine fi_true rfl (decide_eq_true c135) ?_
          refine fi_skip ?_
          refine fi_seq ?_
          refine fi_block ?_
          refine fi_region ?_
          refine so_move (v := (.v v133)) rfl ?_
          refine so_move (v := (.v v0)) rfl ?_
          refine so_move (v := (.v (.int .i64 i134))) rfl ?_
          obtain ⟨c136, h⟩ := h
          refine sv_idx (g0 _ hs.tl) c136 (fun _ => rfl) (by decide) rfl rfl F78.tl28 ?_
          refine sv_cell (g0 _ hs.tl) c136 (0 : Int) 0 (fun x => (AV.int .i64 x)) (fun _ => rfl) (fun _ => rfl) rfl F78.ag2 ?_
          refine so_move (v := (.v (.flt .f32 a1))) rfl ?_
          refine so_move (v := (.v (.flt .f32 a2))) rfl ?_
          refine sv_callS (spec_l06Unscale_ok (l0.getD (i134).toNat (0 : Int)) a1 a2 hs  _ h) (fun _ _ ⟨_, _, _, e⟩ => e) rfl rfl ?_
          clear h
          rintro _ _ ⟨y137, h, rfl, rfl⟩
          refine sv_bslice hs (eFlt .f32) ([y137] : List (Nat)) [[(.flt .f32 y137)]] F78.te24 F78.sz26 F78.ze26 rfl rfl rfl rfl (fun _ => rfl) rfl (by decide) nofun (fun v139 H140 nv139 hs => ?_)
          obtain ⟨c144, h⟩ := h
          refine sv_app hs 1 rfl (hs.shows 0 rfl) (fun _ => rfl) (by decide) F78.ta24_24 (by decide) c144 rfl rfl nofun (fun v142 H143 kv142 hs => ?_)
          replace hs := hs.del 0
          have nv142 := kv142 nv133
          refine so_assign (v := (.v v142)) rfl ?_
          refine so_nil ?_
          refine fi_inBlock ?_
          refine fi_region ?_
          refine so_move (v := (.v (.int .i64 i134))) rfl ?_
          refine so_bin rfl rfl ab_add ?_
          refine so_assign (v := (.v (.int .i64 (IntKind.i64.wrap (i134 + (1 : Int)))))) rfl ?_
          refine so_nil ?_
          exact fi_at [(0, (.v v0)), (1, (.v (.flt .f32 a1))), (2, (.v (.flt .f32 a2))), (8, (.v v142)), (9, (.v (.int .i64 (IntKind.i64.wrap (i134 + (1 : Int))))))] ⟨rfl, rfl, rfl, rfl, rfl, trivial⟩ (h _ _ _ nv142 hs)
        · refine fi_false rfl (decide_eq_false c135) ?_
          refine fi_exit rfl ?_
          refine fi_seq ?_
          refine fi_region ?_
          refine so_move (v := (.v v133)) rfl ?_
          refine sv_callS (spec_l02List_ok v133 out132 hs (fun _ hs => (hs.shows 0 rfl)) _ h) (fun _ _ ⟨_, _, _, _, e⟩ => e) rfl rfl ?_
          clear h
          rintro _ _ ⟨y145, y146, h, rfl, rfl⟩
          replace h := ofT h; rcases h with ⟨c148, h⟩ | ⟨c148, h⟩
          · subst c148
            refine so_extract rfl rfl rfl ?_
            refine so_extract rfl rfl rfl ?_
            refine so_assign (v := (.v v133)) rfl ?_
            refine so_assign (v := (.v (.bool y146))) rfl ?_
            refine so_nil ?_
            exact by_ret rfl ⟨_, _, h, _, rfl, hs⟩
          · subst c148
            refine so_extract rfl rfl rfl ?_
            refine so_extract rfl rfl rfl ?_
            refine so_assign (v := (.v .nilsl)) rfl ?_
            refine so_assign (v := (.v (.bool y146))) rfl ?_
            refine so_nil ?_
            exact by_ret rfl ⟨_, _, h, _, rfl, (Sep.nil (Sep.del 0 hs) 1)⟩
      · refine fi_true rfl (not_t c109) ?_
        refine fi_seq ?_
        refine fi_region ?_
        refine so_assign (v := (.v .nilsl)) rfl ?_
        refine so_assign (v := (.v (.bool false))) rfl ?_
        refine so_nil ?_
        exact by_ret rfl ⟨_, _, h, _, rfl, (Sep.nil hs 1)⟩
    · refine so_gno rfl (not_t c106) ?_
      refine so_gno rfl (not_t c106) ?_
      refine so_gno rfl (not_t c106) ?_
      refine so_pick_t (v := (.v (.bool true))) rfl (not_t c106) rfl ?_
      refine so_nil ?_
      refine fi_true rfl rfl ?_
      refine fi_seq ?_
      refine fi_region ?_
      refine so_assign (v := (.v .nilsl)) rfl ?_
      refine so_assign (v := (.v (.bool false))) rfl ?_
      refine so_nil ?_
      exact by_ret rfl ⟨_, _, h, _, rfl, (Sep.nil hs 1)⟩
  · refine so_gno rfl (not_t c103) ?_
    refine so_gno rfl (not_t c103) ?_
    refine so_gno rfl (not_t c103) ?_
    refine so_pick_t (v := (.v (.bool true))) rfl (not_t c103) rfl ?_
    refine so_move (v := (.v (.bool true))) rfl ?_
    refine so_gno rfl rfl ?_
    refine so_gno rfl rfl ?_
    refine so_gno rfl rfl ?_
    refine so_pick_t (v := (.v (.bool true))) rfl rfl rfl ?_
    refine so_nil ?_
    refine fi_true rfl rfl ?_
    refine fi_seq ?_
    refine fi_region ?_
    refine so_assign (v := (.v .nilsl)) rfl ?_
    refine so_assign (v := (.v (.bool false))) rfl ?_
    refine so_nil ?_
    exact by_ret rfl ⟨_, _, h, _, rfl, (Sep.nil hs 1)⟩
theorem F79.ag2 : tagg Try.prog 2 = some false := by kernel_rfl
theorem F79.it129 : tint Try.prog 129 = some .u64 := by kernel_rfl
theorem F79.sz2 : tsz Try.prog 2 = some 1 := by kernel_rfl
theorem F79.ta28_28 : tapp Try.prog 28 28 = some (1, 8) := by kernel_rfl
theorem F79.te28 : telem Try.prog 28 = some 2 := by kernel_rfl
theorem F79.ti28 : (telem Try.prog 28).isSome = true := by kernel_rfl
theorem F79.tl28 : (telem Try.prog 28).bind (tsz Try.prog) = some 1 := by kernel_rfl
theorem F79.us2 : (Try.prog.underlying 2).isSome = true := by kernel_rfl
theorem F79.ze2 : tzero Try.prog 2 = some [(.int .i64 (0 : Int))] := by kernel_rfl
theorem spec_l06Cleared_ok {fr : List Pc} {H : Heap} (v0 : AV) (l0 : List (Int)) (a1 : Int) (hs : Sep H (fr)) (g0 : ∀ H, Sep H fr → Shows H v0 1 (enc (eInt .i64) l0)) (K : (List (Int)) → Prop) (h : spec_l06Cleared.wp l0 a1 K) : OkQ Try.prog 79 [(.v v0), (.v (.int .i64 a1))] H (fun r H2 => ∃ (y0 : List (Int)), K y0 ∧ ∃ (w0_ : AV), r = (.v w0_) ∧ Sep H2 (Pc.osl w0_ 1 (enc (eInt .i64) y0) :: fr)) := by
  unfold spec_l06Cleared.wp at h
  refine of_body Try.f79 F.hm Try.func79 rfl Try.call79 (by kernel_rfl) (by simp) ?_
  refine fi_seq ?_
  refine fi_region ?_
  refine so_assign (v := (.v .nilsl)) rfl ?_
  refine so_nil ?_
  refine fi_seq ?_
  refine fi_region ?_
  refine sv_bslice hs (eInt .i64) ([] : List (Int)) [] F79.te28 F79.sz2 F79.ze2 rfl rfl rfl rfl (fun _ => rfl) rfl (by decide) nofun (fun v101 H102 nv101 hs => ?_)
  refine so_assign (v := (.v v101)) rfl ?_
  refine so_nil ?_
  refine fi_seq ?_
  refine fi_seq ?_
  refine fi_region ?_
  refine so_assign (v := (.v (.int .i64 (0 : Int)))) rfl ?_
  refine so_nil ?_
  refine fi_block ?_
  refine fi_loop ?_
  refine fi_at [(0, (.v v0)), (1, (.v (.int .i64 a1))), (5, (.v v101)), (6, (.v (.int .i64 (0 : Int))))] ⟨rfl, rfl, rfl, rfl, trivial⟩ ?_
  refine h (fun (out127 : List (Int)) (i129 : Int) => ∀ (s : Nat → TV) (H : Heap) (v128 : AV) (nv128 : v128 ≠ .nilsl), Sep H (Pc.osl v128 1 (enc (eInt .i64) out127) :: fr) → Fin _ _ (updL s [(0, (.v v0)), (1, (.v (.int .i64 a1))), (5, (.v v128)), (6, (.v (.int .i64 i129)))]) H _) ?_ _ _ _ nv101 hs
  intro out127 i129 h s148 H149 v128 nv128 hs
  refine fi_inLoop ?_
  refine fi_seq ?_
  refine fi_seq ?_
  refine fi_region ?_
  refine so_move (v := (.v (.int .i64 i129))) rfl ?_
  refine so_move (v := (.v v0)) rfl ?_
  refine sv_len (g0 _ hs.tl) (fun _ => rfl) (by decide) rfl F79.ti28 ?_
  refine so_bin rfl rfl ab_lss ?_
  refine so_nil ?_
  replace h := ofP h; rcases h with ⟨c130, h⟩ | ⟨c130, h⟩
  · refine fi_true rfl (decide_eq_true c130) ?_
    refine fi_skip ?_
    refine fi_seq ?_
    refine fi_block ?_
    refine fi_seq ?_
    refine fi_region ?_
    refine so_move (v := (.v v0)) rfl ?_
    refine so_move (v := (.v (.int .i64 i129))) rfl ?_
    obtain ⟨c131, h⟩ := h
    refine sv_idx (g0 _ hs.tl) c131 (fun _ => rfl) (by decide) rfl rfl F79.tl28 ?_
    refine sv_cell (g0 _ hs.tl) c131 (0 : Int) 0 (fun x => (AV.int .i64 x)) (fun _ => rfl) (fun _ => rfl) rfl F79.ag2 ?_
    refine sv_callS (spec_l06Abs_ok (l0.getD (i129).toNat (0 : Int)) hs  _ h) (fun _ _ ⟨_, _, _, e⟩ => e) rfl rfl ?_
    clear h
    rintro _ _ ⟨y132, h, rfl, rfl⟩
    refine so_move (v := (.v (.int .i64 a1))) rfl ?_
    refine sv_ii rfl F79.us2 F79.it129 ?_
    obtain ⟨c134, h⟩ := h
    refine so_bin rfl rfl (ab_shr c134) ?_
    refine so_move (v := (.v (.int .i64 a1))) rfl ?_
    refine sv_ii rfl F79.us2 F79.it129 ?_
    refine so_bin rfl rfl (ab_shl c134) ?_
    refine so_assign (v := (.v (.int .i64 (IntKind.i64.wrap ((Int.fdiv y132 (2 ^ (min ((IntKind.u64.wrap a1)).toNat IntKind.i64.bits))) * (2 ^ (min ((IntKind.u64.wrap a1)).toNat IntKind.i64.bits))))))) rfl ?_
    refine so_nil ?_
    refine fi_seq ?_
    refine fi_seq ?_
    refine fi_region ?_
    refine so_move (v := (.v v0)) rfl ?_
    refine so_move (v := (.v (.int .i64 i129))) rfl ?_
    refine sv_idx (g0 _ hs.tl) c131 (fun _ => rfl) (by decide) rfl rfl F79.tl28 ?_
    refine sv_cell (g0 _ hs.tl) c131 (0 : Int) 0 (fun x => (AV.int .i64 x)) (fun _ => rfl) (fun _ => rfl) rfl F79.ag2 ?_
    refine so_bin rfl rfl ab_lss ?_
    refine so_nil ?_
    replace h := ofP h; rcases h with ⟨c135, h⟩ | ⟨c135, h⟩
    · refine fi_true rfl (decide_eq_true c135) ?_
      refine fi_region ?_
      refine so_move (v := (.v (.int .i64 (IntKind.i64.wrap ((Int.fdiv y132 (2 ^ (min ((IntKind.u64.wrap a1)).toNat IntKind.i64.bits))) * (2 ^ (min ((IntKind.u64.wrap a1)).toNat IntKind.i64.bits))))))) rfl ?_
      refine so_un rfl au_neg ?_
      refine so_assign (v := (.v (.int .i64 (IntKind.i64.wrap (0 - (IntKind.i64.wrap ((Int.fdiv y132 (2 ^ (min ((IntKind.u64.wrap a1)).toNat IntKind.i64.bits))) * (2 ^ (min ((IntKind.u64.wrap a1)).toNat IntKind.i64.bits))))))))) rfl ?_
      refine so_nil ?_
      refine fi_region ?_
      refine so_move (v := (.v v128)) rfl ?_
      refine so_move (v := (.v (.int .i64 (IntKind.i64.wrap (0 - (IntKind.i64.wrap ((Int.fdiv y132 (2 ^ (min ((IntKind.u64.wrap a1)).toNat IntKind.i64.bits))) * (2 ^ (min ((IntKind.u64.wrap a1)).toNat IntKind.i64.bits))))))))) rfl ?_
      refine sv_bslice hs (eInt .i64) ([(IntKind.i64.wrap (0 - (IntKind.i64.wrap ((Int.fdiv y132 (2 ^ (min ((IntKind.u64.wrap a1)).toNat IntKind.i64.bits))) * (2 ^ (min ((IntKind.u64.wrap a1)).toNat IntKind.i64.bits))))))] : List (Int)) [[(.int .i64 (IntKind.i64.wrap (0 - (IntKind.i64.wrap ((Int.fdiv y132 (2 ^ (min ((IntKind.u64.wrap a1)).toNat IntKind.i64.bits))) * (2 ^ (min ((IntKind.u64.wrap a1)).toNat IntKind.i64.bits)))))))]] F79.te28 F79.sz2 F79.ze2 rfl rfl rfl rfl (fun _ => rfl) rfl (by decide) nofun (fun v136 H137 nv136 hs => ?_)
      obtain ⟨c141, h⟩ := h
      refine sv_app hs 1 rfl (hs.shows 0 rfl) (fun _ => rfl) (by decide) F79.ta28_28 (by decide) c141 rfl rfl nofun (fun v139 H140 kv139 hs => ?_)
      replace hs := hs.del 0
      have nv139 := kv139 nv128
      refine so_assign (v := (.v v139)) rfl ?_
      refine so_nil ?_
      refine fi_inBlock ?_
      refine fi_region ?_
      refine so_move (v := (.v (.int .i64 i129))) rfl ?_
      refine so_bin rfl rfl ab_add ?_
      refine so_assign (v := (.v (.int .i64 (IntKind.i64.wrap (i129 + (1 : Int)))))) rfl ?_
      refine so_nil ?_
      exact fi_at [(0, (.v v0)), (1, (.v (.int .i64 a1))), (5, (.v v139)), (6, (.v (.int .i64 (IntKind.i64.wrap (i129 + (1 : Int))))))] ⟨rfl, rfl, rfl, rfl, trivial⟩ (h _ _ _ nv139 hs)
    · refine fi_false rfl (decide_eq_false c135) ?_
      refine fi_skip ?_
      refine fi_region ?_
      refine so_move (v := (.v v128)) rfl ?_
      refine so_move (v := (.v (.int .i64 (IntKind.i64.wrap ((Int.fdiv y132 (2 ^ (min ((IntKind.u64.wrap a1)).toNat IntKind.i64.bits))) * (2 ^ (min ((IntKind.u64.wrap a1)).toNat IntKind.i64.bits))))))) rfl ?_
      refine sv_bslice hs (eInt .i64) ([(IntKind.i64.wrap ((Int.fdiv y132 (2 ^ (min ((IntKind.u64.wrap a1)).toNat IntKind.i64.bits))) * (2 ^ (min ((IntKind.u64.wrap a1)).toNat IntKind.i64.bits))))] : List (Int)) [[(.int .i64 (IntKind.i64.wrap ((Int.fdiv y132 (2 ^ (min ((IntKind.u64.wrap a1)).toNat IntKind.i64.bits))) * (2 ^ (min ((IntKind.u64.wrap a1)).toNat IntKind.i64.bits)))))]] F79.te28 F79.sz2 F79.ze2 rfl rfl rfl rfl (fun _ => rfl) rfl (by decide) nofun (fun v142 H143 nv142 hs => ?_)
      obtain ⟨c147, h⟩ := h
      refine sv_app hs 1 rfl (hs.shows 0 rfl) (fun _ => rfl) (by decide) F79.ta28_28 (by decide) c147 rfl rfl nofun (fun v145 H146 kv145 hs => ?_)
      replace hs := hs.del 0
      have nv145 := kv145 nv128
      refine so_assign (v := (.v v145)) rfl ?_
      refine so_nil ?_
      refine fi_inBlock ?_
      refine fi_region ?_
      refine so_move (v := (.v (.int .i64 i129))) rfl ?_
      refine so_bin rfl rfl ab_add ?_
      refine so_assign (v := (.v (.int .i64 (IntKind.i64.wrap (i129 + (1 : Int)))))) rfl ?_
      refine so_nil ?_
      exact fi_at [(0, (.v v0)), (1, (.v (.int .i64 a1))), (5, (.v v145)), (6, (.v (.int .i64 (IntKind.i64.wrap (i129 + (1 : Int))))))] ⟨rfl, rfl, rfl, rfl, trivial⟩ (h _ _ _ nv145 hs)
  · refine fi_false rfl (decide_eq_false c130) ?_
    refine fi_exit rfl ?_
    refine fi_seq ?_
    refine fi_region ?_
    refine so_move (v := (.v v128)) rfl ?_
    refine so_assign (v := (.v v128)) rfl ?_
    refine so_nil ?_
    exact by_ret rfl ⟨_, h, _, rfl, hs⟩
theorem F124.ag24 : tagg Try.prog 24 = some false := by kernel_rfl
theorem F124.ag26 : tagg Try.prog 26 = some false := by kernel_rfl
theorem F124.fd38_0 : tfield Try.prog 38 0 = some (0, 1, false) := by kernel_rfl
theorem F124.fd38_1 : tfield Try.prog 38 1 = some (1, 1, false) := by kernel_rfl
theorem F124.sz26 : tsz Try.prog 26 = some 1 := by kernel_rfl
theorem F124.ta24_24 : tapp Try.prog 24 24 = some (1, 4) := by kernel_rfl
theorem F124.te24 : telem Try.prog 24 = some 26 := by kernel_rfl
theorem F124.ti24 : (telem Try.prog 24).isSome = true := by kernel_rfl
theorem F124.tl24 : (telem Try.prog 24).bind (tsz Try.prog) = some 1 := by kernel_rfl
theorem F124.ze26 : tzero Try.prog 26 = some [(.flt .f32 (0 : Nat))] := by kernel_rfl
theorem spec_l02DropOnce_ok {fr : List Pc} {H : Heap} (i0 o0 : Nat) (v0 : AV) (l0 : List (Nat)) (a1 : Nat) (v2 : AV) (l2 : List (Nat)) (v3 : AV) (l3 : List (Nat)) (hs : Sep H (fr)) (g0 : ∀ H, Sep H fr → Shows H v0 1 (enc (eFlt .f32) l0)) (q0 : ∀ H, Sep H fr → PtAt H i0 o0 [v0, (.flt .f32 a1)]) (g2 : ∀ H, Sep H fr → Shows H v2 1 (enc (eFlt .f32) l2)) (g3 : ∀ H, Sep H fr → Shows H v3 1 (enc (eFlt .f32) l3)) (K : (List (Nat)) → Bool → Prop) (h : spec_l02DropOnce.wp l0 a1 l2 l3 K) : OkQ Try.prog 124 [(.v (.ptr i0 o0)), (.v v2), (.v v3)] H (fun r H2 => ∃ (y0 : List (Nat)) (y1 : Bool), K y0 y1 ∧ ∃ (w0_ : AV), r = (.t [(.v w0_), (.v (.bool y1))]) ∧ Sep H2 (Pc.osl w0_ 1 (enc (eFlt .f32) y0) :: fr)) := by
  unfold spec_l02DropOnce.wp at h
  refine of_body Try.f124 F.hm Try.func124 rfl Try.call124 (by kernel_rfl) (by simp) ?_
  refine fi_seq ?_
  refine fi_region ?_
  refine so_assign (v := (.v .nilsl)) rfl ?_
  refine so_assign (v := (.v (.bool false))) rfl ?_
  refine so_nil ?_
  refine fi_seq ?_
  refine fi_region ?_
  refine sv_bslice hs (eFlt .f32) ([] : List (Nat)) [] F124.te24 F124.sz26 F124.ze26 rfl rfl rfl rfl (fun _ => rfl) rfl (by decide) nofun (fun v101 H102 nv101 hs => ?_)
  refine so_move (v := (.v v2)) rfl ?_
  obtain ⟨c106, h⟩ := h
  refine sv_app hs 0 rfl (g2 _ hs.tl) (fun _ => rfl) (by decide) F124.ta24_24 (by decide) c106 rfl rfl nofun (fun v104 H105 kv104 hs => ?_)
  have nv104 := kv104 nv101
  refine so_assign (v := (.v v104)) rfl ?_
  refine so_nil ?_
  refine fi_seq ?_
  refine fi_region ?_
  refine sv_bslice hs (eFlt .f32) ([] : List (Nat)) [] F124.te24 F124.sz26 F124.ze26 rfl rfl rfl rfl (fun _ => rfl) rfl (by decide) nofun (fun v107 H108 nv107 hs => ?_)
  refine so_move (v := (.v v3)) rfl ?_
  obtain ⟨c112, h⟩ := h
  refine sv_app hs 0 rfl (g3 _ hs.tl.tl) (fun _ => rfl) (by decide) F124.ta24_24 (by decide) c112 rfl rfl nofun (fun v110 H111 kv110 hs => ?_)
  have nv110 := kv110 nv107
  refine so_assign (v := (.v v110)) rfl ?_
  refine so_nil ?_
  refine fi_seq ?_
  refine fi_seq ?_
  refine fi_region ?_
  refine so_move (v := (.v v110)) rfl ?_
  refine sv_len (hs.shows 0 rfl) (fun _ => rfl) (by decide) rfl F124.ti24 ?_
  refine so_bin rfl rfl ab_gtr ?_
  refine so_nil ?_
  replace h := ofP h; rcases h with ⟨c113, h⟩ | ⟨c113, h⟩
  · refine fi_true rfl (decide_eq_true c113) ?_
    refine fi_seq ?_
    refine fi_seq ?_
    refine fi_region ?_
    refine so_assign (v := (.v (.int .i64 (0 : Int)))) rfl ?_
    refine so_nil ?_
    refine fi_block ?_
    refine fi_loop ?_
    refine fi_at [(0, (.v (.ptr i0 o0))), (8, (.v v104)), (9, (.v v110)), (10, (.v (.int .i64 (0 : Int))))] ⟨rfl, rfl, rfl, rfl, trivial⟩ ?_
    refine h (fun (low381 : List (Nat)) (i382 : Int) => ∀ (s : Nat → TV) (H : Heap), Sep H (Pc.osl v110 1 (enc (eFlt .f32) (([] : List (Nat)) ++ l3)) :: Pc.osl v104 1 (enc (eFlt .f32) low381) :: fr) → Fin _ _ (updL s [(0, (.v (.ptr i0 o0))), (8, (.v v104)), (9, (.v v110)), (10, (.v (.int .i64 i382)))]) H _) ?_ _ _ hs
    intro low381 i382 h s647 H648 hs
    refine fi_inLoop ?_
    refine fi_seq ?_
    refine fi_seq ?_
    refine fi_region ?_
    refine so_move (v := (.v (.int .i64 i382))) rfl ?_
    refine so_move (v := (.v v104)) rfl ?_
    refine sv_len (hs.shows 1 rfl) (fun _ => rfl) (by decide) rfl F124.ti24 ?_
    refine so_bin rfl rfl ab_lss ?_
    refine so_nil ?_
    replace h := ofP h; rcases h with ⟨c383, h⟩ | ⟨c383, h⟩
    · refine fi_true rfl (decide_eq_true c383) ?_
      refine fi_skip ?_
      refine fi_seq ?_
      refine fi_block ?_
      refine fi_region ?_
      refine so_move (v := (.v v104)) rfl ?_
      refine so_move (v := (.v (.int .i64 i382))) rfl ?_
      refine so_move (v := (.v v104)) rfl ?_
      refine so_move (v := (.v (.int .i64 i382))) rfl ?_
      obtain ⟨c384, h⟩ := h
      refine sv_idx (hs.shows 1 rfl) c384 (fun _ => rfl) (by decide) rfl rfl F124.tl24 ?_
      refine sv_cell (hs.shows 1 rfl) c384 (0 : Nat) 0 (fun x => (AV.flt .f32 x)) (fun _ => rfl) (fun _ => rfl) rfl F124.ag26 ?_
      refine so_move (v := (.v (.ptr i0 o0))) rfl ?_
      refine so_nilCheck rfl ?_
      refine so_fieldAddr rfl F124.fd38_1 ?_
      refine su_ld (q0 _ hs.tl.tl) 1 rfl rfl F124.ag26 ?_
      refine so_bin rfl rfl ab_fquo ?_
      refine sv_idx (hs.shows 1 rfl) c384 (fun _ => rfl) (by decide) rfl rfl F124.tl24 ?_
      refine sv_set hs 1 rfl c384 (fop .quo .f32 (low381.getD (i382).toNat (0 : Nat)) a1) (fun _ => rfl) (by decide) rfl rfl rfl rfl F124.sz26 (fun _ => by kernel_rfl) (fun H385 hs => ?_)
      refine so_nil ?_
      refine fi_inBlock ?_
      refine fi_region ?_
      refine so_move (v := (.v (.int .i64 i382))) rfl ?_
      refine so_bin rfl rfl ab_add ?_
      refine so_assign (v := (.v (.int .i64 (IntKind.i64.wrap (i382 + (1 : Int)))))) rfl ?_
      refine so_nil ?_
      exact fi_at [(0, (.v (.ptr i0 o0))), (8, (.v v104)), (9, (.v v110)), (10, (.v (.int .i64 (IntKind.i64.wrap (i382 + (1 : Int))))))] ⟨rfl, rfl, rfl, rfl, trivial⟩ (h _ _  hs)
    · refine fi_false rfl (decide_eq_false c383) ?_
      refine fi_exit rfl ?_
      refine fi_seq ?_
      refine fi_seq ?_
      refine fi_region ?_
      refine so_assign (v := (.v (.int .i64 (0 : Int)))) rfl ?_
      refine so_nil ?_
      refine fi_block ?_
      refine fi_loop ?_
      refine fi_at [(0, (.v (.ptr i0 o0))), (8, (.v v104)), (9, (.v v110)), (11, (.v (.int .i64 (0 : Int))))] ⟨rfl, rfl, rfl, rfl, trivial⟩ ?_
      refine h (fun (high516 : List (Nat)) (i517 : Int) => ∀ (s : Nat → TV) (H : Heap), Sep H (Pc.osl v110 1 (enc (eFlt .f32) high516) :: Pc.osl v104 1 (enc (eFlt .f32) low381) :: fr) → Fin _ _ (updL s [(0, (.v (.ptr i0 o0))), (8, (.v v104)), (9, (.v v110)), (11, (.v (.int .i64 i517)))]) H _) ?_ _ _ hs
      intro high516 i517 h s645 H646 hs
      refine fi_inLoop ?_
      refine fi_seq ?_
      refine fi_seq ?_
      refine fi_region ?_
      refine so_move (v := (.v (.int .i64 i517))) rfl ?_
      refine so_move (v := (.v v110)) rfl ?_
      refine sv_len (hs.shows 0 rfl) (fun _ => rfl) (by decide) rfl F124.ti24 ?_
      refine so_bin rfl rfl ab_lss ?_
      refine so_nil ?_
      replace h := ofP h; rcases h with ⟨c518, h⟩ | ⟨c518, h⟩
      · refine fi_true rfl (decide_eq_true c518) ?_
        refine fi_skip ?_
        refine fi_seq ?_
        refine fi_block ?_
        refine fi_region ?_
        refine so_move (v := (.v v110)) rfl ?_
        refine so_move (v := (.v (.int .i64 i517))) rfl ?_
        refine so_move (v := (.v v110)) rfl ?_
        refine so_move (v := (.v (.int .i64 i517))) rfl ?_
        obtain ⟨c519, h⟩ := h
        refine sv_idx (hs.shows 0 rfl) c519 (fun _ => rfl) (by decide) rfl rfl F124.tl24 ?_
        refine sv_cell (hs.shows 0 rfl) c519 (0 : Nat) 0 (fun x => (AV.flt .f32 x)) (fun _ => rfl) (fun _ => rfl) rfl F124.ag26 ?_
        refine so_move (v := (.v (.ptr i0 o0))) rfl ?_
        refine so_nilCheck rfl ?_
        refine so_fieldAddr rfl F124.fd38_1 ?_
        refine su_ld (q0 _ hs.tl.tl) 1 rfl rfl F124.ag26 ?_
        refine so_bin rfl rfl ab_fmul ?_
        refine sv_idx (hs.shows 0 rfl) c519 (fun _ => rfl) (by decide) rfl rfl F124.tl24 ?_
        refine sv_set hs 0 rfl c519 (fop .mul .f32 (high516.getD (i517).toNat (0 : Nat)) a1) (fun _ => rfl) (by decide) rfl rfl rfl rfl F124.sz26 (fun _ => by kernel_rfl) (fun H520 hs => ?_)
        refine so_nil ?_
        refine fi_inBlock ?_
        refine fi_region ?_
        refine so_move (v := (.v (.int .i64 i517))) rfl ?_
        refine so_bin rfl rfl ab_add ?_
        refine so_assign (v := (.v (.int .i64 (IntKind.i64.wrap (i517 + (1 : Int)))))) rfl ?_
        refine so_nil ?_
        exact fi_at [(0, (.v (.ptr i0 o0))), (8, (.v v104)), (9, (.v v110)), (11, (.v (.int .i64 (IntKind.i64.wrap (i517 + (1 : Int))))))] ⟨rfl, rfl, rfl, rfl, trivial⟩ (h _ _  hs)
      · refine fi_false rfl (decide_eq_false c518) ?_
        refine fi_exit rfl ?_
        refine fi_seq ?_
        refine fi_region ?_
        refine so_move (v := (.v (.ptr i0 o0))) rfl ?_
        refine so_nilCheck rfl ?_
        refine so_fieldAddr rfl F124.fd38_0 ?_
        refine su_ld (q0 _ hs.tl.tl) 0 rfl rfl F124.ag24 ?_
        refine sv_len (g0 _ hs.tl.tl) (fun _ => rfl) (by decide) rfl F124.ti24 ?_
        refine so_bin rfl rfl ab_sub ?_
        refine so_assign (v := (.v (.int .i64 (IntKind.i64.wrap ((l0.length : Int) - (1 : Int)))))) rfl ?_
        refine so_nil ?_
        refine fi_block ?_
        refine fi_loop ?_
        refine fi_at [(0, (.v (.ptr i0 o0))), (8, (.v v104)), (9, (.v v110)), (12, (.v (.int .i64 (IntKind.i64.wrap ((l0.length : Int) - (1 : Int))))))] ⟨rfl, rfl, rfl, rfl, trivial⟩ ?_
        refine h (fun (high582 : List (Nat)) (low583 : List (Nat)) (k584 : Int) => ∀ (s : Nat → TV) (H : Heap), Sep H (Pc.osl v110 1 (enc (eFlt .f32) high582) :: Pc.osl v104 1 (enc (eFlt .f32) low583) :: fr) → Fin _ _ (updL s [(0, (.v (.ptr i0 o0))), (8, (.v v104)), (9, (.v v110)), (12, (.v (.int .i64 k584)))]) H _) ?_ _ _ hs
        intro high582 low583 k584 h s643 H644 hs
        refine fi_inLoop ?_
        refine fi_seq ?_
        refine fi_seq ?_
        refine fi_region ?_
        refine so_move (v := (.v (.int .i64 k584))) rfl ?_
        refine so_bin rfl rfl ab_geq ?_
        refine so_nil ?_
        replace h := ofP h; rcases h with ⟨c585, h⟩ | ⟨c585, h⟩
        · refine fi_true rfl (decide_eq_true c585) ?_
          refine fi_skip ?_
          refine fi_seq ?_
          refine fi_block ?_
          refine fi_region ?_
          refine so_move (v := (.v v104)) rfl ?_
          refine so_move (v := (.v v110)) rfl ?_
          refine so_move (v := (.v (.int .i64 k584))) rfl ?_
          refine so_move (v := (.v (.ptr i0 o0))) rfl ?_
          refine so_nilCheck rfl ?_
          refine so_fieldAddr rfl F124.fd38_0 ?_
          refine su_ld (q0 _ hs.tl.tl) 0 rfl rfl F124.ag24 ?_
          refine so_move (v := (.v (.int .i64 k584))) rfl ?_
          obtain ⟨c586, h⟩ := h
          refine sv_idx (g0 _ hs.tl.tl) c586 (fun _ => rfl) (by decide) rfl rfl F124.tl24 ?_
          refine sv_cell (g0 _ hs.tl.tl) c586 (0 : Nat) 0 (fun x => (AV.flt .f32 x)) (fun _ => rfl) (fun _ => rfl) rfl F124.ag26 ?_
          refine so_un rfl au_fneg' ?_
          replace hs := (Sep.front 1 hs rfl)
          refine sv_call (spec_l02Weigh_ok v104 low583 v110 high582 k584 (fneg .f32 (l0.getD (k584).toNat (0 : Nat))) hs  _ h) rfl rfl nofun ?_
          clear h hs
          rintro _ H589 ⟨y587, y588, h, rfl, hs⟩
          refine so_nil ?_
          refine fi_inBlock ?_
          refine fi_region ?_
          refine so_move (v := (.v (.int .i64 k584))) rfl ?_
          refine so_bin rfl rfl ab_sub ?_
          refine so_assign (v := (.v (.int .i64 (IntKind.i64.wrap (k584 - (1 : Int)))))) rfl ?_
          refine so_nil ?_
          exact fi_at [(0, (.v (.ptr i0 o0))), (8, (.v v104)), (9, (.v v110)), (12, (.v (.int .i64 (IntKind.i64.wrap (k584 - (1 : Int))))))] ⟨rfl, rfl, rfl, rfl, trivial⟩ (h _ _  (Sep.front 1 (Sep.front 0 hs rfl) rfl))
        · refine fi_false rfl (decide_eq_false c585) ?_
          refine fi_exit rfl ?_
          refine fi_seq ?_
          refine fi_region ?_
          refine sv_bslice hs (eFlt .f32) ([] : List (Nat)) [] F124.te24 F124.sz26 F124.ze26 rfl rfl rfl rfl (fun _ => rfl) rfl (by decide) nofun (fun v590 H591 nv590 hs => ?_)
          refine so_assign (v := (.v v590)) rfl ?_
          refine so_nil ?_
          refine fi_seq ?_
          refine fi_seq ?_
          refine fi_region ?_
          refine so_assign (v := (.v (.int .i64 (0 : Int)))) rfl ?_
          refine so_nil ?_
          refine fi_block ?_
          refine fi_loop ?_
          refine fi_at [(8, (.v v104)), (9, (.v v110)), (13, (.v v590)), (14, (.v (.int .i64 (0 : Int))))] ⟨rfl, rfl, rfl, rfl, trivial⟩ ?_
          refine h (fun (out618 : List (Nat)) (i620 : Int) => ∀ (s : Nat → TV) (H : Heap) (v619 : AV) (nv619 : v619 ≠ .nilsl), Sep H (Pc.osl v619 1 (enc (eFlt .f32) out618) :: Pc.osl v110 1 (enc (eFlt .f32) high582) :: Pc.osl v104 1 (enc (eFlt .f32) low583) :: fr) → Fin _ _ (updL s [(8, (.v v104)), (9, (.v v110)), (13, (.v v619)), (14, (.v (.int .i64 i620)))]) H _) ?_ _ _ _ nv590 hs
          intro out618 i620 h s641 H642 v619 nv619 hs
          refine fi_inLoop ?_
          refine fi_seq ?_
          refine fi_seq ?_
          refine fi_region ?_
          refine so_move (v := (.v (.int .i64 i620))) rfl ?_
          refine so_move (v := (.v v104)) rfl ?_
          refine sv_len (hs.shows 2 rfl) (fun _ => rfl) (by decide) rfl F124.ti24 ?_
          refine so_bin rfl rfl ab_lss ?_
          refine so_nil ?_
          replace h := ofP h; rcases h with ⟨c621, h⟩ | ⟨c621, h⟩
          · refine fi_true rfl (decide_eq_true c621) ?_
            refine fi_skip ?_
            refine fi_seq ?_
            refine fi_block ?_
            refine fi_seq ?_
            refine fi_region ?_
            refine so_move (v := (.v v619)) rfl ?_
            refine so_move (v := (.v v104)) rfl ?_
            refine so_move (v := (.v (.int .i64 i620))) rfl ?_
            obtain ⟨c622, h⟩ := h
            refine sv_idx (hs.shows 2 rfl) c622 (fun _ => rfl) (by decide) rfl rfl F124.tl24 ?_
            refine sv_cell (hs.shows 2 rfl) c622 (0 : Nat) 0 (fun x => (AV.flt .f32 x)) (fun _ => rfl) (fun _ => rfl) rfl F124.ag26 ?_
            refine sv_bslice hs (eFlt .f32) ([(low583.getD (i620).toNat (0 : Nat))] : List (Nat)) [[(.flt .f32 (low583.getD (i620).toNat (0 : Nat)))]] F124.te24 F124.sz26 F124.ze26 rfl rfl rfl rfl (fun _ => rfl) rfl (by decide) nofun (fun v623 H624 nv623 hs => ?_)
            obtain ⟨c628, h⟩ := h
            refine sv_app hs 1 rfl (hs.shows 0 rfl) (fun _ => rfl) (by decide) F124.ta24_24 (by decide) c628 rfl rfl nofun (fun v626 H627 kv626 hs => ?_)
            replace hs := hs.del 0
            have nv626 := kv626 nv619
            refine so_assign (v := (.v v626)) rfl ?_
            refine so_nil ?_
            refine fi_seq ?_
            refine fi_region ?_
            refine so_move (v := (.v (.int .i64 i620))) rfl ?_
            refine so_move (v := (.v v110)) rfl ?_
            refine sv_len (hs.shows 1 rfl) (fun _ => rfl) (by decide) rfl F124.ti24 ?_
            refine so_bin rfl rfl ab_lss ?_
            refine so_nil ?_
            replace h := ofP h; rcases h with ⟨c629, h⟩ | ⟨c629, h⟩
            · refine fi_true rfl (decide_eq_true c629) ?_
              refine fi_region ?_
              refine so_move (v := (.v v626)) rfl ?_
              refine so_move (v := (.v v110)) rfl ?_
              refine so_move (v := (.v (.int .i64 i620))) rfl ?_
              obtain ⟨c630, h⟩ := h
              refine sv_idx (hs.shows 1 rfl) c630 (fun _ => rfl) (by decide) rfl rfl F124.tl24 ?_
              refine sv_cell (hs.shows 1 rfl) c630 (0 : Nat) 0 (fun x => (AV.flt .f32 x)) (fun _ => rfl) (fun _ => rfl) rfl F124.ag26 ?_
              refine sv_bslice hs (eFlt .f32) ([(high582.getD (i620).toNat (0 : Nat))] : List (Nat)) [[(.flt .f32 (high582.getD (i620).toNat (0 : Nat)))]] F124.te24 F124.sz26 F124.ze26 rfl rfl rfl rfl (fun _ => rfl) rfl (by decide) nofun (fun v631 H632 nv631 hs => ?_)
              obtain ⟨c636, h⟩ := h
              refine sv_app hs 1 rfl (hs.shows 0 rfl) (fun _ => rfl) (by decide) F124.ta24_24 (by decide) c636 rfl rfl nofun (fun v634 H635 kv634 hs => ?_)
              replace hs := hs.del 0
              have nv634 := kv634 nv626
              refine so_assign (v := (.v v634)) rfl ?_
              refine so_nil ?_
              refine fi_inBlock ?_
              refine fi_region ?_
              refine so_move (v := (.v (.int .i64 i620))) rfl ?_
              refine so_bin rfl rfl ab_add ?_
              refine so_assign (v := (.v (.int .i64 (IntKind.i64.wrap (i620 + (1 : Int)))))) rfl ?_
              refine so_nil ?_
              exact fi_at [(8, (.v v104)), (9, (.v v110)), (13, (.v v634)), (14, (.v (.int .i64 (IntKind.i64.wrap (i620 + (1 : Int))))))] ⟨rfl, rfl, rfl, rfl, trivial⟩ (h _ _ _ nv634 hs)
            · refine fi_false rfl (decide_eq_false c629) ?_
              refine fi_skip ?_
              refine fi_inBlock ?_
              refine fi_region ?_
              refine so_move (v := (.v (.int .i64 i620))) rfl ?_
              refine so_bin rfl rfl ab_add ?_
              refine so_assign (v := (.v (.int .i64 (IntKind.i64.wrap (i620 + (1 : Int)))))) rfl ?_
              refine so_nil ?_
              exact fi_at [(8, (.v v104)), (9, (.v v110)), (13, (.v v626)), (14, (.v (.int .i64 (IntKind.i64.wrap (i620 + (1 : Int))))))] ⟨rfl, rfl, rfl, rfl, trivial⟩ (h _ _ _ nv626 hs)
          · refine fi_false rfl (decide_eq_false c621) ?_
            refine fi_exit rfl ?_
            refine fi_seq ?_
            refine fi_region ?_
            refine so_move (v := (.v v619)) rfl ?_
            refine sv_callS (spec_l02List_ok v619 out618 hs (fun _ hs => (hs.shows 0 rfl)) _ h) (fun _ _ ⟨_, _, _, _, e⟩ => e) rfl rfl ?_
            clear h
            rintro _ _ ⟨y637, y638, h, rfl, rfl⟩
            replace h := ofT h; rcases h with ⟨c640, h⟩ | ⟨c640, h⟩
            · subst c640
              refine so_extract rfl rfl rfl ?_
              refine so_extract rfl rfl rfl ?_
              refine so_assign (v := (.v v619)) rfl ?_
              refine so_assign (v := (.v (.bool y638))) rfl ?_
              refine so_nil ?_
              exact by_ret rfl ⟨_, _, h, _, rfl, (Sep.del 1 (Sep.del 1 hs))⟩
            · subst c640
              refine so_extract rfl rfl rfl ?_
              refine so_extract rfl rfl rfl ?_
              refine so_assign (v := (.v .nilsl)) rfl ?_
              refine so_assign (v := (.v (.bool y638))) rfl ?_
              refine so_nil ?_
              exact by_ret rfl ⟨_, _, h, _, rfl, (Sep.nil (Sep.del 0 (Sep.del 0 (Sep.del 0 hs))) 1)⟩
  · refine fi_false rfl (decide_eq_false c113) ?_
    refine fi_skip ?_
    refine fi_seq ?_
    refine fi_region ?_
    refine sv_bslice hs (eFlt .f32) ([] : List (Nat)) [] F124.te24 F124.sz26 F124.ze26 rfl rfl rfl rfl (fun _ => rfl) rfl (by decide) nofun (fun v649 H650 nv649 hs => ?_)
    refine so_assign (v := (.v v649)) rfl ?_
    refine so_nil ?_
    refine fi_seq ?_
    refine fi_seq ?_
    refine fi_region ?_
    refine so_assign (v := (.v (.int .i64 (0 : Int)))) rfl ?_
    refine so_nil ?_
    refine fi_block ?_
    refine fi_loop ?_
    refine fi_at [(8, (.v v104)), (9, (.v v110)), (13, (.v v649)), (14, (.v (.int .i64 (0 : Int))))] ⟨rfl, rfl, rfl, rfl, trivial⟩ ?_
    refine h (fun (out677 : List (Nat)) (i679 : Int) => ∀ (s : Nat → TV) (H : Heap) (v678 : AV) (nv678 : v678 ≠ .nilsl), Sep H (Pc.osl v678 1 (enc (eFlt .f32) out677) :: Pc.osl v110 1 (enc (eFlt .f32) (([] : List (Nat)) ++ l3)) :: Pc.osl v104 1 (enc (eFlt .f32) (([] : List (Nat)) ++ l2)) :: fr) → Fin _ _ (updL s [(8, (.v v104)), (9, (.v v110)), (13, (.v v678)), (14, (.v (.int .i64 i679)))]) H _) ?_ _ _ _ nv649 hs
    intro out677 i679 h s700 H701 v678 nv678 hs
    refine fi_inLoop ?_
    refine fi_seq ?_
    refine fi_seq ?_
    refine fi_region ?_
    refine so_move (v := (.v (.int .i64 i679))) rfl ?_
    refine so_move (v := (.v v104)) rfl ?_
    refine sv_len (hs.shows 2 rfl) (fun _ => rfl) (by decide) rfl F124.ti24 ?_
    refine so_bin rfl rfl ab_lss ?_
    refine so_nil ?_
    replace h := ofP h; rcases h with ⟨c680, h⟩ | ⟨c680, h⟩
    · refine fi_true rfl (decide_eq_true c680) ?_
      refine fi_skip ?_
      refine fi_seq ?_
      refine fi_block ?_
      refine fi_seq ?_
      refine fi_region ?_
      refine so_move (v := (.v v678)) rfl ?_
      refine so_move (v := (.v v104)) rfl ?_
      refine so_move (v := (.v (.int .i64 i679))) rfl ?_
      obtain ⟨c681, h⟩ := h
      refine sv_idx (hs.shows 2 rfl) c681 (fun _ => rfl) (by decide) rfl rfl F124.tl24 ?_
      refine sv_cell (hs.shows 2 rfl) c681 (0 : Nat) 0 (fun x => (AV.flt .f32 x)) (fun _ => rfl) (fun _ => rfl) rfl F124.ag26 ?_
      refine sv_bslice hs (eFlt .f32) ([((([] : List (Nat)) ++ l2).getD (i679).toNat (0 : Nat))] : List (Nat)) [[(.flt .f32 ((([] : List (Nat)) ++ l2).getD (i679).toNat (0 : Nat)))]] F124.te24 F124.sz26 F124.ze26 rfl rfl rfl rfl (fun _ => rfl) rfl (by decide) nofun (fun v682 H683 nv682 hs => ?_)
      obtain ⟨c687, h⟩ := h
      refine sv_app hs 1 rfl (hs.shows 0 rfl) (fun _ => rfl) (by decide) F124.ta24_24 (by decide) c687 rfl rfl nofun (fun v685 H686 kv685 hs => ?_)
      replace hs := hs.del 0
      have nv685 := kv685 nv678
      refine so_assign (v := (.v v685)) rfl ?_
      refine so_nil ?_
      refine fi_seq ?_
      refine fi_region ?_
      refine so_move (v := (.v (.int .i64 i679))) rfl ?_
      refine so_move (v := (.v v110)) rfl ?_
      refine sv_len (hs.shows 1 rfl) (fun _ => rfl) (by decide) rfl F124.ti24 ?_
      refine so_bin rfl rfl ab_lss ?_
      refine so_nil ?_
      replace h := ofP h; rcases h with ⟨c688, h⟩ | ⟨c688, h⟩
      · refine fi_true rfl (decide_eq_true c688) ?_
        refine fi_region ?_
        refine so_move (v := (.v v685)) rfl ?_
        refine so_move (v := (.v v110)) rfl ?_
        refine so_move (v := (.v (.int .i64 i679))) rfl ?_
        obtain ⟨c689, h⟩ := h
        refine sv_idx (hs.shows 1 rfl) c689 (fun _ => rfl) (by decide) rfl rfl F124.tl24 ?_
        refine sv_cell (hs.shows 1 rfl) c689 (0 : Nat) 0 (fun x => (AV.flt .f32 x)) (fun _ => rfl) (fun _ => rfl) rfl F124.ag26 ?_
        refine sv_bslice hs (eFlt .f32) ([((([] : List (Nat)) ++ l3).getD (i679).toNat (0 : Nat))] : List (Nat)) [[(.flt .f32 ((([] : List (Nat)) ++ l3).getD (i679).toNat (0 : Nat)))]] F124.te24 F124.sz26 F124.ze26 rfl rfl rfl rfl (fun _ => rfl) rfl (by decide) nofun (fun v690 H691 nv690 hs => ?_)
        obtain ⟨c695, h⟩ := h
        refine sv_app hs 1 rfl (hs.shows 0 rfl) (fun _ => rfl) (by decide) F124.ta24_24 (by decide) c695 rfl rfl nofun (fun v693 H694 kv693 hs => ?_)
        replace hs := hs.del 0
        have nv693 := kv693 nv685
        refine so_assign (v := (.v v693)) rfl ?_
        refine so_nil ?_
        refine fi_inBlock ?_
        refine fi_region ?_
        refine so_move (v := (.v (.int .i64 i679))) rfl ?_
        refine so_bin rfl rfl ab_add ?_
        refine so_assign (v := (.v (.int .i64 (IntKind.i64.wrap (i679 + (1 : Int)))))) rfl ?_
        refine so_nil ?_
        exact fi_at [(8, (.v v104)), (9, (.v v110)), (13, (.v v693)), (14, (.v (.int .i64 (IntKind.i64.wrap (i679 + (1 : Int))))))] ⟨rfl, rfl, rfl, rfl, trivial⟩ (h _ _ _ nv693 hs)
      · refine fi_false rfl (decide_eq_false c688) ?_
        refine fi_skip ?_
        refine fi_inBlock ?_
        refine fi_region ?_
        refine so_move (v := (.v (.int .i64 i679))) rfl ?_
        refine so_bin rfl rfl ab_add ?_
        refine so_assign (v := (.v (.int .i64 (IntKind.i64.wrap (i679 + (1 : Int)))))) rfl ?_
        refine so_nil ?_
        exact fi_at [(8, (.v v104)), (9, (.v v110)), (13, (.v v685)), (14, (.v (.int .i64 (IntKind.i64.wrap (i679 + (1 : Int))))))] ⟨rfl, rfl, rfl, rfl, trivial⟩ (h _ _ _ nv685 hs)
    · refine fi_false rfl (decide_eq_false c680) ?_
      refine fi_exit rfl ?_
      refine fi_seq ?_
      refine fi_region ?_
      refine so_move (v := (.v v678)) rfl ?_
      refine sv_callS (spec_l02List_ok v678 out677 hs (fun _ hs => (hs.shows 0 rfl)) _ h) (fun _ _ ⟨_, _, _, _, e⟩ => e) rfl rfl ?_
      clear h
      rintro _ _ ⟨y696, y697, h, rfl, rfl⟩
      replace h := ofT h; rcases h with ⟨c699, h⟩ | ⟨c699, h⟩
      · subst c699
        refine so_extract rfl rfl rfl ?_
        refine so_extract rfl rfl rfl ?_
        refine so_assign (v := (.v v678)) rfl ?_
        refine so_assign (v := (.v (.bool y697))) rfl ?_
        refine so_nil ?_
        exact by_ret rfl ⟨_, _, h, _, rfl, (Sep.del 1 (Sep.del 1 hs))⟩
      · subst c699
        refine so_extract rfl rfl rfl ?_
        refine so_extract rfl rfl rfl ?_
        refine so_assign (v := (.v .nilsl)) rfl ?_
        refine so_assign (v := (.v (.bool y697))) rfl ?_
        refine so_nil ?_
        exact by_ret rfl ⟨_, _, h, _, rfl, (Sep.nil (Sep.del 0 (Sep.del 0 (Sep.del 0 hs))) 1)⟩
theorem F80.ag24 : tagg Try.prog 24 = some false := by kernel_rfl
theorem F80.sz26 : tsz Try.prog 26 = some 1 := by kernel_rfl
theorem F80.ta24_24 : tapp Try.prog 24 24 = some (1, 4) := by kernel_rfl
theorem F80.te24 : telem Try.prog 24 = some 26 := by kernel_rfl
theorem F80.ti72 : (telem Try.prog 72).isSome = true := by kernel_rfl
theorem F80.tl72 : (telem Try.prog 72).bind (tsz Try.prog) = some 1 := by kernel_rfl
theorem F80.ze26 : tzero Try.prog 26 = some [(.flt .f32 (0 : Nat))] := by kernel_rfl
theorem spec_l02Undeep_ok {fr : List Pc} {H : Heap} (i0 o0 : Nat) (v0 : AV) (l0 : List (Nat)) (a1 : Nat) (v2 : AV) (w2 : List (List AV)) (l2 : List (List (Nat))) (hs : Sep H (fr)) (g0 : ∀ H, Sep H fr → Shows H v0 1 (enc (eFlt .f32) l0)) (q0 : ∀ H, Sep H fr → PtAt H i0 o0 [v0, (.flt .f32 a1)]) (g2 : ∀ H, Sep H fr → DSh H v2 1 R_LeFlt_f32_o l2 w2) (K : (List (Nat)) → Bool → Prop) (h : spec_l02Undeep.wp l0 a1 l2 K) : OkQ Try.prog 80 [(.v (.ptr i0 o0)), (.v v2)] H (fun r H2 => ∃ (y0 : List (Nat)) (y1 : Bool), K y0 y1 ∧ ∃ (w0_ : AV), r = (.t [(.v w0_), (.v (.bool y1))]) ∧ Sep H2 (Pc.osl w0_ 1 (enc (eFlt .f32) y0) :: fr)) := by
  unfold spec_l02Undeep.wp at h
  refine of_body Try.f80 F.hm Try.func80 rfl Try.call80 (by kernel_rfl) (by simp) ?_
  refine fi_seq ?_
  refine fi_region ?_
  refine so_assign (v := (.v .nilsl)) rfl ?_
  refine so_assign (v := (.v (.bool false))) rfl ?_
  refine so_nil ?_
  refine fi_seq ?_
  refine fi_region ?_
  refine sv_bslice hs (eFlt .f32) ([] : List (Nat)) [] F80.te24 F80.sz26 F80.ze26 rfl rfl rfl rfl (fun _ => rfl) rfl (by decide) nofun (fun v101 H102 nv101 hs => ?_)
  refine so_move (v := (.v v2)) rfl ?_
  refine so_move (v := (.v v2)) rfl ?_
  refine sd_len ((g2 _ hs.tl) : DSh _ _ 1 R_LeFlt_f32_o l2 w2) (by decide) rfl F80.ti72 ?_
  refine so_bin rfl rfl ab_sub ?_
  obtain ⟨c104, h⟩ := h
  refine sd_idx ((g2 _ hs.tl) : DSh _ _ 1 R_LeFlt_f32_o l2 w2) c104 ([] : List (Nat)) (by decide) rfl rfl F80.tl72 ?_
  refine su_ld ((((g2 _ hs.tl) : DSh _ _ 1 R_LeFlt_f32_o l2 w2)).at (by decide) c104 ([] : List (Nat))).2.2 0 (congrArg (fun c => c[0]?) ((((g2 _ hs.tl) : DSh _ _ 1 R_LeFlt_f32_o l2 w2)).at (by decide) c104 ([] : List (Nat))).2.1.1) rfl F80.ag24 ?_
  obtain ⟨c107, h⟩ := h
  refine sv_app hs 0 rfl ((((g2 _ hs.tl) : DSh _ _ 1 R_LeFlt_f32_o l2 w2)).at (by decide) c104 ([] : List (Nat))).2.1.2 (fun _ => rfl) (by decide) F80.ta24_24 (by decide) c107 rfl rfl nofun (fun v105 H106 kv105 hs => ?_)
  have nv105 := kv105 nv101
  refine so_assign (v := (.v v105)) rfl ?_
  refine so_nil ?_
  refine fi_seq ?_
  refine fi_seq ?_
  refine fi_region ?_
  refine so_move (v := (.v v2)) rfl ?_
  refine sd_len ((g2 _ hs.tl) : DSh _ _ 1 R_LeFlt_f32_o l2 w2) (by decide) rfl F80.ti72 ?_
  refine so_bin rfl rfl ab_sub ?_
  refine so_assign (v := (.v (.int .i64 (IntKind.i64.wrap ((l2.length : Int) - (2 : Int)))))) rfl ?_
  refine so_nil ?_
  refine fi_block ?_
  refine fi_loop ?_
  refine fi_at [(0, (.v (.ptr i0 o0))), (1, (.v v2)), (6, (.v v105)), (7, (.v (.int .i64 (IntKind.i64.wrap ((l2.length : Int) - (2 : Int))))))] ⟨rfl, rfl, rfl, rfl, trivial⟩ ?_
  refine h (fun (now121 : List (Nat)) (k123 : Int) => ∀ (s : Nat → TV) (H : Heap) (v122 : AV), Sep H (Pc.osl v122 1 (enc (eFlt .f32) now121) :: fr) → Fin _ _ (updL s [(0, (.v (.ptr i0 o0))), (1, (.v v2)), (6, (.v v122)), (7, (.v (.int .i64 k123)))]) H _) ?_ _ _ _ hs
  intro now121 k123 h s132 H133 v122 hs
  refine fi_inLoop ?_
  refine fi_seq ?_
  refine fi_seq ?_
  refine fi_region ?_
  refine so_move (v := (.v (.int .i64 k123))) rfl ?_
  refine so_bin rfl rfl ab_geq ?_
  refine so_nil ?_
  replace h := ofP h; rcases h with ⟨c124, h⟩ | ⟨c124, h⟩
  · refine fi_true rfl (decide_eq_true c124) ?_
    refine fi_skip ?_
    refine fi_seq ?_
    refine fi_block ?_
    refine fi_seq ?_
    refine fi_region ?_
    refine so_move (v := (.v (.ptr i0 o0))) rfl ?_
    refine so_move (v := (.v v122)) rfl ?_
    refine so_move (v := (.v v2)) rfl ?_
    refine so_move (v := (.v (.int .i64 k123))) rfl ?_
    obtain ⟨c125, h⟩ := h
    refine sd_idx ((g2 _ hs.tl) : DSh _ _ 1 R_LeFlt_f32_o l2 w2) c125 ([] : List (Nat)) (by decide) rfl rfl F80.tl72 ?_
    refine su_ld ((((g2 _ hs.tl) : DSh _ _ 1 R_LeFlt_f32_o l2 w2)).at (by decide) c125 ([] : List (Nat))).2.2 0 (congrArg (fun c => c[0]?) ((((g2 _ hs.tl) : DSh _ _ 1 R_LeFlt_f32_o l2 w2)).at (by decide) c125 ([] : List (Nat))).2.1.1) rfl F80.ag24 ?_
    refine sv_call (spec_l02DropOnce_ok i0 o0 v0 l0 a1 v122 now121 ((w2.getD (k123).toNat []).getD 0 .und) (l2.getD (k123).toNat ([] : List (Nat))) hs (fun _ hs => (g0 _ hs.tl)) (fun _ hs => (q0 _ hs.tl)) (fun _ hs => (hs.shows 0 rfl)) (fun _ hs => ((((g2 _ hs.tl) : DSh _ _ 1 R_LeFlt_f32_o l2 w2)).at (by decide) c125 ([] : List (Nat))).2.1.2) _ h) rfl rfl nofun ?_
    clear h hs
    rintro _ H130 ⟨y126, y129, h, v127, rfl, hs⟩
    refine so_move (v := (.t [(.v v127), (.v (.bool y129))])) rfl ?_
    refine so_extract rfl rfl rfl ?_
    refine so_extract rfl rfl rfl ?_
    refine so_assign (v := (.v v127)) rfl ?_
    refine so_assign (v := (.v (.bool y129))) rfl ?_
    refine so_nil ?_
    refine fi_seq ?_
    refine fi_seq ?_
    refine fi_region ?_
    refine so_move (v := (.v (.bool y129))) rfl ?_
    refine so_un rfl au_not ?_
    refine so_nil ?_
    replace h := ofT h; rcases h with ⟨c131, h⟩ | ⟨c131, h⟩
    · refine fi_false rfl (not_f c131) ?_
      refine fi_skip ?_
      refine fi_region ?_
      refine so_move (v := (.v v127)) rfl ?_
      refine so_assign (v := (.v v127)) rfl ?_
      refine so_nil ?_
      refine fi_inBlock ?_
      refine fi_region ?_
      refine so_move (v := (.v (.int .i64 k123))) rfl ?_
      refine so_bin rfl rfl ab_sub ?_
      refine so_assign (v := (.v (.int .i64 (IntKind.i64.wrap (k123 - (1 : Int)))))) rfl ?_
      refine so_nil ?_
      exact fi_at [(0, (.v (.ptr i0 o0))), (1, (.v v2)), (6, (.v v127)), (7, (.v (.int .i64 (IntKind.i64.wrap (k123 - (1 : Int))))))] ⟨rfl, rfl, rfl, rfl, trivial⟩ (h _ _ _ (Sep.del 1 hs))
    · refine fi_true rfl (not_t c131) ?_
      refine fi_seq ?_
      refine fi_region ?_
      refine so_assign (v := (.v .nilsl)) rfl ?_
      refine so_assign (v := (.v (.bool false))) rfl ?_
      refine so_nil ?_
      exact by_ret rfl ⟨_, _, h, _, rfl, (Sep.nil (Sep.del 0 (Sep.del 0 hs)) 1)⟩
  · refine fi_false rfl (decide_eq_false c124) ?_
    refine fi_exit rfl ?_
    refine fi_seq ?_
    refine fi_region ?_
    refine so_move (v := (.v v122)) rfl ?_
    refine so_assign (v := (.v v122)) rfl ?_
    refine so_assign (v := (.v (.bool true))) rfl ?_
    refine so_nil ?_
    exact by_ret rfl ⟨_, _, h, _, rfl, hs⟩
theorem F125.sz2 : tsz Try.prog 2 = some 1 := by kernel_rfl
theorem F125.ta28_28 : tapp Try.prog 28 28 = some (1, 8) := by kernel_rfl
theorem F125.te28 : telem Try.prog 28 = some 2 := by kernel_rfl
theorem F125.ze2 : tzero Try.prog 2 = some [(.int .i64 (0 : Int))] := by kernel_rfl
theorem spec_l02BandSizes_ok {fr : List Pc} {H : Heap} (a0 : Int) (a1 : Int) (hs : Sep H (fr))  (K : (List (Int)) → Prop) (h : spec_l02BandSizes.wp a0 a1 K) : OkQ Try.prog 125 [(.v (.int .i64 a0)), (.v (.int .i64 a1))] H (fun r H2 => ∃ (y0 : List (Int)), K y0 ∧ ∃ (w0_ : AV), r = (.v w0_) ∧ Sep H2 (Pc.osl w0_ 1 (enc (eInt .i64) y0) :: fr)) := by
  unfold spec_l02BandSizes.wp at h
  refine of_body Try.f125 F.hm Try.func125 rfl Try.call125 (by kernel_rfl) (by simp) ?_
  refine fi_seq ?_
  refine fi_region ?_
  refine so_assign (v := (.v .nilsl)) rfl ?_
  refine so_nil ?_
  refine fi_seq ?_
  refine fi_region ?_
  refine sv_bslice hs (eInt .i64) ([] : List (Int)) [] F125.te28 F125.sz2 F125.ze2 rfl rfl rfl rfl (fun _ => rfl) rfl (by decide) nofun (fun v101 H102 nv101 hs => ?_)
  refine so_assign (v := (.v v101)) rfl ?_
  refine so_nil ?_
  refine fi_seq ?_
  refine fi_seq ?_
  refine fi_region ?_
  refine so_assign (v := (.v (.int .i64 (0 : Int)))) rfl ?_
  refine so_nil ?_
  refine fi_block ?_
  refine fi_loop ?_
  refine fi_at [(0, (.v (.int .i64 a0))), (1, (.v (.int .i64 a1))), (5, (.v v101)), (6, (.v (.int .i64 (0 : Int))))] ⟨rfl, rfl, rfl, rfl, trivial⟩ ?_
  refine h (fun (out130 : List (Int)) (n132 : Int) (k133 : Int) => ∀ (s : Nat → TV) (H : Heap) (v131 : AV) (nv131 : v131 ≠ .nilsl), Sep H (Pc.osl v131 1 (enc (eInt .i64) out130) :: fr) → Fin _ _ (updL s [(0, (.v (.int .i64 n132))), (1, (.v (.int .i64 a1))), (5, (.v v131)), (6, (.v (.int .i64 k133)))]) H _) ?_ _ _ _ nv101 hs
  intro out130 n132 k133 h s154 H155 v131 nv131 hs
  refine fi_inLoop ?_
  refine fi_seq ?_
  refine fi_seq ?_
  refine fi_region ?_
  refine so_move (v := (.v (.int .i64 k133))) rfl ?_
  refine so_move (v := (.v (.int .i64 a1))) rfl ?_
  refine so_bin rfl rfl ab_lss ?_
  refine so_move (v := (.v (.bool (decide (k133 < a1))))) rfl ?_
  replace h := ofP h; rcases h with ⟨c134, h⟩ | ⟨c134, h⟩
  · refine so_gyes rfl (decide_eq_true c134) ?_
    refine so_move (v := (.v (.int .i64 n132))) rfl ?_
    refine so_gyes rfl (decide_eq_true c134) ?_
    refine so_bin rfl rfl ab_geq ?_
    refine so_pick_t (v := (.v (.bool (decide ((2 : Int) ≤ n132))))) rfl (decide_eq_true c134) rfl ?_
    refine so_nil ?_
    replace h := ofP h; rcases h with ⟨c135, h⟩ | ⟨c135, h⟩
    · refine fi_true rfl (decide_eq_true c135) ?_
      refine fi_skip ?_
      refine fi_seq ?_
      refine fi_block ?_
      refine fi_seq ?_
      refine fi_region ?_
      refine so_move (v := (.v v131)) rfl ?_
      refine so_move (v := (.v (.int .i64 n132))) rfl ?_
      refine so_bin rfl rfl (ab_quo (by decide)) ?_
      refine sv_bslice hs (eInt .i64) ([(IntKind.i64.wrap (Int.tdiv n132 (2 : Int)))] : List (Int)) [[(.int .i64 (IntKind.i64.wrap (Int.tdiv n132 (2 : Int))))]] F125.te28 F125.sz2 F125.ze2 rfl rfl rfl rfl (fun _ => rfl) rfl (by decide) nofun (fun v136 H137 nv136 hs => ?_)
      obtain ⟨c141, h⟩ := h
      refine sv_app hs 1 rfl (hs.shows 0 rfl) (fun _ => rfl) (by decide) F125.ta28_28 (by decide) c141 rfl rfl nofun (fun v139 H140 kv139 hs => ?_)
      replace hs := hs.del 0
      have nv139 := kv139 nv131
      refine so_assign (v := (.v v139)) rfl ?_
      refine so_nil ?_
      refine fi_region ?_
      refine so_move (v := (.v (.int .i64 n132))) rfl ?_
      refine so_bin rfl rfl ab_add ?_
      refine so_bin rfl rfl (ab_quo (by decide)) ?_
      refine so_assign (v := (.v (.int .i64 (IntKind.i64.wrap (Int.tdiv (IntKind.i64.wrap (n132 + (1 : Int))) (2 : Int)))))) rfl ?_
      refine so_nil ?_
      refine fi_inBlock ?_
      refine fi_region ?_
      refine so_move (v := (.v (.int .i64 k133))) rfl ?_
      refine so_bin rfl rfl ab_add ?_
      refine so_assign (v := (.v (.int .i64 (IntKind.i64.wrap (k133 + (1 : Int)))))) rfl ?_
      refine so_nil ?_
      exact fi_at [(0, (.v (.int .i64 (IntKind.i64.wrap (Int.tdiv (IntKind.i64.wrap (n132 + (1 : Int))) (2 : Int)))))), (1, (.v (.int .i64 a1))), (5, (.v v139)), (6, (.v (.int .i64 (IntKind.i64.wrap (k133 + (1 : Int))))))] ⟨rfl, rfl, rfl, rfl, trivial⟩ (h _ _ _ nv139 hs)
    · refine fi_false rfl (decide_eq_false c135) ?_
      refine fi_exit rfl ?_
      refine fi_seq ?_
      refine fi_region ?_
      refine so_move (v := (.v v131)) rfl ?_
      refine so_move (v := (.v (.int .i64 n132))) rfl ?_
      refine sv_bslice hs (eInt .i64) ([n132] : List (Int)) [[(.int .i64 n132)]] F125.te28 F125.sz2 F125.ze2 rfl rfl rfl rfl (fun _ => rfl) rfl (by decide) nofun (fun v142 H143 nv142 hs => ?_)
      obtain ⟨c147, h⟩ := h
      refine sv_app hs 1 rfl (hs.shows 0 rfl) (fun _ => rfl) (by decide) F125.ta28_28 (by decide) c147 rfl rfl nofun (fun v145 H146 kv145 hs => ?_)
      replace hs := hs.del 0
      have nv145 := kv145 nv131
      refine so_assign (v := (.v v145)) rfl ?_
      refine so_nil ?_
      exact by_ret rfl ⟨_, h, _, rfl, hs⟩
  · refine so_gno rfl (decide_eq_false c134) ?_
    refine so_gno rfl (decide_eq_false c134) ?_
    refine so_pick_f (v := (.v (.bool false))) rfl (decide_eq_false c134) rfl ?_
    refine so_nil ?_
    refine fi_false rfl rfl ?_
    refine fi_exit rfl ?_
    refine fi_seq ?_
    refine fi_region ?_
    refine so_move (v := (.v v131)) rfl ?_
    refine so_move (v := (.v (.int .i64 n132))) rfl ?_
    refine sv_bslice hs (eInt .i64) ([n132] : List (Int)) [[(.int .i64 n132)]] F125.te28 F125.sz2 F125.ze2 rfl rfl rfl rfl (fun _ => rfl) rfl (by decide) nofun (fun v148 H149 nv148 hs => ?_)
    obtain ⟨c153, h⟩ := h
    refine sv_app hs 1 rfl (hs.shows 0 rfl) (fun _ => rfl) (by decide) F125.ta28_28 (by decide) c153 rfl rfl nofun (fun v151 H152 kv151 hs => ?_)
    replace hs := hs.del 0
    have nv151 := kv151 nv131
    refine so_assign (v := (.v v151)) rfl ?_
    refine so_nil ?_
    exact by_ret rfl ⟨_, h, _, rfl, hs⟩
theorem F81.ag2 : tagg Try.prog 2 = some false := by kernel_rfl
theorem F81.sz24 : tsz Try.prog 24 = some 1 := by kernel_rfl
theorem F81.sz26 : tsz Try.prog 26 = some 1 := by kernel_rfl
theorem F81.ta24_24 : tapp Try.prog 24 24 = some (1, 4) := by kernel_rfl
theorem F81.ta72_72 : tapp Try.prog 72 72 = some (1, 24) := by kernel_rfl
theorem F81.te24 : telem Try.prog 24 = some 26 := by kernel_rfl
theorem F81.te72 : telem Try.prog 72 = some 24 := by kernel_rfl
theorem F81.ti24 : (telem Try.prog 24).isSome = true := by kernel_rfl
theorem F81.ti28 : (telem Try.prog 28).isSome = true := by kernel_rfl
theorem F81.tl24 : (telem Try.prog 24).bind (tsz Try.prog) = some 1 := by kernel_rfl
theorem F81.tl28 : (telem Try.prog 28).bind (tsz Try.prog) = some 1 := by kernel_rfl
theorem F81.ze24 : tzero Try.prog 24 = some [.nilsl] := by kernel_rfl
theorem F81.ze26 : tzero Try.prog 26 = some [(.flt .f32 (0 : Nat))] := by kernel_rfl
theorem spec_l02Cut_ok {fr : List Pc} {H : Heap} (v0 : AV) (l0 : List (Nat)) (a1 : Int) (hs : Sep H (fr)) (g0 : ∀ H, Sep H fr → Shows H v0 1 (enc (eFlt .f32) l0)) (K : (List (List (Nat))) → Prop) (h : spec_l02Cut.wp l0 a1 K) : OkQ Try.prog 81 [(.v v0), (.v (.int .i64 a1))] H (fun r H2 => ∃ (y0 : List (List (Nat))), K y0 ∧ ∃ (w0_ : AV) (wsw0_ : List (List AV)) (Sw0_ : Nat → Prop), r = (.v w0_) ∧ Sep H2 (dpc w0_ 1 R_LeFlt_f32_o IR_LeFlt_f32_o y0 wsw0_ Sw0_ :: fr)) := by
  unfold spec_l02Cut.wp at h
  refine of_body Try.f81 F.hm Try.func81 rfl Try.call81 (by kernel_rfl) (by simp) ?_
  refine fi_seq ?_
  refine fi_region ?_
  refine so_assign (v := (.v .nilsl)) rfl ?_
  refine so_nil ?_
  refine fi_seq ?_
  refine fi_region ?_
  refine so_move (v := (.v v0)) rfl ?_
  refine sv_len (g0 _ hs) (fun _ => rfl) (by decide) rfl F81.ti24 ?_
  refine so_move (v := (.v (.int .i64 a1))) rfl ?_
  refine sv_call (spec_l02BandSizes_ok (l0.length : Int) a1 hs  _ h) rfl rfl nofun ?_
  clear h hs
  rintro _ H104 ⟨y101, h, v102, rfl, hs⟩
  refine so_assign (v := (.v v102)) rfl ?_
  refine so_nil ?_
  refine fi_seq ?_
  refine fi_region ?_
  refine sk_empty hs R_LeFlt_f32_o IR_LeFlt_f32_o F81.te72 F81.sz24 F81.ze24 rfl nofun (fun v105 ws106 S107 H108 _ hs => ?_)
  refine so_assign (v := (.v v105)) rfl ?_
  refine so_nil ?_
  refine fi_seq ?_
  refine fi_seq ?_
  refine fi_region ?_
  refine so_assign (v := (.v (.int .i64 (0 : Int)))) rfl ?_
  refine so_nil ?_
  refine fi_block ?_
  refine fi_loop ?_
  refine fi_at [(0, (.v v0)), (5, (.v v102)), (6, (.v v105)), (7, (.v (.int .i64 (0 : Int))))] ⟨rfl, rfl, rfl, rfl, trivial⟩ ?_
  refine h (fun (out141 : List (List (Nat))) (k145 : Int) => ∀ (s : Nat → TV) (H : Heap) (v142 : AV) (ws143 : List (List AV)) (S144 : Nat → Prop), Sep H (dpc v142 1 R_LeFlt_f32_o IR_LeFlt_f32_o out141 ws143 S144 :: Pc.osl v102 1 (enc (eInt .i64) y101) :: fr) → Fin _ _ (updL s [(0, (.v v0)), (5, (.v v102)), (6, (.v v142)), (7, (.v (.int .i64 k145)))]) H _) ?_ _ _ _ _ _ hs
  intro out141 k145 h s170 H171 v142 ws143 S144 hs
  refine fi_inLoop ?_
  refine fi_seq ?_
  refine fi_seq ?_
  refine fi_region ?_
  refine so_move (v := (.v (.int .i64 k145))) rfl ?_
  refine so_move (v := (.v v102)) rfl ?_
  refine sv_len (hs.shows 1 rfl) (fun _ => rfl) (by decide) rfl F81.ti28 ?_
  refine so_bin rfl rfl ab_lss ?_
  refine so_nil ?_
  replace h := ofP h; rcases h with ⟨c146, h⟩ | ⟨c146, h⟩
  · refine fi_true rfl (decide_eq_true c146) ?_
    refine fi_skip ?_
    refine fi_seq ?_
    refine fi_block ?_
    refine fi_seq ?_
    refine fi_region ?_
    refine so_assign (v := (.v (.int .i64 (0 : Int)))) rfl ?_
    refine so_nil ?_
    refine fi_seq ?_
    refine fi_seq ?_
    refine fi_region ?_
    refine so_move (v := (.v (.int .i64 k145))) rfl ?_
    refine so_bin rfl rfl ab_add ?_
    refine so_assign (v := (.v (.int .i64 (IntKind.i64.wrap (k145 + (1 : Int)))))) rfl ?_
    refine so_nil ?_
    refine fi_block ?_
    refine fi_loop ?_
    refine fi_at [(0, (.v v0)), (5, (.v v102)), (6, (.v v142)), (7, (.v (.int .i64 k145))), (8, (.v (.int .i64 (0 : Int)))), (9, (.v (.int .i64 (IntKind.i64.wrap (k145 + (1 : Int))))))] ⟨rfl, rfl, rfl, rfl, rfl, rfl, trivial⟩ ?_
    refine h (fun (fromq148 : Int) (j149 : Int) => ∀ (s : Nat → TV) (H : Heap), Sep H (dpc v142 1 R_LeFlt_f32_o IR_LeFlt_f32_o out141 ws143 S144 :: Pc.osl v102 1 (enc (eInt .i64) y101) :: fr) → Fin _ _ (updL s [(0, (.v v0)), (5, (.v v102)), (6, (.v v142)), (7, (.v (.int .i64 k145))), (8, (.v (.int .i64 fromq148))), (9, (.v (.int .i64 j149)))]) H _) ?_ _ _ hs
    intro fromq148 j149 h s168 H169 hs
    refine fi_inLoop ?_
    refine fi_seq ?_
    refine fi_seq ?_
    refine fi_region ?_
    refine so_move (v := (.v (.int .i64 j149))) rfl ?_
    refine so_move (v := (.v v102)) rfl ?_
    refine sv_len (hs.shows 1 rfl) (fun _ => rfl) (by decide) rfl F81.ti28 ?_
    refine so_bin rfl rfl ab_lss ?_
    refine so_nil ?_
    replace h := ofP h; rcases h with ⟨c150, h⟩ | ⟨c150, h⟩
    · refine fi_true rfl (decide_eq_true c150) ?_
      refine fi_skip ?_
      refine fi_seq ?_
      refine fi_block ?_
      refine fi_region ?_
      refine so_move (v := (.v (.int .i64 fromq148))) rfl ?_
      refine so_move (v := (.v v102)) rfl ?_
      refine so_move (v := (.v (.int .i64 j149))) rfl ?_
      obtain ⟨c151, h⟩ := h
      refine sv_idx (hs.shows 1 rfl) c151 (fun _ => rfl) (by decide) rfl rfl F81.tl28 ?_
      refine sv_cell (hs.shows 1 rfl) c151 (0 : Int) 0 (fun x => (AV.int .i64 x)) (fun _ => rfl) (fun _ => rfl) rfl F81.ag2 ?_
      refine so_bin rfl rfl ab_add ?_
      refine so_assign (v := (.v (.int .i64 (IntKind.i64.wrap (fromq148 + (y101.getD (j149).toNat (0 : Int))))))) rfl ?_
      refine so_nil ?_
      refine fi_inBlock ?_
      refine fi_region ?_
      refine so_move (v := (.v (.int .i64 j149))) rfl ?_
      refine so_bin rfl rfl ab_add ?_
      refine so_assign (v := (.v (.int .i64 (IntKind.i64.wrap (j149 + (1 : Int)))))) rfl ?_
      refine so_nil ?_
      exact fi_at [(0, (.v v0)), (5, (.v v102)), (6, (.v v142)), (7, (.v (.int .i64 k145))), (8, (.v (.int .i64 (IntKind.i64.wrap (fromq148 + (y101.getD (j149).toNat (0 : Int))))))), (9, (.v (.int .i64 (IntKind.i64.wrap (j149 + (1 : Int))))))] ⟨rfl, rfl, rfl, rfl, rfl, rfl, trivial⟩ (h _ _  hs)
    · refine fi_false rfl (decide_eq_false c150) ?_
      refine fi_exit rfl ?_
      refine fi_region ?_
      refine so_move (v := (.v v142)) rfl ?_
      refine sv_bslice hs (eFlt .f32) ([] : List (Nat)) [] F81.te24 F81.sz26 F81.ze26 rfl rfl rfl rfl (fun _ => rfl) rfl (by decide) nofun (fun v152 H153 nv152 hs => ?_)
      refine so_move (v := (.v v0)) rfl ?_
      refine so_move (v := (.v (.int .i64 fromq148))) rfl ?_
      refine so_move (v := (.v (.int .i64 fromq148))) rfl ?_
      refine so_move (v := (.v v102)) rfl ?_
      refine so_move (v := (.v (.int .i64 k145))) rfl ?_
      obtain ⟨c155, h⟩ := h
      refine sv_idx (hs.shows 2 rfl) c155 (fun _ => rfl) (by decide) rfl rfl F81.tl28 ?_
      refine sv_cell (hs.shows 2 rfl) c155 (0 : Int) 0 (fun x => (AV.int .i64 x)) (fun _ => rfl) (fun _ => rfl) rfl F81.ag2 ?_
      refine so_bin rfl rfl ab_add ?_
      obtain ⟨c156, h⟩ := h
      refine sv_slice (g0 _ hs.tl.tl.tl) c156 (fun _ => rfl) (by decide) rfl rfl rfl rfl rfl F81.tl24 ?_
      obtain ⟨c159, h⟩ := h
      refine sv_app hs 0 rfl (Shows.cut (e := (eFlt .f32)) (n := 1) (fun _ => rfl) (g0 _ hs.tl.tl.tl) (by decide) (cutok c156)) (fun _ => rfl) (by decide) F81.ta24_24 (by decide) c159 rfl rfl nofun (fun v157 H158 kv157 hs => ?_)
      have nv157 := kv157 nv152
      refine sd_bslice hs [[v157]] F81.te72 F81.sz24 F81.ze24 rfl rfl rfl (by simp) (fac (stc (hs.shows 0 rfl).stor stn) fan) (by decide) rfl nofun (fun v160 H161 _ hs => ?_)
      obtain ⟨c163, h⟩ := h
      replace hs := Sep.front 1 hs rfl
      refine sk_app hs 1 rfl (([] : List (Nat)) ++ ((l0.drop (fromq148).toNat).take (((IntKind.i64.wrap (fromq148 + (y101.getD (k145).toNat (0 : Int))))).toNat - (fromq148).toNat))) [v157] (hs.tl.shows 0 rfl) (fun _ hh => ⟨rfl, hh⟩) rfl rfl (by decide) F81.ta72_72 (by decide) c163 rfl rfl nofun (fun v164 ws165 S166 H167 hs => ?_)
      replace hs := hs.del 0
      refine so_assign (v := (.v v164)) rfl ?_
      refine so_nil ?_
      refine fi_inBlock ?_
      refine fi_region ?_
      refine so_move (v := (.v (.int .i64 k145))) rfl ?_
      refine so_bin rfl rfl ab_add ?_
      refine so_assign (v := (.v (.int .i64 (IntKind.i64.wrap (k145 + (1 : Int)))))) rfl ?_
      refine so_nil ?_
      exact fi_at [(0, (.v v0)), (5, (.v v102)), (6, (.v v164)), (7, (.v (.int .i64 (IntKind.i64.wrap (k145 + (1 : Int))))))] ⟨rfl, rfl, rfl, rfl, trivial⟩ (h _ _ _ _ _ hs)
  · refine fi_false rfl (decide_eq_false c146) ?_
    refine fi_exit rfl ?_
    refine fi_seq ?_
    refine fi_region ?_
    refine so_move (v := (.v v142)) rfl ?_
    refine so_assign (v := (.v v142)) rfl ?_
    refine so_nil ?_
    exact by_ret rfl ⟨_, h, _, _, _, rfl, (Sep.del 1 hs)⟩
theorem F126.it129 : tint Try.prog 129 = some .u64 := by kernel_rfl
theorem F126.us2 : (Try.prog.underlying 2).isSome = true := by kernel_rfl
theorem spec_l06Digit_ok {fr : List Pc} {H : Heap} (a0 : Int) (a1 : Int) (hs : Sep H (fr))  (K : Bool → Prop) (h : spec_l06Digit.wp a0 a1 K) : OkQ Try.prog 126 [(.v (.int .i64 a0)), (.v (.int .i64 a1))] H (fun r H2 => ∃ (y0 : Bool), K y0 ∧ r = (.v (.bool y0)) ∧ H = H2) := by
  unfold spec_l06Digit.wp at h
  refine of_body Try.f126 F.hm Try.func126 rfl Try.call126 (by kernel_rfl) (by simp) ?_
  refine fi_seq ?_
  refine fi_region ?_
  refine so_assign (v := (.v (.bool false))) rfl ?_
  refine so_nil ?_
  refine fi_seq ?_
  refine fi_region ?_
  refine so_move (v := (.v (.int .i64 a0))) rfl ?_
  refine sv_callS (spec_l06Abs_ok a0 hs  _ h) (fun _ _ ⟨_, _, _, e⟩ => e) rfl rfl ?_
  clear h
  rintro _ _ ⟨y101, h, rfl, rfl⟩
  refine so_move (v := (.v (.int .i64 a1))) rfl ?_
  refine sv_ii rfl F126.us2 F126.it129 ?_
  obtain ⟨c103, h⟩ := h
  refine so_bin rfl rfl (ab_shr c103) ?_
  refine so_bin rfl rfl ab_and ?_
  refine so_bin rfl rfl ab_eql ?_
  refine so_assign (v := (.v (.bool (decide ((ibits .and .i64 (Int.fdiv y101 (2 ^ (min ((IntKind.u64.wrap a1)).toNat IntKind.i64.bits))) (1 : Int)) = (1 : Int)))))) rfl ?_
  refine so_nil ?_
  exact by_ret rfl ⟨_, h, rfl, rfl⟩
theorem F82.ag101 : tagg Try.prog 101 = some true := by kernel_rfl
theorem F82.ag2 : tagg Try.prog 2 = some false := by kernel_rfl
theorem F82.ag49 : tagg Try.prog 49 = some false := by kernel_rfl
theorem F82.bp101 : bplan Try.prog 101 = some ([(.int .i64 (0 : Int)), (.int .i64 (0 : Int)), .nilsl], [(0, 1), (1, 1), (2, 1)]) := by kernel_rfl
theorem F82.fd101_1 : tfield Try.prog 101 1 = some (1, 1, false) := by kernel_rfl
theorem F82.fd101_2 : tfield Try.prog 101 2 = some (2, 1, false) := by kernel_rfl
theorem F82.it129 : tint Try.prog 129 = some .u64 := by kernel_rfl
theorem F82.sz101 : tsz Try.prog 101 = some 3 := by kernel_rfl
theorem F82.sz4 : tsz Try.prog 4 = some 1 := by kernel_rfl
theorem F82.sz49 : tsz Try.prog 49 = some 1 := by kernel_rfl
theorem F82.ta49_49 : tapp Try.prog 49 49 = some (1, 1) := by kernel_rfl
theorem F82.te49 : telem Try.prog 49 = some 4 := by kernel_rfl
theorem F82.ti28 : (telem Try.prog 28).isSome = true := by kernel_rfl
theorem F82.tl28 : (telem Try.prog 28).bind (tsz Try.prog) = some 1 := by kernel_rfl
theorem F82.us2 : (Try.prog.underlying 2).isSome = true := by kernel_rfl
theorem F82.ze101 : tzero Try.prog 101 = some [(.int .i64 (0 : Int)), (.int .i64 (0 : Int)), .nilsl] := by kernel_rfl
theorem F82.ze4 : tzero Try.prog 4 = some [(.bool false)] := by kernel_rfl
theorem spec_l06Code_ok {fr : List Pc} {H : Heap} (v0 : AV) (l0 : List (Int)) (a1 : Int) (hs : Sep H (fr)) (g0 : ∀ H, Sep H fr → Shows H v0 1 (enc (eInt .i64) l0)) (K : Int → Int → (List (Bool)) → Prop) (h : spec_l06Code.wp l0 a1 K) : OkQ Try.prog 82 [(.v v0), (.v (.int .i64 a1))] H (fun r H2 => ∃ (y0 : Int) (y1 : Int) (y2 : List (Bool)), K y0 y1 y2 ∧ ∃ (w0_ : AV), r = (.g [(.int .i64 y0), (.int .i64 y1), w0_]) ∧ Sep H2 (Pc.osl w0_ 1 (enc eBool y2) :: fr)) := by
  unfold spec_l06Code.wp at h
  refine of_body Try.f82 F.hm Try.func82 rfl Try.call82 (by kernel_rfl) (by simp) ?_
  refine fi_seq ?_
  refine fi_region ?_
  refine sv_alloc hs F82.ze101 rfl nofun (fun id101 H102 hs => ?_)
  refine so_nil ?_
  refine fi_seq ?_
  refine fi_region ?_
  refine so_move (v := (.v v0)) rfl ?_
  refine sv_len (g0 _ hs.tl) (fun _ => rfl) (by decide) rfl F82.ti28 ?_
  refine so_move (v := (.v v0)) rfl ?_
  refine sv_callS (spec_l06Planes_ok v0 l0 hs (fun _ hs => (g0 _ hs.tl)) _ h) (fun _ _ ⟨_, _, _, e⟩ => e) rfl rfl ?_
  clear h
  rintro _ _ ⟨y104, h, rfl, rfl⟩
  refine sv_bslice hs eBool ([] : List (Bool)) [] F82.te49 F82.sz4 F82.ze4 rfl rfl rfl rfl (fun _ => rfl) rfl (by decide) nofun (fun v106 H107 nv106 hs => ?_)
  refine so_build F82.bp101 (cps := [(0, [(.int .i64 (l0.length : Int))]), (1, [(.int .i64 y104)]), (2, [v106])]) rfl (fac (stc rfl stn) (fac (stc rfl stn) (fac (stc (hs.shows 0 rfl).stor stn) fan))) rfl ?_
  refine sv_alloc hs F82.ze101 rfl nofun (fun id109 H110 hs => ?_)
  refine sv_st hs 0 rfl rfl rfl (c := [(.int .i64 (l0.length : Int)), (.int .i64 y104), v106]) rfl F82.sz101 rfl (stc rfl (stc rfl (stc (hs.shows 1 rfl).stor stn))) (leb rfl) (cs' := [(.int .i64 (l0.length : Int)), (.int .i64 y104), v106]) rfl nofun (fun H112 hs => ?_)
  refine so_nil ?_
  refine fi_seq ?_
  refine fi_seq ?_
  refine fi_region ?_
  refine so_fieldAddr rfl F82.fd101_1 ?_
  refine sv_ld hs 0 rfl rfl rfl F82.ag2 ?_
  refine so_bin rfl rfl ab_sub ?_
  refine so_assign (v := (.v (.int .i64 (IntKind.i64.wrap (y104 - (1 : Int)))))) rfl ?_
  refine so_nil ?_
  refine fi_block ?_
  refine fi_loop ?_
  refine fi_at [(0, (.v v0)), (1, (.v (.int .i64 a1))), (4, (.v (.ptr id101 0))), (5, (.v (.ptr id109 0))), (6, (.v (.int .i64 (IntKind.i64.wrap (y104 - (1 : Int))))))] ⟨rfl, rfl, rfl, rfl, rfl, trivial⟩ ?_
  refine h (fun (l174 : List (Bool)) (b176 : Int) (b177 : Int) (k178 : Int) => ∀ (s : Nat → TV) (H : Heap) (v175 : AV) (nv175 : v175 ≠ .nilsl), Sep H (Pc.box id109 [(.int .i64 b176), (.int .i64 b177), v175] :: Pc.osl v175 1 (enc eBool l174) :: Pc.box id101 [(.int .i64 (0 : Int)), (.int .i64 (0 : Int)), .nilsl] :: fr) → Fin _ _ (updL s [(0, (.v v0)), (1, (.v (.int .i64 a1))), (4, (.v (.ptr id101 0))), (5, (.v (.ptr id109 0))), (6, (.v (.int .i64 k178)))]) H _) ?_ _ _ _ nv106 hs
  intro l174 b176 b177 k178 h s239 H240 v175 nv175 hs
  refine fi_inLoop ?_
  refine fi_seq ?_
  refine fi_seq ?_
  refine fi_region ?_
  refine so_move (v := (.v (.int .i64 k178))) rfl ?_
  refine so_move (v := (.v (.int .i64 a1))) rfl ?_
  refine so_bin rfl rfl ab_geq ?_
  refine so_nil ?_
  replace h := ofP h; rcases h with ⟨c179, h⟩ | ⟨c179, h⟩
  · refine fi_true rfl (decide_eq_true c179) ?_
    refine fi_skip ?_
    refine fi_seq ?_
    refine fi_block ?_
    refine fi_seq ?_
    refine fi_region ?_
    refine so_assign (v := (.v (.int .i64 (0 : Int)))) rfl ?_
    refine so_nil ?_
    refine fi_block ?_
    refine fi_loop ?_
    refine fi_at [(0, (.v v0)), (1, (.v (.int .i64 a1))), (4, (.v (.ptr id101 0))), (5, (.v (.ptr id109 0))), (6, (.v (.int .i64 k178))), (7, (.v (.int .i64 (0 : Int))))] ⟨rfl, rfl, rfl, rfl, rfl, rfl, trivial⟩ ?_
    refine h (fun (l208 : List (Bool)) (b210 : Int) (b211 : Int) (i212 : Int) => ∀ (s : Nat → TV) (H : Heap) (v209 : AV) (nv209 : v209 ≠ .nilsl), Sep H (Pc.box id109 [(.int .i64 b210), (.int .i64 b211), v209] :: Pc.osl v209 1 (enc eBool l208) :: Pc.box id101 [(.int .i64 (0 : Int)), (.int .i64 (0 : Int)), .nilsl] :: fr) → Fin _ _ (updL s [(0, (.v v0)), (1, (.v (.int .i64 a1))), (4, (.v (.ptr id101 0))), (5, (.v (.ptr id109 0))), (6, (.v (.int .i64 k178))), (7, (.v (.int .i64 i212)))]) H _) ?_ _ _ _ nv175 hs
    intro l208 b210 b211 i212 h s236 H237 v209 nv209 hs
    refine fi_inLoop ?_
    refine fi_seq ?_
    refine fi_seq ?_
    refine fi_region ?_
    refine so_move (v := (.v (.int .i64 i212))) rfl ?_
    refine so_move (v := (.v v0)) rfl ?_
    refine sv_len (g0 _ hs.tl.tl.tl) (fun _ => rfl) (by decide) rfl F82.ti28 ?_
    refine so_bin rfl rfl ab_lss ?_
    refine so_nil ?_
    replace h := ofP h; rcases h with ⟨c213, h⟩ | ⟨c213, h⟩
    · refine fi_true rfl (decide_eq_true c213) ?_
      refine fi_skip ?_
      refine fi_seq ?_
      refine fi_block ?_
      refine fi_seq ?_
      refine fi_region ?_
      refine so_move (v := (.v v0)) rfl ?_
      refine so_move (v := (.v (.int .i64 i212))) rfl ?_
      obtain ⟨c214, h⟩ := h
      refine sv_idx (g0 _ hs.tl.tl.tl) c214 (fun _ => rfl) (by decide) rfl rfl F82.tl28 ?_
      refine sv_cell (g0 _ hs.tl.tl.tl) c214 (0 : Int) 0 (fun x => (AV.int .i64 x)) (fun _ => rfl) (fun _ => rfl) rfl F82.ag2 ?_
      refine so_move (v := (.v (.int .i64 k178))) rfl ?_
      refine sv_callS (spec_l06Digit_ok (l0.getD (i212).toNat (0 : Int)) k178 hs  _ h) (fun _ _ ⟨_, _, _, e⟩ => e) rfl rfl ?_
      clear h
      rintro _ _ ⟨y215, h, rfl, rfl⟩
      refine so_assign (v := (.v (.bool y215))) rfl ?_
      refine so_nil ?_
      refine fi_seq ?_
      refine fi_region ?_
      refine so_fieldAddr rfl F82.fd101_2 ?_
      refine sv_ld hs 0 rfl rfl rfl F82.ag49 ?_
      refine so_move (v := (.v (.bool y215))) rfl ?_
      refine sv_bslice hs eBool ([y215] : List (Bool)) [[(.bool y215)]] F82.te49 F82.sz4 F82.ze4 rfl rfl rfl rfl (fun _ => rfl) rfl (by decide) nofun (fun v217 H218 nv217 hs => ?_)
      obtain ⟨c222, h⟩ := h
      refine sv_app hs 2 rfl (hs.shows 0 rfl) (fun _ => rfl) (by decide) F82.ta49_49 (by decide) c222 rfl rfl nofun (fun v220 H221 kv220 hs => ?_)
      replace hs := hs.del 0
      have nv220 := kv220 nv209
      refine so_fieldAddr rfl F82.fd101_2 ?_
      refine sv_st hs 0 rfl rfl rfl (c := [v220]) rfl F82.sz49 rfl (stc (hs.shows 1 rfl).stor stn) (leb rfl) (cs' := [(.int .i64 b210), (.int .i64 b211), v220]) rfl nofun (fun H223 hs => ?_)
      refine so_nil ?_
      refine fi_seq ?_
      refine fi_region ?_
      refine so_move (v := (.v (.bool y215))) rfl ?_
      refine so_move (v := (.v (.bool y215))) rfl ?_
      replace h := ofT h; rcases h with ⟨c224, h⟩ | ⟨c224, h⟩
      · refine so_gyes rfl c224 ?_
        refine so_move (v := (.v v0)) rfl ?_
        refine so_gyes rfl c224 ?_
        refine so_move (v := (.v (.int .i64 i212))) rfl ?_
        refine so_gyes rfl c224 ?_
        refine sv_idx (g0 _ hs.tl.tl.tl) c214 (fun _ => rfl) (by decide) rfl rfl F82.tl28 ?_
        refine so_gyes rfl c224 ?_
        refine sv_cell (g0 _ hs.tl.tl.tl) c214 (0 : Int) 0 (fun x => (AV.int .i64 x)) (fun _ => rfl) (fun _ => rfl) rfl F82.ag2 ?_
        refine so_gyes rfl c224 ?_
        refine sv_callS (spec_l06Abs_ok (l0.getD (i212).toNat (0 : Int)) hs  _ h) (fun _ _ ⟨_, _, _, e⟩ => e) rfl rfl ?_
        clear h
        rintro _ _ ⟨y225, h, rfl, rfl⟩
        refine so_gyes rfl c224 ?_
        refine so_move (v := (.v (.int .i64 k178))) rfl ?_
        refine so_gyes rfl c224 ?_
        refine so_bin rfl rfl ab_add ?_
        refine so_gyes rfl c224 ?_
        refine sv_ii rfl F82.us2 F82.it129 ?_
        refine so_gyes rfl c224 ?_
        obtain ⟨c227, h⟩ := h
        refine so_bin rfl rfl (ab_shr c227) ?_
        refine so_gyes rfl c224 ?_
        refine so_bin rfl rfl ab_eql ?_
        refine so_pick_t (v := (.v (.bool (decide ((Int.fdiv y225 (2 ^ (min ((IntKind.u64.wrap (IntKind.i64.wrap (k178 + (1 : Int))))).toNat IntKind.i64.bits))) = (0 : Int)))))) rfl c224 rfl ?_
        refine so_nil ?_
        replace h := ofP h; rcases h with ⟨c228, h⟩ | ⟨c228, h⟩
        · refine fi_true rfl (decide_eq_true c228) ?_
          refine fi_free [1] ?_
          refine wf_pure rfl (by kernel_rfl) ?_
          refine so_fieldAddr rfl F82.fd101_2 ?_
          refine so_end ?_
          refine wf_free (.v v220) rfl (by kernel_rfl) (stepr (i := 0) rfl (by refine sv_ld hs 0 rfl rfl rfl F82.ag49 ?_; exact so_end ⟨rfl, rfl⟩)) fan ?_
          refine wf_pure rfl (by kernel_rfl) ?_
          refine so_move (v := (.v v0)) rfl ?_
          refine so_end ?_
          refine wf_pure rfl (by kernel_rfl) ?_
          refine so_move (v := (.v (.int .i64 i212))) rfl ?_
          refine so_end ?_
          refine wf_same (by decide +kernel) (by kernel_rfl) ?_
          refine sv_idx (g0 _ hs.tl.tl.tl) c214 (fun _ => rfl) (by decide) rfl rfl F82.tl28 ?_
          refine so_end ⟨rfl, ?_⟩
          refine wf_same (by decide +kernel) (by kernel_rfl) ?_
          refine sv_cell (g0 _ hs.tl.tl.tl) c214 (0 : Int) 0 (fun x => (AV.int .i64 x)) (fun _ => rfl) (fun _ => rfl) rfl F82.ag2 ?_
          refine so_end ⟨rfl, ?_⟩
          refine wf_pure rfl (by kernel_rfl) ?_
          refine so_bin rfl rfl ab_lss ?_
          refine so_end ?_
          have hs0_ := hs
          refine wf_chg (by kernel_rfl) ?_
          refine sv_bslice hs eBool ([(decide ((l0.getD (i212).toNat (0 : Int)) < (0 : Int)))] : List (Bool)) [[(.bool (decide ((l0.getD (i212).toNat (0 : Int)) < (0 : Int))))]] F82.te49 F82.sz4 F82.ze4 rfl rfl rfl rfl (fun _ => rfl) rfl (by decide) nofun (fun v229 H230 nv229 hs => ?_)
          refine so_end ⟨(fac (.inr (stepr (i := 0) rfl (by refine sv_ld hs 1 rfl rfl rfl F82.ag49 ?_; exact so_end ⟨rfl, rfl⟩))) fan), ?_⟩
          have hs1_ := hs
          refine wf_chg (by kernel_rfl) ?_
          obtain ⟨c234, h⟩ := h
          refine sv_app hs 2 rfl (hs.shows 0 rfl) (fun _ => rfl) (by decide) F82.ta49_49 (by decide) c234 rfl rfl nofun (fun v232 H233 kv232 hs => ?_)
          replace hs := hs.del 0
          have nv232 := kv232 nv220
          refine so_end ⟨(fac (.inl ⟨8, by kernel_rfl⟩) fan), ?_⟩
          refine wf_pure rfl (by kernel_rfl) ?_
          refine so_fieldAddr rfl F82.fd101_2 ?_
          refine so_end ?_
          have hs2_ := hs
          refine wf_chg (by kernel_rfl) ?_
          refine sv_st hs 0 rfl rfl rfl (c := [v232]) rfl F82.sz49 rfl (stc (hs.shows 1 rfl).stor stn) (leb rfl) (cs' := [(.int .i64 b210), (.int .i64 b211), v232]) rfl nofun (fun H235 hs => ?_)
          refine so_end ⟨(fac (.inl ⟨8, by kernel_rfl⟩) fan), ?_⟩
          refine wf_nil ?_
          refine fi_inBlock ?_
          refine fi_region ?_
          refine so_move (v := (.v (.int .i64 i212))) rfl ?_
          refine so_bin rfl rfl ab_add ?_
          refine so_assign (v := (.v (.int .i64 (IntKind.i64.wrap (i212 + (1 : Int)))))) rfl ?_
          refine so_nil ?_
          exact fi_at [(0, (.v v0)), (1, (.v (.int .i64 a1))), (4, (.v (.ptr id101 0))), (5, (.v (.ptr id109 0))), (6, (.v (.int .i64 k178))), (7, (.v (.int .i64 (IntKind.i64.wrap (i212 + (1 : Int))))))] ⟨rfl, rfl, rfl, rfl, rfl, rfl, trivial⟩ (h _ _ _ nv232 hs)
        · refine fi_false rfl (decide_eq_false c228) ?_
          refine fi_skip ?_
          refine fi_inBlock ?_
          refine fi_region ?_
          refine so_move (v := (.v (.int .i64 i212))) rfl ?_
          refine so_bin rfl rfl ab_add ?_
          refine so_assign (v := (.v (.int .i64 (IntKind.i64.wrap (i212 + (1 : Int)))))) rfl ?_
          refine so_nil ?_
          exact fi_at [(0, (.v v0)), (1, (.v (.int .i64 a1))), (4, (.v (.ptr id101 0))), (5, (.v (.ptr id109 0))), (6, (.v (.int .i64 k178))), (7, (.v (.int .i64 (IntKind.i64.wrap (i212 + (1 : Int))))))] ⟨rfl, rfl, rfl, rfl, rfl, rfl, trivial⟩ (h _ _ _ nv220 hs)
      · refine so_gno rfl c224 ?_
        refine so_gno rfl c224 ?_
        refine so_gno rfl c224 ?_
        refine so_gno rfl c224 ?_
        refine so_gno rfl c224 ?_
        refine so_gno rfl c224 ?_
        refine so_gno rfl c224 ?_
        refine so_gno rfl c224 ?_
        refine so_gno rfl c224 ?_
        refine so_gno rfl c224 ?_
        refine so_pick_f (v := (.v (.bool false))) rfl c224 rfl ?_
        refine so_nil ?_
        refine fi_false rfl rfl ?_
        refine fi_skip ?_
        refine fi_inBlock ?_
        refine fi_region ?_
        refine so_move (v := (.v (.int .i64 i212))) rfl ?_
        refine so_bin rfl rfl ab_add ?_
        refine so_assign (v := (.v (.int .i64 (IntKind.i64.wrap (i212 + (1 : Int)))))) rfl ?_
        refine so_nil ?_
        exact fi_at [(0, (.v v0)), (1, (.v (.int .i64 a1))), (4, (.v (.ptr id101 0))), (5, (.v (.ptr id109 0))), (6, (.v (.int .i64 k178))), (7, (.v (.int .i64 (IntKind.i64.wrap (i212 + (1 : Int))))))] ⟨rfl, rfl, rfl, rfl, rfl, rfl, trivial⟩ (h _ _ _ nv220 hs)
    · refine fi_false rfl (decide_eq_false c213) ?_
      refine fi_exit rfl ?_
      refine fi_inBlock ?_
      refine fi_region ?_
      refine so_move (v := (.v (.int .i64 k178))) rfl ?_
      refine so_bin rfl rfl ab_sub ?_
      refine so_assign (v := (.v (.int .i64 (IntKind.i64.wrap (k178 - (1 : Int)))))) rfl ?_
      refine so_nil ?_
      exact fi_at [(0, (.v v0)), (1, (.v (.int .i64 a1))), (4, (.v (.ptr id101 0))), (5, (.v (.ptr id109 0))), (6, (.v (.int .i64 (IntKind.i64.wrap (k178 - (1 : Int))))))] ⟨rfl, rfl, rfl, rfl, rfl, trivial⟩ (h _ _ _ nv209 hs)
  · refine fi_false rfl (decide_eq_false c179) ?_
    refine fi_exit rfl ?_
    refine fi_seq ?_
    refine fi_region ?_
    refine sv_lds hs 0 rfl rfl (leb rfl) rfl F82.ag101 F82.sz101 ?_
    refine sv_st hs 2 rfl rfl rfl (c := [(.int .i64 b176), (.int .i64 b177), v175]) rfl F82.sz101 rfl (stc rfl (stc rfl (stc (hs.shows 1 rfl).stor stn))) (leb rfl) (cs' := [(.int .i64 b176), (.int .i64 b177), v175]) rfl nofun (fun H238 hs => ?_)
    refine so_nil ?_
    exact by_ret (res_mk (ar_cells rfl F82.ag101 F82.sz101 (hs.lds 2 rfl (leb rfl) rfl) ar_nil) rfl) ⟨_, _, _, h, _, rfl, (Sep.del 1 (Sep.del 0 hs))⟩
theorem F127.fl26 : tflt Try.prog 26 = some .f32 := by kernel_rfl
theorem F127.in26 : tint Try.prog 26 = none := by kernel_rfl
theorem F127.us33 : (Try.prog.underlying 33).isSome = true := by kernel_rfl
theorem spec_l01Narrow_ok {fr : List Pc} {H : Heap} (a0 : Nat) (hs : Sep H (fr))  (K : Nat → Prop) (h : spec_l01Narrow.wp a0 K) : OkQ Try.prog 127 [(.v (.flt .f64 a0))] H (fun r H2 => ∃ (y0 : Nat), K y0 ∧ r = (.v (.flt .f32 y0)) ∧ H = H2) := by
  unfold spec_l01Narrow.wp at h
  refine of_body Try.f127 F.hm Try.func127 rfl Try.call127 (by kernel_rfl) (by simp) ?_
  refine fi_seq ?_
  refine fi_region ?_
  refine so_assign (v := (.v (.flt .f32 (cz .f32 0)))) rfl ?_
  refine so_nil ?_
  refine fi_seq ?_
  refine fi_region ?_
  refine so_move (v := (.v (.flt .f64 a0))) rfl ?_
  obtain ⟨c101, h⟩ := h
  refine sv_ffn c101 rfl F127.us33 F127.in26 F127.fl26 ?_
  refine so_assign (v := (.v (.flt .f32 (narrow a0)))) rfl ?_
  refine so_nil ?_
  exact by_ret rfl ⟨_, h, rfl, rfl⟩
theorem F83.fl33 : tflt Try.prog 33 = some .f64 := by kernel_rfl
theorem F83.in33 : tint Try.prog 33 = none := by kernel_rfl
theorem F83.us26 : (Try.prog.underlying 26).isSome = true := by kernel_rfl
theorem spec_l01Sqrt_ok {fr : List Pc} {H : Heap} (a0 : Nat) (hs : Sep H (fr))  (K : Nat → Prop) (h : spec_l01Sqrt.wp a0 K) : OkQ Try.prog 83 [(.v (.flt .f32 a0))] H (fun r H2 => ∃ (y0 : Nat), K y0 ∧ r = (.v (.flt .f32 y0)) ∧ H = H2) := by
  unfold spec_l01Sqrt.wp at h
  refine of_body Try.f83 F.hm Try.func83 rfl Try.call83 (by kernel_rfl) (by simp) ?_
  refine fi_seq ?_
  refine fi_region ?_
  refine so_assign (v := (.v (.flt .f32 (cz .f32 0)))) rfl ?_
  refine so_nil ?_
  refine fi_seq ?_
  refine fi_region ?_
  refine so_move (v := (.v (.flt .f32 a0))) rfl ?_
  refine sv_ffw rfl F83.us26 F83.in33 F83.fl33 ?_
  refine sv_callS (math_Sqrt_ok (widen a0) hs  _ h) (fun _ _ ⟨_, _, _, e⟩ => e) rfl rfl ?_
  clear h
  rintro _ _ ⟨y101, h, rfl, rfl⟩
  refine sv_callS (spec_l01Narrow_ok y101 hs  _ h) (fun _ _ ⟨_, _, _, e⟩ => e) rfl rfl ?_
  clear h
  rintro _ _ ⟨y103, h, rfl, rfl⟩
  refine so_assign (v := (.v (.flt .f32 y103))) rfl ?_
  refine so_nil ?_
  exact by_ret rfl ⟨_, h, rfl, rfl⟩
end Go.Proofs.Ytfhlhgnipmgfdaa.G
