/-
  The model ends so. Printed by a program of the session; nothing here is trusted.
-/
import Derived.Test.YtfhlhgnipmgfdaaProg
import Derived.KernelRfl
import Derived.Test.YtfhlhgnipmgfdaaMRatesWa
import Derived.Test.YtfhlhgnipmgfdaaMRatesKa
namespace Go.Proofs.Ytfhlhgnipmgfdaa.G
open Go Go.Ab Go.Proofs Go.Proofs.Ytfhlhgnipmgfdaa
set_option maxRecDepth 100000
set_option linter.unusedVariables false
set_option linter.unusedSimpArgs false
set_option maxHeartbeats 1000000
attribute [local irreducible] wops wopf Go.Ab.Fin
theorem impl_finite_ok {fr : List Pc} {H : Heap} (a0 : Nat) (hs : Sep H (fr))  (K : Nat → Bool → Prop) (h : impl_finite.wp a0 K) : OkQ Try.prog 99 [(.v (.flt .f32 a0))] H (fun r H2 => ∃ (y0 : Nat) (y1 : Bool), K y0 y1 ∧ r = (.t [(.v (.flt .f32 y0)), (.v (.bool y1))]) ∧ H = H2) := by
  unfold impl_finite.wp at h
  refine of_body Try.f99 F.hm Try.func99 rfl Try.call99 (by kernel_rfl) (by simp) ?_
  refine fi_seq ?_
  refine fi_region ?_
  refine so_assign (v := (.v (.flt .f32 (cz .f32 0)))) rfl ?_
  refine so_assign (v := (.v (.bool false))) rfl ?_
  refine so_nil ?_
  refine fi_seq ?_
  refine fi_seq ?_
  refine fi_region ?_
  refine so_move (v := (.v (.flt .f32 a0))) rfl ?_
  refine sv_callS (impl_IsFinite_ok a0 hs  _ h) (fun _ _ ⟨_, _, _, e⟩ => e) rfl rfl ?_
  clear h
  rintro _ _ ⟨y101, h, rfl, rfl⟩
  refine so_un rfl au_not ?_
  refine so_nil ?_
  replace h := ofT h; rcases h with ⟨c103, h⟩ | ⟨c103, h⟩
  · refine fi_false rfl (not_f c103) ?_
    refine fi_skip ?_
    refine fi_seq ?_
    refine fi_region ?_
    refine so_move (v := (.v (.flt .f32 a0))) rfl ?_
    refine so_assign (v := (.v (.flt .f32 a0))) rfl ?_
    refine so_assign (v := (.v (.bool true))) rfl ?_
    refine so_nil ?_
    exact by_ret rfl ⟨_, _, h, rfl, rfl⟩
  · refine fi_true rfl (not_t c103) ?_
    refine fi_seq ?_
    refine fi_region ?_
    refine so_assign (v := (.v (.flt .f32 (cz .f32 0)))) rfl ?_
    refine so_assign (v := (.v (.bool false))) rfl ?_
    refine so_nil ?_
    exact by_ret rfl ⟨_, _, h, rfl, rfl⟩
theorem F50.ag2 : tagg Try.prog 2 = some false := by kernel_rfl
theorem F50.ag26 : tagg Try.prog 26 = some false := by kernel_rfl
theorem F50.ag38 : tagg Try.prog 38 = some true := by kernel_rfl
theorem F50.fl26 : tflt Try.prog 26 = some .f32 := by kernel_rfl
theorem F50.in26 : tint Try.prog 26 = none := by kernel_rfl
theorem F50.inf38 : (Try.prog.info? 38).isSome = true := by kernel_rfl
theorem F50.sz2 : tsz Try.prog 2 = some 1 := by kernel_rfl
theorem F50.sz38 : tsz Try.prog 38 = some 2 := by kernel_rfl
theorem F50.ta28_28 : tapp Try.prog 28 28 = some (1, 8) := by kernel_rfl
theorem F50.te28 : telem Try.prog 28 = some 2 := by kernel_rfl
theorem F50.ti24 : (telem Try.prog 24).isSome = true := by kernel_rfl
theorem F50.ti28 : (telem Try.prog 28).isSome = true := by kernel_rfl
theorem F50.tl24 : (telem Try.prog 24).bind (tsz Try.prog) = some 1 := by kernel_rfl
theorem F50.tl28 : (telem Try.prog 28).bind (tsz Try.prog) = some 1 := by kernel_rfl
theorem F50.us3 : (Try.prog.underlying 3).isSome = true := by kernel_rfl
theorem F50.ze2 : tzero Try.prog 2 = some [(.int .i64 (0 : Int))] := by kernel_rfl
theorem impl_missAbove_ok {fr : List Pc} {H : Heap} (v0 : AV) (l0 : List (Nat)) (a1 : Nat) (v2 : AV) (l2 : List (Nat)) (v3 : AV) (l3 : List (Int)) (a4 : Int) (a5 : Int) (a6 : Nat) (hs : Sep H (fr)) (g0 : ∀ H, Sep H fr → Shows H v0 1 (enc (eFlt .f32) l0)) (g2 : ∀ H, Sep H fr → Shows H v2 1 (enc (eFlt .f32) l2)) (g3 : ∀ H, Sep H fr → Shows H v3 1 (enc (eInt .i64) l3)) (K : Nat → Bool → Prop) (h : impl_missAbove.wp l0 a1 l2 l3 a4 a5 a6 K) : OkQ Try.prog 50 [(.g [v0, (.flt .f32 a1)]), (.v v2), (.v v3), (.v (.int .i64 a4)), (.v (.int .i64 a5)), (.v (.flt .f32 a6))] H (fun r H2 => ∃ (y0 : Nat) (y1 : Bool), K y0 y1 ∧ r = (.t [(.v (.flt .f32 y0)), (.v (.bool y1))]) ∧ Sep H2 (fr)) := by
  unfold impl_missAbove.wp at h
  refine of_body Try.f50 F.hm Try.func50 rfl Try.call50 (by kernel_rfl) (by simp) ?_
  refine fi_seq ?_
  refine fi_region ?_
  refine sv_box hs rfl (c := [v0, (.flt .f32 a1)]) rfl F50.inf38 (stc (g0 _ hs).stor (stc rfl stn)) nofun (fun id101 H102 hs => ?_)
  refine so_assign (v := (.v (.flt .f32 (cz .f32 0)))) rfl ?_
  refine so_assign (v := (.v (.bool false))) rfl ?_
  refine so_nil ?_
  refine fi_seq ?_
  refine fi_region ?_
  refine sv_bslice hs (eInt .i64) ([] : List (Int)) [] F50.te28 F50.sz2 F50.ze2 rfl rfl rfl rfl (fun _ => rfl) rfl (by decide) nofun (fun v104 H105 nv104 hs => ?_)
  refine so_assign (v := (.v v104)) rfl ?_
  refine so_nil ?_
  refine fi_seq ?_
  refine fi_seq ?_
  refine fi_region ?_
  refine so_move (v := (.v v3)) rfl ?_
  refine sv_len (g3 _ hs.tl.tl) (fun _ => rfl) (by decide) rfl F50.ti28 ?_
  refine so_move (v := (.v (.int .i64 (0 : Int)))) rfl ?_
  refine so_nil ?_
  refine fi_block ?_
  refine fi_loop ?_
  refine fi_at [(1, (.v v2)), (3, (.v (.int .i64 a4))), (4, (.v (.int .i64 a5))), (5, (.v (.flt .f32 a6))), (6, (.v (.ptr id101 0))), (14, (.v v104)), (26, (.v v3)), (27, (.v (.int .i64 (l3.length : Int)))), (28, (.v (.int .i64 (0 : Int))))] ⟨rfl, rfl, rfl, rfl, rfl, rfl, rfl, rfl, rfl, trivial⟩ ?_
  refine h (fun (cut155 : List (Int)) (x157 : Int) => ∀ (s : Nat → TV) (H : Heap) (v156 : AV) (nv156 : v156 ≠ .nilsl), Sep H (Pc.osl v156 1 (enc (eInt .i64) cut155) :: Pc.box id101 [v0, (.flt .f32 a1)] :: fr) → Fin _ _ (updL s [(1, (.v v2)), (3, (.v (.int .i64 a4))), (4, (.v (.int .i64 a5))), (5, (.v (.flt .f32 a6))), (6, (.v (.ptr id101 0))), (14, (.v v156)), (26, (.v v3)), (27, (.v (.int .i64 (l3.length : Int)))), (28, (.v (.int .i64 x157)))]) H _) ?_ _ _ _ nv104 hs
  intro cut155 x157 h s201 H202 v156 nv156 hs
  refine fi_inLoop ?_
  refine fi_seq ?_
  refine fi_region ?_
  refine so_bin rfl rfl ab_lss ?_
  refine so_nil ?_
  refine fi_seq ?_
  replace h := ofP h; rcases h with ⟨c158, h⟩ | ⟨c158, h⟩
  · refine fi_true rfl (decide_eq_true c158) ?_
    refine fi_skip ?_
    refine fi_seq ?_
    refine fi_block ?_
    refine fi_seq ?_
    refine fi_region ?_
    obtain ⟨c159, h⟩ := h
    refine sv_idx (g3 _ hs.tl.tl) c159 (fun _ => rfl) (by decide) rfl rfl F50.tl28 ?_
    refine sv_cell (g3 _ hs.tl.tl) c159 (0 : Int) 0 (fun x => (AV.int .i64 x)) (fun _ => rfl) (fun _ => rfl) rfl F50.ag2 ?_
    refine so_assign (v := (.v (.int .i64 (l3.getD (x157).toNat (0 : Int))))) rfl ?_
    refine so_nil ?_
    refine fi_region ?_
    refine so_move (v := (.v v156)) rfl ?_
    refine so_move (v := (.v (.int .i64 (l3.getD (x157).toNat (0 : Int))))) rfl ?_
    refine so_move (v := (.v (.int .i64 a5))) rfl ?_
    refine sv_callS (impl_above_ok (l3.getD (x157).toNat (0 : Int)) a5 hs  _ h) (fun _ _ ⟨_, _, _, e⟩ => e) rfl rfl ?_
    clear h
    rintro _ _ ⟨y160, h, rfl, rfl⟩
    refine sv_bslice hs (eInt .i64) ([y160] : List (Int)) [[(.int .i64 y160)]] F50.te28 F50.sz2 F50.ze2 rfl rfl rfl rfl (fun _ => rfl) rfl (by decide) nofun (fun v162 H163 nv162 hs => ?_)
    obtain ⟨c167, h⟩ := h
    refine sv_app hs 1 rfl (hs.shows 0 rfl) (fun _ => rfl) (by decide) F50.ta28_28 (by decide) c167 rfl rfl nofun (fun v165 H166 kv165 hs => ?_)
    replace hs := hs.del 0
    have nv165 := kv165 nv156
    refine so_assign (v := (.v v165)) rfl ?_
    refine so_nil ?_
    refine fi_inBlock ?_
    refine fi_region ?_
    refine so_bin rfl rfl ab_add ?_
    refine so_move (v := (.v (.int .i64 (IntKind.i64.wrap (x157 + (1 : Int)))))) rfl ?_
    refine so_nil ?_
    exact fi_at [(1, (.v v2)), (3, (.v (.int .i64 a4))), (4, (.v (.int .i64 a5))), (5, (.v (.flt .f32 a6))), (6, (.v (.ptr id101 0))), (14, (.v v165)), (26, (.v v3)), (27, (.v (.int .i64 (l3.length : Int)))), (28, (.v (.int .i64 (IntKind.i64.wrap (x157 + (1 : Int))))))] ⟨rfl, rfl, rfl, rfl, rfl, rfl, rfl, rfl, rfl, trivial⟩ (h _ _ _ nv165 hs)
  · refine fi_false rfl (decide_eq_false c158) ?_
    refine fi_exit rfl ?_
    refine fi_seq ?_
    refine fi_region ?_
    refine so_move (v := (.v v156)) rfl ?_
    refine so_move (v := (.v (.flt .f32 a6))) rfl ?_
    refine sv_call (impl_ListOfScale_ok v156 cut155 a6 (cz .f32 1056964608) hs (fun _ hs => (hs.shows 0 rfl)) _ h) rfl rfl nofun ?_
    clear h hs
    rintro _ H172 ⟨y168, y171, h, v169, rfl, hs⟩
    refine so_move (v := (.t [(.v v169), (.v (.bool y171))])) rfl ?_
    refine so_extract rfl rfl rfl ?_
    refine so_extract rfl rfl rfl ?_
    refine so_assign (v := (.v v169)) rfl ?_
    refine so_assign (v := (.v (.bool y171))) rfl ?_
    refine so_nil ?_
    refine fi_seq ?_
    refine fi_seq ?_
    refine fi_region ?_
    refine so_move (v := (.v (.bool y171))) rfl ?_
    refine so_un rfl au_not ?_
    refine so_nil ?_
    replace h := ofT h; rcases h with ⟨c173, h⟩ | ⟨c173, h⟩
    · refine fi_false rfl (not_f c173) ?_
      refine fi_skip ?_
      refine fi_seq ?_
      refine fi_region ?_
      refine so_move (v := (.v v169)) rfl ?_
      refine so_move (v := (.v (.int .i64 a4))) rfl ?_
      refine sv_call (impl_CutFlat_ok v169 y168 a4 hs (fun _ hs => (hs.shows 0 rfl)) _ h) rfl rfl nofun ?_
      clear h hs
      rintro _ H180 ⟨y174, y179, h, v175, ws177, S178, rfl, hs⟩
      refine so_move (v := (.t [(.v v175), (.v (.bool y179))])) rfl ?_
      refine so_extract rfl rfl rfl ?_
      refine so_extract rfl rfl rfl ?_
      refine so_assign (v := (.v v175)) rfl ?_
      refine so_assign (v := (.v (.bool y179))) rfl ?_
      refine so_nil ?_
      refine fi_seq ?_
      refine fi_seq ?_
      refine fi_region ?_
      refine so_move (v := (.v (.bool y179))) rfl ?_
      refine so_un rfl au_not ?_
      refine so_nil ?_
      replace h := ofT h; rcases h with ⟨c181, h⟩ | ⟨c181, h⟩
      · refine fi_false rfl (not_f c181) ?_
        refine fi_skip ?_
        refine fi_seq ?_
        refine fi_region ?_
        refine sv_lds hs 3 rfl rfl (leb rfl) rfl F50.ag38 F50.sz38 ?_
        refine so_move (v := (.v v175)) rfl ?_
        refine sv_call (impl_DropDeep_ok v0 l0 a1 v175 ws177 y174 hs (fun _ hs => (g0 _ hs.tl.tl.tl.tl)) (fun _ hs => (hs.dshows 0 rfl)) _ h) rfl rfl nofun ?_
        clear h hs
        rintro _ H186 ⟨y182, y185, h, v183, rfl, hs⟩
        refine so_move (v := (.t [(.v v183), (.v (.bool y185))])) rfl ?_
        refine so_extract rfl rfl rfl ?_
        refine so_extract rfl rfl rfl ?_
        refine so_assign (v := (.v v183)) rfl ?_
        refine so_assign (v := (.v (.bool y185))) rfl ?_
        refine so_nil ?_
        refine fi_seq ?_
        refine fi_seq ?_
        refine fi_region ?_
        refine so_move (v := (.v (.bool y185))) rfl ?_
        refine so_un rfl au_not ?_
        refine so_nil ?_
        replace h := ofT h; rcases h with ⟨c187, h⟩ | ⟨c187, h⟩
        · refine fi_false rfl (not_f c187) ?_
          refine fi_skip ?_
          refine fi_seq ?_
          refine fi_region ?_
          refine so_assign (v := (.v (.flt .f32 (cz .f32 0)))) rfl ?_
          refine so_nil ?_
          refine fi_seq ?_
          refine fi_seq ?_
          refine fi_region ?_
          refine so_move (v := (.v v2)) rfl ?_
          refine sv_len (g2 _ hs.tl.tl.tl.tl.tl) (fun _ => rfl) (by decide) rfl F50.ti24 ?_
          refine so_move (v := (.v (.int .i64 (0 : Int)))) rfl ?_
          refine so_nil ?_
          refine fi_block ?_
          refine fi_loop ?_
          replace hs := hs.del 1
          replace hs := hs.del 1
          replace hs := hs.del 1
          replace hs := hs.del 1
          refine fi_at [(1, (.v v2)), (20, (.v v183)), (21, (.v (.flt .f32 (cz .f32 0)))), (63, (.v v2)), (64, (.v (.int .i64 (l2.length : Int)))), (65, (.v (.int .i64 (0 : Int))))] ⟨rfl, rfl, rfl, rfl, rfl, rfl, trivial⟩ ?_
          refine h (fun (sum189 : Nat) (x190 : Int) => ∀ (s : Nat → TV) (H : Heap), Sep H (Pc.osl v183 1 (enc (eFlt .f32) y182) :: fr) → Fin _ _ (updL s [(1, (.v v2)), (20, (.v v183)), (21, (.v (.flt .f32 sum189))), (63, (.v v2)), (64, (.v (.int .i64 (l2.length : Int)))), (65, (.v (.int .i64 x190)))]) H _) ?_ _ _ hs
          intro sum189 x190 h s199 H200 hs
          refine fi_inLoop ?_
          refine fi_seq ?_
          refine fi_region ?_
          refine so_bin rfl rfl ab_lss ?_
          refine so_nil ?_
          refine fi_seq ?_
          replace h := ofP h; rcases h with ⟨c191, h⟩ | ⟨c191, h⟩
          · refine fi_true rfl (decide_eq_true c191) ?_
            refine fi_skip ?_
            refine fi_seq ?_
            refine fi_block ?_
            refine fi_seq ?_
            refine fi_region ?_
            refine so_move (v := (.v (.int .i64 x190))) rfl ?_
            obtain ⟨c192, h⟩ := h
            refine sv_idx (g2 _ hs.tl) c192 (fun _ => rfl) (by decide) rfl rfl F50.tl24 ?_
            refine sv_cell (g2 _ hs.tl) c192 (0 : Nat) 0 (fun x => (AV.flt .f32 x)) (fun _ => rfl) (fun _ => rfl) rfl F50.ag26 ?_
            refine so_assign (v := (.v (.int .i64 x190))) rfl ?_
            refine so_assign (v := (.v (.flt .f32 (l2.getD (x190).toNat (0 : Nat))))) rfl ?_
            refine so_nil ?_
            refine fi_seq ?_
            refine fi_region ?_
            refine so_move (v := (.v (.flt .f32 (l2.getD (x190).toNat (0 : Nat))))) rfl ?_
            refine so_move (v := (.v v183)) rfl ?_
            refine so_move (v := (.v (.int .i64 x190))) rfl ?_
            obtain ⟨c193, h⟩ := h
            refine sv_idx (hs.shows 0 rfl) c193 (fun _ => rfl) (by decide) rfl rfl F50.tl24 ?_
            refine sv_cell (hs.shows 0 rfl) c193 (0 : Nat) 0 (fun x => (AV.flt .f32 x)) (fun _ => rfl) (fun _ => rfl) rfl F50.ag26 ?_
            refine so_bin rfl rfl ab_fsub ?_
            refine so_assign (v := (.v (.flt .f32 (fop .sub .f32 (l2.getD (x190).toNat (0 : Nat)) (y182.getD (x190).toNat (0 : Nat)))))) rfl ?_
            refine so_nil ?_
            refine fi_region ?_
            refine so_move (v := (.v (.flt .f32 sum189))) rfl ?_
            refine so_move (v := (.v (.flt .f32 (fop .sub .f32 (l2.getD (x190).toNat (0 : Nat)) (y182.getD (x190).toNat (0 : Nat)))))) rfl ?_
            refine so_move (v := (.v (.flt .f32 (fop .sub .f32 (l2.getD (x190).toNat (0 : Nat)) (y182.getD (x190).toNat (0 : Nat)))))) rfl ?_
            refine so_bin rfl rfl ab_fmul ?_
            refine so_bin rfl rfl ab_fadd ?_
            refine so_assign (v := (.v (.flt .f32 (fop .add .f32 sum189 (fop .mul .f32 (fop .sub .f32 (l2.getD (x190).toNat (0 : Nat)) (y182.getD (x190).toNat (0 : Nat))) (fop .sub .f32 (l2.getD (x190).toNat (0 : Nat)) (y182.getD (x190).toNat (0 : Nat)))))))) rfl ?_
            refine so_nil ?_
            refine fi_inBlock ?_
            refine fi_region ?_
            refine so_bin rfl rfl ab_add ?_
            refine so_move (v := (.v (.int .i64 (IntKind.i64.wrap (x190 + (1 : Int)))))) rfl ?_
            refine so_nil ?_
            exact fi_at [(1, (.v v2)), (20, (.v v183)), (21, (.v (.flt .f32 (fop .add .f32 sum189 (fop .mul .f32 (fop .sub .f32 (l2.getD (x190).toNat (0 : Nat)) (y182.getD (x190).toNat (0 : Nat))) (fop .sub .f32 (l2.getD (x190).toNat (0 : Nat)) (y182.getD (x190).toNat (0 : Nat)))))))), (63, (.v v2)), (64, (.v (.int .i64 (l2.length : Int)))), (65, (.v (.int .i64 (IntKind.i64.wrap (x190 + (1 : Int))))))] ⟨rfl, rfl, rfl, rfl, rfl, rfl, trivial⟩ (h _ _  hs)
          · refine fi_false rfl (decide_eq_false c191) ?_
            refine fi_exit rfl ?_
            refine fi_seq ?_
            refine fi_region ?_
            refine so_move (v := (.v (.flt .f32 sum189))) rfl ?_
            refine so_move (v := (.v v2)) rfl ?_
            refine sv_len (g2 _ hs.tl) (fun _ => rfl) (by decide) rfl F50.ti24 ?_
            refine sv_if rfl F50.us3 F50.in26 F50.fl26 ?_
            refine so_bin rfl rfl ab_fquo ?_
            refine sv_callS (impl_RootNumber_ok (fop .quo .f32 sum189 (itof .f32 (l2.length : Int))) hs  _ h) (fun _ _ ⟨_, _, _, e⟩ => e) rfl rfl ?_
            clear h
            rintro _ _ ⟨y194, h, rfl, rfl⟩
            refine sv_callS (impl_finite_ok y194 hs  _ h) (fun _ _ ⟨_, _, _, _, e⟩ => e) rfl rfl ?_
            clear h
            rintro _ _ ⟨y196, y197, h, rfl, rfl⟩
            refine so_extract rfl rfl rfl ?_
            refine so_extract rfl rfl rfl ?_
            refine so_assign (v := (.v (.flt .f32 y196))) rfl ?_
            refine so_assign (v := (.v (.bool y197))) rfl ?_
            refine so_nil ?_
            exact by_ret rfl ⟨_, _, h, rfl, (Sep.del 0 hs)⟩
        · refine fi_true rfl (not_t c187) ?_
          refine fi_seq ?_
          refine fi_region ?_
          refine so_assign (v := (.v (.flt .f32 (cz .f32 0)))) rfl ?_
          refine so_assign (v := (.v (.bool false))) rfl ?_
          refine so_nil ?_
          exact by_ret rfl ⟨_, _, h, rfl, (Sep.dropn 5 hs)⟩
      · refine fi_true rfl (not_t c181) ?_
        refine fi_seq ?_
        refine fi_region ?_
        refine so_assign (v := (.v (.flt .f32 (cz .f32 0)))) rfl ?_
        refine so_assign (v := (.v (.bool false))) rfl ?_
        refine so_nil ?_
        exact by_ret rfl ⟨_, _, h, rfl, (Sep.dropn 4 hs)⟩
    · refine fi_true rfl (not_t c173) ?_
      refine fi_seq ?_
      refine fi_region ?_
      refine so_assign (v := (.v (.flt .f32 (cz .f32 0)))) rfl ?_
      refine so_assign (v := (.v (.bool false))) rfl ?_
      refine so_nil ?_
      exact by_ret rfl ⟨_, _, h, rfl, (Sep.del 0 (Sep.del 0 (Sep.del 0 hs)))⟩
theorem impl_missAbove_okS {fr : List Pc} {H : Heap} (v0 : AV) (l0 : List (Nat)) (a1 : Nat) (v2 : AV) (l2 : List (Nat)) (v3 : AV) (l3 : List (Int)) (a4 : Int) (a5 : Int) (a6 : Nat) (hs : Sep H fr) (g0 : ∀ H, Sep H fr → Shows H v0 1 (enc (eFlt .f32) l0)) (g2 : ∀ H, Sep H fr → Shows H v2 1 (enc (eFlt .f32) l2)) (g3 : ∀ H, Sep H fr → Shows H v3 1 (enc (eInt .i64) l3)) (K : Nat → Bool → Prop) (h : impl_missAbove.wp l0 a1 l2 l3 a4 a5 a6 K) : OkQ Try.prog 50 [(.g [v0, (.flt .f32 a1)]), (.v v2), (.v v3), (.v (.int .i64 a4)), (.v (.int .i64 a5)), (.v (.flt .f32 a6))] H (fun r H2 => ∃ (y0 : Nat) (y1 : Bool), K y0 y1 ∧ r = (.t [(.v (.flt .f32 y0)), (.v (.bool y1))]) ∧ H = H2) := by
  obtain ⟨r, H2, h1, y0, y1, hK, hr, hsep⟩ := impl_missAbove_ok (fr := came H) (H := H) v0 l0 a1 v2 l2 v3 l3 a4 a5 a6 (came_sep H) (came_shows (g0 H hs)) (came_shows (g2 H hs)) (came_shows (g3 H hs)) K h
  have hk : H.n ≤ H2.n ∧ ∀ i, i < H.n → H2.f i = H.f i := hsep.1.2.1
  exact ⟨r, H, h1.forget hk.1 hk.2 (by subst hr; rfl), y0, y1, hK, hr, rfl⟩
theorem impl_size_ok {fr : List Pc} {H : Heap} (a0 : Nat) (hs : Sep H (fr))  (K : Nat → Prop) (h : impl_size.wp a0 K) : OkQ Try.prog 42 [(.v (.flt .f32 a0))] H (fun r H2 => ∃ (y0 : Nat), K y0 ∧ r = (.v (.flt .f32 y0)) ∧ H = H2) := by
  unfold impl_size.wp at h
  refine of_body Try.f42 F.hm Try.func42 rfl Try.call42 (by kernel_rfl) (by simp) ?_
  refine fi_seq ?_
  refine fi_region ?_
  refine so_assign (v := (.v (.flt .f32 (cz .f32 0)))) rfl ?_
  refine so_nil ?_
  refine fi_seq ?_
  refine fi_seq ?_
  refine fi_region ?_
  refine so_move (v := (.v (.flt .f32 a0))) rfl ?_
  refine so_bin rfl rfl ab_flss ?_
  refine so_nil ?_
  replace h := ofT h; rcases h with ⟨c101, h⟩ | ⟨c101, h⟩
  · refine fi_true rfl c101 ?_
    refine fi_seq ?_
    refine fi_region ?_
    refine so_move (v := (.v (.flt .f32 a0))) rfl ?_
    refine so_un rfl au_fneg' ?_
    refine so_assign (v := (.v (.flt .f32 (fneg .f32 a0)))) rfl ?_
    refine so_nil ?_
    exact by_ret rfl ⟨_, h, rfl, rfl⟩
  · refine fi_false rfl c101 ?_
    refine fi_skip ?_
    refine fi_seq ?_
    refine fi_seq ?_
    refine fi_region ?_
    refine so_move (v := (.v (.flt .f32 a0))) rfl ?_
    refine so_bin rfl rfl ab_feql ?_
    refine so_nil ?_
    replace h := ofT h; rcases h with ⟨c102, h⟩ | ⟨c102, h⟩
    · refine fi_true rfl c102 ?_
      refine fi_seq ?_
      refine fi_region ?_
      refine so_assign (v := (.v (.flt .f32 (cz .f32 0)))) rfl ?_
      refine so_nil ?_
      exact by_ret rfl ⟨_, h, rfl, rfl⟩
    · refine fi_false rfl c102 ?_
      refine fi_skip ?_
      refine fi_seq ?_
      refine fi_region ?_
      refine so_move (v := (.v (.flt .f32 a0))) rfl ?_
      refine so_assign (v := (.v (.flt .f32 a0))) rfl ?_
      refine so_nil ?_
      exact by_ret rfl ⟨_, h, rfl, rfl⟩
theorem F9.ag26 : tagg Try.prog 26 = some false := by kernel_rfl
theorem F9.it2 : tint Try.prog 2 = some .i64 := by kernel_rfl
theorem F9.sz2 : tsz Try.prog 2 = some 1 := by kernel_rfl
theorem F9.ta28_28 : tapp Try.prog 28 28 = some (1, 8) := by kernel_rfl
theorem F9.te28 : telem Try.prog 28 = some 2 := by kernel_rfl
theorem F9.ti24 : (telem Try.prog 24).isSome = true := by kernel_rfl
theorem F9.tl24 : (telem Try.prog 24).bind (tsz Try.prog) = some 1 := by kernel_rfl
theorem F9.us26 : (Try.prog.underlying 26).isSome = true := by kernel_rfl
theorem F9.ze2 : tzero Try.prog 2 = some [(.int .i64 (0 : Int))] := by kernel_rfl
theorem impl_ScaleList_ok {fr : List Pc} {H : Heap} (v0 : AV) (l0 : List (Nat)) (a1 : Nat) (hs : Sep H (fr)) (g0 : ∀ H, Sep H fr → Shows H v0 1 (enc (eFlt .f32) l0)) (K : (List (Int)) → Bool → Prop) (h : impl_ScaleList.wp l0 a1 K) : OkQ Try.prog 9 [(.v v0), (.v (.flt .f32 a1))] H (fun r H2 => ∃ (y0 : List (Int)) (y1 : Bool), K y0 y1 ∧ ∃ (w0_ : AV), r = (.t [(.v w0_), (.v (.bool y1))]) ∧ Sep H2 (Pc.osl w0_ 1 (enc (eInt .i64) y0) :: fr)) := by
  unfold impl_ScaleList.wp at h
  refine of_body Try.f9 F.hm Try.func9 rfl Try.call9 (by kernel_rfl) (by simp) ?_
  refine fi_seq ?_
  refine fi_region ?_
  refine so_assign (v := (.v .nilsl)) rfl ?_
  refine so_assign (v := (.v (.bool false))) rfl ?_
  refine so_nil ?_
  refine fi_seq ?_
  refine fi_seq ?_
  refine fi_region ?_
  refine so_move (v := (.v v0)) rfl ?_
  refine sv_callS (impl_IsList_okS v0 l0 hs (fun _ hs => (g0 _ hs)) _ h) (fun _ _ ⟨_, _, _, e⟩ => e) rfl rfl ?_
  clear h
  rintro _ _ ⟨y101, h, rfl, rfl⟩
  refine so_un rfl au_not ?_
  refine so_move (v := (.v (.bool (!y101)))) rfl ?_
  replace h := ofT h; rcases h with ⟨c103, h⟩ | ⟨c103, h⟩
  · refine so_gyes rfl (not_f c103) ?_
    refine so_move (v := (.v (.flt .f32 a1))) rfl ?_
    refine so_gyes rfl (not_f c103) ?_
    refine sv_callS (impl_isOver_ok a1 hs  _ h) (fun _ _ ⟨_, _, _, e⟩ => e) rfl rfl ?_
    clear h
    rintro _ _ ⟨y104, h, rfl, rfl⟩
    refine so_gyes rfl (not_f c103) ?_
    refine so_un rfl au_not ?_
    refine so_pick_f (v := (.v (.bool (!y104)))) rfl (not_f c103) rfl ?_
    refine so_nil ?_
    replace h := ofT h; rcases h with ⟨c106, h⟩ | ⟨c106, h⟩
    · refine fi_false rfl (not_f c106) ?_
      refine fi_skip ?_
      refine fi_seq ?_
      refine fi_region ?_
      refine sv_bslice hs (eInt .i64) ([] : List (Int)) [] F9.te28 F9.sz2 F9.ze2 rfl rfl rfl rfl (fun _ => rfl) rfl (by decide) nofun (fun v107 H108 nv107 hs => ?_)
      refine so_assign (v := (.v v107)) rfl ?_
      refine so_nil ?_
      refine fi_seq ?_
      refine fi_seq ?_
      refine fi_region ?_
      refine so_move (v := (.v v0)) rfl ?_
      refine sv_len (g0 _ hs.tl) (fun _ => rfl) (by decide) rfl F9.ti24 ?_
      refine so_move (v := (.v (.int .i64 (0 : Int)))) rfl ?_
      refine so_nil ?_
      refine fi_block ?_
      refine fi_loop ?_
      refine fi_at [(1, (.v (.flt .f32 a1))), (6, (.v v107)), (19, (.v v0)), (20, (.v (.int .i64 (l0.length : Int)))), (21, (.v (.int .i64 (0 : Int))))] ⟨rfl, rfl, rfl, rfl, rfl, trivial⟩ ?_
      refine h (fun (out127 : List (Int)) (x129 : Int) => ∀ (s : Nat → TV) (H : Heap) (v128 : AV) (nv128 : v128 ≠ .nilsl), Sep H (Pc.osl v128 1 (enc (eInt .i64) out127) :: fr) → Fin _ _ (updL s [(1, (.v (.flt .f32 a1))), (6, (.v v128)), (19, (.v v0)), (20, (.v (.int .i64 (l0.length : Int)))), (21, (.v (.int .i64 x129)))]) H _) ?_ _ _ _ nv107 hs
      intro out127 x129 h s142 H143 v128 nv128 hs
      refine fi_inLoop ?_
      refine fi_seq ?_
      refine fi_region ?_
      refine so_bin rfl rfl ab_lss ?_
      refine so_nil ?_
      refine fi_seq ?_
      replace h := ofP h; rcases h with ⟨c130, h⟩ | ⟨c130, h⟩
      · refine fi_true rfl (decide_eq_true c130) ?_
        refine fi_skip ?_
        refine fi_seq ?_
        refine fi_block ?_
        refine fi_seq ?_
        refine fi_region ?_
        obtain ⟨c131, h⟩ := h
        refine sv_idx (g0 _ hs.tl) c131 (fun _ => rfl) (by decide) rfl rfl F9.tl24 ?_
        refine sv_cell (g0 _ hs.tl) c131 (0 : Nat) 0 (fun x => (AV.flt .f32 x)) (fun _ => rfl) (fun _ => rfl) rfl F9.ag26 ?_
        refine so_assign (v := (.v (.flt .f32 (l0.getD (x129).toNat (0 : Nat))))) rfl ?_
        refine so_nil ?_
        refine fi_seq ?_
        refine fi_region ?_
        refine so_move (v := (.v (.flt .f32 (l0.getD (x129).toNat (0 : Nat))))) rfl ?_
        refine so_move (v := (.v (.flt .f32 a1))) rfl ?_
        refine so_bin rfl rfl ab_fquo ?_
        refine so_assign (v := (.v (.flt .f32 (fop .quo .f32 (l0.getD (x129).toNat (0 : Nat)) a1)))) rfl ?_
        refine so_nil ?_
        refine fi_seq ?_
        refine fi_seq ?_
        refine fi_region ?_
        refine so_move (v := (.v (.flt .f32 (fop .quo .f32 (l0.getD (x129).toNat (0 : Nat)) a1)))) rfl ?_
        refine sv_callS (impl_size_ok (fop .quo .f32 (l0.getD (x129).toNat (0 : Nat)) a1) hs  _ h) (fun _ _ ⟨_, _, _, e⟩ => e) rfl rfl ?_
        clear h
        rintro _ _ ⟨y132, h, rfl, rfl⟩
        refine so_bin rfl rfl ab_flss ?_
        refine so_un rfl au_not ?_
        refine so_nil ?_
        replace h := ofT h; rcases h with ⟨c134, h⟩ | ⟨c134, h⟩
        · refine fi_false rfl (not_f c134) ?_
          refine fi_skip ?_
          refine fi_region ?_
          refine so_move (v := (.v v128)) rfl ?_
          refine so_move (v := (.v (.flt .f32 (fop .quo .f32 (l0.getD (x129).toNat (0 : Nat)) a1)))) rfl ?_
          obtain ⟨c135, h⟩ := h
          refine sv_fi c135 rfl F9.us26 F9.it2 ?_
          refine sv_bslice hs (eInt .i64) ([(ftoi .f32 (fop .quo .f32 (l0.getD (x129).toNat (0 : Nat)) a1) .i64)] : List (Int)) [[(.int .i64 (ftoi .f32 (fop .quo .f32 (l0.getD (x129).toNat (0 : Nat)) a1) .i64))]] F9.te28 F9.sz2 F9.ze2 rfl rfl rfl rfl (fun _ => rfl) rfl (by decide) nofun (fun v136 H137 nv136 hs => ?_)
          obtain ⟨c141, h⟩ := h
          refine sv_app hs 1 rfl (hs.shows 0 rfl) (fun _ => rfl) (by decide) F9.ta28_28 (by decide) c141 rfl rfl nofun (fun v139 H140 kv139 hs => ?_)
          replace hs := hs.del 0
          have nv139 := kv139 nv128
          refine so_assign (v := (.v v139)) rfl ?_
          refine so_nil ?_
          refine fi_inBlock ?_
          refine fi_region ?_
          refine so_bin rfl rfl ab_add ?_
          refine so_move (v := (.v (.int .i64 (IntKind.i64.wrap (x129 + (1 : Int)))))) rfl ?_
          refine so_nil ?_
          exact fi_at [(1, (.v (.flt .f32 a1))), (6, (.v v139)), (19, (.v v0)), (20, (.v (.int .i64 (l0.length : Int)))), (21, (.v (.int .i64 (IntKind.i64.wrap (x129 + (1 : Int))))))] ⟨rfl, rfl, rfl, rfl, rfl, trivial⟩ (h _ _ _ nv139 hs)
        · refine fi_true rfl (not_t c134) ?_
          refine fi_seq ?_
          refine fi_region ?_
          refine so_assign (v := (.v .nilsl)) rfl ?_
          refine so_assign (v := (.v (.bool false))) rfl ?_
          refine so_nil ?_
          exact by_ret rfl ⟨_, _, h, _, rfl, (Sep.nil (Sep.del 0 hs) 1)⟩
      · refine fi_false rfl (decide_eq_false c130) ?_
        refine fi_exit rfl ?_
        refine fi_seq ?_
        refine fi_region ?_
        refine so_move (v := (.v v128)) rfl ?_
        refine so_assign (v := (.v v128)) rfl ?_
        refine so_assign (v := (.v (.bool true))) rfl ?_
        refine so_nil ?_
        exact by_ret rfl ⟨_, _, h, _, rfl, hs⟩
    · refine fi_true rfl (not_t c106) ?_
      refine fi_seq ?_
      refine fi_region ?_
      refine so_assign (v := (.v .nilsl)) rfl ?_
      refine so_assign (v := (.v (.bool false))) rfl ?_
      refine so_nil ?_
      exact by_ret rfl ⟨_, _, h, _, rfl, (Sep.nil hs 1)⟩
  · refine so_gno rfl (not_t c103) ?_
    refine so_gno rfl (not_t c103) ?_
    refine so_gno rfl (not_t c103) ?_
    refine so_pick_t (v := (.v (.bool true))) rfl (not_t c103) rfl ?_
    refine so_nil ?_
    refine fi_true rfl rfl ?_
    refine fi_seq ?_
    refine fi_region ?_
    refine so_assign (v := (.v .nilsl)) rfl ?_
    refine so_assign (v := (.v (.bool false))) rfl ?_
    refine so_nil ?_
    exact by_ret rfl ⟨_, _, h, _, rfl, (Sep.nil hs 1)⟩
theorem F12.ag38 : tagg Try.prog 38 = some true := by kernel_rfl
theorem F12.inf38 : (Try.prog.info? 38).isSome = true := by kernel_rfl
theorem F12.sz2 : tsz Try.prog 2 = some 1 := by kernel_rfl
theorem F12.sz26 : tsz Try.prog 26 = some 1 := by kernel_rfl
theorem F12.sz38 : tsz Try.prog 38 = some 2 := by kernel_rfl
theorem F12.ta24_24 : tapp Try.prog 24 24 = some (1, 4) := by kernel_rfl
theorem F12.ta28_28 : tapp Try.prog 28 28 = some (1, 8) := by kernel_rfl
theorem F12.te24 : telem Try.prog 24 = some 26 := by kernel_rfl
theorem F12.te28 : telem Try.prog 28 = some 2 := by kernel_rfl
theorem F12.ze2 : tzero Try.prog 2 = some [(.int .i64 (0 : Int))] := by kernel_rfl
theorem F12.ze26 : tzero Try.prog 26 = some [(.flt .f32 (0 : Nat))] := by kernel_rfl
theorem impl_RateTable_ok {fr : List Pc} {H : Heap} (v0 : AV) (l0 : List (Nat)) (a1 : Nat) (v2 : AV) (l2 : List (Nat)) (a3 : Int) (a4 : Nat) (hs : Sep H (fr)) (g0 : ∀ H, Sep H fr → Shows H v0 1 (enc (eFlt .f32) l0)) (g2 : ∀ H, Sep H fr → Shows H v2 1 (enc (eFlt .f32) l2)) (K : (List (Int)) → (List (Nat)) → Bool → Prop) (h : impl_RateTable.wp l0 a1 l2 a3 a4 K) : OkQ Try.prog 12 [(.g [v0, (.flt .f32 a1)]), (.v v2), (.v (.int .i64 a3)), (.v (.flt .f32 a4))] H (fun r H2 => ∃ (y0 : List (Int)) (y1 : List (Nat)) (y2 : Bool), K y0 y1 y2 ∧ ∃ (w0_ : AV) (w1_ : AV), r = (.t [(.v w0_), (.v w1_), (.v (.bool y2))]) ∧ Sep H2 (Pc.osl w0_ 1 (enc (eInt .i64) y0) :: Pc.osl w1_ 1 (enc (eFlt .f32) y1) :: fr)) := by
  unfold impl_RateTable.wp at h
  refine of_body Try.f12 F.hm Try.func12 rfl Try.call12 (by kernel_rfl) (by simp) ?_
  refine fi_seq ?_
  refine fi_region ?_
  refine sv_box hs rfl (c := [v0, (.flt .f32 a1)]) rfl F12.inf38 (stc (g0 _ hs).stor (stc rfl stn)) nofun (fun id101 H102 hs => ?_)
  refine so_assign (v := (.v .nilsl)) rfl ?_
  refine so_assign (v := (.v .nilsl)) rfl ?_
  refine so_assign (v := (.v (.bool false))) rfl ?_
  refine so_nil ?_
  refine fi_seq ?_
  refine fi_region ?_
  refine sv_lds hs 0 rfl rfl (leb rfl) rfl F12.ag38 F12.sz38 ?_
  refine so_move (v := (.v v2)) rfl ?_
  refine so_move (v := (.v (.int .i64 a3))) rfl ?_
  refine sv_call (impl_LiftDeep_ok v0 l0 a1 v2 l2 a3 hs (fun _ hs => (g0 _ hs.tl)) (fun _ hs => (g2 _ hs.tl)) _ h) rfl rfl nofun ?_
  clear h hs
  rintro _ H110 ⟨y104, y109, h, v105, ws107, S108, rfl, hs⟩
  refine so_move (v := (.t [(.v v105), (.v (.bool y109))])) rfl ?_
  refine so_extract rfl rfl rfl ?_
  refine so_extract rfl rfl rfl ?_
  refine so_assign (v := (.v v105)) rfl ?_
  refine so_assign (v := (.v (.bool y109))) rfl ?_
  refine so_nil ?_
  refine fi_seq ?_
  refine fi_seq ?_
  refine fi_region ?_
  refine so_move (v := (.v (.bool y109))) rfl ?_
  refine so_un rfl au_not ?_
  refine so_nil ?_
  replace h := ofT h; rcases h with ⟨c111, h⟩ | ⟨c111, h⟩
  · refine fi_false rfl (not_f c111) ?_
    refine fi_skip ?_
    refine fi_seq ?_
    refine fi_region ?_
    refine so_move (v := (.v v105)) rfl ?_
    refine sv_call (impl_FlatBands_ok v105 ws107 y104 hs (fun _ hs => (hs.dshows 0 rfl)) _ h) rfl rfl nofun ?_
    clear h hs
    rintro _ H116 ⟨y112, y115, h, v113, rfl, hs⟩
    refine so_move (v := (.t [(.v v113), (.v (.bool y115))])) rfl ?_
    refine so_extract rfl rfl rfl ?_
    refine so_extract rfl rfl rfl ?_
    refine so_assign (v := (.v v113)) rfl ?_
    refine so_assign (v := (.v (.bool y115))) rfl ?_
    refine so_nil ?_
    refine fi_seq ?_
    refine fi_region ?_
    refine so_move (v := (.v v113)) rfl ?_
    refine so_move (v := (.v (.flt .f32 a4))) rfl ?_
    refine sv_call (impl_ScaleList_ok v113 y112 a4 hs (fun _ hs => (hs.shows 0 rfl)) _ h) rfl rfl nofun ?_
    clear h hs
    rintro _ H121 ⟨y117, y120, h, v118, rfl, hs⟩
    refine so_move (v := (.t [(.v v118), (.v (.bool y120))])) rfl ?_
    refine so_extract rfl rfl rfl ?_
    refine so_extract rfl rfl rfl ?_
    refine so_assign (v := (.v v118)) rfl ?_
    refine so_assign (v := (.v (.bool y120))) rfl ?_
    refine so_nil ?_
    refine fi_seq ?_
    refine fi_seq ?_
    refine fi_region ?_
    refine so_move (v := (.v (.bool y115))) rfl ?_
    refine so_un rfl au_not ?_
    refine so_move (v := (.v (.bool (!y115)))) rfl ?_
    replace h := ofT h; rcases h with ⟨c122, h⟩ | ⟨c122, h⟩
    · refine so_gyes rfl (not_f c122) ?_
      refine so_move (v := (.v (.bool y120))) rfl ?_
      refine so_gyes rfl (not_f c122) ?_
      refine so_un rfl au_not ?_
      refine so_pick_f (v := (.v (.bool (!y120)))) rfl (not_f c122) rfl ?_
      refine so_nil ?_
      replace h := ofT h; rcases h with ⟨c123, h⟩ | ⟨c123, h⟩
      · refine fi_false rfl (not_f c123) ?_
        refine fi_skip ?_
        refine fi_seq ?_
        refine fi_region ?_
        refine sv_bslice hs (eInt .i64) ([] : List (Int)) [] F12.te28 F12.sz2 F12.ze2 rfl rfl rfl rfl (fun _ => rfl) rfl (by decide) nofun (fun v124 H125 nv124 hs => ?_)
        refine sv_bslice hs (eFlt .f32) ([] : List (Nat)) [] F12.te24 F12.sz26 F12.ze26 rfl rfl rfl rfl (fun _ => rfl) rfl (by decide) nofun (fun v127 H128 nv127 hs => ?_)
        refine so_assign (v := (.v v124)) rfl ?_
        refine so_assign (v := (.v v127)) rfl ?_
        refine so_nil ?_
        refine fi_seq ?_
        refine fi_seq ?_
        refine fi_region ?_
        refine so_move (v := (.v v118)) rfl ?_
        refine sv_callS (impl_planesFor_ok v118 y117 hs (fun _ hs => (hs.shows 2 rfl)) _ h) (fun _ _ ⟨_, _, _, e⟩ => e) rfl rfl ?_
        clear h
        rintro _ _ ⟨y130, h, rfl, rfl⟩
        refine so_assign (v := (.v (.int .i64 y130))) rfl ?_
        refine so_nil ?_
        refine fi_block ?_
        refine fi_loop ?_
        replace hs := hs.del 3
        replace hs := hs.del 3
        refine fi_at [(1, (.v v2)), (2, (.v (.int .i64 a3))), (3, (.v (.flt .f32 a4))), (4, (.v (.ptr id101 0))), (15, (.v v118)), (17, (.v v124)), (18, (.v v127)), (19, (.v (.int .i64 y130)))] ⟨rfl, rfl, rfl, rfl, rfl, rfl, rfl, rfl, trivial⟩ ?_
        refine h (fun (misses160 : List (Nat)) (many162 : List (Int)) (plane164 : Int) => ∀ (s : Nat → TV) (H : Heap) (v161 : AV) (nv161 : v161 ≠ .nilsl) (v163 : AV) (nv163 : v163 ≠ .nilsl), Sep H (Pc.osl v161 1 (enc (eFlt .f32) misses160) :: Pc.osl v163 1 (enc (eInt .i64) many162) :: Pc.osl v118 1 (enc (eInt .i64) y117) :: Pc.box id101 [v0, (.flt .f32 a1)] :: fr) → Fin _ _ (updL s [(1, (.v v2)), (2, (.v (.int .i64 a3))), (3, (.v (.flt .f32 a4))), (4, (.v (.ptr id101 0))), (15, (.v v118)), (17, (.v v163)), (18, (.v v161)), (19, (.v (.int .i64 plane164)))]) H _) ?_ _ _ _ nv127 _ nv124 hs
        intro misses160 many162 plane164 h s186 H187 v161 nv161 v163 nv163 hs
        refine fi_inLoop ?_
        refine fi_seq ?_
        refine fi_seq ?_
        refine fi_region ?_
        refine so_move (v := (.v (.int .i64 plane164))) rfl ?_
        refine so_bin rfl rfl ab_geq ?_
        refine so_nil ?_
        replace h := ofP h; rcases h with ⟨c165, h⟩ | ⟨c165, h⟩
        · refine fi_true rfl (decide_eq_true c165) ?_
          refine fi_skip ?_
          refine fi_seq ?_
          refine fi_block ?_
          refine fi_seq ?_
          refine fi_region ?_
          refine so_move (v := (.v v118)) rfl ?_
          refine so_move (v := (.v (.int .i64 plane164))) rfl ?_
          refine sv_callS (impl_BitsUntil_okS v118 y117 plane164 hs (fun _ hs => (hs.shows 2 rfl)) _ h) (fun _ _ ⟨_, _, _, _, e⟩ => e) rfl rfl ?_
          clear h
          rintro _ _ ⟨y166, y167, h, rfl, rfl⟩
          refine so_move (v := (.t [(.v (.int .i64 y166)), (.v (.bool y167))])) rfl ?_
          refine so_extract rfl rfl rfl ?_
          refine so_extract rfl rfl rfl ?_
          refine so_assign (v := (.v (.int .i64 y166))) rfl ?_
          refine so_assign (v := (.v (.bool y167))) rfl ?_
          refine so_nil ?_
          refine fi_seq ?_
          refine fi_region ?_
          refine sv_lds hs 3 rfl rfl (leb rfl) rfl F12.ag38 F12.sz38 ?_
          refine so_move (v := (.v v2)) rfl ?_
          refine so_move (v := (.v v118)) rfl ?_
          refine so_move (v := (.v (.int .i64 a3))) rfl ?_
          refine so_move (v := (.v (.int .i64 plane164))) rfl ?_
          refine so_move (v := (.v (.flt .f32 a4))) rfl ?_
          refine sv_callS (impl_missAbove_okS v0 l0 a1 v2 l2 v118 y117 a3 plane164 a4 hs (fun _ hs => (g0 _ hs.tl.tl.tl.tl)) (fun _ hs => (g2 _ hs.tl.tl.tl.tl)) (fun _ hs => (hs.shows 2 rfl)) _ h) (fun _ _ ⟨_, _, _, _, e⟩ => e) rfl rfl ?_
          clear h
          rintro _ _ ⟨y169, y170, h, rfl, rfl⟩
          refine so_move (v := (.t [(.v (.flt .f32 y169)), (.v (.bool y170))])) rfl ?_
          refine so_extract rfl rfl rfl ?_
          refine so_extract rfl rfl rfl ?_
          refine so_assign (v := (.v (.flt .f32 y169))) rfl ?_
          refine so_assign (v := (.v (.bool y170))) rfl ?_
          refine so_nil ?_
          refine fi_seq ?_
          refine fi_seq ?_
          refine fi_region ?_
          refine so_move (v := (.v (.bool y167))) rfl ?_
          refine so_un rfl au_not ?_
          refine so_move (v := (.v (.bool (!y167)))) rfl ?_
          replace h := ofT h; rcases h with ⟨c172, h⟩ | ⟨c172, h⟩
          · refine so_gyes rfl (not_f c172) ?_
            refine so_move (v := (.v (.bool y170))) rfl ?_
            refine so_gyes rfl (not_f c172) ?_
            refine so_un rfl au_not ?_
            refine so_pick_f (v := (.v (.bool (!y170)))) rfl (not_f c172) rfl ?_
            refine so_nil ?_
            replace h := ofT h; rcases h with ⟨c173, h⟩ | ⟨c173, h⟩
            · refine fi_false rfl (not_f c173) ?_
              refine fi_skip ?_
              refine fi_region ?_
              refine so_move (v := (.v v163)) rfl ?_
              refine so_move (v := (.v (.int .i64 y166))) rfl ?_
              refine sv_bslice hs (eInt .i64) ([y166] : List (Int)) [[(.int .i64 y166)]] F12.te28 F12.sz2 F12.ze2 rfl rfl rfl rfl (fun _ => rfl) rfl (by decide) nofun (fun v174 H175 nv174 hs => ?_)
              obtain ⟨c179, h⟩ := h
              refine sv_app hs 2 rfl (hs.shows 0 rfl) (fun _ => rfl) (by decide) F12.ta28_28 (by decide) c179 rfl rfl nofun (fun v177 H178 kv177 hs => ?_)
              replace hs := hs.del 0
              have nv177 := kv177 nv163
              refine so_move (v := (.v v161)) rfl ?_
              refine so_move (v := (.v (.flt .f32 y169))) rfl ?_
              refine sv_bslice hs (eFlt .f32) ([y169] : List (Nat)) [[(.flt .f32 y169)]] F12.te24 F12.sz26 F12.ze26 rfl rfl rfl rfl (fun _ => rfl) rfl (by decide) nofun (fun v180 H181 nv180 hs => ?_)
              obtain ⟨c185, h⟩ := h
              refine sv_app hs 1 rfl (hs.shows 0 rfl) (fun _ => rfl) (by decide) F12.ta24_24 (by decide) c185 rfl rfl nofun (fun v183 H184 kv183 hs => ?_)
              replace hs := hs.del 0
              have nv183 := kv183 nv161
              refine so_assign (v := (.v v177)) rfl ?_
              refine so_assign (v := (.v v183)) rfl ?_
              refine so_nil ?_
              refine fi_inBlock ?_
              refine fi_region ?_
              refine so_move (v := (.v (.int .i64 plane164))) rfl ?_
              refine so_bin rfl rfl ab_sub ?_
              refine so_assign (v := (.v (.int .i64 (IntKind.i64.wrap (plane164 - (1 : Int)))))) rfl ?_
              refine so_nil ?_
              exact fi_at [(1, (.v v2)), (2, (.v (.int .i64 a3))), (3, (.v (.flt .f32 a4))), (4, (.v (.ptr id101 0))), (15, (.v v118)), (17, (.v v177)), (18, (.v v183)), (19, (.v (.int .i64 (IntKind.i64.wrap (plane164 - (1 : Int))))))] ⟨rfl, rfl, rfl, rfl, rfl, rfl, rfl, rfl, trivial⟩ (h _ _ _ nv183 _ nv177 hs)
            · refine fi_true rfl (not_t c173) ?_
              refine fi_seq ?_
              refine fi_region ?_
              refine so_assign (v := (.v .nilsl)) rfl ?_
              refine so_assign (v := (.v .nilsl)) rfl ?_
              refine so_assign (v := (.v (.bool false))) rfl ?_
              refine so_nil ?_
              exact by_ret rfl ⟨_, _, _, h, _, _, rfl, (Sep.nil (Sep.nil (Sep.dropn 4 hs) 1) 1)⟩
          · refine so_gno rfl (not_t c172) ?_
            refine so_gno rfl (not_t c172) ?_
            refine so_pick_t (v := (.v (.bool true))) rfl (not_t c172) rfl ?_
            refine so_nil ?_
            refine fi_true rfl rfl ?_
            refine fi_seq ?_
            refine fi_region ?_
            refine so_assign (v := (.v .nilsl)) rfl ?_
            refine so_assign (v := (.v .nilsl)) rfl ?_
            refine so_assign (v := (.v (.bool false))) rfl ?_
            refine so_nil ?_
            exact by_ret rfl ⟨_, _, _, h, _, _, rfl, (Sep.nil (Sep.nil (Sep.dropn 4 hs) 1) 1)⟩
        · refine fi_false rfl (decide_eq_false c165) ?_
          refine fi_exit rfl ?_
          refine fi_seq ?_
          refine fi_region ?_
          refine so_move (v := (.v v163)) rfl ?_
          refine so_move (v := (.v v161)) rfl ?_
          refine so_assign (v := (.v v163)) rfl ?_
          refine so_assign (v := (.v v161)) rfl ?_
          refine so_assign (v := (.v (.bool true))) rfl ?_
          refine so_nil ?_
          exact by_ret rfl ⟨_, _, _, h, _, _, rfl, (Sep.front 1 (Sep.del 2 (Sep.del 2 hs)) rfl)⟩
      · refine fi_true rfl (not_t c123) ?_
        refine fi_seq ?_
        refine fi_region ?_
        refine so_assign (v := (.v .nilsl)) rfl ?_
        refine so_assign (v := (.v .nilsl)) rfl ?_
        refine so_assign (v := (.v (.bool false))) rfl ?_
        refine so_nil ?_
        exact by_ret rfl ⟨_, _, _, h, _, _, rfl, (Sep.nil (Sep.nil (Sep.dropn 4 hs) 1) 1)⟩
    · refine so_gno rfl (not_t c122) ?_
      refine so_gno rfl (not_t c122) ?_
      refine so_pick_t (v := (.v (.bool true))) rfl (not_t c122) rfl ?_
      refine so_nil ?_
      refine fi_true rfl rfl ?_
      refine fi_seq ?_
      refine fi_region ?_
      refine so_assign (v := (.v .nilsl)) rfl ?_
      refine so_assign (v := (.v .nilsl)) rfl ?_
      refine so_assign (v := (.v (.bool false))) rfl ?_
      refine so_nil ?_
      exact by_ret rfl ⟨_, _, _, h, _, _, rfl, (Sep.nil (Sep.nil (Sep.dropn 4 hs) 1) 1)⟩
  · refine fi_true rfl (not_t c111) ?_
    refine fi_seq ?_
    refine fi_region ?_
    refine so_assign (v := (.v .nilsl)) rfl ?_
    refine so_assign (v := (.v .nilsl)) rfl ?_
    refine so_assign (v := (.v (.bool false))) rfl ?_
    refine so_nil ?_
    exact by_ret rfl ⟨_, _, _, h, _, _, rfl, (Sep.nil (Sep.nil (Sep.del 0 (Sep.del 0 hs)) 1) 1)⟩
theorem F13.ag38 : tagg Try.prog 38 = some true := by kernel_rfl
theorem F13.bp38 : bplan Try.prog 38 = some ([.nilsl, (.flt .f32 (0 : Nat))], [(0, 1), (1, 1)]) := by kernel_rfl
theorem F13.sz26 : tsz Try.prog 26 = some 1 := by kernel_rfl
theorem F13.sz38 : tsz Try.prog 38 = some 2 := by kernel_rfl
theorem F13.te24 : telem Try.prog 24 = some 26 := by kernel_rfl
theorem F13.ze26 : tzero Try.prog 26 = some [(.flt .f32 (0 : Nat))] := by kernel_rfl
theorem F13.ze38 : tzero Try.prog 38 = some [.nilsl, (.flt .f32 (0 : Nat))] := by kernel_rfl
theorem impl_LinesScheme_ok {fr : List Pc} {H : Heap}  (hs : Sep H (fr))  (K : (List (Nat)) → Nat → Prop) (h : impl_LinesScheme.wp  K) : OkQ Try.prog 13 [] H (fun r H2 => ∃ (y0 : List (Nat)) (y1 : Nat), K y0 y1 ∧ ∃ (w0_ : AV), r = (.g [w0_, (.flt .f32 y1)]) ∧ Sep H2 (Pc.osl w0_ 1 (enc (eFlt .f32) y0) :: fr)) := by
  unfold impl_LinesScheme.wp at h
  refine of_body Try.f13 F.hm Try.func13 rfl Try.call13 (by kernel_rfl) (by simp) ?_
  refine fi_seq ?_
  refine fi_region ?_
  refine sv_alloc hs F13.ze38 rfl nofun (fun id101 H102 hs => ?_)
  refine so_nil ?_
  refine fi_seq ?_
  refine fi_region ?_
  refine sv_bslice hs (eFlt .f32) ([(cz .f32 3204448256), (cz .f32 1048576000)] : List (Nat)) [[(.flt .f32 (cz .f32 3204448256))], [(.flt .f32 (cz .f32 1048576000))]] F13.te24 F13.sz26 F13.ze26 rfl rfl rfl rfl (fun _ => rfl) rfl (by decide) nofun (fun v104 H105 nv104 hs => ?_)
  refine so_build F13.bp38 (cps := [(0, [v104]), (1, [(.flt .f32 (cz .f32 1065353216))])]) rfl (fac (stc (hs.shows 0 rfl).stor stn) (fac (stc rfl stn) fan)) rfl ?_
  refine sv_st hs 1 rfl rfl rfl (c := [v104, (.flt .f32 (cz .f32 1065353216))]) rfl F13.sz38 rfl (stc (hs.shows 0 rfl).stor (stc rfl stn)) (leb rfl) (cs' := [v104, (.flt .f32 (cz .f32 1065353216))]) rfl nofun (fun H107 hs => ?_)
  refine so_nil ?_
  exact by_ret (res_mk (ar_cells rfl F13.ag38 F13.sz38 (hs.lds 1 rfl (leb rfl) rfl) ar_nil) rfl) ⟨_, _, h, _, rfl, (Sep.del 1 hs)⟩
theorem F38.bp106 : bplan Try.prog 106 = some ([.nilsl, (.int .i64 (0 : Int)), (.int .u64 (0 : Int))], [(0, 1), (1, 1), (2, 1)]) := by kernel_rfl
theorem F38.inf106 : (Try.prog.info? 106).isSome = true := by kernel_rfl
theorem spec_l00From_ok {fr : List Pc} {H : Heap} (v0 : AV) (l0 : List (Int)) (hs : Sep H (fr)) (g0 : ∀ H, Sep H fr → Shows H v0 1 (enc (eInt .u8) l0)) (K : Bool → Int → Int → Prop) (h : spec_l00From.wp l0 K) : OkQ Try.prog 38 [(.v v0)] H (fun r H2 => ∃ (y0 : Bool) (y1 : Int) (y2 : Int), K y0 y1 y2 ∧ ∃ (w0_ : Nat), r = (.v (.ptr w0_ 0)) ∧ Sep H2 (Pc.box w0_ [(bif y0 then v0 else .nilsl), (.int .i64 y1), (.int .u64 y2)] :: fr)) := by
  unfold spec_l00From.wp at h
  refine of_body Try.f38 F.hm Try.func38 rfl Try.call38 (by kernel_rfl) (by simp) ?_
  refine fi_seq ?_
  refine fi_region ?_
  refine so_assign (v := (.v .nilptr)) rfl ?_
  refine so_nil ?_
  refine fi_seq ?_
  refine fi_region ?_
  refine so_move (v := (.v v0)) rfl ?_
  refine so_build F38.bp106 (cps := [(0, [v0])]) rfl (fac (stc (g0 _ hs).stor stn) fan) rfl ?_
  refine sv_box hs rfl (c := [v0, (.int .i64 (0 : Int)), (.int .u64 (0 : Int))]) rfl F38.inf106 (stc (g0 _ hs).stor (stc rfl (stc rfl stn))) nofun (fun id101 H102 hs => ?_)
  refine so_assign (v := (.v (.ptr id101 0))) rfl ?_
  refine so_nil ?_
  exact by_ret rfl ⟨_, _, _, h, _, rfl, hs⟩
theorem F101.ag104 : tagg Try.prog 104 = some false := by kernel_rfl
theorem F101.ag22 : tagg Try.prog 22 = some false := by kernel_rfl
theorem F101.ag3 : tagg Try.prog 3 = some false := by kernel_rfl
theorem F101.ag5 : tagg Try.prog 5 = some false := by kernel_rfl
theorem F101.fd106_0 : tfield Try.prog 106 0 = some (0, 1, false) := by kernel_rfl
theorem F101.fd106_1 : tfield Try.prog 106 1 = some (1, 1, false) := by kernel_rfl
theorem F101.fd106_2 : tfield Try.prog 106 2 = some (2, 1, false) := by kernel_rfl
theorem F101.it104 : tint Try.prog 104 = some .u64 := by kernel_rfl
theorem F101.it2 : tint Try.prog 2 = some .i64 := by kernel_rfl
theorem F101.it3 : tint Try.prog 3 = some .i64 := by kernel_rfl
theorem F101.sz104 : tsz Try.prog 104 = some 1 := by kernel_rfl
theorem F101.sz3 : tsz Try.prog 3 = some 1 := by kernel_rfl
theorem F101.ti22 : (telem Try.prog 22).isSome = true := by kernel_rfl
theorem F101.tl22 : (telem Try.prog 22).bind (tsz Try.prog) = some 1 := by kernel_rfl
theorem F101.us104 : (Try.prog.underlying 104).isSome = true := by kernel_rfl
theorem F101.us3 : (Try.prog.underlying 3).isSome = true := by kernel_rfl
theorem F101.us5 : (Try.prog.underlying 5).isSome = true := by kernel_rfl
theorem spec_l00Src_next_ok {fr : List Pc} {H : Heap} (i0 : Nat) (v0 : AV) (l0 : List (Int)) (a1 : Int) (a2 : Int) (hs : Sep H (Pc.box i0 [v0, (.int .i64 a1), (.int .u64 a2)] :: fr)) (g0 : ∀ H, Sep H fr → Shows H v0 1 (enc (eInt .u8) l0)) (K : Int → Int → Int → Prop) (h : spec_l00Src_next.wp l0 a1 a2 K) : OkQ Try.prog 101 [(.v (.ptr i0 0))] H (fun r H2 => ∃ (y0 : Int) (y1 : Int) (y2 : Int), K y0 y1 y2 ∧ r = (.v (.int .i64 y0)) ∧ Sep H2 (Pc.box i0 [v0, (.int .i64 y1), (.int .u64 y2)] :: fr)) := by
  unfold spec_l00Src_next.wp at h
  refine of_body Try.f101 F.hm Try.func101 rfl Try.call101 (by kernel_rfl) (by simp) ?_
  refine fi_seq ?_
  refine fi_region ?_
  refine so_assign (v := (.v (.int .i64 (0 : Int)))) rfl ?_
  refine so_nil ?_
  refine fi_seq ?_
  refine fi_region ?_
  refine so_assign (v := (.v (.int .i64 (0 : Int)))) rfl ?_
  refine so_nil ?_
  refine fi_seq ?_
  refine fi_seq ?_
  refine fi_region ?_
  refine so_move (v := (.v (.ptr i0 0))) rfl ?_
  refine so_nilCheck rfl ?_
  refine so_fieldAddr rfl F101.fd106_1 ?_
  refine sv_ld hs 0 rfl rfl rfl F101.ag3 ?_
  refine so_move (v := (.v (.ptr i0 0))) rfl ?_
  refine so_nilCheck rfl ?_
  refine so_fieldAddr rfl F101.fd106_0 ?_
  refine sv_ld hs 0 rfl rfl rfl F101.ag22 ?_
  refine sv_len (g0 _ hs.tl) (fun _ => rfl) (by decide) rfl F101.ti22 ?_
  refine so_bin rfl rfl ab_lss ?_
  refine so_nil ?_
  replace h := ofP h; rcases h with ⟨c102, h⟩ | ⟨c102, h⟩
  · refine fi_true rfl (decide_eq_true c102) ?_
    refine fi_region ?_
    refine so_move (v := (.v (.ptr i0 0))) rfl ?_
    refine so_nilCheck rfl ?_
    refine so_fieldAddr rfl F101.fd106_0 ?_
    refine sv_ld hs 0 rfl rfl rfl F101.ag22 ?_
    refine so_move (v := (.v (.ptr i0 0))) rfl ?_
    refine so_nilCheck rfl ?_
    refine so_fieldAddr rfl F101.fd106_1 ?_
    refine sv_ld hs 0 rfl rfl rfl F101.ag3 ?_
    obtain ⟨c103, h⟩ := h
    refine sv_idx (g0 _ hs.tl) c103 (fun _ => rfl) (by decide) rfl rfl F101.tl22 ?_
    refine sv_cell (g0 _ hs.tl) c103 (0 : Int) 0 (fun x => (AV.int .u8 x)) (fun _ => rfl) (fun _ => rfl) rfl F101.ag5 ?_
    refine sv_ii rfl F101.us5 F101.it3 ?_
    refine so_assign (v := (.v (.int .i64 (IntKind.i64.wrap (l0.getD (a1).toNat (0 : Int)))))) rfl ?_
    refine so_nil ?_
    refine fi_seq ?_
    refine fi_region ?_
    refine so_move (v := (.v (.ptr i0 0))) rfl ?_
    refine so_nilCheck rfl ?_
    refine so_fieldAddr rfl F101.fd106_1 ?_
    refine sv_ld hs 0 rfl rfl rfl F101.ag3 ?_
    refine so_bin rfl rfl ab_add ?_
    refine so_nilCheck rfl ?_
    refine so_fieldAddr rfl F101.fd106_1 ?_
    refine sv_st hs 0 rfl rfl rfl (c := [(.int .i64 (IntKind.i64.wrap (a1 + (1 : Int))))]) rfl F101.sz3 rfl (stc rfl stn) (leb rfl) (cs' := [v0, (.int .i64 (IntKind.i64.wrap (a1 + (1 : Int)))), (.int .u64 a2)]) rfl nofun (fun H104 hs => ?_)
    refine so_nil ?_
    refine fi_seq ?_
    refine fi_region ?_
    refine so_move (v := (.v (.ptr i0 0))) rfl ?_
    refine so_move (v := (.v (.ptr i0 0))) rfl ?_
    refine so_nilCheck rfl ?_
    refine so_fieldAddr rfl F101.fd106_2 ?_
    refine sv_ld hs 0 rfl rfl rfl F101.ag104 ?_
    refine so_bin rfl rfl ab_mul ?_
    refine so_move (v := (.v (.int .i64 (IntKind.i64.wrap (l0.getD (a1).toNat (0 : Int)))))) rfl ?_
    refine sv_ii rfl F101.us3 F101.it104 ?_
    refine so_bin rfl rfl ab_add ?_
    refine so_bin rfl rfl ab_add ?_
    refine so_nilCheck rfl ?_
    refine so_fieldAddr rfl F101.fd106_2 ?_
    refine sv_st hs 0 rfl rfl rfl (c := [(.int .u64 (IntKind.u64.wrap ((IntKind.u64.wrap ((IntKind.u64.wrap (a2 * (6364136223846793005 : Int))) + (IntKind.u64.wrap (IntKind.i64.wrap (l0.getD (a1).toNat (0 : Int)))))) + (1442695040888963407 : Int))))]) rfl F101.sz104 rfl (stc rfl stn) (leb rfl) (cs' := [v0, (.int .i64 (IntKind.i64.wrap (a1 + (1 : Int)))), (.int .u64 (IntKind.u64.wrap ((IntKind.u64.wrap ((IntKind.u64.wrap (a2 * (6364136223846793005 : Int))) + (IntKind.u64.wrap (IntKind.i64.wrap (l0.getD (a1).toNat (0 : Int)))))) + (1442695040888963407 : Int))))]) rfl nofun (fun H105 hs => ?_)
    refine so_nil ?_
    refine fi_seq ?_
    refine fi_seq ?_
    refine fi_region ?_
    refine so_move (v := (.v (.ptr i0 0))) rfl ?_
    refine so_nilCheck rfl ?_
    refine so_fieldAddr rfl F101.fd106_1 ?_
    refine sv_ld hs 0 rfl rfl rfl F101.ag3 ?_
    refine so_move (v := (.v (.ptr i0 0))) rfl ?_
    refine so_nilCheck rfl ?_
    refine so_fieldAddr rfl F101.fd106_0 ?_
    refine sv_ld hs 0 rfl rfl rfl F101.ag22 ?_
    refine sv_len (g0 _ hs.tl) (fun _ => rfl) (by decide) rfl F101.ti22 ?_
    refine so_bin rfl rfl ab_leq ?_
    refine so_nil ?_
    replace h := ofP h; rcases h with ⟨c106, h⟩ | ⟨c106, h⟩
    · refine fi_true rfl (decide_eq_true c106) ?_
      refine fi_seq ?_
      refine fi_region ?_
      refine so_move (v := (.v (.int .i64 (IntKind.i64.wrap (l0.getD (a1).toNat (0 : Int)))))) rfl ?_
      refine so_assign (v := (.v (.int .i64 (IntKind.i64.wrap (l0.getD (a1).toNat (0 : Int)))))) rfl ?_
      refine so_nil ?_
      exact by_ret rfl ⟨_, _, _, h, rfl, hs⟩
    · refine fi_false rfl (decide_eq_false c106) ?_
      refine fi_skip ?_
      refine fi_seq ?_
      refine fi_region ?_
      refine so_move (v := (.v (.ptr i0 0))) rfl ?_
      refine so_nilCheck rfl ?_
      refine so_fieldAddr rfl F101.fd106_2 ?_
      refine sv_ld hs 0 rfl rfl rfl F101.ag104 ?_
      refine so_bin rfl rfl (ab_shr (by decide)) ?_
      refine so_bin rfl rfl ab_and ?_
      refine sv_ii rfl F101.us104 F101.it2 ?_
      refine so_assign (v := (.v (.int .i64 (IntKind.i64.wrap (ibits .and .u64 (Int.fdiv (IntKind.u64.wrap ((IntKind.u64.wrap ((IntKind.u64.wrap (a2 * (6364136223846793005 : Int))) + (IntKind.u64.wrap (IntKind.i64.wrap (l0.getD (a1).toNat (0 : Int)))))) + (1442695040888963407 : Int))) (2 ^ (min ((40 : Int)).toNat IntKind.u64.bits))) (255 : Int)))))) rfl ?_
      refine so_nil ?_
      exact by_ret rfl ⟨_, _, _, h, rfl, hs⟩
  · refine fi_false rfl (decide_eq_false c102) ?_
    refine fi_skip ?_
    refine fi_seq ?_
    refine fi_region ?_
    refine so_move (v := (.v (.ptr i0 0))) rfl ?_
    refine so_nilCheck rfl ?_
    refine so_fieldAddr rfl F101.fd106_1 ?_
    refine sv_ld hs 0 rfl rfl rfl F101.ag3 ?_
    refine so_bin rfl rfl ab_add ?_
    refine so_nilCheck rfl ?_
    refine so_fieldAddr rfl F101.fd106_1 ?_
    refine sv_st hs 0 rfl rfl rfl (c := [(.int .i64 (IntKind.i64.wrap (a1 + (1 : Int))))]) rfl F101.sz3 rfl (stc rfl stn) (leb rfl) (cs' := [v0, (.int .i64 (IntKind.i64.wrap (a1 + (1 : Int)))), (.int .u64 a2)]) rfl nofun (fun H107 hs => ?_)
    refine so_nil ?_
    refine fi_seq ?_
    refine fi_region ?_
    refine so_move (v := (.v (.ptr i0 0))) rfl ?_
    refine so_move (v := (.v (.ptr i0 0))) rfl ?_
    refine so_nilCheck rfl ?_
    refine so_fieldAddr rfl F101.fd106_2 ?_
    refine sv_ld hs 0 rfl rfl rfl F101.ag104 ?_
    refine so_bin rfl rfl ab_mul ?_
    refine so_move (v := (.v (.int .i64 (0 : Int)))) rfl ?_
    refine sv_ii rfl F101.us3 F101.it104 ?_
    refine so_bin rfl rfl ab_add ?_
    refine so_bin rfl rfl ab_add ?_
    refine so_nilCheck rfl ?_
    refine so_fieldAddr rfl F101.fd106_2 ?_
    refine sv_st hs 0 rfl rfl rfl (c := [(.int .u64 (IntKind.u64.wrap ((IntKind.u64.wrap ((IntKind.u64.wrap (a2 * (6364136223846793005 : Int))) + (IntKind.u64.wrap (0 : Int)))) + (1442695040888963407 : Int))))]) rfl F101.sz104 rfl (stc rfl stn) (leb rfl) (cs' := [v0, (.int .i64 (IntKind.i64.wrap (a1 + (1 : Int)))), (.int .u64 (IntKind.u64.wrap ((IntKind.u64.wrap ((IntKind.u64.wrap (a2 * (6364136223846793005 : Int))) + (IntKind.u64.wrap (0 : Int)))) + (1442695040888963407 : Int))))]) rfl nofun (fun H108 hs => ?_)
    refine so_nil ?_
    refine fi_seq ?_
    refine fi_seq ?_
    refine fi_region ?_
    refine so_move (v := (.v (.ptr i0 0))) rfl ?_
    refine so_nilCheck rfl ?_
    refine so_fieldAddr rfl F101.fd106_1 ?_
    refine sv_ld hs 0 rfl rfl rfl F101.ag3 ?_
    refine so_move (v := (.v (.ptr i0 0))) rfl ?_
    refine so_nilCheck rfl ?_
    refine so_fieldAddr rfl F101.fd106_0 ?_
    refine sv_ld hs 0 rfl rfl rfl F101.ag22 ?_
    refine sv_len (g0 _ hs.tl) (fun _ => rfl) (by decide) rfl F101.ti22 ?_
    refine so_bin rfl rfl ab_leq ?_
    refine so_nil ?_
    replace h := ofP h; rcases h with ⟨c109, h⟩ | ⟨c109, h⟩
    · refine fi_true rfl (decide_eq_true c109) ?_
      refine fi_seq ?_
      refine fi_region ?_
      refine so_move (v := (.v (.int .i64 (0 : Int)))) rfl ?_
      refine so_assign (v := (.v (.int .i64 (0 : Int)))) rfl ?_
      refine so_nil ?_
      exact by_ret rfl ⟨_, _, _, h, rfl, hs⟩
    · refine fi_false rfl (decide_eq_false c109) ?_
      refine fi_skip ?_
      refine fi_seq ?_
      refine fi_region ?_
      refine so_move (v := (.v (.ptr i0 0))) rfl ?_
      refine so_nilCheck rfl ?_
      refine so_fieldAddr rfl F101.fd106_2 ?_
      refine sv_ld hs 0 rfl rfl rfl F101.ag104 ?_
      refine so_bin rfl rfl (ab_shr (by decide)) ?_
      refine so_bin rfl rfl ab_and ?_
      refine sv_ii rfl F101.us104 F101.it2 ?_
      refine so_assign (v := (.v (.int .i64 (IntKind.i64.wrap (ibits .and .u64 (Int.fdiv (IntKind.u64.wrap ((IntKind.u64.wrap ((IntKind.u64.wrap (a2 * (6364136223846793005 : Int))) + (IntKind.u64.wrap (0 : Int)))) + (1442695040888963407 : Int))) (2 ^ (min ((40 : Int)).toNat IntKind.u64.bits))) (255 : Int)))))) rfl ?_
      refine so_nil ?_
      exact by_ret rfl ⟨_, _, _, h, rfl, hs⟩
theorem spec_l00Src_pick_ok {fr : List Pc} {H : Heap} (i0 : Nat) (v0 : AV) (l0 : List (Int)) (a1 : Int) (a2 : Int) (a3 : Int) (hs : Sep H (Pc.box i0 [v0, (.int .i64 a1), (.int .u64 a2)] :: fr)) (g0 : ∀ H, Sep H fr → Shows H v0 1 (enc (eInt .u8) l0)) (K : Int → Int → Int → Prop) (h : spec_l00Src_pick.wp l0 a1 a2 a3 K) : OkQ Try.prog 51 [(.v (.ptr i0 0)), (.v (.int .i64 a3))] H (fun r H2 => ∃ (y0 : Int) (y1 : Int) (y2 : Int), K y0 y1 y2 ∧ r = (.v (.int .i64 y0)) ∧ Sep H2 (Pc.box i0 [v0, (.int .i64 y1), (.int .u64 y2)] :: fr)) := by
  unfold spec_l00Src_pick.wp at h
  refine of_body Try.f51 F.hm Try.func51 rfl Try.call51 (by kernel_rfl) (by simp) ?_
  refine fi_seq ?_
  refine fi_region ?_
  refine so_assign (v := (.v (.int .i64 (0 : Int)))) rfl ?_
  refine so_nil ?_
  refine fi_seq ?_
  refine fi_seq ?_
  refine fi_region ?_
  refine so_move (v := (.v (.int .i64 a3))) rfl ?_
  refine so_bin rfl rfl ab_leq ?_
  refine so_nil ?_
  replace h := ofP h; rcases h with ⟨c102, h⟩ | ⟨c102, h⟩
  · refine fi_true rfl (decide_eq_true c102) ?_
    refine fi_seq ?_
    refine fi_region ?_
    refine so_assign (v := (.v (.int .i64 (0 : Int)))) rfl ?_
    refine so_nil ?_
    exact by_ret rfl ⟨_, _, _, h, rfl, hs⟩
  · refine fi_false rfl (decide_eq_false c102) ?_
    refine fi_skip ?_
    refine fi_seq ?_
    refine fi_region ?_
    refine so_move (v := (.v (.ptr i0 0))) rfl ?_
    refine sv_call (spec_l00Src_next_ok i0 v0 l0 a1 a2 hs (fun _ hs => (g0 _ hs)) _ h) rfl rfl nofun ?_
    clear h hs
    rintro _ H106 ⟨y103, y104, y105, h, rfl, hs⟩
    refine so_assign (v := (.v (.int .i64 y103))) rfl ?_
    refine so_nil ?_
    refine fi_seq ?_
    refine fi_seq ?_
    refine fi_region ?_
    refine so_move (v := (.v (.int .i64 a3))) rfl ?_
    refine so_bin rfl rfl ab_gtr ?_
    refine so_nil ?_
    replace h := ofP h; rcases h with ⟨c107, h⟩ | ⟨c107, h⟩
    · refine fi_true rfl (decide_eq_true c107) ?_
      refine fi_region ?_
      refine so_move (v := (.v (.int .i64 y103))) rfl ?_
      refine so_bin rfl rfl ab_mul ?_
      refine so_move (v := (.v (.ptr i0 0))) rfl ?_
      refine sv_call (spec_l00Src_next_ok i0 v0 l0 y104 y105 hs (fun _ hs => (g0 _ hs)) _ h) rfl rfl nofun ?_
      clear h hs
      rintro _ H111 ⟨y108, y109, y110, h, rfl, hs⟩
      refine so_bin rfl rfl ab_add ?_
      refine so_assign (v := (.v (.int .i64 (IntKind.i64.wrap ((IntKind.i64.wrap (y103 * (256 : Int))) + y108))))) rfl ?_
      refine so_nil ?_
      refine fi_seq ?_
      refine fi_region ?_
      refine so_move (v := (.v (.int .i64 (IntKind.i64.wrap ((IntKind.i64.wrap (y103 * (256 : Int))) + y108))))) rfl ?_
      refine so_move (v := (.v (.int .i64 a3))) rfl ?_
      obtain ⟨c112, h⟩ := h
      refine so_bin rfl rfl (ab_rem c112) ?_
      refine so_assign (v := (.v (.int .i64 (Int.tmod (IntKind.i64.wrap ((IntKind.i64.wrap (y103 * (256 : Int))) + y108)) a3)))) rfl ?_
      refine so_nil ?_
      exact by_ret rfl ⟨_, _, _, h, rfl, hs⟩
    · refine fi_false rfl (decide_eq_false c107) ?_
      refine fi_skip ?_
      refine fi_seq ?_
      refine fi_region ?_
      refine so_move (v := (.v (.int .i64 y103))) rfl ?_
      refine so_move (v := (.v (.int .i64 a3))) rfl ?_
      obtain ⟨c113, h⟩ := h
      refine so_bin rfl rfl (ab_rem c113) ?_
      refine so_assign (v := (.v (.int .i64 (Int.tmod y103 a3)))) rfl ?_
      refine so_nil ?_
      exact by_ret rfl ⟨_, _, _, h, rfl, hs⟩
theorem F14.fl26 : tflt Try.prog 26 = some .f32 := by kernel_rfl
theorem F14.in26 : tint Try.prog 26 = none := by kernel_rfl
theorem F14.sz2 : tsz Try.prog 2 = some 1 := by kernel_rfl
theorem F14.sz26 : tsz Try.prog 26 = some 1 := by kernel_rfl
theorem F14.ta24_24 : tapp Try.prog 24 24 = some (1, 4) := by kernel_rfl
theorem F14.ta28_28 : tapp Try.prog 28 28 = some (1, 8) := by kernel_rfl
theorem F14.te24 : telem Try.prog 24 = some 26 := by kernel_rfl
theorem F14.te28 : telem Try.prog 28 = some 2 := by kernel_rfl
theorem F14.us2 : (Try.prog.underlying 2).isSome = true := by kernel_rfl
theorem F14.ze2 : tzero Try.prog 2 = some [(.int .i64 (0 : Int))] := by kernel_rfl
theorem F14.ze26 : tzero Try.prog 26 = some [(.flt .f32 (0 : Nat))] := by kernel_rfl
theorem spec_R8Table_ok {fr : List Pc} {H : Heap} (v0 : AV) (l0 : List (Int)) (hs : Sep H (fr)) (g0 : ∀ H, Sep H fr → Shows H v0 1 (enc (eInt .u8) l0)) (K : (List (Int)) → (List (Nat)) → Prop) (h : spec_R8Table.wp l0 K) : OkQ Try.prog 14 [(.v v0)] H (fun r H2 => ∃ (y0 : List (Int)) (y1 : List (Nat)), K y0 y1 ∧ ∃ (w0_ : AV) (w1_ : AV), r = (.t [(.v w0_), (.v w1_)]) ∧ Sep H2 (Pc.osl w0_ 1 (enc (eInt .i64) y0) :: Pc.osl w1_ 1 (enc (eFlt .f32) y1) :: fr)) := by
  unfold spec_R8Table.wp at h
  refine of_body Try.f14 F.hm Try.func14 rfl Try.call14 (by kernel_rfl) (by simp) ?_
  refine fi_seq ?_
  refine fi_region ?_
  refine so_assign (v := (.v .nilsl)) rfl ?_
  refine so_assign (v := (.v .nilsl)) rfl ?_
  refine so_nil ?_
  refine fi_seq ?_
  refine fi_region ?_
  refine so_move (v := (.v v0)) rfl ?_
  refine sv_call (spec_l00From_ok v0 l0 hs (fun _ hs => (g0 _ hs)) _ h) rfl rfl nofun ?_
  clear h hs
  rintro _ H106 ⟨y101, y102, y103, h, i104, rfl, hs⟩
  replace h := ofT h; rcases h with ⟨c107, h⟩ | ⟨c107, h⟩
  · subst c107
    refine so_assign (v := (.v (.ptr i104 0))) rfl ?_
    refine so_nil ?_
    refine fi_seq ?_
    refine fi_region ?_
    refine sv_bslice hs (eInt .i64) ([] : List (Int)) [] F14.te28 F14.sz2 F14.ze2 rfl rfl rfl rfl (fun _ => rfl) rfl (by decide) nofun (fun v108 H109 nv108 hs => ?_)
    refine so_assign (v := (.v v108)) rfl ?_
    refine so_nil ?_
    refine fi_seq ?_
    refine fi_region ?_
    refine sv_bslice hs (eFlt .f32) ([] : List (Nat)) [] F14.te24 F14.sz26 F14.ze26 rfl rfl rfl rfl (fun _ => rfl) rfl (by decide) nofun (fun v111 H112 nv111 hs => ?_)
    refine so_assign (v := (.v v111)) rfl ?_
    refine so_nil ?_
    refine fi_seq ?_
    refine fi_region ?_
    refine so_move (v := (.v (.ptr i104 0))) rfl ?_
    replace hs := (Sep.front 2 hs rfl)
    refine sv_call (spec_l00Src_pick_ok i104 v0 l0 y102 y103 (4 : Int) hs (fun _ hs => (g0 _ hs.tl.tl)) _ h) rfl rfl nofun ?_
    clear h hs
    rintro _ H117 ⟨y114, y115, y116, h, rfl, hs⟩
    refine so_assign (v := (.v (.int .i64 y114))) rfl ?_
    refine so_nil ?_
    refine fi_seq ?_
    refine fi_seq ?_
    refine fi_region ?_
    refine so_move (v := (.v (.ptr i104 0))) rfl ?_
    refine sv_call (spec_l00Src_pick_ok i104 v0 l0 y115 y116 (8 : Int) hs (fun _ hs => (g0 _ hs.tl.tl)) _ h) rfl rfl nofun ?_
    clear h hs
    rintro _ H121 ⟨y118, y119, y120, h, rfl, hs⟩
    refine so_bin rfl rfl ab_add ?_
    refine so_assign (v := (.v (.int .i64 (IntKind.i64.wrap ((1 : Int) + y118))))) rfl ?_
    refine so_nil ?_
    refine fi_block ?_
    refine fi_loop ?_
    refine fi_at [(4, (.v (.ptr i104 0))), (5, (.v v108)), (6, (.v v111)), (7, (.v (.int .i64 y114))), (8, (.v (.int .i64 (IntKind.i64.wrap ((1 : Int) + y118)))))] ⟨rfl, rfl, rfl, rfl, rfl, trivial⟩ ?_
    refine h (fun (misses151 : List (Nat)) (bits153 : List (Int)) (b155 : Int) (b156 : Int) (atq157 : Int) (n158 : Int) => ∀ (s : Nat → TV) (H : Heap) (v152 : AV) (nv152 : v152 ≠ .nilsl) (v154 : AV) (nv154 : v154 ≠ .nilsl), Sep H (Pc.box i104 [v0, (.int .i64 b155), (.int .u64 b156)] :: Pc.osl v152 1 (enc (eFlt .f32) misses151) :: Pc.osl v154 1 (enc (eInt .i64) bits153) :: fr) → Fin _ _ (updL s [(4, (.v (.ptr i104 0))), (5, (.v v154)), (6, (.v v152)), (7, (.v (.int .i64 atq157))), (8, (.v (.int .i64 n158)))]) H _) ?_ _ _ _ nv111 _ nv108 hs
    intro misses151 bits153 b155 b156 atq157 n158 h s180 H181 v152 nv152 v154 nv154 hs
    refine fi_inLoop ?_
    refine fi_seq ?_
    refine fi_seq ?_
    refine fi_region ?_
    refine so_move (v := (.v (.int .i64 n158))) rfl ?_
    refine so_bin rfl rfl ab_gtr ?_
    refine so_nil ?_
    replace h := ofP h; rcases h with ⟨c159, h⟩ | ⟨c159, h⟩
    · refine fi_true rfl (decide_eq_true c159) ?_
      refine fi_skip ?_
      refine fi_seq ?_
      refine fi_block ?_
      refine fi_seq ?_
      refine fi_region ?_
      refine so_move (v := (.v v154)) rfl ?_
      refine so_move (v := (.v (.int .i64 atq157))) rfl ?_
      refine sv_bslice hs (eInt .i64) ([atq157] : List (Int)) [[(.int .i64 atq157)]] F14.te28 F14.sz2 F14.ze2 rfl rfl rfl rfl (fun _ => rfl) rfl (by decide) nofun (fun v160 H161 nv160 hs => ?_)
      obtain ⟨c165, h⟩ := h
      refine sv_app hs 3 rfl (hs.shows 0 rfl) (fun _ => rfl) (by decide) F14.ta28_28 (by decide) c165 rfl rfl nofun (fun v163 H164 kv163 hs => ?_)
      replace hs := hs.del 0
      have nv163 := kv163 nv154
      refine so_assign (v := (.v v163)) rfl ?_
      refine so_nil ?_
      refine fi_seq ?_
      refine fi_region ?_
      refine so_move (v := (.v v152)) rfl ?_
      refine so_move (v := (.v (.ptr i104 0))) rfl ?_
      refine sv_call (spec_l00Src_pick_ok i104 v0 l0 b155 b156 (33 : Int) hs (fun _ hs => (g0 _ hs.tl.tl)) _ h) rfl rfl nofun ?_
      clear h hs
      rintro _ H169 ⟨y166, y167, y168, h, rfl, hs⟩
      refine sv_if rfl F14.us2 F14.in26 F14.fl26 ?_
      refine so_bin rfl rfl ab_fquo ?_
      refine sv_bslice hs (eFlt .f32) ([(fop .quo .f32 (itof .f32 y166) (cz .f32 1082130432))] : List (Nat)) [[(.flt .f32 (fop .quo .f32 (itof .f32 y166) (cz .f32 1082130432)))]] F14.te24 F14.sz26 F14.ze26 rfl rfl rfl rfl (fun _ => rfl) rfl (by decide) nofun (fun v170 H171 nv170 hs => ?_)
      obtain ⟨c175, h⟩ := h
      refine sv_app hs 2 rfl (hs.shows 0 rfl) (fun _ => rfl) (by decide) F14.ta24_24 (by decide) c175 rfl rfl nofun (fun v173 H174 kv173 hs => ?_)
      replace hs := hs.del 0
      have nv173 := kv173 nv152
      refine so_assign (v := (.v v173)) rfl ?_
      refine so_nil ?_
      refine fi_region ?_
      refine so_move (v := (.v (.int .i64 atq157))) rfl ?_
      refine so_move (v := (.v (.ptr i104 0))) rfl ?_
      refine sv_call (spec_l00Src_pick_ok i104 v0 l0 y167 y168 (6 : Int) hs (fun _ hs => (g0 _ hs.tl.tl)) _ h) rfl rfl nofun ?_
      clear h hs
      rintro _ H179 ⟨y176, y177, y178, h, rfl, hs⟩
      refine so_bin rfl rfl ab_add ?_
      refine so_bin rfl rfl ab_add ?_
      refine so_assign (v := (.v (.int .i64 (IntKind.i64.wrap (atq157 + (IntKind.i64.wrap ((1 : Int) + y176))))))) rfl ?_
      refine so_nil ?_
      refine fi_inBlock ?_
      refine fi_region ?_
      refine so_move (v := (.v (.int .i64 n158))) rfl ?_
      refine so_bin rfl rfl ab_sub ?_
      refine so_assign (v := (.v (.int .i64 (IntKind.i64.wrap (n158 - (1 : Int)))))) rfl ?_
      refine so_nil ?_
      exact fi_at [(4, (.v (.ptr i104 0))), (5, (.v v163)), (6, (.v v173)), (7, (.v (.int .i64 (IntKind.i64.wrap (atq157 + (IntKind.i64.wrap ((1 : Int) + y176))))))), (8, (.v (.int .i64 (IntKind.i64.wrap (n158 - (1 : Int))))))] ⟨rfl, rfl, rfl, rfl, rfl, trivial⟩ (h _ _ _ nv173 _ nv163 hs)
    · refine fi_false rfl (decide_eq_false c159) ?_
      refine fi_exit rfl ?_
      refine fi_seq ?_
      refine fi_region ?_
      refine so_move (v := (.v v154)) rfl ?_
      refine so_move (v := (.v v152)) rfl ?_
      refine so_assign (v := (.v v154)) rfl ?_
      refine so_assign (v := (.v v152)) rfl ?_
      refine so_nil ?_
      exact by_ret rfl ⟨_, _, h, _, _, rfl, (Sep.front 1 (Sep.del 0 hs) rfl)⟩
  · subst c107
    refine so_assign (v := (.v (.ptr i104 0))) rfl ?_
    refine so_nil ?_
    refine fi_seq ?_
    refine fi_region ?_
    refine sv_bslice hs (eInt .i64) ([] : List (Int)) [] F14.te28 F14.sz2 F14.ze2 rfl rfl rfl rfl (fun _ => rfl) rfl (by decide) nofun (fun v182 H183 nv182 hs => ?_)
    refine so_assign (v := (.v v182)) rfl ?_
    refine so_nil ?_
    refine fi_seq ?_
    refine fi_region ?_
    refine sv_bslice hs (eFlt .f32) ([] : List (Nat)) [] F14.te24 F14.sz26 F14.ze26 rfl rfl rfl rfl (fun _ => rfl) rfl (by decide) nofun (fun v185 H186 nv185 hs => ?_)
    refine so_assign (v := (.v v185)) rfl ?_
    refine so_nil ?_
    refine fi_seq ?_
    refine fi_region ?_
    refine so_move (v := (.v (.ptr i104 0))) rfl ?_
    replace hs := (Sep.front 2 hs rfl)
    refine sv_call (spec_l00Src_pick_ok i104 .nilsl ([] : List (Int)) y102 y103 (4 : Int) hs (fun _ hs => (.inl ⟨rfl, rfl⟩ : Shows _ .nilsl 1 (enc (eInt .u8) []))) _ h) rfl rfl nofun ?_
    clear h hs
    rintro _ H191 ⟨y188, y189, y190, h, rfl, hs⟩
    refine so_assign (v := (.v (.int .i64 y188))) rfl ?_
    refine so_nil ?_
    refine fi_seq ?_
    refine fi_seq ?_
    refine fi_region ?_
    refine so_move (v := (.v (.ptr i104 0))) rfl ?_
    refine sv_call (spec_l00Src_pick_ok i104 .nilsl ([] : List (Int)) y189 y190 (8 : Int) hs (fun _ hs => (.inl ⟨rfl, rfl⟩ : Shows _ .nilsl 1 (enc (eInt .u8) []))) _ h) rfl rfl nofun ?_
    clear h hs
    rintro _ H195 ⟨y192, y193, y194, h, rfl, hs⟩
    refine so_bin rfl rfl ab_add ?_
    refine so_assign (v := (.v (.int .i64 (IntKind.i64.wrap ((1 : Int) + y192))))) rfl ?_
    refine so_nil ?_
    refine fi_block ?_
    refine fi_loop ?_
    replace hs := hs.nil 1
    refine fi_at [(4, (.v (.ptr i104 0))), (5, (.v v182)), (6, (.v v185)), (7, (.v (.int .i64 y188))), (8, (.v (.int .i64 (IntKind.i64.wrap ((1 : Int) + y192)))))] ⟨rfl, rfl, rfl, rfl, rfl, trivial⟩ ?_
    refine h (fun (misses225 : List (Nat)) (bits227 : List (Int)) (b230 : List (Int)) (b232 : Int) (b233 : Int) (atq234 : Int) (n235 : Int) => ∀ (s : Nat → TV) (H : Heap) (v226 : AV) (nv226 : v226 ≠ .nilsl) (v228 : AV) (nv228 : v228 ≠ .nilsl) (v231 : AV), Sep H (Pc.osl v231 1 (enc (eInt .u8) b230) :: Pc.box i104 [v231, (.int .i64 b232), (.int .u64 b233)] :: Pc.osl v226 1 (enc (eFlt .f32) misses225) :: Pc.osl v228 1 (enc (eInt .i64) bits227) :: fr) → Fin _ _ (updL s [(4, (.v (.ptr i104 0))), (5, (.v v228)), (6, (.v v226)), (7, (.v (.int .i64 atq234))), (8, (.v (.int .i64 n235)))]) H _) ?_ _ _ _ nv185 _ nv182 _ hs
    intro misses225 bits227 b230 b232 b233 atq234 n235 h s257 H258 v226 nv226 v228 nv228 v231 hs
    refine fi_inLoop ?_
    refine fi_seq ?_
    refine fi_seq ?_
    refine fi_region ?_
    refine so_move (v := (.v (.int .i64 n235))) rfl ?_
    refine so_bin rfl rfl ab_gtr ?_
    refine so_nil ?_
    replace h := ofP h; rcases h with ⟨c236, h⟩ | ⟨c236, h⟩
    · refine fi_true rfl (decide_eq_true c236) ?_
      refine fi_skip ?_
      refine fi_seq ?_
      refine fi_block ?_
      refine fi_seq ?_
      refine fi_region ?_
      refine so_move (v := (.v v228)) rfl ?_
      refine so_move (v := (.v (.int .i64 atq234))) rfl ?_
      refine sv_bslice hs (eInt .i64) ([atq234] : List (Int)) [[(.int .i64 atq234)]] F14.te28 F14.sz2 F14.ze2 rfl rfl rfl rfl (fun _ => rfl) rfl (by decide) nofun (fun v237 H238 nv237 hs => ?_)
      obtain ⟨c242, h⟩ := h
      refine sv_app hs 4 rfl (hs.shows 0 rfl) (fun _ => rfl) (by decide) F14.ta28_28 (by decide) c242 rfl rfl nofun (fun v240 H241 kv240 hs => ?_)
      replace hs := hs.del 0
      have nv240 := kv240 nv228
      refine so_assign (v := (.v v240)) rfl ?_
      refine so_nil ?_
      refine fi_seq ?_
      refine fi_region ?_
      refine so_move (v := (.v v226)) rfl ?_
      refine so_move (v := (.v (.ptr i104 0))) rfl ?_
      replace hs := (Sep.front 1 hs rfl)
      refine sv_call (spec_l00Src_pick_ok i104 v231 b230 b232 b233 (33 : Int) hs (fun _ hs => (hs.shows 0 rfl)) _ h) rfl rfl nofun ?_
      clear h hs
      rintro _ H246 ⟨y243, y244, y245, h, rfl, hs⟩
      refine sv_if rfl F14.us2 F14.in26 F14.fl26 ?_
      refine so_bin rfl rfl ab_fquo ?_
      refine sv_bslice hs (eFlt .f32) ([(fop .quo .f32 (itof .f32 y243) (cz .f32 1082130432))] : List (Nat)) [[(.flt .f32 (fop .quo .f32 (itof .f32 y243) (cz .f32 1082130432)))]] F14.te24 F14.sz26 F14.ze26 rfl rfl rfl rfl (fun _ => rfl) rfl (by decide) nofun (fun v247 H248 nv247 hs => ?_)
      obtain ⟨c252, h⟩ := h
      refine sv_app hs 3 rfl (hs.shows 0 rfl) (fun _ => rfl) (by decide) F14.ta24_24 (by decide) c252 rfl rfl nofun (fun v250 H251 kv250 hs => ?_)
      replace hs := hs.del 0
      have nv250 := kv250 nv226
      refine so_assign (v := (.v v250)) rfl ?_
      refine so_nil ?_
      refine fi_region ?_
      refine so_move (v := (.v (.int .i64 atq234))) rfl ?_
      refine so_move (v := (.v (.ptr i104 0))) rfl ?_
      refine sv_call (spec_l00Src_pick_ok i104 v231 b230 y244 y245 (6 : Int) hs (fun _ hs => (hs.shows 0 rfl)) _ h) rfl rfl nofun ?_
      clear h hs
      rintro _ H256 ⟨y253, y254, y255, h, rfl, hs⟩
      refine so_bin rfl rfl ab_add ?_
      refine so_bin rfl rfl ab_add ?_
      refine so_assign (v := (.v (.int .i64 (IntKind.i64.wrap (atq234 + (IntKind.i64.wrap ((1 : Int) + y253))))))) rfl ?_
      refine so_nil ?_
      refine fi_inBlock ?_
      refine fi_region ?_
      refine so_move (v := (.v (.int .i64 n235))) rfl ?_
      refine so_bin rfl rfl ab_sub ?_
      refine so_assign (v := (.v (.int .i64 (IntKind.i64.wrap (n235 - (1 : Int)))))) rfl ?_
      refine so_nil ?_
      exact fi_at [(4, (.v (.ptr i104 0))), (5, (.v v240)), (6, (.v v250)), (7, (.v (.int .i64 (IntKind.i64.wrap (atq234 + (IntKind.i64.wrap ((1 : Int) + y253))))))), (8, (.v (.int .i64 (IntKind.i64.wrap (n235 - (1 : Int))))))] ⟨rfl, rfl, rfl, rfl, rfl, trivial⟩ (h _ _ _ nv250 _ nv240 _ (Sep.front 3 (Sep.front 2 (Sep.front 3 (Sep.front 3 hs rfl) rfl) rfl) rfl))
    · refine fi_false rfl (decide_eq_false c236) ?_
      refine fi_exit rfl ?_
      refine fi_seq ?_
      refine fi_region ?_
      refine so_move (v := (.v v228)) rfl ?_
      refine so_move (v := (.v v226)) rfl ?_
      refine so_assign (v := (.v v228)) rfl ?_
      refine so_assign (v := (.v v226)) rfl ?_
      refine so_nil ?_
      exact by_ret rfl ⟨_, _, h, _, _, rfl, (Sep.front 1 (Sep.del 0 (Sep.del 0 hs)) rfl)⟩
theorem impl_isLeast_ok {fr : List Pc} {H : Heap} (a0 : Nat) (hs : Sep H (fr))  (K : Bool → Prop) (h : impl_isLeast.wp a0 K) : OkQ Try.prog 53 [(.v (.flt .f32 a0))] H (fun r H2 => ∃ (y0 : Bool), K y0 ∧ r = (.v (.bool y0)) ∧ H = H2) := by
  unfold impl_isLeast.wp at h
  refine of_body Try.f53 F.hm Try.func53 rfl Try.call53 (by kernel_rfl) (by simp) ?_
  refine fi_seq ?_
  refine fi_region ?_
  refine so_assign (v := (.v (.bool false))) rfl ?_
  refine so_nil ?_
  refine fi_seq ?_
  refine fi_region ?_
  refine so_move (v := (.v (.flt .f32 a0))) rfl ?_
  refine sv_callS (impl_IsFinite_ok a0 hs  _ h) (fun _ _ ⟨_, _, _, e⟩ => e) rfl rfl ?_
  clear h
  rintro _ _ ⟨y101, h, rfl, rfl⟩
  refine so_move (v := (.v (.bool y101))) rfl ?_
  replace h := ofT h; rcases h with ⟨c103, h⟩ | ⟨c103, h⟩
  · refine so_gyes rfl c103 ?_
    refine so_move (v := (.v (.flt .f32 a0))) rfl ?_
    refine so_gyes rfl c103 ?_
    refine so_bin rfl rfl ab_fgeq ?_
    refine so_pick_t (v := (.v (.bool (fcmp .geq .f32 a0 (cz .f32 0))))) rfl c103 rfl ?_
    refine so_assign (v := (.v (.bool (fcmp .geq .f32 a0 (cz .f32 0))))) rfl ?_
    refine so_nil ?_
    exact by_ret rfl ⟨_, h, rfl, rfl⟩
  · refine so_gno rfl c103 ?_
    refine so_gno rfl c103 ?_
    refine so_pick_f (v := (.v (.bool false))) rfl c103 rfl ?_
    refine so_assign (v := (.v (.bool false))) rfl ?_
    refine so_nil ?_
    exact by_ret rfl ⟨_, h, rfl, rfl⟩
theorem F15.ag2 : tagg Try.prog 2 = some false := by kernel_rfl
theorem F15.ag26 : tagg Try.prog 26 = some false := by kernel_rfl
theorem F15.fl26 : tflt Try.prog 26 = some .f32 := by kernel_rfl
theorem F15.in26 : tint Try.prog 26 = none := by kernel_rfl
theorem F15.sz2 : tsz Try.prog 2 = some 1 := by kernel_rfl
theorem F15.ta28_28 : tapp Try.prog 28 28 = some (1, 8) := by kernel_rfl
theorem F15.te28 : telem Try.prog 28 = some 2 := by kernel_rfl
theorem F15.ti24 : (telem Try.prog 24).isSome = true := by kernel_rfl
theorem F15.ti28 : (telem Try.prog 28).isSome = true := by kernel_rfl
theorem F15.tl24 : (telem Try.prog 24).bind (tsz Try.prog) = some 1 := by kernel_rfl
theorem F15.tl28 : (telem Try.prog 28).bind (tsz Try.prog) = some 1 := by kernel_rfl
theorem F15.us2 : (Try.prog.underlying 2).isSome = true := by kernel_rfl
theorem F15.ze2 : tzero Try.prog 2 = some [(.int .i64 (0 : Int))] := by kernel_rfl
theorem impl_HullOf_ok {fr : List Pc} {H : Heap} (v0 : AV) (l0 : List (Int)) (v1 : AV) (l1 : List (Nat)) (hs : Sep H (fr)) (g0 : ∀ H, Sep H fr → Shows H v0 1 (enc (eInt .i64) l0)) (g1 : ∀ H, Sep H fr → Shows H v1 1 (enc (eFlt .f32) l1)) (K : (List (Int)) → Bool → Prop) (h : impl_HullOf.wp l0 l1 K) : OkQ Try.prog 15 [(.v v0), (.v v1)] H (fun r H2 => ∃ (y0 : List (Int)) (y1 : Bool), K y0 y1 ∧ ∃ (w0_ : AV), r = (.t [(.v w0_), (.v (.bool y1))]) ∧ Sep H2 (Pc.osl w0_ 1 (enc (eInt .i64) y0) :: fr)) := by
  unfold impl_HullOf.wp at h
  refine of_body Try.f15 F.hm Try.func15 rfl Try.call15 (by kernel_rfl) (by simp) ?_
  refine fi_seq ?_
  refine fi_region ?_
  refine so_assign (v := (.v .nilsl)) rfl ?_
  refine so_assign (v := (.v (.bool false))) rfl ?_
  refine so_nil ?_
  refine fi_seq ?_
  refine fi_seq ?_
  refine fi_region ?_
  refine so_move (v := (.v v0)) rfl ?_
  refine sv_len (g0 _ hs) (fun _ => rfl) (by decide) rfl F15.ti28 ?_
  refine sv_callS (impl_within_ok (l0.length : Int) (1 : Int) (64 : Int) hs  _ h) (fun _ _ ⟨_, _, _, e⟩ => e) rfl rfl ?_
  clear h
  rintro _ _ ⟨y101, h, rfl, rfl⟩
  refine so_un rfl au_not ?_
  refine so_move (v := (.v (.bool (!y101)))) rfl ?_
  replace h := ofT h; rcases h with ⟨c103, h⟩ | ⟨c103, h⟩
  · refine so_gyes rfl (not_f c103) ?_
    refine so_move (v := (.v v1)) rfl ?_
    refine so_gyes rfl (not_f c103) ?_
    refine sv_len (g1 _ hs) (fun _ => rfl) (by decide) rfl F15.ti24 ?_
    refine so_gyes rfl (not_f c103) ?_
    refine so_move (v := (.v v0)) rfl ?_
    refine so_gyes rfl (not_f c103) ?_
    refine sv_len (g0 _ hs) (fun _ => rfl) (by decide) rfl F15.ti28 ?_
    refine so_gyes rfl (not_f c103) ?_
    refine so_bin rfl rfl ab_neq ?_
    refine so_pick_f (v := (.v (.bool (!(decide ((l1.length : Int) = (l0.length : Int))))))) rfl (not_f c103) rfl ?_
    refine so_nil ?_
    replace h := ofP h; rcases h with ⟨c104, h⟩ | ⟨c104, h⟩
    · refine fi_false rfl (not_f (decide_eq_true c104)) ?_
      refine fi_skip ?_
      refine fi_seq ?_
      refine fi_seq ?_
      refine fi_region ?_
      refine so_move (v := (.v v0)) rfl ?_
      refine sv_len (g0 _ hs) (fun _ => rfl) (by decide) rfl F15.ti28 ?_
      refine so_move (v := (.v (.int .i64 (0 : Int)))) rfl ?_
      refine so_nil ?_
      refine fi_block ?_
      refine fi_loop ?_
      refine fi_at [(0, (.v v0)), (1, (.v v1)), (25, (.v v0)), (26, (.v (.int .i64 (l0.length : Int)))), (27, (.v (.int .i64 (0 : Int))))] ⟨rfl, rfl, rfl, rfl, rfl, trivial⟩ ?_
      refine h (fun (x106 : Int) => ∀ (s : Nat → TV) (H : Heap), Sep H (fr) → Fin _ _ (updL s [(0, (.v v0)), (1, (.v v1)), (25, (.v v0)), (26, (.v (.int .i64 (l0.length : Int)))), (27, (.v (.int .i64 x106)))]) H _) ?_ _ _ hs
      intro x106 h s174 H175 hs
      refine fi_inLoop ?_
      refine fi_seq ?_
      refine fi_region ?_
      refine so_bin rfl rfl ab_lss ?_
      refine so_nil ?_
      refine fi_seq ?_
      replace h := ofP h; rcases h with ⟨c107, h⟩ | ⟨c107, h⟩
      · refine fi_true rfl (decide_eq_true c107) ?_
        refine fi_skip ?_
        refine fi_seq ?_
        refine fi_block ?_
        refine fi_seq ?_
        refine fi_region ?_
        refine so_move (v := (.v (.int .i64 x106))) rfl ?_
        obtain ⟨c108, h⟩ := h
        refine sv_idx (g0 _ hs) c108 (fun _ => rfl) (by decide) rfl rfl F15.tl28 ?_
        refine sv_cell (g0 _ hs) c108 (0 : Int) 0 (fun x => (AV.int .i64 x)) (fun _ => rfl) (fun _ => rfl) rfl F15.ag2 ?_
        refine so_assign (v := (.v (.int .i64 x106))) rfl ?_
        refine so_assign (v := (.v (.int .i64 (l0.getD (x106).toNat (0 : Int))))) rfl ?_
        refine so_nil ?_
        refine fi_seq ?_
        refine fi_region ?_
        refine so_move (v := (.v (.int .i64 (l0.getD (x106).toNat (0 : Int))))) rfl ?_
        refine so_bin rfl rfl ab_lss ?_
        refine so_move (v := (.v (.bool (decide ((l0.getD (x106).toNat (0 : Int)) < (0 : Int)))))) rfl ?_
        replace h := ofP h; rcases h with ⟨c109, h⟩ | ⟨c109, h⟩
        · refine so_gno rfl (decide_eq_true c109) ?_
          refine so_gno rfl (decide_eq_true c109) ?_
          refine so_gno rfl (decide_eq_true c109) ?_
          refine so_gund rfl ?_
          refine so_gund rfl ?_
          refine so_gund rfl ?_
          refine so_gund rfl ?_
          refine so_gund rfl ?_
          refine so_gund rfl ?_
          refine so_gund rfl ?_
          refine so_gno rfl (decide_eq_true c109) ?_
          refine so_pick_t (v := (.v (.bool true))) rfl (decide_eq_true c109) rfl ?_
          refine so_move (v := (.v (.bool true))) rfl ?_
          refine so_gno rfl rfl ?_
          refine so_gno rfl rfl ?_
          refine so_gno rfl rfl ?_
          refine so_gno rfl rfl ?_
          refine so_gno rfl rfl ?_
          refine so_gno rfl rfl ?_
          refine so_pick_t (v := (.v (.bool true))) rfl rfl rfl ?_
          refine so_nil ?_
          refine fi_true rfl rfl ?_
          refine fi_seq ?_
          refine fi_region ?_
          refine so_assign (v := (.v .nilsl)) rfl ?_
          refine so_assign (v := (.v (.bool false))) rfl ?_
          refine so_nil ?_
          exact by_ret rfl ⟨_, _, h, _, rfl, (Sep.nil hs 1)⟩
        · refine so_gyes rfl (decide_eq_false c109) ?_
          refine so_move (v := (.v (.int .i64 x106))) rfl ?_
          refine so_gyes rfl (decide_eq_false c109) ?_
          refine so_bin rfl rfl ab_gtr ?_
          refine so_gyes rfl (decide_eq_false c109) ?_
          refine so_move (v := (.v (.bool (decide ((0 : Int) < x106))))) rfl ?_
          replace h := ofP h; rcases h with ⟨c110, h⟩ | ⟨c110, h⟩
          · refine so_gyes rfl (decide_eq_true c110) ?_
            refine so_move (v := (.v (.int .i64 (l0.getD (x106).toNat (0 : Int))))) rfl ?_
            refine so_gyes rfl (decide_eq_true c110) ?_
            refine so_move (v := (.v v0)) rfl ?_
            refine so_gyes rfl (decide_eq_true c110) ?_
            refine so_move (v := (.v (.int .i64 x106))) rfl ?_
            refine so_gyes rfl (decide_eq_true c110) ?_
            refine so_bin rfl rfl ab_sub ?_
            refine so_gyes rfl (decide_eq_true c110) ?_
            obtain ⟨c111, h⟩ := h
            refine sv_idx (g0 _ hs) c111 (fun _ => rfl) (by decide) rfl rfl F15.tl28 ?_
            refine so_gyes rfl (decide_eq_true c110) ?_
            refine sv_cell (g0 _ hs) c111 (0 : Int) 0 (fun x => (AV.int .i64 x)) (fun _ => rfl) (fun _ => rfl) rfl F15.ag2 ?_
            refine so_gyes rfl (decide_eq_true c110) ?_
            refine so_bin rfl rfl ab_leq ?_
            refine so_gyes rfl (decide_eq_false c109) ?_
            refine so_pick_t (v := (.v (.bool (decide ((l0.getD (x106).toNat (0 : Int)) ≤ (l0.getD ((IntKind.i64.wrap (x106 - (1 : Int)))).toNat (0 : Int))))))) rfl (decide_eq_true c110) rfl ?_
            refine so_pick_f (v := (.v (.bool (decide ((l0.getD (x106).toNat (0 : Int)) ≤ (l0.getD ((IntKind.i64.wrap (x106 - (1 : Int)))).toNat (0 : Int))))))) rfl (decide_eq_false c109) rfl ?_
            refine so_move (v := (.v (.bool (decide ((l0.getD (x106).toNat (0 : Int)) ≤ (l0.getD ((IntKind.i64.wrap (x106 - (1 : Int)))).toNat (0 : Int))))))) rfl ?_
            replace h := ofP h; rcases h with ⟨c112, h⟩ | ⟨c112, h⟩
            · refine so_gno rfl (decide_eq_true c112) ?_
              refine so_gno rfl (decide_eq_true c112) ?_
              refine so_gno rfl (decide_eq_true c112) ?_
              refine so_gno rfl (decide_eq_true c112) ?_
              refine so_gno rfl (decide_eq_true c112) ?_
              refine so_gno rfl (decide_eq_true c112) ?_
              refine so_pick_t (v := (.v (.bool true))) rfl (decide_eq_true c112) rfl ?_
              refine so_nil ?_
              refine fi_true rfl rfl ?_
              refine fi_seq ?_
              refine fi_region ?_
              refine so_assign (v := (.v .nilsl)) rfl ?_
              refine so_assign (v := (.v (.bool false))) rfl ?_
              refine so_nil ?_
              exact by_ret rfl ⟨_, _, h, _, rfl, (Sep.nil hs 1)⟩
            · refine so_gyes rfl (decide_eq_false c112) ?_
              refine so_move (v := (.v v1)) rfl ?_
              refine so_gyes rfl (decide_eq_false c112) ?_
              refine so_move (v := (.v (.int .i64 x106))) rfl ?_
              refine so_gyes rfl (decide_eq_false c112) ?_
              obtain ⟨c113, h⟩ := h
              refine sv_idx (g1 _ hs) c113 (fun _ => rfl) (by decide) rfl rfl F15.tl24 ?_
              refine so_gyes rfl (decide_eq_false c112) ?_
              refine sv_cell (g1 _ hs) c113 (0 : Nat) 0 (fun x => (AV.flt .f32 x)) (fun _ => rfl) (fun _ => rfl) rfl F15.ag26 ?_
              refine so_gyes rfl (decide_eq_false c112) ?_
              refine sv_callS (impl_isLeast_ok (l1.getD (x106).toNat (0 : Nat)) hs  _ h) (fun _ _ ⟨_, _, _, e⟩ => e) rfl rfl ?_
              clear h
              rintro _ _ ⟨y114, h, rfl, rfl⟩
              refine so_gyes rfl (decide_eq_false c112) ?_
              refine so_un rfl au_not ?_
              refine so_pick_f (v := (.v (.bool (!y114)))) rfl (decide_eq_false c112) rfl ?_
              refine so_nil ?_
              replace h := ofT h; rcases h with ⟨c116, h⟩ | ⟨c116, h⟩
              · refine fi_false rfl (not_f c116) ?_
                refine fi_skip ?_
                refine fi_inBlock ?_
                refine fi_region ?_
                refine so_bin rfl rfl ab_add ?_
                refine so_move (v := (.v (.int .i64 (IntKind.i64.wrap (x106 + (1 : Int)))))) rfl ?_
                refine so_nil ?_
                exact fi_at [(0, (.v v0)), (1, (.v v1)), (25, (.v v0)), (26, (.v (.int .i64 (l0.length : Int)))), (27, (.v (.int .i64 (IntKind.i64.wrap (x106 + (1 : Int))))))] ⟨rfl, rfl, rfl, rfl, rfl, trivial⟩ (h _ _  hs)
              · refine fi_true rfl (not_t c116) ?_
                refine fi_seq ?_
                refine fi_region ?_
                refine so_assign (v := (.v .nilsl)) rfl ?_
                refine so_assign (v := (.v (.bool false))) rfl ?_
                refine so_nil ?_
                exact by_ret rfl ⟨_, _, h, _, rfl, (Sep.nil hs 1)⟩
          · refine so_gno rfl (decide_eq_false c110) ?_
            refine so_gno rfl (decide_eq_false c110) ?_
            refine so_gno rfl (decide_eq_false c110) ?_
            refine so_gno rfl (decide_eq_false c110) ?_
            refine so_gno rfl (decide_eq_false c110) ?_
            refine so_gno rfl (decide_eq_false c110) ?_
            refine so_gno rfl (decide_eq_false c110) ?_
            refine so_gyes rfl (decide_eq_false c109) ?_
            refine so_pick_f (v := (.v (.bool false))) rfl (decide_eq_false c110) rfl ?_
            refine so_pick_f (v := (.v (.bool false))) rfl (decide_eq_false c109) rfl ?_
            refine so_move (v := (.v (.bool false))) rfl ?_
            refine so_gyes rfl rfl ?_
            refine so_move (v := (.v v1)) rfl ?_
            refine so_gyes rfl rfl ?_
            refine so_move (v := (.v (.int .i64 x106))) rfl ?_
            refine so_gyes rfl rfl ?_
            obtain ⟨c117, h⟩ := h
            refine sv_idx (g1 _ hs) c117 (fun _ => rfl) (by decide) rfl rfl F15.tl24 ?_
            refine so_gyes rfl rfl ?_
            refine sv_cell (g1 _ hs) c117 (0 : Nat) 0 (fun x => (AV.flt .f32 x)) (fun _ => rfl) (fun _ => rfl) rfl F15.ag26 ?_
            refine so_gyes rfl rfl ?_
            refine sv_callS (impl_isLeast_ok (l1.getD (x106).toNat (0 : Nat)) hs  _ h) (fun _ _ ⟨_, _, _, e⟩ => e) rfl rfl ?_
            clear h
            rintro _ _ ⟨y118, h, rfl, rfl⟩
            refine so_gyes rfl rfl ?_
            refine so_un rfl au_not ?_
            refine so_pick_f (v := (.v (.bool (!y118)))) rfl rfl rfl ?_
            refine so_nil ?_
            replace h := ofT h; rcases h with ⟨c120, h⟩ | ⟨c120, h⟩
            · refine fi_false rfl (not_f c120) ?_
              refine fi_skip ?_
              refine fi_inBlock ?_
              refine fi_region ?_
              refine so_bin rfl rfl ab_add ?_
              refine so_move (v := (.v (.int .i64 (IntKind.i64.wrap (x106 + (1 : Int)))))) rfl ?_
              refine so_nil ?_
              exact fi_at [(0, (.v v0)), (1, (.v v1)), (25, (.v v0)), (26, (.v (.int .i64 (l0.length : Int)))), (27, (.v (.int .i64 (IntKind.i64.wrap (x106 + (1 : Int))))))] ⟨rfl, rfl, rfl, rfl, rfl, trivial⟩ (h _ _  hs)
            · refine fi_true rfl (not_t c120) ?_
              refine fi_seq ?_
              refine fi_region ?_
              refine so_assign (v := (.v .nilsl)) rfl ?_
              refine so_assign (v := (.v (.bool false))) rfl ?_
              refine so_nil ?_
              exact by_ret rfl ⟨_, _, h, _, rfl, (Sep.nil hs 1)⟩
      · refine fi_false rfl (decide_eq_false c107) ?_
        refine fi_exit rfl ?_
        refine fi_seq ?_
        refine fi_region ?_
        refine sv_bslice hs (eInt .i64) ([(0 : Int)] : List (Int)) [[(.int .i64 (0 : Int))]] F15.te28 F15.sz2 F15.ze2 rfl rfl rfl rfl (fun _ => rfl) rfl (by decide) nofun (fun v121 H122 nv121 hs => ?_)
        refine so_assign (v := (.v v121)) rfl ?_
        refine so_assign (v := (.v (.int .i64 (0 : Int)))) rfl ?_
        refine so_nil ?_
        refine fi_block ?_
        refine fi_loop ?_
        refine fi_at [(0, (.v v0)), (1, (.v v1)), (8, (.v v121)), (9, (.v (.int .i64 (0 : Int))))] ⟨rfl, rfl, rfl, rfl, trivial⟩ ?_
        refine h (fun (out149 : List (Int)) (i151 : Int) => ∀ (s : Nat → TV) (H : Heap) (v150 : AV) (nv150 : v150 ≠ .nilsl), Sep H (Pc.osl v150 1 (enc (eInt .i64) out149) :: fr) → Fin _ _ (updL s [(0, (.v v0)), (1, (.v v1)), (8, (.v v150)), (9, (.v (.int .i64 i151)))]) H _) ?_ _ _ _ nv121 hs
        intro out149 i151 h s172 H173 v150 nv150 hs
        refine fi_inLoop ?_
        refine fi_block ?_
        refine fi_seq ?_
        refine fi_region ?_
        refine so_assign (v := (.v (.int .i64 (-1 : Int)))) rfl ?_
        refine so_assign (v := (.v (.flt .f32 (cz .f32 0)))) rfl ?_
        refine so_nil ?_
        refine fi_seq ?_
        refine fi_seq ?_
        refine fi_region ?_
        refine so_move (v := (.v (.int .i64 i151))) rfl ?_
        refine so_bin rfl rfl ab_add ?_
        refine so_assign (v := (.v (.int .i64 (IntKind.i64.wrap (i151 + (1 : Int)))))) rfl ?_
        refine so_nil ?_
        refine fi_block ?_
        refine fi_loop ?_
        refine fi_at [(0, (.v v0)), (1, (.v v1)), (8, (.v v150)), (9, (.v (.int .i64 i151))), (10, (.v (.int .i64 (-1 : Int)))), (11, (.v (.flt .f32 (cz .f32 0)))), (12, (.v (.int .i64 (IntKind.i64.wrap (i151 + (1 : Int))))))] ⟨rfl, rfl, rfl, rfl, rfl, rfl, rfl, trivial⟩ ?_
        refine h (fun (next153 : Int) (best154 : Nat) (k155 : Int) => ∀ (s : Nat → TV) (H : Heap), Sep H (Pc.osl v150 1 (enc (eInt .i64) out149) :: fr) → Fin _ _ (updL s [(0, (.v v0)), (1, (.v v1)), (8, (.v v150)), (9, (.v (.int .i64 i151))), (10, (.v (.int .i64 next153))), (11, (.v (.flt .f32 best154))), (12, (.v (.int .i64 k155)))]) H _) ?_ _ _ hs
        intro next153 best154 k155 h s170 H171 hs
        refine fi_inLoop ?_
        refine fi_seq ?_
        refine fi_seq ?_
        refine fi_region ?_
        refine so_move (v := (.v (.int .i64 k155))) rfl ?_
        refine so_move (v := (.v v0)) rfl ?_
        refine sv_len (g0 _ hs.tl) (fun _ => rfl) (by decide) rfl F15.ti28 ?_
        refine so_bin rfl rfl ab_lss ?_
        refine so_nil ?_
        replace h := ofP h; rcases h with ⟨c156, h⟩ | ⟨c156, h⟩
        · refine fi_true rfl (decide_eq_true c156) ?_
          refine fi_skip ?_
          refine fi_seq ?_
          refine fi_block ?_
          refine fi_seq ?_
          refine fi_region ?_
          refine so_move (v := (.v v1)) rfl ?_
          refine so_move (v := (.v (.int .i64 i151))) rfl ?_
          obtain ⟨c157, h⟩ := h
          refine sv_idx (g1 _ hs.tl) c157 (fun _ => rfl) (by decide) rfl rfl F15.tl24 ?_
          refine sv_cell (g1 _ hs.tl) c157 (0 : Nat) 0 (fun x => (AV.flt .f32 x)) (fun _ => rfl) (fun _ => rfl) rfl F15.ag26 ?_
          refine so_move (v := (.v v1)) rfl ?_
          refine so_move (v := (.v (.int .i64 k155))) rfl ?_
          obtain ⟨c158, h⟩ := h
          refine sv_idx (g1 _ hs.tl) c158 (fun _ => rfl) (by decide) rfl rfl F15.tl24 ?_
          refine sv_cell (g1 _ hs.tl) c158 (0 : Nat) 0 (fun x => (AV.flt .f32 x)) (fun _ => rfl) (fun _ => rfl) rfl F15.ag26 ?_
          refine so_bin rfl rfl ab_fsub ?_
          refine so_move (v := (.v v0)) rfl ?_
          refine so_move (v := (.v (.int .i64 k155))) rfl ?_
          obtain ⟨c159, h⟩ := h
          refine sv_idx (g0 _ hs.tl) c159 (fun _ => rfl) (by decide) rfl rfl F15.tl28 ?_
          refine sv_cell (g0 _ hs.tl) c159 (0 : Int) 0 (fun x => (AV.int .i64 x)) (fun _ => rfl) (fun _ => rfl) rfl F15.ag2 ?_
          refine so_move (v := (.v v0)) rfl ?_
          refine so_move (v := (.v (.int .i64 i151))) rfl ?_
          obtain ⟨c160, h⟩ := h
          refine sv_idx (g0 _ hs.tl) c160 (fun _ => rfl) (by decide) rfl rfl F15.tl28 ?_
          refine sv_cell (g0 _ hs.tl) c160 (0 : Int) 0 (fun x => (AV.int .i64 x)) (fun _ => rfl) (fun _ => rfl) rfl F15.ag2 ?_
          refine so_bin rfl rfl ab_sub ?_
          refine sv_if rfl F15.us2 F15.in26 F15.fl26 ?_
          refine so_bin rfl rfl ab_fquo ?_
          refine so_assign (v := (.v (.flt .f32 (fop .quo .f32 (fop .sub .f32 (l1.getD (i151).toNat (0 : Nat)) (l1.getD (k155).toNat (0 : Nat))) (itof .f32 (IntKind.i64.wrap ((l0.getD (k155).toNat (0 : Int)) - (l0.getD (i151).toNat (0 : Int))))))))) rfl ?_
          refine so_nil ?_
          refine fi_seq ?_
          refine fi_region ?_
          refine so_move (v := (.v (.flt .f32 (fop .quo .f32 (fop .sub .f32 (l1.getD (i151).toNat (0 : Nat)) (l1.getD (k155).toNat (0 : Nat))) (itof .f32 (IntKind.i64.wrap ((l0.getD (k155).toNat (0 : Int)) - (l0.getD (i151).toNat (0 : Int))))))))) rfl ?_
          refine so_bin rfl rfl ab_fgtr ?_
          refine so_move (v := (.v (.bool (fcmp .gtr .f32 (fop .quo .f32 (fop .sub .f32 (l1.getD (i151).toNat (0 : Nat)) (l1.getD (k155).toNat (0 : Nat))) (itof .f32 (IntKind.i64.wrap ((l0.getD (k155).toNat (0 : Int)) - (l0.getD (i151).toNat (0 : Int)))))) (cz .f32 0))))) rfl ?_
          replace h := ofT h; rcases h with ⟨c161, h⟩ | ⟨c161, h⟩
          · refine so_gyes rfl c161 ?_
            refine so_move (v := (.v (.flt .f32 (fop .quo .f32 (fop .sub .f32 (l1.getD (i151).toNat (0 : Nat)) (l1.getD (k155).toNat (0 : Nat))) (itof .f32 (IntKind.i64.wrap ((l0.getD (k155).toNat (0 : Int)) - (l0.getD (i151).toNat (0 : Int))))))))) rfl ?_
            refine so_gyes rfl c161 ?_
            refine so_move (v := (.v (.flt .f32 best154))) rfl ?_
            refine so_gyes rfl c161 ?_
            refine so_bin rfl rfl ab_fgeq ?_
            refine so_pick_t (v := (.v (.bool (fcmp .geq .f32 (fop .quo .f32 (fop .sub .f32 (l1.getD (i151).toNat (0 : Nat)) (l1.getD (k155).toNat (0 : Nat))) (itof .f32 (IntKind.i64.wrap ((l0.getD (k155).toNat (0 : Int)) - (l0.getD (i151).toNat (0 : Int)))))) best154)))) rfl c161 rfl ?_
            refine so_nil ?_
            replace h := ofT h; rcases h with ⟨c162, h⟩ | ⟨c162, h⟩
            · refine fi_true rfl c162 ?_
              refine fi_region ?_
              refine so_move (v := (.v (.int .i64 k155))) rfl ?_
              refine so_move (v := (.v (.flt .f32 (fop .quo .f32 (fop .sub .f32 (l1.getD (i151).toNat (0 : Nat)) (l1.getD (k155).toNat (0 : Nat))) (itof .f32 (IntKind.i64.wrap ((l0.getD (k155).toNat (0 : Int)) - (l0.getD (i151).toNat (0 : Int))))))))) rfl ?_
              refine so_assign (v := (.v (.int .i64 k155))) rfl ?_
              refine so_assign (v := (.v (.flt .f32 (fop .quo .f32 (fop .sub .f32 (l1.getD (i151).toNat (0 : Nat)) (l1.getD (k155).toNat (0 : Nat))) (itof .f32 (IntKind.i64.wrap ((l0.getD (k155).toNat (0 : Int)) - (l0.getD (i151).toNat (0 : Int))))))))) rfl ?_
              refine so_nil ?_
              refine fi_inBlock ?_
              refine fi_region ?_
              refine so_move (v := (.v (.int .i64 k155))) rfl ?_
              refine so_bin rfl rfl ab_add ?_
              refine so_assign (v := (.v (.int .i64 (IntKind.i64.wrap (k155 + (1 : Int)))))) rfl ?_
              refine so_nil ?_
              exact fi_at [(0, (.v v0)), (1, (.v v1)), (8, (.v v150)), (9, (.v (.int .i64 i151))), (10, (.v (.int .i64 k155))), (11, (.v (.flt .f32 (fop .quo .f32 (fop .sub .f32 (l1.getD (i151).toNat (0 : Nat)) (l1.getD (k155).toNat (0 : Nat))) (itof .f32 (IntKind.i64.wrap ((l0.getD (k155).toNat (0 : Int)) - (l0.getD (i151).toNat (0 : Int))))))))), (12, (.v (.int .i64 (IntKind.i64.wrap (k155 + (1 : Int))))))] ⟨rfl, rfl, rfl, rfl, rfl, rfl, rfl, trivial⟩ (h _ _  hs)
            · refine fi_false rfl c162 ?_
              refine fi_skip ?_
              refine fi_inBlock ?_
              refine fi_region ?_
              refine so_move (v := (.v (.int .i64 k155))) rfl ?_
              refine so_bin rfl rfl ab_add ?_
              refine so_assign (v := (.v (.int .i64 (IntKind.i64.wrap (k155 + (1 : Int)))))) rfl ?_
              refine so_nil ?_
              exact fi_at [(0, (.v v0)), (1, (.v v1)), (8, (.v v150)), (9, (.v (.int .i64 i151))), (10, (.v (.int .i64 next153))), (11, (.v (.flt .f32 best154))), (12, (.v (.int .i64 (IntKind.i64.wrap (k155 + (1 : Int))))))] ⟨rfl, rfl, rfl, rfl, rfl, rfl, rfl, trivial⟩ (h _ _  hs)
          · refine so_gno rfl c161 ?_
            refine so_gno rfl c161 ?_
            refine so_gno rfl c161 ?_
            refine so_pick_f (v := (.v (.bool false))) rfl c161 rfl ?_
            refine so_nil ?_
            refine fi_false rfl rfl ?_
            refine fi_skip ?_
            refine fi_inBlock ?_
            refine fi_region ?_
            refine so_move (v := (.v (.int .i64 k155))) rfl ?_
            refine so_bin rfl rfl ab_add ?_
            refine so_assign (v := (.v (.int .i64 (IntKind.i64.wrap (k155 + (1 : Int)))))) rfl ?_
            refine so_nil ?_
            exact fi_at [(0, (.v v0)), (1, (.v v1)), (8, (.v v150)), (9, (.v (.int .i64 i151))), (10, (.v (.int .i64 next153))), (11, (.v (.flt .f32 best154))), (12, (.v (.int .i64 (IntKind.i64.wrap (k155 + (1 : Int))))))] ⟨rfl, rfl, rfl, rfl, rfl, rfl, rfl, trivial⟩ (h _ _  hs)
        · refine fi_false rfl (decide_eq_false c156) ?_
          refine fi_exit rfl ?_
          refine fi_seq ?_
          refine fi_seq ?_
          refine fi_region ?_
          refine so_move (v := (.v (.int .i64 next153))) rfl ?_
          refine so_bin rfl rfl ab_lss ?_
          refine so_nil ?_
          replace h := ofP h; rcases h with ⟨c163, h⟩ | ⟨c163, h⟩
          · refine fi_true rfl (decide_eq_true c163) ?_
            refine fi_seq ?_
            refine fi_region ?_
            refine so_move (v := (.v v150)) rfl ?_
            refine so_assign (v := (.v v150)) rfl ?_
            refine so_assign (v := (.v (.bool true))) rfl ?_
            refine so_nil ?_
            exact by_ret rfl ⟨_, _, h, _, rfl, hs⟩
          · refine fi_false rfl (decide_eq_false c163) ?_
            refine fi_skip ?_
            refine fi_seq ?_
            refine fi_region ?_
            refine so_move (v := (.v (.int .i64 next153))) rfl ?_
            refine so_assign (v := (.v (.int .i64 next153))) rfl ?_
            refine so_nil ?_
            refine fi_region ?_
            refine so_move (v := (.v v150)) rfl ?_
            refine so_move (v := (.v (.int .i64 next153))) rfl ?_
            refine sv_bslice hs (eInt .i64) ([next153] : List (Int)) [[(.int .i64 next153)]] F15.te28 F15.sz2 F15.ze2 rfl rfl rfl rfl (fun _ => rfl) rfl (by decide) nofun (fun v164 H165 nv164 hs => ?_)
            obtain ⟨c169, h⟩ := h
            refine sv_app hs 1 rfl (hs.shows 0 rfl) (fun _ => rfl) (by decide) F15.ta28_28 (by decide) c169 rfl rfl nofun (fun v167 H168 kv167 hs => ?_)
            replace hs := hs.del 0
            have nv167 := kv167 nv150
            refine so_assign (v := (.v v167)) rfl ?_
            refine so_nil ?_
            refine fi_inBlock ?_
            exact fi_at [(0, (.v v0)), (1, (.v v1)), (8, (.v v167)), (9, (.v (.int .i64 next153)))] ⟨rfl, rfl, rfl, rfl, trivial⟩ (h _ _ _ nv167 hs)
    · refine fi_true rfl (not_t (decide_eq_false c104)) ?_
      refine fi_seq ?_
      refine fi_region ?_
      refine so_assign (v := (.v .nilsl)) rfl ?_
      refine so_assign (v := (.v (.bool false))) rfl ?_
      refine so_nil ?_
      exact by_ret rfl ⟨_, _, h, _, rfl, (Sep.nil hs 1)⟩
  · refine so_gno rfl (not_t c103) ?_
    refine so_gno rfl (not_t c103) ?_
    refine so_gno rfl (not_t c103) ?_
    refine so_gno rfl (not_t c103) ?_
    refine so_gno rfl (not_t c103) ?_
    refine so_pick_t (v := (.v (.bool true))) rfl (not_t c103) rfl ?_
    refine so_nil ?_
    refine fi_true rfl rfl ?_
    refine fi_seq ?_
    refine fi_region ?_
    refine so_assign (v := (.v .nilsl)) rfl ?_
    refine so_assign (v := (.v (.bool false))) rfl ?_
    refine so_nil ?_
    exact by_ret rfl ⟨_, _, h, _, rfl, (Sep.nil hs 1)⟩
theorem F16.ag2 : tagg Try.prog 2 = some false := by kernel_rfl
theorem F16.ti28 : (telem Try.prog 28).isSome = true := by kernel_rfl
theorem F16.tl28 : (telem Try.prog 28).bind (tsz Try.prog) = some 1 := by kernel_rfl
theorem impl_LastOfHull_ok {fr : List Pc} {H : Heap} (v0 : AV) (l0 : List (Int)) (v1 : AV) (l1 : List (Nat)) (hs : Sep H (fr)) (g0 : ∀ H, Sep H fr → Shows H v0 1 (enc (eInt .i64) l0)) (g1 : ∀ H, Sep H fr → Shows H v1 1 (enc (eFlt .f32) l1)) (K : Int → Bool → Prop) (h : impl_LastOfHull.wp l0 l1 K) : OkQ Try.prog 16 [(.v v0), (.v v1)] H (fun r H2 => ∃ (y0 : Int) (y1 : Bool), K y0 y1 ∧ r = (.t [(.v (.int .i64 y0)), (.v (.bool y1))]) ∧ Sep H2 (fr)) := by
  unfold impl_LastOfHull.wp at h
  refine of_body Try.f16 F.hm Try.func16 rfl Try.call16 (by kernel_rfl) (by simp) ?_
  refine fi_seq ?_
  refine fi_region ?_
  refine so_assign (v := (.v (.int .i64 (0 : Int)))) rfl ?_
  refine so_assign (v := (.v (.bool false))) rfl ?_
  refine so_nil ?_
  refine fi_seq ?_
  refine fi_region ?_
  refine so_move (v := (.v v0)) rfl ?_
  refine so_move (v := (.v v1)) rfl ?_
  refine sv_call (impl_HullOf_ok v0 l0 v1 l1 hs (fun _ hs => (g0 _ hs)) (fun _ hs => (g1 _ hs)) _ h) rfl rfl nofun ?_
  clear h hs
  rintro _ H105 ⟨y101, y104, h, v102, rfl, hs⟩
  refine so_move (v := (.t [(.v v102), (.v (.bool y104))])) rfl ?_
  refine so_extract rfl rfl rfl ?_
  refine so_extract rfl rfl rfl ?_
  refine so_assign (v := (.v v102)) rfl ?_
  refine so_assign (v := (.v (.bool y104))) rfl ?_
  refine so_nil ?_
  refine fi_seq ?_
  refine fi_seq ?_
  refine fi_region ?_
  refine so_move (v := (.v (.bool y104))) rfl ?_
  refine so_un rfl au_not ?_
  refine so_nil ?_
  replace h := ofT h; rcases h with ⟨c106, h⟩ | ⟨c106, h⟩
  · refine fi_false rfl (not_f c106) ?_
    refine fi_skip ?_
    refine fi_seq ?_
    refine fi_region ?_
    refine so_move (v := (.v v102)) rfl ?_
    refine so_move (v := (.v v102)) rfl ?_
    refine sv_len (hs.shows 0 rfl) (fun _ => rfl) (by decide) rfl F16.ti28 ?_
    refine so_bin rfl rfl ab_sub ?_
    obtain ⟨c107, h⟩ := h
    refine sv_idx (hs.shows 0 rfl) c107 (fun _ => rfl) (by decide) rfl rfl F16.tl28 ?_
    refine sv_cell (hs.shows 0 rfl) c107 (0 : Int) 0 (fun x => (AV.int .i64 x)) (fun _ => rfl) (fun _ => rfl) rfl F16.ag2 ?_
    refine so_assign (v := (.v (.int .i64 (y101.getD ((IntKind.i64.wrap ((y101.length : Int) - (1 : Int)))).toNat (0 : Int))))) rfl ?_
    refine so_assign (v := (.v (.bool true))) rfl ?_
    refine so_nil ?_
    exact by_ret rfl ⟨_, _, h, rfl, (Sep.del 0 hs)⟩
  · refine fi_true rfl (not_t c106) ?_
    refine fi_seq ?_
    refine fi_region ?_
    refine so_assign (v := (.v (.int .i64 (0 : Int)))) rfl ?_
    refine so_assign (v := (.v (.bool false))) rfl ?_
    refine so_nil ?_
    exact by_ret rfl ⟨_, _, h, rfl, (Sep.del 0 hs)⟩
theorem impl_LastOfHull_okS {fr : List Pc} {H : Heap} (v0 : AV) (l0 : List (Int)) (v1 : AV) (l1 : List (Nat)) (hs : Sep H fr) (g0 : ∀ H, Sep H fr → Shows H v0 1 (enc (eInt .i64) l0)) (g1 : ∀ H, Sep H fr → Shows H v1 1 (enc (eFlt .f32) l1)) (K : Int → Bool → Prop) (h : impl_LastOfHull.wp l0 l1 K) : OkQ Try.prog 16 [(.v v0), (.v v1)] H (fun r H2 => ∃ (y0 : Int) (y1 : Bool), K y0 y1 ∧ r = (.t [(.v (.int .i64 y0)), (.v (.bool y1))]) ∧ H = H2) := by
  obtain ⟨r, H2, h1, y0, y1, hK, hr, hsep⟩ := impl_LastOfHull_ok (fr := came H) (H := H) v0 l0 v1 l1 (came_sep H) (came_shows (g0 H hs)) (came_shows (g1 H hs)) K h
  have hk : H.n ≤ H2.n ∧ ∀ i, i < H.n → H2.f i = H.f i := hsep.1.2.1
  exact ⟨r, H, h1.forget hk.1 hk.2 (by subst hr; rfl), y0, y1, hK, hr, rfl⟩
theorem F6.ti22 : (telem Try.prog 22).isSome = true := by kernel_rfl
theorem laws_r8Long_ok {fr : List Pc} {H : Heap} (v0 : AV) (l0 : List (Int)) (v1 : AV) (l1 : List (Int)) (hs : Sep H (fr)) (g0 : ∀ H, Sep H fr → Shows H v0 1 (enc (eInt .u8) l0)) (g1 : ∀ H, Sep H fr → Shows H v1 1 (enc (eInt .u8) l1)) (K : Bool → Prop) (h : laws_r8Long.wp l0 l1 K) : OkQ Try.prog 6 [(.v v0), (.v v1)] H (fun r H2 => ∃ (y0 : Bool), K y0 ∧ r = (.v (.bool y0)) ∧ H = H2) := by
  unfold laws_r8Long.wp at h
  refine of_body Try.f6 F.hm Try.func6 rfl Try.call6 (by kernel_rfl) (by simp) ?_
  refine fi_seq ?_
  refine fi_region ?_
  refine so_assign (v := (.v (.bool false))) rfl ?_
  refine so_nil ?_
  refine fi_seq ?_
  refine fi_region ?_
  refine so_move (v := (.v v0)) rfl ?_
  refine sv_len (g0 _ hs) (fun _ => rfl) (by decide) rfl F6.ti22 ?_
  refine so_bin rfl rfl ab_gtr ?_
  refine so_move (v := (.v (.bool (decide ((48 : Int) < (l0.length : Int)))))) rfl ?_
  replace h := ofP h; rcases h with ⟨c101, h⟩ | ⟨c101, h⟩
  · refine so_gno rfl (decide_eq_true c101) ?_
    refine so_gno rfl (decide_eq_true c101) ?_
    refine so_gno rfl (decide_eq_true c101) ?_
    refine so_pick_t (v := (.v (.bool true))) rfl (decide_eq_true c101) rfl ?_
    refine so_assign (v := (.v (.bool true))) rfl ?_
    refine so_nil ?_
    exact by_ret rfl ⟨_, h, rfl, rfl⟩
  · refine so_gyes rfl (decide_eq_false c101) ?_
    refine so_move (v := (.v v1)) rfl ?_
    refine so_gyes rfl (decide_eq_false c101) ?_
    refine sv_len (g1 _ hs) (fun _ => rfl) (by decide) rfl F6.ti22 ?_
    refine so_gyes rfl (decide_eq_false c101) ?_
    refine so_bin rfl rfl ab_gtr ?_
    refine so_pick_f (v := (.v (.bool (decide ((48 : Int) < (l1.length : Int)))))) rfl (decide_eq_false c101) rfl ?_
    refine so_assign (v := (.v (.bool (decide ((48 : Int) < (l1.length : Int)))))) rfl ?_
    refine so_nil ?_
    exact by_ret rfl ⟨_, h, rfl, rfl⟩
theorem F39.fl26 : tflt Try.prog 26 = some .f32 := by kernel_rfl
theorem F39.in26 : tint Try.prog 26 = none := by kernel_rfl
theorem F39.sz26 : tsz Try.prog 26 = some 1 := by kernel_rfl
theorem F39.ta24_24 : tapp Try.prog 24 24 = some (1, 4) := by kernel_rfl
theorem F39.te24 : telem Try.prog 24 = some 26 := by kernel_rfl
theorem F39.us2 : (Try.prog.underlying 2).isSome = true := by kernel_rfl
theorem F39.ze26 : tzero Try.prog 26 = some [(.flt .f32 (0 : Nat))] := by kernel_rfl
theorem spec_l02DrawOk_ok {fr : List Pc} {H : Heap} (i0 : Nat) (v0 : AV) (l0 : List (Int)) (a1 : Int) (a2 : Int) (hs : Sep H (Pc.box i0 [v0, (.int .i64 a1), (.int .u64 a2)] :: fr)) (g0 : ∀ H, Sep H fr → Shows H v0 1 (enc (eInt .u8) l0)) (K : (List (Nat)) → Int → Int → Prop) (h : spec_l02DrawOk.wp l0 a1 a2 K) : OkQ Try.prog 39 [(.v (.ptr i0 0))] H (fun r H2 => ∃ (y0 : List (Nat)) (y1 : Int) (y2 : Int), K y0 y1 y2 ∧ ∃ (w0_ : AV), r = (.v w0_) ∧ Sep H2 (Pc.osl w0_ 1 (enc (eFlt .f32) y0) :: Pc.box i0 [v0, (.int .i64 y1), (.int .u64 y2)] :: fr)) := by
  unfold spec_l02DrawOk.wp at h
  refine of_body Try.f39 F.hm Try.func39 rfl Try.call39 (by kernel_rfl) (by simp) ?_
  refine fi_seq ?_
  refine fi_region ?_
  refine so_assign (v := (.v .nilsl)) rfl ?_
  refine so_nil ?_
  refine fi_seq ?_
  refine fi_region ?_
  refine sv_bslice hs (eFlt .f32) ([] : List (Nat)) [] F39.te24 F39.sz26 F39.ze26 rfl rfl rfl rfl (fun _ => rfl) rfl (by decide) nofun (fun v102 H103 nv102 hs => ?_)
  refine so_assign (v := (.v v102)) rfl ?_
  refine so_nil ?_
  refine fi_seq ?_
  refine fi_seq ?_
  refine fi_region ?_
  refine so_move (v := (.v (.ptr i0 0))) rfl ?_
  replace hs := (Sep.front 1 hs rfl)
  refine sv_call (spec_l00Src_pick_ok i0 v0 l0 a1 a2 (12 : Int) hs (fun _ hs => (g0 _ hs.tl)) _ h) rfl rfl nofun ?_
  clear h hs
  rintro _ H108 ⟨y105, y106, y107, h, rfl, hs⟩
  refine so_bin rfl rfl ab_add ?_
  refine so_assign (v := (.v (.int .i64 (IntKind.i64.wrap ((1 : Int) + y105))))) rfl ?_
  refine so_nil ?_
  refine fi_block ?_
  refine fi_loop ?_
  refine fi_at [(0, (.v (.ptr i0 0))), (3, (.v v102)), (4, (.v (.int .i64 (IntKind.i64.wrap ((1 : Int) + y105)))))] ⟨rfl, rfl, rfl, trivial⟩ ?_
  refine h (fun (out125 : List (Nat)) (b127 : Int) (b128 : Int) (n129 : Int) => ∀ (s : Nat → TV) (H : Heap) (v126 : AV) (nv126 : v126 ≠ .nilsl), Sep H (Pc.box i0 [v0, (.int .i64 b127), (.int .u64 b128)] :: Pc.osl v126 1 (enc (eFlt .f32) out125) :: fr) → Fin _ _ (updL s [(0, (.v (.ptr i0 0))), (3, (.v v126)), (4, (.v (.int .i64 n129)))]) H _) ?_ _ _ _ nv102 hs
  intro out125 b127 b128 n129 h s141 H142 v126 nv126 hs
  refine fi_inLoop ?_
  refine fi_seq ?_
  refine fi_seq ?_
  refine fi_region ?_
  refine so_move (v := (.v (.int .i64 n129))) rfl ?_
  refine so_bin rfl rfl ab_gtr ?_
  refine so_nil ?_
  replace h := ofP h; rcases h with ⟨c130, h⟩ | ⟨c130, h⟩
  · refine fi_true rfl (decide_eq_true c130) ?_
    refine fi_skip ?_
    refine fi_seq ?_
    refine fi_block ?_
    refine fi_region ?_
    refine so_move (v := (.v v126)) rfl ?_
    refine so_move (v := (.v (.ptr i0 0))) rfl ?_
    refine sv_call (spec_l00Src_pick_ok i0 v0 l0 b127 b128 (65 : Int) hs (fun _ hs => (g0 _ hs.tl)) _ h) rfl rfl nofun ?_
    clear h hs
    rintro _ H134 ⟨y131, y132, y133, h, rfl, hs⟩
    refine so_bin rfl rfl ab_sub ?_
    refine sv_if rfl F39.us2 F39.in26 F39.fl26 ?_
    refine so_bin rfl rfl ab_fquo ?_
    refine sv_bslice hs (eFlt .f32) ([(fop .quo .f32 (itof .f32 (IntKind.i64.wrap (y131 - (32 : Int)))) (cz .f32 1082130432))] : List (Nat)) [[(.flt .f32 (fop .quo .f32 (itof .f32 (IntKind.i64.wrap (y131 - (32 : Int)))) (cz .f32 1082130432)))]] F39.te24 F39.sz26 F39.ze26 rfl rfl rfl rfl (fun _ => rfl) rfl (by decide) nofun (fun v135 H136 nv135 hs => ?_)
    obtain ⟨c140, h⟩ := h
    refine sv_app hs 2 rfl (hs.shows 0 rfl) (fun _ => rfl) (by decide) F39.ta24_24 (by decide) c140 rfl rfl nofun (fun v138 H139 kv138 hs => ?_)
    replace hs := hs.del 0
    have nv138 := kv138 nv126
    refine so_assign (v := (.v v138)) rfl ?_
    refine so_nil ?_
    refine fi_inBlock ?_
    refine fi_region ?_
    refine so_move (v := (.v (.int .i64 n129))) rfl ?_
    refine so_bin rfl rfl ab_sub ?_
    refine so_assign (v := (.v (.int .i64 (IntKind.i64.wrap (n129 - (1 : Int)))))) rfl ?_
    refine so_nil ?_
    exact fi_at [(0, (.v (.ptr i0 0))), (3, (.v v138)), (4, (.v (.int .i64 (IntKind.i64.wrap (n129 - (1 : Int))))))] ⟨rfl, rfl, rfl, trivial⟩ (h _ _ _ nv138 hs)
  · refine fi_false rfl (decide_eq_false c130) ?_
    refine fi_exit rfl ?_
    refine fi_seq ?_
    refine fi_region ?_
    refine so_move (v := (.v v126)) rfl ?_
    refine so_assign (v := (.v v126)) rfl ?_
    refine so_nil ?_
    exact by_ret rfl ⟨_, _, _, h, _, rfl, (Sep.front 1 hs rfl)⟩
theorem spec_R8List_ok {fr : List Pc} {H : Heap} (v0 : AV) (l0 : List (Int)) (hs : Sep H (fr)) (g0 : ∀ H, Sep H fr → Shows H v0 1 (enc (eInt .u8) l0)) (K : (List (Nat)) → Prop) (h : spec_R8List.wp l0 K) : OkQ Try.prog 7 [(.v v0)] H (fun r H2 => ∃ (y0 : List (Nat)), K y0 ∧ ∃ (w0_ : AV), r = (.v w0_) ∧ Sep H2 (Pc.osl w0_ 1 (enc (eFlt .f32) y0) :: fr)) := by
  unfold spec_R8List.wp at h
  refine of_body Try.f7 F.hm Try.func7 rfl Try.call7 (by kernel_rfl) (by simp) ?_
  refine fi_seq ?_
  refine fi_region ?_
  refine so_assign (v := (.v .nilsl)) rfl ?_
  refine so_nil ?_
  refine fi_seq ?_
  refine fi_region ?_
  refine so_move (v := (.v v0)) rfl ?_
  refine sv_call (spec_l00From_ok v0 l0 hs (fun _ hs => (g0 _ hs)) _ h) rfl rfl nofun ?_
  clear h hs
  rintro _ H106 ⟨y101, y102, y103, h, i104, rfl, hs⟩
  replace h := ofT h; rcases h with ⟨c107, h⟩ | ⟨c107, h⟩
  · subst c107
    refine so_assign (v := (.v (.ptr i104 0))) rfl ?_
    refine so_nil ?_
    refine fi_seq ?_
    refine fi_region ?_
    refine so_move (v := (.v (.ptr i104 0))) rfl ?_
    refine sv_call (spec_l02DrawOk_ok i104 v0 l0 y102 y103 hs (fun _ hs => (g0 _ hs)) _ h) rfl rfl nofun ?_
    clear h hs
    rintro _ H113 ⟨y108, y111, y112, h, v109, rfl, hs⟩
    refine so_assign (v := (.v v109)) rfl ?_
    refine so_nil ?_
    exact by_ret rfl ⟨_, h, _, rfl, (Sep.del 1 hs)⟩
  · subst c107
    refine so_assign (v := (.v (.ptr i104 0))) rfl ?_
    refine so_nil ?_
    refine fi_seq ?_
    refine fi_region ?_
    refine so_move (v := (.v (.ptr i104 0))) rfl ?_
    refine sv_call (spec_l02DrawOk_ok i104 .nilsl ([] : List (Int)) y102 y103 hs (fun _ hs => (.inl ⟨rfl, rfl⟩ : Shows _ .nilsl 1 (enc (eInt .u8) []))) _ h) rfl rfl nofun ?_
    clear h hs
    rintro _ H119 ⟨y114, y117, y118, h, v115, rfl, hs⟩
    refine so_assign (v := (.v v115)) rfl ?_
    refine so_nil ?_
    exact by_ret rfl ⟨_, h, _, rfl, (Sep.del 1 hs)⟩
theorem F8.ag5 : tagg Try.prog 5 = some false := by kernel_rfl
theorem F8.it2 : tint Try.prog 2 = some .i64 := by kernel_rfl
theorem F8.ti22 : (telem Try.prog 22).isSome = true := by kernel_rfl
theorem F8.tl22 : (telem Try.prog 22).bind (tsz Try.prog) = some 1 := by kernel_rfl
theorem F8.us5 : (Try.prog.underlying 5).isSome = true := by kernel_rfl
theorem laws_r8At_ok {fr : List Pc} {H : Heap} (v0 : AV) (l0 : List (Int)) (a1 : Int) (a2 : Int) (hs : Sep H (fr)) (g0 : ∀ H, Sep H fr → Shows H v0 1 (enc (eInt .u8) l0)) (K : Int → Prop) (h : laws_r8At.wp l0 a1 a2 K) : OkQ Try.prog 8 [(.v v0), (.v (.int .i64 a1)), (.v (.int .i64 a2))] H (fun r H2 => ∃ (y0 : Int), K y0 ∧ r = (.v (.int .i64 y0)) ∧ H = H2) := by
  unfold laws_r8At.wp at h
  refine of_body Try.f8 F.hm Try.func8 rfl Try.call8 (by kernel_rfl) (by simp) ?_
  refine fi_seq ?_
  refine fi_region ?_
  refine so_assign (v := (.v (.int .i64 (0 : Int)))) rfl ?_
  refine so_nil ?_
  refine fi_seq ?_
  refine fi_seq ?_
  refine fi_region ?_
  refine so_move (v := (.v (.int .i64 a2))) rfl ?_
  refine so_bin rfl rfl ab_leq ?_
  refine so_move (v := (.v (.bool (decide (a2 ≤ (1 : Int)))))) rfl ?_
  replace h := ofP h; rcases h with ⟨c101, h⟩ | ⟨c101, h⟩
  · refine so_gno rfl (decide_eq_true c101) ?_
    refine so_gno rfl (decide_eq_true c101) ?_
    refine so_gno rfl (decide_eq_true c101) ?_
    refine so_gno rfl (decide_eq_true c101) ?_
    refine so_pick_t (v := (.v (.bool true))) rfl (decide_eq_true c101) rfl ?_
    refine so_nil ?_
    refine fi_true rfl rfl ?_
    refine fi_seq ?_
    refine fi_region ?_
    refine so_assign (v := (.v (.int .i64 (0 : Int)))) rfl ?_
    refine so_nil ?_
    exact by_ret rfl ⟨_, h, rfl, rfl⟩
  · refine so_gyes rfl (decide_eq_false c101) ?_
    refine so_move (v := (.v (.int .i64 a1))) rfl ?_
    refine so_gyes rfl (decide_eq_false c101) ?_
    refine so_move (v := (.v v0)) rfl ?_
    refine so_gyes rfl (decide_eq_false c101) ?_
    refine sv_len (g0 _ hs) (fun _ => rfl) (by decide) rfl F8.ti22 ?_
    refine so_gyes rfl (decide_eq_false c101) ?_
    refine so_bin rfl rfl ab_geq ?_
    refine so_pick_f (v := (.v (.bool (decide ((l0.length : Int) ≤ a1))))) rfl (decide_eq_false c101) rfl ?_
    refine so_nil ?_
    replace h := ofP h; rcases h with ⟨c102, h⟩ | ⟨c102, h⟩
    · refine fi_true rfl (decide_eq_true c102) ?_
      refine fi_seq ?_
      refine fi_region ?_
      refine so_assign (v := (.v (.int .i64 (0 : Int)))) rfl ?_
      refine so_nil ?_
      exact by_ret rfl ⟨_, h, rfl, rfl⟩
    · refine fi_false rfl (decide_eq_false c102) ?_
      refine fi_skip ?_
      refine fi_seq ?_
      refine fi_region ?_
      refine so_move (v := (.v v0)) rfl ?_
      refine so_move (v := (.v (.int .i64 a1))) rfl ?_
      obtain ⟨c103, h⟩ := h
      refine sv_idx (g0 _ hs) c103 (fun _ => rfl) (by decide) rfl rfl F8.tl22 ?_
      refine sv_cell (g0 _ hs) c103 (0 : Int) 0 (fun x => (AV.int .u8 x)) (fun _ => rfl) (fun _ => rfl) rfl F8.ag5 ?_
      refine sv_ii rfl F8.us5 F8.it2 ?_
      refine so_move (v := (.v (.int .i64 a2))) rfl ?_
      obtain ⟨c104, h⟩ := h
      refine so_bin rfl rfl (ab_rem c104) ?_
      refine so_assign (v := (.v (.int .i64 (Int.tmod (IntKind.i64.wrap (l0.getD (a1).toNat (0 : Int))) a2)))) rfl ?_
      refine so_nil ?_
      exact by_ret rfl ⟨_, h, rfl, rfl⟩
theorem F3.ag2 : tagg Try.prog 2 = some false := by kernel_rfl
theorem F3.ag26 : tagg Try.prog 26 = some false := by kernel_rfl
theorem F3.fl26 : tflt Try.prog 26 = some .f32 := by kernel_rfl
theorem F3.fl33 : tflt Try.prog 33 = some .f64 := by kernel_rfl
theorem F3.in26 : tint Try.prog 26 = none := by kernel_rfl
theorem F3.in33 : tint Try.prog 33 = none := by kernel_rfl
theorem F3.ti24 : (telem Try.prog 24).isSome = true := by kernel_rfl
theorem F3.ti28 : (telem Try.prog 28).isSome = true := by kernel_rfl
theorem F3.tl24 : (telem Try.prog 24).bind (tsz Try.prog) = some 1 := by kernel_rfl
theorem F3.tl28 : (telem Try.prog 28).bind (tsz Try.prog) = some 1 := by kernel_rfl
theorem F3.us2 : (Try.prog.underlying 2).isSome = true := by kernel_rfl
theorem F3.us26 : (Try.prog.underlying 26).isSome = true := by kernel_rfl
theorem laws_FnRates_ok {fr : List Pc} {H : Heap} (v0 : AV) (l0 : List (Int)) (v1 : AV) (l1 : List (Int)) (hs : Sep H (fr)) (g0 : ∀ H, Sep H fr → Shows H v0 1 (enc (eInt .u8) l0)) (g1 : ∀ H, Sep H fr → Shows H v1 1 (enc (eInt .u8) l1)) (K : Bool → Prop) (h : laws_FnRates.wp l0 l1 K) : OkQ Try.prog 3 [(.v v0), (.v v1)] H (fun r H2 => ∃ (y0 : Bool), K y0 ∧ r = (.v (.bool y0)) ∧ Sep H2 (fr)) := by
  unfold laws_FnRates.wp at h
  refine of_body Try.f3 F.hm Try.func3 rfl Try.call3 (by kernel_rfl) (by simp) ?_
  refine fi_seq ?_
  refine fi_region ?_
  refine so_assign (v := (.v (.bool false))) rfl ?_
  refine so_nil ?_
  refine fi_seq ?_
  refine fi_seq ?_
  refine fi_region ?_
  refine so_move (v := (.v v0)) rfl ?_
  refine so_move (v := (.v v1)) rfl ?_
  refine sv_callS (laws_r8Long_ok v0 l0 v1 l1 hs (fun _ hs => (g0 _ hs)) (fun _ hs => (g1 _ hs)) _ h) (fun _ _ ⟨_, _, _, e⟩ => e) rfl rfl ?_
  clear h
  rintro _ _ ⟨y101, h, rfl, rfl⟩
  refine so_nil ?_
  replace h := ofT h; rcases h with ⟨c103, h⟩ | ⟨c103, h⟩
  · refine fi_true rfl c103 ?_
    refine fi_seq ?_
    refine fi_region ?_
    refine so_assign (v := (.v (.bool true))) rfl ?_
    refine so_nil ?_
    exact by_ret rfl ⟨_, h, rfl, hs⟩
  · refine fi_false rfl c103 ?_
    refine fi_skip ?_
    refine fi_seq ?_
    refine fi_region ?_
    refine so_move (v := (.v v0)) rfl ?_
    refine sv_call (spec_R8List_ok v0 l0 hs (fun _ hs => (g0 _ hs)) _ h) rfl rfl nofun ?_
    clear h hs
    rintro _ H107 ⟨y104, h, v105, rfl, hs⟩
    refine so_assign (v := (.v v105)) rfl ?_
    refine so_nil ?_
    refine fi_seq ?_
    refine fi_region ?_
    refine so_move (v := (.v v1)) rfl ?_
    refine sv_callS (laws_r8At_ok v1 l1 (0 : Int) (16 : Int) hs (fun _ hs => (g1 _ hs.tl)) _ h) (fun _ _ ⟨_, _, _, e⟩ => e) rfl rfl ?_
    clear h
    rintro _ _ ⟨y108, h, rfl, rfl⟩
    refine so_bin rfl rfl ab_add ?_
    refine sv_if rfl F3.us2 F3.in26 F3.fl26 ?_
    refine so_bin rfl rfl ab_fquo ?_
    refine so_assign (v := (.v (.flt .f32 (fop .quo .f32 (itof .f32 (IntKind.i64.wrap ((1 : Int) + y108))) (cz .f32 1090519040))))) rfl ?_
    refine so_nil ?_
    refine fi_seq ?_
    refine fi_region ?_
    refine so_move (v := (.v v1)) rfl ?_
    refine sv_callS (laws_r8At_ok v1 l1 (1 : Int) (4 : Int) hs (fun _ hs => (g1 _ hs.tl)) _ h) (fun _ _ ⟨_, _, _, e⟩ => e) rfl rfl ?_
    clear h
    rintro _ _ ⟨y110, h, rfl, rfl⟩
    refine so_bin rfl rfl ab_add ?_
    refine so_assign (v := (.v (.int .i64 (IntKind.i64.wrap ((1 : Int) + y110))))) rfl ?_
    refine so_nil ?_
    refine fi_seq ?_
    refine fi_region ?_
    refine so_move (v := (.v v105)) rfl ?_
    refine so_move (v := (.v (.flt .f32 (fop .quo .f32 (itof .f32 (IntKind.i64.wrap ((1 : Int) + y108))) (cz .f32 1090519040))))) rfl ?_
    refine sv_call (impl_ScaleList_ok v105 y104 (fop .quo .f32 (itof .f32 (IntKind.i64.wrap ((1 : Int) + y108))) (cz .f32 1090519040)) hs (fun _ hs => (hs.shows 0 rfl)) _ h) rfl rfl nofun ?_
    clear h hs
    rintro _ H116 ⟨y112, y115, h, v113, rfl, hs⟩
    refine so_move (v := (.t [(.v v113), (.v (.bool y115))])) rfl ?_
    refine so_extract rfl rfl rfl ?_
    refine so_extract rfl rfl rfl ?_
    refine so_assign (v := (.v v113)) rfl ?_
    refine so_assign (v := (.v (.bool y115))) rfl ?_
    refine so_nil ?_
    refine fi_seq ?_
    refine fi_region ?_
    refine so_move (v := (.v v113)) rfl ?_
    refine so_move (v := (.v (.flt .f32 (fop .quo .f32 (itof .f32 (IntKind.i64.wrap ((1 : Int) + y108))) (cz .f32 1090519040))))) rfl ?_
    refine sv_call (impl_ListOfScale_ok v113 y112 (fop .quo .f32 (itof .f32 (IntKind.i64.wrap ((1 : Int) + y108))) (cz .f32 1090519040)) (cz .f32 1056964608) hs (fun _ hs => (hs.shows 0 rfl)) _ h) rfl rfl nofun ?_
    clear h hs
    rintro _ H121 ⟨y117, y120, h, v118, rfl, hs⟩
    refine so_move (v := (.t [(.v v118), (.v (.bool y120))])) rfl ?_
    refine so_extract rfl rfl rfl ?_
    refine so_extract rfl rfl rfl ?_
    refine so_assign (v := (.v v118)) rfl ?_
    refine so_assign (v := (.v (.bool y120))) rfl ?_
    refine so_nil ?_
    refine fi_seq ?_
    refine fi_seq ?_
    refine fi_region ?_
    refine so_move (v := (.v (.bool y115))) rfl ?_
    refine so_un rfl au_not ?_
    refine so_move (v := (.v (.bool (!y115)))) rfl ?_
    replace h := ofT h; rcases h with ⟨c122, h⟩ | ⟨c122, h⟩
    · refine so_gyes rfl (not_f c122) ?_
      refine so_move (v := (.v (.bool y120))) rfl ?_
      refine so_gyes rfl (not_f c122) ?_
      refine so_un rfl au_not ?_
      refine so_pick_f (v := (.v (.bool (!y120)))) rfl (not_f c122) rfl ?_
      refine so_move (v := (.v (.bool (!y120)))) rfl ?_
      replace h := ofT h; rcases h with ⟨c123, h⟩ | ⟨c123, h⟩
      · refine so_gyes rfl (not_f c123) ?_
        refine so_move (v := (.v v113)) rfl ?_
        refine so_gyes rfl (not_f c123) ?_
        refine sv_len (hs.shows 1 rfl) (fun _ => rfl) (by decide) rfl F3.ti28 ?_
        refine so_gyes rfl (not_f c123) ?_
        refine so_move (v := (.v v105)) rfl ?_
        refine so_gyes rfl (not_f c123) ?_
        refine sv_len (hs.shows 2 rfl) (fun _ => rfl) (by decide) rfl F3.ti24 ?_
        refine so_gyes rfl (not_f c123) ?_
        refine so_bin rfl rfl ab_neq ?_
        refine so_pick_f (v := (.v (.bool (!(decide ((y112.length : Int) = (y104.length : Int))))))) rfl (not_f c123) rfl ?_
        refine so_move (v := (.v (.bool (!(decide ((y112.length : Int) = (y104.length : Int))))))) rfl ?_
        replace h := ofP h; rcases h with ⟨c124, h⟩ | ⟨c124, h⟩
        · refine so_gyes rfl (not_f (decide_eq_true c124)) ?_
          refine so_move (v := (.v v118)) rfl ?_
          refine so_gyes rfl (not_f (decide_eq_true c124)) ?_
          refine sv_len (hs.shows 0 rfl) (fun _ => rfl) (by decide) rfl F3.ti24 ?_
          refine so_gyes rfl (not_f (decide_eq_true c124)) ?_
          refine so_move (v := (.v v105)) rfl ?_
          refine so_gyes rfl (not_f (decide_eq_true c124)) ?_
          refine sv_len (hs.shows 2 rfl) (fun _ => rfl) (by decide) rfl F3.ti24 ?_
          refine so_gyes rfl (not_f (decide_eq_true c124)) ?_
          refine so_bin rfl rfl ab_neq ?_
          refine so_pick_f (v := (.v (.bool (!(decide ((y117.length : Int) = (y104.length : Int))))))) rfl (not_f (decide_eq_true c124)) rfl ?_
          refine so_nil ?_
          replace h := ofP h; rcases h with ⟨c125, h⟩ | ⟨c125, h⟩
          · refine fi_false rfl (not_f (decide_eq_true c125)) ?_
            refine fi_skip ?_
            refine fi_seq ?_
            refine fi_seq ?_
            refine fi_region ?_
            refine so_assign (v := (.v (.int .i64 (0 : Int)))) rfl ?_
            refine so_nil ?_
            refine fi_block ?_
            refine fi_loop ?_
            replace hs := hs.del 1
            refine fi_at [(0, (.v v0)), (5, (.v v105)), (6, (.v (.flt .f32 (fop .quo .f32 (itof .f32 (IntKind.i64.wrap ((1 : Int) + y108))) (cz .f32 1090519040))))), (7, (.v (.int .i64 (IntKind.i64.wrap ((1 : Int) + y110))))), (10, (.v v118)), (12, (.v (.int .i64 (0 : Int))))] ⟨rfl, rfl, rfl, rfl, rfl, rfl, trivial⟩ ?_
            refine h (fun (i127 : Int) => ∀ (s : Nat → TV) (H : Heap), Sep H (Pc.osl v118 1 (enc (eFlt .f32) y117) :: Pc.osl v105 1 (enc (eFlt .f32) y104) :: fr) → Fin _ _ (updL s [(0, (.v v0)), (5, (.v v105)), (6, (.v (.flt .f32 (fop .quo .f32 (itof .f32 (IntKind.i64.wrap ((1 : Int) + y108))) (cz .f32 1090519040))))), (7, (.v (.int .i64 (IntKind.i64.wrap ((1 : Int) + y110))))), (10, (.v v118)), (12, (.v (.int .i64 i127)))]) H _) ?_ _ _ hs
            intro i127 h s219 H220 hs
            refine fi_inLoop ?_
            refine fi_seq ?_
            refine fi_seq ?_
            refine fi_region ?_
            refine so_move (v := (.v (.int .i64 i127))) rfl ?_
            refine so_move (v := (.v v105)) rfl ?_
            refine sv_len (hs.shows 1 rfl) (fun _ => rfl) (by decide) rfl F3.ti24 ?_
            refine so_bin rfl rfl ab_lss ?_
            refine so_nil ?_
            replace h := ofP h; rcases h with ⟨c128, h⟩ | ⟨c128, h⟩
            · refine fi_true rfl (decide_eq_true c128) ?_
              refine fi_skip ?_
              refine fi_seq ?_
              refine fi_block ?_
              refine fi_seq ?_
              refine fi_region ?_
              refine so_move (v := (.v v118)) rfl ?_
              refine so_move (v := (.v (.int .i64 i127))) rfl ?_
              obtain ⟨c129, h⟩ := h
              refine sv_idx (hs.shows 0 rfl) c129 (fun _ => rfl) (by decide) rfl rfl F3.tl24 ?_
              refine sv_cell (hs.shows 0 rfl) c129 (0 : Nat) 0 (fun x => (AV.flt .f32 x)) (fun _ => rfl) (fun _ => rfl) rfl F3.ag26 ?_
              refine sv_ffw rfl F3.us26 F3.in33 F3.fl33 ?_
              refine so_move (v := (.v v105)) rfl ?_
              refine so_move (v := (.v (.int .i64 i127))) rfl ?_
              obtain ⟨c130, h⟩ := h
              refine sv_idx (hs.shows 1 rfl) c130 (fun _ => rfl) (by decide) rfl rfl F3.tl24 ?_
              refine sv_cell (hs.shows 1 rfl) c130 (0 : Nat) 0 (fun x => (AV.flt .f32 x)) (fun _ => rfl) (fun _ => rfl) rfl F3.ag26 ?_
              refine sv_ffw rfl F3.us26 F3.in33 F3.fl33 ?_
              refine sv_callS (laws_r8Gap_ok (widen (y117.getD (i127).toNat (0 : Nat))) (widen (y104.getD (i127).toNat (0 : Nat))) hs  _ h) (fun _ _ ⟨_, _, _, e⟩ => e) rfl rfl ?_
              clear h
              rintro _ _ ⟨y131, h, rfl, rfl⟩
              refine so_move (v := (.v (.flt .f32 (fop .quo .f32 (itof .f32 (IntKind.i64.wrap ((1 : Int) + y108))) (cz .f32 1090519040))))) rfl ?_
              refine sv_ffw rfl F3.us26 F3.in33 F3.fl33 ?_
              refine so_bin rfl rfl ab_fmul ?_
              refine so_bin rfl rfl ab_fgtr ?_
              refine so_nil ?_
              replace h := ofT h; rcases h with ⟨c133, h⟩ | ⟨c133, h⟩
              · refine fi_true rfl c133 ?_
                refine fi_seq ?_
                refine fi_region ?_
                refine so_assign (v := (.v (.bool false))) rfl ?_
                refine so_nil ?_
                exact by_ret rfl ⟨_, h, rfl, (Sep.del 0 (Sep.del 0 hs))⟩
              · refine fi_false rfl c133 ?_
                refine fi_skip ?_
                refine fi_inBlock ?_
                refine fi_region ?_
                refine so_move (v := (.v (.int .i64 i127))) rfl ?_
                refine so_bin rfl rfl ab_add ?_
                refine so_assign (v := (.v (.int .i64 (IntKind.i64.wrap (i127 + (1 : Int)))))) rfl ?_
                refine so_nil ?_
                exact fi_at [(0, (.v v0)), (5, (.v v105)), (6, (.v (.flt .f32 (fop .quo .f32 (itof .f32 (IntKind.i64.wrap ((1 : Int) + y108))) (cz .f32 1090519040))))), (7, (.v (.int .i64 (IntKind.i64.wrap ((1 : Int) + y110))))), (10, (.v v118)), (12, (.v (.int .i64 (IntKind.i64.wrap (i127 + (1 : Int))))))] ⟨rfl, rfl, rfl, rfl, rfl, rfl, trivial⟩ (h _ _  hs)
            · refine fi_false rfl (decide_eq_false c128) ?_
              refine fi_exit rfl ?_
              refine fi_seq ?_
              refine fi_region ?_
              refine sv_call (impl_LinesScheme_ok  hs  _ h) rfl rfl nofun ?_
              clear h hs
              rintro _ H138 ⟨y134, y137, h, v135, rfl, hs⟩
              refine so_move (v := (.v v105)) rfl ?_
              refine so_move (v := (.v (.int .i64 (IntKind.i64.wrap ((1 : Int) + y110))))) rfl ?_
              refine so_move (v := (.v (.flt .f32 (fop .quo .f32 (itof .f32 (IntKind.i64.wrap ((1 : Int) + y108))) (cz .f32 1090519040))))) rfl ?_
              refine sv_call (impl_RateTable_ok v135 y134 y137 v105 y104 (IntKind.i64.wrap ((1 : Int) + y110)) (fop .quo .f32 (itof .f32 (IntKind.i64.wrap ((1 : Int) + y108))) (cz .f32 1090519040)) hs (fun _ hs => (hs.shows 0 rfl)) (fun _ hs => (hs.shows 2 rfl)) _ h) rfl rfl nofun ?_
              clear h hs
              rintro _ H146 ⟨y139, y142, y145, h, v140, v143, rfl, hs⟩
              refine so_move (v := (.t [(.v v140), (.v v143), (.v (.bool y145))])) rfl ?_
              refine so_extract rfl rfl rfl ?_
              refine so_extract rfl rfl rfl ?_
              refine so_extract rfl rfl rfl ?_
              refine so_assign (v := (.v v140)) rfl ?_
              refine so_assign (v := (.v v143)) rfl ?_
              refine so_assign (v := (.v (.bool y145))) rfl ?_
              refine so_nil ?_
              refine fi_seq ?_
              refine fi_seq ?_
              refine fi_region ?_
              refine so_move (v := (.v (.bool y145))) rfl ?_
              refine so_un rfl au_not ?_
              refine so_move (v := (.v (.bool (!y145)))) rfl ?_
              replace h := ofT h; rcases h with ⟨c147, h⟩ | ⟨c147, h⟩
              · refine so_gyes rfl (not_f c147) ?_
                refine so_move (v := (.v v140)) rfl ?_
                refine so_gyes rfl (not_f c147) ?_
                refine sv_len (hs.shows 0 rfl) (fun _ => rfl) (by decide) rfl F3.ti28 ?_
                refine so_gyes rfl (not_f c147) ?_
                refine so_bin rfl rfl ab_lss ?_
                refine so_pick_f (v := (.v (.bool (decide ((y139.length : Int) < (1 : Int)))))) rfl (not_f c147) rfl ?_
                refine so_move (v := (.v (.bool (decide ((y139.length : Int) < (1 : Int)))))) rfl ?_
                replace h := ofP h; rcases h with ⟨c148, h⟩ | ⟨c148, h⟩
                · refine so_gno rfl (decide_eq_true c148) ?_
                  refine so_gno rfl (decide_eq_true c148) ?_
                  refine so_gno rfl (decide_eq_true c148) ?_
                  refine so_gno rfl (decide_eq_true c148) ?_
                  refine so_gno rfl (decide_eq_true c148) ?_
                  refine so_pick_t (v := (.v (.bool true))) rfl (decide_eq_true c148) rfl ?_
                  refine so_move (v := (.v (.bool true))) rfl ?_
                  refine so_gno rfl rfl ?_
                  refine so_gno rfl rfl ?_
                  refine so_gno rfl rfl ?_
                  refine so_gno rfl rfl ?_
                  refine so_pick_t (v := (.v (.bool true))) rfl rfl rfl ?_
                  refine so_nil ?_
                  refine fi_true rfl rfl ?_
                  refine fi_seq ?_
                  refine fi_region ?_
                  refine so_assign (v := (.v (.bool false))) rfl ?_
                  refine so_nil ?_
                  exact by_ret rfl ⟨_, h, rfl, (Sep.dropn 5 hs)⟩
                · refine so_gyes rfl (decide_eq_false c148) ?_
                  refine so_move (v := (.v v143)) rfl ?_
                  refine so_gyes rfl (decide_eq_false c148) ?_
                  refine sv_len (hs.shows 1 rfl) (fun _ => rfl) (by decide) rfl F3.ti24 ?_
                  refine so_gyes rfl (decide_eq_false c148) ?_
                  refine so_move (v := (.v v140)) rfl ?_
                  refine so_gyes rfl (decide_eq_false c148) ?_
                  refine sv_len (hs.shows 0 rfl) (fun _ => rfl) (by decide) rfl F3.ti28 ?_
                  refine so_gyes rfl (decide_eq_false c148) ?_
                  refine so_bin rfl rfl ab_neq ?_
                  refine so_pick_f (v := (.v (.bool (!(decide ((y142.length : Int) = (y139.length : Int))))))) rfl (decide_eq_false c148) rfl ?_
                  refine so_move (v := (.v (.bool (!(decide ((y142.length : Int) = (y139.length : Int))))))) rfl ?_
                  replace h := ofP h; rcases h with ⟨c149, h⟩ | ⟨c149, h⟩
                  · refine so_gyes rfl (not_f (decide_eq_true c149)) ?_
                    refine so_move (v := (.v v140)) rfl ?_
                    refine so_gyes rfl (not_f (decide_eq_true c149)) ?_
                    obtain ⟨c150, h⟩ := h
                    refine sv_idx (hs.shows 0 rfl) c150 (fun _ => rfl) (by decide) rfl rfl F3.tl28 ?_
                    refine so_gyes rfl (not_f (decide_eq_true c149)) ?_
                    refine sv_cell (hs.shows 0 rfl) c150 (0 : Int) 0 (fun x => (AV.int .i64 x)) (fun _ => rfl) (fun _ => rfl) rfl F3.ag2 ?_
                    refine so_gyes rfl (not_f (decide_eq_true c149)) ?_
                    refine so_bin rfl rfl ab_neq ?_
                    refine so_pick_f (v := (.v (.bool (!(decide ((y139.getD ((0 : Int)).toNat (0 : Int)) = (0 : Int))))))) rfl (not_f (decide_eq_true c149)) rfl ?_
                    refine so_nil ?_
                    replace h := ofP h; rcases h with ⟨c151, h⟩ | ⟨c151, h⟩
                    · refine fi_false rfl (not_f (decide_eq_true c151)) ?_
                      refine fi_skip ?_
                      refine fi_seq ?_
                      refine fi_seq ?_
                      refine fi_region ?_
                      refine so_assign (v := (.v (.int .i64 (0 : Int)))) rfl ?_
                      refine so_nil ?_
                      refine fi_block ?_
                      refine fi_loop ?_
                      replace hs := hs.del 2
                      replace hs := hs.del 2
                      replace hs := hs.del 2
                      refine fi_at [(0, (.v v0)), (6, (.v (.flt .f32 (fop .quo .f32 (itof .f32 (IntKind.i64.wrap ((1 : Int) + y108))) (cz .f32 1090519040))))), (13, (.v v140)), (14, (.v v143)), (16, (.v (.int .i64 (0 : Int))))] ⟨rfl, rfl, rfl, rfl, rfl, trivial⟩ ?_
                      refine h (fun (k153 : Int) => ∀ (s : Nat → TV) (H : Heap), Sep H (Pc.osl v140 1 (enc (eInt .i64) y139) :: Pc.osl v143 1 (enc (eFlt .f32) y142) :: fr) → Fin _ _ (updL s [(0, (.v v0)), (6, (.v (.flt .f32 (fop .quo .f32 (itof .f32 (IntKind.i64.wrap ((1 : Int) + y108))) (cz .f32 1090519040))))), (13, (.v v140)), (14, (.v v143)), (16, (.v (.int .i64 k153)))]) H _) ?_ _ _ hs
                      intro k153 h s217 H218 hs
                      refine fi_inLoop ?_
                      refine fi_seq ?_
                      refine fi_seq ?_
                      refine fi_region ?_
                      refine so_move (v := (.v (.int .i64 k153))) rfl ?_
                      refine so_move (v := (.v v140)) rfl ?_
                      refine sv_len (hs.shows 0 rfl) (fun _ => rfl) (by decide) rfl F3.ti28 ?_
                      refine so_bin rfl rfl ab_lss ?_
                      refine so_nil ?_
                      replace h := ofP h; rcases h with ⟨c154, h⟩ | ⟨c154, h⟩
                      · refine fi_true rfl (decide_eq_true c154) ?_
                        refine fi_skip ?_
                        refine fi_seq ?_
                        refine fi_block ?_
                        refine fi_seq ?_
                        refine fi_region ?_
                        refine so_move (v := (.v (.int .i64 k153))) rfl ?_
                        refine so_bin rfl rfl ab_gtr ?_
                        refine so_move (v := (.v (.bool (decide ((0 : Int) < k153))))) rfl ?_
                        replace h := ofP h; rcases h with ⟨c155, h⟩ | ⟨c155, h⟩
                        · refine so_gyes rfl (decide_eq_true c155) ?_
                          refine so_move (v := (.v v140)) rfl ?_
                          refine so_gyes rfl (decide_eq_true c155) ?_
                          refine so_move (v := (.v (.int .i64 k153))) rfl ?_
                          refine so_gyes rfl (decide_eq_true c155) ?_
                          obtain ⟨c156, h⟩ := h
                          refine sv_idx (hs.shows 0 rfl) c156 (fun _ => rfl) (by decide) rfl rfl F3.tl28 ?_
                          refine so_gyes rfl (decide_eq_true c155) ?_
                          refine sv_cell (hs.shows 0 rfl) c156 (0 : Int) 0 (fun x => (AV.int .i64 x)) (fun _ => rfl) (fun _ => rfl) rfl F3.ag2 ?_
                          refine so_gyes rfl (decide_eq_true c155) ?_
                          refine so_move (v := (.v v140)) rfl ?_
                          refine so_gyes rfl (decide_eq_true c155) ?_
                          refine so_move (v := (.v (.int .i64 k153))) rfl ?_
                          refine so_gyes rfl (decide_eq_true c155) ?_
                          refine so_bin rfl rfl ab_sub ?_
                          refine so_gyes rfl (decide_eq_true c155) ?_
                          obtain ⟨c157, h⟩ := h
                          refine sv_idx (hs.shows 0 rfl) c157 (fun _ => rfl) (by decide) rfl rfl F3.tl28 ?_
                          refine so_gyes rfl (decide_eq_true c155) ?_
                          refine sv_cell (hs.shows 0 rfl) c157 (0 : Int) 0 (fun x => (AV.int .i64 x)) (fun _ => rfl) (fun _ => rfl) rfl F3.ag2 ?_
                          refine so_gyes rfl (decide_eq_true c155) ?_
                          refine so_bin rfl rfl ab_leq ?_
                          refine so_pick_t (v := (.v (.bool (decide ((y139.getD (k153).toNat (0 : Int)) ≤ (y139.getD ((IntKind.i64.wrap (k153 - (1 : Int)))).toNat (0 : Int))))))) rfl (decide_eq_true c155) rfl ?_
                          refine so_move (v := (.v (.bool (decide ((y139.getD (k153).toNat (0 : Int)) ≤ (y139.getD ((IntKind.i64.wrap (k153 - (1 : Int)))).toNat (0 : Int))))))) rfl ?_
                          replace h := ofP h; rcases h with ⟨c158, h⟩ | ⟨c158, h⟩
                          · refine so_gno rfl (decide_eq_true c158) ?_
                            refine so_gno rfl (decide_eq_true c158) ?_
                            refine so_gno rfl (decide_eq_true c158) ?_
                            refine so_gno rfl (decide_eq_true c158) ?_
                            refine so_gno rfl (decide_eq_true c158) ?_
                            refine so_pick_t (v := (.v (.bool true))) rfl (decide_eq_true c158) rfl ?_
                            refine so_nil ?_
                            refine fi_true rfl rfl ?_
                            refine fi_seq ?_
                            refine fi_region ?_
                            refine so_assign (v := (.v (.bool false))) rfl ?_
                            refine so_nil ?_
                            exact by_ret rfl ⟨_, h, rfl, (Sep.del 0 (Sep.del 0 hs))⟩
                          · refine so_gyes rfl (decide_eq_false c158) ?_
                            refine so_move (v := (.v v143)) rfl ?_
                            refine so_gyes rfl (decide_eq_false c158) ?_
                            refine so_move (v := (.v (.int .i64 k153))) rfl ?_
                            refine so_gyes rfl (decide_eq_false c158) ?_
                            obtain ⟨c159, h⟩ := h
                            refine sv_idx (hs.shows 1 rfl) c159 (fun _ => rfl) (by decide) rfl rfl F3.tl24 ?_
                            refine so_gyes rfl (decide_eq_false c158) ?_
                            refine sv_cell (hs.shows 1 rfl) c159 (0 : Nat) 0 (fun x => (AV.flt .f32 x)) (fun _ => rfl) (fun _ => rfl) rfl F3.ag26 ?_
                            refine so_gyes rfl (decide_eq_false c158) ?_
                            refine so_bin rfl rfl ab_flss ?_
                            refine so_pick_f (v := (.v (.bool (fcmp .lss .f32 (y142.getD (k153).toNat (0 : Nat)) (cz .f32 0))))) rfl (decide_eq_false c158) rfl ?_
                            refine so_nil ?_
                            replace h := ofT h; rcases h with ⟨c160, h⟩ | ⟨c160, h⟩
                            · refine fi_true rfl c160 ?_
                              refine fi_seq ?_
                              refine fi_region ?_
                              refine so_assign (v := (.v (.bool false))) rfl ?_
                              refine so_nil ?_
                              exact by_ret rfl ⟨_, h, rfl, (Sep.del 0 (Sep.del 0 hs))⟩
                            · refine fi_false rfl c160 ?_
                              refine fi_skip ?_
                              refine fi_inBlock ?_
                              refine fi_region ?_
                              refine so_move (v := (.v (.int .i64 k153))) rfl ?_
                              refine so_bin rfl rfl ab_add ?_
                              refine so_assign (v := (.v (.int .i64 (IntKind.i64.wrap (k153 + (1 : Int)))))) rfl ?_
                              refine so_nil ?_
                              exact fi_at [(0, (.v v0)), (6, (.v (.flt .f32 (fop .quo .f32 (itof .f32 (IntKind.i64.wrap ((1 : Int) + y108))) (cz .f32 1090519040))))), (13, (.v v140)), (14, (.v v143)), (16, (.v (.int .i64 (IntKind.i64.wrap (k153 + (1 : Int))))))] ⟨rfl, rfl, rfl, rfl, rfl, trivial⟩ (h _ _  hs)
                        · refine so_gno rfl (decide_eq_false c155) ?_
                          refine so_gno rfl (decide_eq_false c155) ?_
                          refine so_gno rfl (decide_eq_false c155) ?_
                          refine so_gno rfl (decide_eq_false c155) ?_
                          refine so_gno rfl (decide_eq_false c155) ?_
                          refine so_gno rfl (decide_eq_false c155) ?_
                          refine so_gno rfl (decide_eq_false c155) ?_
                          refine so_gno rfl (decide_eq_false c155) ?_
                          refine so_gno rfl (decide_eq_false c155) ?_
                          refine so_gno rfl (decide_eq_false c155) ?_
                          refine so_pick_f (v := (.v (.bool false))) rfl (decide_eq_false c155) rfl ?_
                          refine so_move (v := (.v (.bool false))) rfl ?_
                          refine so_gyes rfl rfl ?_
                          refine so_move (v := (.v v143)) rfl ?_
                          refine so_gyes rfl rfl ?_
                          refine so_move (v := (.v (.int .i64 k153))) rfl ?_
                          refine so_gyes rfl rfl ?_
                          obtain ⟨c161, h⟩ := h
                          refine sv_idx (hs.shows 1 rfl) c161 (fun _ => rfl) (by decide) rfl rfl F3.tl24 ?_
                          refine so_gyes rfl rfl ?_
                          refine sv_cell (hs.shows 1 rfl) c161 (0 : Nat) 0 (fun x => (AV.flt .f32 x)) (fun _ => rfl) (fun _ => rfl) rfl F3.ag26 ?_
                          refine so_gyes rfl rfl ?_
                          refine so_bin rfl rfl ab_flss ?_
                          refine so_pick_f (v := (.v (.bool (fcmp .lss .f32 (y142.getD (k153).toNat (0 : Nat)) (cz .f32 0))))) rfl rfl rfl ?_
                          refine so_nil ?_
                          replace h := ofT h; rcases h with ⟨c162, h⟩ | ⟨c162, h⟩
                          · refine fi_true rfl c162 ?_
                            refine fi_seq ?_
                            refine fi_region ?_
                            refine so_assign (v := (.v (.bool false))) rfl ?_
                            refine so_nil ?_
                            exact by_ret rfl ⟨_, h, rfl, (Sep.del 0 (Sep.del 0 hs))⟩
                          · refine fi_false rfl c162 ?_
                            refine fi_skip ?_
                            refine fi_inBlock ?_
                            refine fi_region ?_
                            refine so_move (v := (.v (.int .i64 k153))) rfl ?_
                            refine so_bin rfl rfl ab_add ?_
                            refine so_assign (v := (.v (.int .i64 (IntKind.i64.wrap (k153 + (1 : Int)))))) rfl ?_
                            refine so_nil ?_
                            exact fi_at [(0, (.v v0)), (6, (.v (.flt .f32 (fop .quo .f32 (itof .f32 (IntKind.i64.wrap ((1 : Int) + y108))) (cz .f32 1090519040))))), (13, (.v v140)), (14, (.v v143)), (16, (.v (.int .i64 (IntKind.i64.wrap (k153 + (1 : Int))))))] ⟨rfl, rfl, rfl, rfl, rfl, trivial⟩ (h _ _  hs)
                      · refine fi_false rfl (decide_eq_false c154) ?_
                        refine fi_exit rfl ?_
                        refine fi_seq ?_
                        refine fi_seq ?_
                        refine fi_region ?_
                        refine so_move (v := (.v v143)) rfl ?_
                        refine so_move (v := (.v v143)) rfl ?_
                        refine sv_len (hs.shows 1 rfl) (fun _ => rfl) (by decide) rfl F3.ti24 ?_
                        refine so_bin rfl rfl ab_sub ?_
                        obtain ⟨c163, h⟩ := h
                        refine sv_idx (hs.shows 1 rfl) c163 (fun _ => rfl) (by decide) rfl rfl F3.tl24 ?_
                        refine sv_cell (hs.shows 1 rfl) c163 (0 : Nat) 0 (fun x => (AV.flt .f32 x)) (fun _ => rfl) (fun _ => rfl) rfl F3.ag26 ?_
                        refine sv_ffw rfl F3.us26 F3.in33 F3.fl33 ?_
                        refine so_move (v := (.v (.flt .f32 (fop .quo .f32 (itof .f32 (IntKind.i64.wrap ((1 : Int) + y108))) (cz .f32 1090519040))))) rfl ?_
                        refine sv_ffw rfl F3.us26 F3.in33 F3.fl33 ?_
                        refine so_bin rfl rfl ab_fmul ?_
                        refine so_bin rfl rfl ab_fgtr ?_
                        refine so_nil ?_
                        replace h := ofT h; rcases h with ⟨c164, h⟩ | ⟨c164, h⟩
                        · refine fi_true rfl c164 ?_
                          refine fi_seq ?_
                          refine fi_region ?_
                          refine so_assign (v := (.v (.bool false))) rfl ?_
                          refine so_nil ?_
                          exact by_ret rfl ⟨_, h, rfl, (Sep.del 0 (Sep.del 0 hs))⟩
                        · refine fi_false rfl c164 ?_
                          refine fi_skip ?_
                          refine fi_seq ?_
                          refine fi_region ?_
                          refine so_move (v := (.v v0)) rfl ?_
                          refine sv_call (spec_R8Table_ok v0 l0 hs (fun _ hs => (g0 _ hs.tl.tl)) _ h) rfl rfl nofun ?_
                          clear h hs
                          rintro _ H171 ⟨y165, y168, h, v166, v169, rfl, hs⟩
                          refine so_move (v := (.t [(.v v166), (.v v169)])) rfl ?_
                          refine so_extract rfl rfl rfl ?_
                          refine so_extract rfl rfl rfl ?_
                          refine so_assign (v := (.v v166)) rfl ?_
                          refine so_assign (v := (.v v169)) rfl ?_
                          refine so_nil ?_
                          refine fi_seq ?_
                          refine fi_region ?_
                          refine so_move (v := (.v v166)) rfl ?_
                          refine so_move (v := (.v v169)) rfl ?_
                          refine sv_call (impl_HullOf_ok v166 y165 v169 y168 hs (fun _ hs => (hs.shows 0 rfl)) (fun _ hs => (hs.shows 1 rfl)) _ h) rfl rfl nofun ?_
                          clear h hs
                          rintro _ H176 ⟨y172, y175, h, v173, rfl, hs⟩
                          refine so_move (v := (.t [(.v v173), (.v (.bool y175))])) rfl ?_
                          refine so_extract rfl rfl rfl ?_
                          refine so_extract rfl rfl rfl ?_
                          refine so_assign (v := (.v v173)) rfl ?_
                          refine so_assign (v := (.v (.bool y175))) rfl ?_
                          refine so_nil ?_
                          refine fi_seq ?_
                          refine fi_region ?_
                          refine so_move (v := (.v v166)) rfl ?_
                          refine so_move (v := (.v v169)) rfl ?_
                          refine sv_callS (impl_LastOfHull_okS v166 y165 v169 y168 hs (fun _ hs => (hs.shows 1 rfl)) (fun _ hs => (hs.shows 2 rfl)) _ h) (fun _ _ ⟨_, _, _, _, e⟩ => e) rfl rfl ?_
                          clear h
                          rintro _ _ ⟨y177, y178, h, rfl, rfl⟩
                          refine so_move (v := (.t [(.v (.int .i64 y177)), (.v (.bool y178))])) rfl ?_
                          refine so_extract rfl rfl rfl ?_
                          refine so_extract rfl rfl rfl ?_
                          refine so_assign (v := (.v (.int .i64 y177))) rfl ?_
                          refine so_assign (v := (.v (.bool y178))) rfl ?_
                          refine so_nil ?_
                          refine fi_seq ?_
                          refine fi_seq ?_
                          refine fi_region ?_
                          refine so_move (v := (.v (.bool y175))) rfl ?_
                          refine so_un rfl au_not ?_
                          refine so_move (v := (.v (.bool (!y175)))) rfl ?_
                          replace h := ofT h; rcases h with ⟨c180, h⟩ | ⟨c180, h⟩
                          · refine so_gyes rfl (not_f c180) ?_
                            refine so_move (v := (.v (.bool y178))) rfl ?_
                            refine so_gyes rfl (not_f c180) ?_
                            refine so_un rfl au_not ?_
                            refine so_pick_f (v := (.v (.bool (!y178)))) rfl (not_f c180) rfl ?_
                            refine so_move (v := (.v (.bool (!y178)))) rfl ?_
                            replace h := ofT h; rcases h with ⟨c181, h⟩ | ⟨c181, h⟩
                            · refine so_gyes rfl (not_f c181) ?_
                              refine so_move (v := (.v v173)) rfl ?_
                              refine so_gyes rfl (not_f c181) ?_
                              refine sv_len (hs.shows 0 rfl) (fun _ => rfl) (by decide) rfl F3.ti28 ?_
                              refine so_gyes rfl (not_f c181) ?_
                              refine so_bin rfl rfl ab_lss ?_
                              refine so_pick_f (v := (.v (.bool (decide ((y172.length : Int) < (1 : Int)))))) rfl (not_f c181) rfl ?_
                              refine so_move (v := (.v (.bool (decide ((y172.length : Int) < (1 : Int)))))) rfl ?_
                              replace h := ofP h; rcases h with ⟨c182, h⟩ | ⟨c182, h⟩
                              · refine so_gno rfl (decide_eq_true c182) ?_
                                refine so_gno rfl (decide_eq_true c182) ?_
                                refine so_gno rfl (decide_eq_true c182) ?_
                                refine so_gno rfl (decide_eq_true c182) ?_
                                refine so_pick_t (v := (.v (.bool true))) rfl (decide_eq_true c182) rfl ?_
                                refine so_move (v := (.v (.bool true))) rfl ?_
                                refine so_gno rfl rfl ?_
                                refine so_gno rfl rfl ?_
                                refine so_gno rfl rfl ?_
                                refine so_gno rfl rfl ?_
                                refine so_gno rfl rfl ?_
                                refine so_gno rfl rfl ?_
                                refine so_gno rfl rfl ?_
                                refine so_gno rfl rfl ?_
                                refine so_pick_t (v := (.v (.bool true))) rfl rfl rfl ?_
                                refine so_nil ?_
                                refine fi_true rfl rfl ?_
                                refine fi_seq ?_
                                refine fi_region ?_
                                refine so_assign (v := (.v (.bool false))) rfl ?_
                                refine so_nil ?_
                                exact by_ret rfl ⟨_, h, rfl, (Sep.dropn 5 hs)⟩
                              · refine so_gyes rfl (decide_eq_false c182) ?_
                                refine so_move (v := (.v v173)) rfl ?_
                                refine so_gyes rfl (decide_eq_false c182) ?_
                                obtain ⟨c183, h⟩ := h
                                refine sv_idx (hs.shows 0 rfl) c183 (fun _ => rfl) (by decide) rfl rfl F3.tl28 ?_
                                refine so_gyes rfl (decide_eq_false c182) ?_
                                refine sv_cell (hs.shows 0 rfl) c183 (0 : Int) 0 (fun x => (AV.int .i64 x)) (fun _ => rfl) (fun _ => rfl) rfl F3.ag2 ?_
                                refine so_gyes rfl (decide_eq_false c182) ?_
                                refine so_bin rfl rfl ab_neq ?_
                                refine so_pick_f (v := (.v (.bool (!(decide ((y172.getD ((0 : Int)).toNat (0 : Int)) = (0 : Int))))))) rfl (decide_eq_false c182) rfl ?_
                                refine so_move (v := (.v (.bool (!(decide ((y172.getD ((0 : Int)).toNat (0 : Int)) = (0 : Int))))))) rfl ?_
                                replace h := ofP h; rcases h with ⟨c184, h⟩ | ⟨c184, h⟩
                                · refine so_gyes rfl (not_f (decide_eq_true c184)) ?_
                                  refine so_move (v := (.v v173)) rfl ?_
                                  refine so_gyes rfl (not_f (decide_eq_true c184)) ?_
                                  refine so_move (v := (.v v173)) rfl ?_
                                  refine so_gyes rfl (not_f (decide_eq_true c184)) ?_
                                  refine sv_len (hs.shows 0 rfl) (fun _ => rfl) (by decide) rfl F3.ti28 ?_
                                  refine so_gyes rfl (not_f (decide_eq_true c184)) ?_
                                  refine so_bin rfl rfl ab_sub ?_
                                  refine so_gyes rfl (not_f (decide_eq_true c184)) ?_
                                  obtain ⟨c185, h⟩ := h
                                  refine sv_idx (hs.shows 0 rfl) c185 (fun _ => rfl) (by decide) rfl rfl F3.tl28 ?_
                                  refine so_gyes rfl (not_f (decide_eq_true c184)) ?_
                                  refine sv_cell (hs.shows 0 rfl) c185 (0 : Int) 0 (fun x => (AV.int .i64 x)) (fun _ => rfl) (fun _ => rfl) rfl F3.ag2 ?_
                                  refine so_gyes rfl (not_f (decide_eq_true c184)) ?_
                                  refine so_move (v := (.v (.int .i64 y177))) rfl ?_
                                  refine so_gyes rfl (not_f (decide_eq_true c184)) ?_
                                  refine so_bin rfl rfl ab_neq ?_
                                  refine so_pick_f (v := (.v (.bool (!(decide ((y172.getD ((IntKind.i64.wrap ((y172.length : Int) - (1 : Int)))).toNat (0 : Int)) = y177)))))) rfl (not_f (decide_eq_true c184)) rfl ?_
                                  refine so_nil ?_
                                  replace h := ofP h; rcases h with ⟨c186, h⟩ | ⟨c186, h⟩
                                  · refine fi_false rfl (not_f (decide_eq_true c186)) ?_
                                    refine fi_skip ?_
                                    refine fi_seq ?_
                                    refine fi_seq ?_
                                    refine fi_region ?_
                                    refine so_assign (v := (.v (.int .i64 (1 : Int)))) rfl ?_
                                    refine so_nil ?_
                                    refine fi_block ?_
                                    refine fi_loop ?_
                                    replace hs := hs.del 3
                                    replace hs := hs.del 3
                                    refine fi_at [(17, (.v v166)), (18, (.v v169)), (19, (.v v173)), (21, (.v (.int .i64 y177))), (23, (.v (.int .i64 (1 : Int))))] ⟨rfl, rfl, rfl, rfl, rfl, trivial⟩ ?_
                                    refine h (fun (k188 : Int) => ∀ (s : Nat → TV) (H : Heap), Sep H (Pc.osl v173 1 (enc (eInt .i64) y172) :: Pc.osl v166 1 (enc (eInt .i64) y165) :: Pc.osl v169 1 (enc (eFlt .f32) y168) :: fr) → Fin _ _ (updL s [(17, (.v v166)), (18, (.v v169)), (19, (.v v173)), (21, (.v (.int .i64 y177))), (23, (.v (.int .i64 k188)))]) H _) ?_ _ _ hs
                                    intro k188 h s215 H216 hs
                                    refine fi_inLoop ?_
                                    refine fi_seq ?_
                                    refine fi_seq ?_
                                    refine fi_region ?_
                                    refine so_move (v := (.v (.int .i64 k188))) rfl ?_
                                    refine so_move (v := (.v v173)) rfl ?_
                                    refine sv_len (hs.shows 0 rfl) (fun _ => rfl) (by decide) rfl F3.ti28 ?_
                                    refine so_bin rfl rfl ab_lss ?_
                                    refine so_nil ?_
                                    replace h := ofP h; rcases h with ⟨c189, h⟩ | ⟨c189, h⟩
                                    · refine fi_true rfl (decide_eq_true c189) ?_
                                      refine fi_skip ?_
                                      refine fi_seq ?_
                                      refine fi_block ?_
                                      refine fi_seq ?_
                                      refine fi_region ?_
                                      refine so_move (v := (.v v173)) rfl ?_
                                      refine so_move (v := (.v (.int .i64 k188))) rfl ?_
                                      refine so_bin rfl rfl ab_sub ?_
                                      obtain ⟨c190, h⟩ := h
                                      refine sv_idx (hs.shows 0 rfl) c190 (fun _ => rfl) (by decide) rfl rfl F3.tl28 ?_
                                      refine sv_cell (hs.shows 0 rfl) c190 (0 : Int) 0 (fun x => (AV.int .i64 x)) (fun _ => rfl) (fun _ => rfl) rfl F3.ag2 ?_
                                      refine so_assign (v := (.v (.int .i64 (y172.getD ((IntKind.i64.wrap (k188 - (1 : Int)))).toNat (0 : Int))))) rfl ?_
                                      refine so_nil ?_
                                      refine fi_seq ?_
                                      refine fi_region ?_
                                      refine so_move (v := (.v v173)) rfl ?_
                                      refine so_move (v := (.v (.int .i64 k188))) rfl ?_
                                      obtain ⟨c191, h⟩ := h
                                      refine sv_idx (hs.shows 0 rfl) c191 (fun _ => rfl) (by decide) rfl rfl F3.tl28 ?_
                                      refine sv_cell (hs.shows 0 rfl) c191 (0 : Int) 0 (fun x => (AV.int .i64 x)) (fun _ => rfl) (fun _ => rfl) rfl F3.ag2 ?_
                                      refine so_assign (v := (.v (.int .i64 (y172.getD (k188).toNat (0 : Int))))) rfl ?_
                                      refine so_nil ?_
                                      refine fi_seq ?_
                                      refine fi_seq ?_
                                      refine fi_region ?_
                                      refine so_move (v := (.v (.int .i64 (y172.getD (k188).toNat (0 : Int))))) rfl ?_
                                      refine so_move (v := (.v (.int .i64 (y172.getD ((IntKind.i64.wrap (k188 - (1 : Int)))).toNat (0 : Int))))) rfl ?_
                                      refine so_bin rfl rfl ab_leq ?_
                                      refine so_move (v := (.v (.bool (decide ((y172.getD (k188).toNat (0 : Int)) ≤ (y172.getD ((IntKind.i64.wrap (k188 - (1 : Int)))).toNat (0 : Int))))))) rfl ?_
                                      replace h := ofP h; rcases h with ⟨c192, h⟩ | ⟨c192, h⟩
                                      · refine so_gno rfl (decide_eq_true c192) ?_
                                        refine so_gno rfl (decide_eq_true c192) ?_
                                        refine so_gno rfl (decide_eq_true c192) ?_
                                        refine so_gno rfl (decide_eq_true c192) ?_
                                        refine so_pick_t (v := (.v (.bool true))) rfl (decide_eq_true c192) rfl ?_
                                        refine so_move (v := (.v (.bool true))) rfl ?_
                                        refine so_gno rfl rfl ?_
                                        refine so_gno rfl rfl ?_
                                        refine so_gno rfl rfl ?_
                                        refine so_gno rfl rfl ?_
                                        refine so_gno rfl rfl ?_
                                        refine so_gno rfl rfl ?_
                                        refine so_gno rfl rfl ?_
                                        refine so_gno rfl rfl ?_
                                        refine so_gno rfl rfl ?_
                                        refine so_pick_t (v := (.v (.bool true))) rfl rfl rfl ?_
                                        refine so_nil ?_
                                        refine fi_true rfl rfl ?_
                                        refine fi_seq ?_
                                        refine fi_region ?_
                                        refine so_assign (v := (.v (.bool false))) rfl ?_
                                        refine so_nil ?_
                                        exact by_ret rfl ⟨_, h, rfl, (Sep.del 0 (Sep.del 0 (Sep.del 0 hs)))⟩
                                      · refine so_gyes rfl (decide_eq_false c192) ?_
                                        refine so_move (v := (.v (.int .i64 (y172.getD (k188).toNat (0 : Int))))) rfl ?_
                                        refine so_gyes rfl (decide_eq_false c192) ?_
                                        refine so_move (v := (.v v166)) rfl ?_
                                        refine so_gyes rfl (decide_eq_false c192) ?_
                                        refine sv_len (hs.shows 1 rfl) (fun _ => rfl) (by decide) rfl F3.ti28 ?_
                                        refine so_gyes rfl (decide_eq_false c192) ?_
                                        refine so_bin rfl rfl ab_geq ?_
                                        refine so_pick_f (v := (.v (.bool (decide ((y165.length : Int) ≤ (y172.getD (k188).toNat (0 : Int))))))) rfl (decide_eq_false c192) rfl ?_
                                        refine so_move (v := (.v (.bool (decide ((y165.length : Int) ≤ (y172.getD (k188).toNat (0 : Int))))))) rfl ?_
                                        replace h := ofP h; rcases h with ⟨c193, h⟩ | ⟨c193, h⟩
                                        · refine so_gno rfl (decide_eq_true c193) ?_
                                          refine so_gno rfl (decide_eq_true c193) ?_
                                          refine so_gno rfl (decide_eq_true c193) ?_
                                          refine so_gno rfl (decide_eq_true c193) ?_
                                          refine so_gno rfl (decide_eq_true c193) ?_
                                          refine so_gno rfl (decide_eq_true c193) ?_
                                          refine so_gno rfl (decide_eq_true c193) ?_
                                          refine so_gno rfl (decide_eq_true c193) ?_
                                          refine so_gno rfl (decide_eq_true c193) ?_
                                          refine so_pick_t (v := (.v (.bool true))) rfl (decide_eq_true c193) rfl ?_
                                          refine so_nil ?_
                                          refine fi_true rfl rfl ?_
                                          refine fi_seq ?_
                                          refine fi_region ?_
                                          refine so_assign (v := (.v (.bool false))) rfl ?_
                                          refine so_nil ?_
                                          exact by_ret rfl ⟨_, h, rfl, (Sep.del 0 (Sep.del 0 (Sep.del 0 hs)))⟩
                                        · refine so_gyes rfl (decide_eq_false c193) ?_
                                          refine so_move (v := (.v v169)) rfl ?_
                                          refine so_gyes rfl (decide_eq_false c193) ?_
                                          refine so_move (v := (.v (.int .i64 (y172.getD (k188).toNat (0 : Int))))) rfl ?_
                                          refine so_gyes rfl (decide_eq_false c193) ?_
                                          obtain ⟨c194, h⟩ := h
                                          refine sv_idx (hs.shows 2 rfl) c194 (fun _ => rfl) (by decide) rfl rfl F3.tl24 ?_
                                          refine so_gyes rfl (decide_eq_false c193) ?_
                                          refine sv_cell (hs.shows 2 rfl) c194 (0 : Nat) 0 (fun x => (AV.flt .f32 x)) (fun _ => rfl) (fun _ => rfl) rfl F3.ag26 ?_
                                          refine so_gyes rfl (decide_eq_false c193) ?_
                                          refine so_move (v := (.v v169)) rfl ?_
                                          refine so_gyes rfl (decide_eq_false c193) ?_
                                          refine so_move (v := (.v (.int .i64 (y172.getD ((IntKind.i64.wrap (k188 - (1 : Int)))).toNat (0 : Int))))) rfl ?_
                                          refine so_gyes rfl (decide_eq_false c193) ?_
                                          obtain ⟨c195, h⟩ := h
                                          refine sv_idx (hs.shows 2 rfl) c195 (fun _ => rfl) (by decide) rfl rfl F3.tl24 ?_
                                          refine so_gyes rfl (decide_eq_false c193) ?_
                                          refine sv_cell (hs.shows 2 rfl) c195 (0 : Nat) 0 (fun x => (AV.flt .f32 x)) (fun _ => rfl) (fun _ => rfl) rfl F3.ag26 ?_
                                          refine so_gyes rfl (decide_eq_false c193) ?_
                                          refine so_bin rfl rfl ab_fgeq ?_
                                          refine so_pick_f (v := (.v (.bool (fcmp .geq .f32 (y168.getD ((y172.getD (k188).toNat (0 : Int))).toNat (0 : Nat)) (y168.getD ((y172.getD ((IntKind.i64.wrap (k188 - (1 : Int)))).toNat (0 : Int))).toNat (0 : Nat)))))) rfl (decide_eq_false c193) rfl ?_
                                          refine so_nil ?_
                                          replace h := ofT h; rcases h with ⟨c196, h⟩ | ⟨c196, h⟩
                                          · refine fi_true rfl c196 ?_
                                            refine fi_seq ?_
                                            refine fi_region ?_
                                            refine so_assign (v := (.v (.bool false))) rfl ?_
                                            refine so_nil ?_
                                            exact by_ret rfl ⟨_, h, rfl, (Sep.del 0 (Sep.del 0 (Sep.del 0 hs)))⟩
                                          · refine fi_false rfl c196 ?_
                                            refine fi_skip ?_
                                            refine fi_seq ?_
                                            refine fi_region ?_
                                            refine so_move (v := (.v v169)) rfl ?_
                                            refine so_move (v := (.v (.int .i64 (y172.getD ((IntKind.i64.wrap (k188 - (1 : Int)))).toNat (0 : Int))))) rfl ?_
                                            refine sv_idx (hs.shows 2 rfl) c195 (fun _ => rfl) (by decide) rfl rfl F3.tl24 ?_
                                            refine sv_cell (hs.shows 2 rfl) c195 (0 : Nat) 0 (fun x => (AV.flt .f32 x)) (fun _ => rfl) (fun _ => rfl) rfl F3.ag26 ?_
                                            refine sv_ffw rfl F3.us26 F3.in33 F3.fl33 ?_
                                            refine so_move (v := (.v v169)) rfl ?_
                                            refine so_move (v := (.v (.int .i64 (y172.getD (k188).toNat (0 : Int))))) rfl ?_
                                            refine sv_idx (hs.shows 2 rfl) c194 (fun _ => rfl) (by decide) rfl rfl F3.tl24 ?_
                                            refine sv_cell (hs.shows 2 rfl) c194 (0 : Nat) 0 (fun x => (AV.flt .f32 x)) (fun _ => rfl) (fun _ => rfl) rfl F3.ag26 ?_
                                            refine sv_ffw rfl F3.us26 F3.in33 F3.fl33 ?_
                                            refine so_bin rfl rfl ab_fsub ?_
                                            refine so_move (v := (.v v166)) rfl ?_
                                            refine so_move (v := (.v (.int .i64 (y172.getD (k188).toNat (0 : Int))))) rfl ?_
                                            obtain ⟨c197, h⟩ := h
                                            refine sv_idx (hs.shows 1 rfl) c197 (fun _ => rfl) (by decide) rfl rfl F3.tl28 ?_
                                            refine sv_cell (hs.shows 1 rfl) c197 (0 : Int) 0 (fun x => (AV.int .i64 x)) (fun _ => rfl) (fun _ => rfl) rfl F3.ag2 ?_
                                            refine so_move (v := (.v v166)) rfl ?_
                                            refine so_move (v := (.v (.int .i64 (y172.getD ((IntKind.i64.wrap (k188 - (1 : Int)))).toNat (0 : Int))))) rfl ?_
                                            obtain ⟨c198, h⟩ := h
                                            refine sv_idx (hs.shows 1 rfl) c198 (fun _ => rfl) (by decide) rfl rfl F3.tl28 ?_
                                            refine sv_cell (hs.shows 1 rfl) c198 (0 : Int) 0 (fun x => (AV.int .i64 x)) (fun _ => rfl) (fun _ => rfl) rfl F3.ag2 ?_
                                            refine so_bin rfl rfl ab_sub ?_
                                            refine sv_if rfl F3.us2 F3.in33 F3.fl33 ?_
                                            refine so_bin rfl rfl ab_fquo ?_
                                            refine so_assign (v := (.v (.flt .f64 (fop .quo .f64 (fop .sub .f64 (widen (y168.getD ((y172.getD ((IntKind.i64.wrap (k188 - (1 : Int)))).toNat (0 : Int))).toNat (0 : Nat))) (widen (y168.getD ((y172.getD (k188).toNat (0 : Int))).toNat (0 : Nat)))) (itof .f64 (IntKind.i64.wrap ((y165.getD ((y172.getD (k188).toNat (0 : Int))).toNat (0 : Int)) - (y165.getD ((y172.getD ((IntKind.i64.wrap (k188 - (1 : Int)))).toNat (0 : Int))).toNat (0 : Int))))))))) rfl ?_
                                            refine so_nil ?_
                                            refine fi_seq ?_
                                            refine fi_region ?_
                                            refine so_move (v := (.v (.int .i64 (y172.getD ((IntKind.i64.wrap (k188 - (1 : Int)))).toNat (0 : Int))))) rfl ?_
                                            refine so_bin rfl rfl ab_add ?_
                                            refine so_assign (v := (.v (.int .i64 (IntKind.i64.wrap ((y172.getD ((IntKind.i64.wrap (k188 - (1 : Int)))).toNat (0 : Int)) + (1 : Int)))))) rfl ?_
                                            refine so_nil ?_
                                            refine fi_block ?_
                                            refine fi_loop ?_
                                            refine fi_at [(17, (.v v166)), (18, (.v v169)), (19, (.v v173)), (21, (.v (.int .i64 y177))), (23, (.v (.int .i64 k188))), (24, (.v (.int .i64 (y172.getD ((IntKind.i64.wrap (k188 - (1 : Int)))).toNat (0 : Int))))), (26, (.v (.flt .f64 (fop .quo .f64 (fop .sub .f64 (widen (y168.getD ((y172.getD ((IntKind.i64.wrap (k188 - (1 : Int)))).toNat (0 : Int))).toNat (0 : Nat))) (widen (y168.getD ((y172.getD (k188).toNat (0 : Int))).toNat (0 : Nat)))) (itof .f64 (IntKind.i64.wrap ((y165.getD ((y172.getD (k188).toNat (0 : Int))).toNat (0 : Int)) - (y165.getD ((y172.getD ((IntKind.i64.wrap (k188 - (1 : Int)))).toNat (0 : Int))).toNat (0 : Int))))))))), (27, (.v (.int .i64 (IntKind.i64.wrap ((y172.getD ((IntKind.i64.wrap (k188 - (1 : Int)))).toNat (0 : Int)) + (1 : Int))))))] ⟨rfl, rfl, rfl, rfl, rfl, rfl, rfl, rfl, trivial⟩ ?_
                                            refine h (fun (i200 : Int) => ∀ (s : Nat → TV) (H : Heap), Sep H (Pc.osl v173 1 (enc (eInt .i64) y172) :: Pc.osl v166 1 (enc (eInt .i64) y165) :: Pc.osl v169 1 (enc (eFlt .f32) y168) :: fr) → Fin _ _ (updL s [(17, (.v v166)), (18, (.v v169)), (19, (.v v173)), (21, (.v (.int .i64 y177))), (23, (.v (.int .i64 k188))), (24, (.v (.int .i64 (y172.getD ((IntKind.i64.wrap (k188 - (1 : Int)))).toNat (0 : Int))))), (26, (.v (.flt .f64 (fop .quo .f64 (fop .sub .f64 (widen (y168.getD ((y172.getD ((IntKind.i64.wrap (k188 - (1 : Int)))).toNat (0 : Int))).toNat (0 : Nat))) (widen (y168.getD ((y172.getD (k188).toNat (0 : Int))).toNat (0 : Nat)))) (itof .f64 (IntKind.i64.wrap ((y165.getD ((y172.getD (k188).toNat (0 : Int))).toNat (0 : Int)) - (y165.getD ((y172.getD ((IntKind.i64.wrap (k188 - (1 : Int)))).toNat (0 : Int))).toNat (0 : Int))))))))), (27, (.v (.int .i64 i200)))]) H _) ?_ _ _ hs
                                            intro i200 h s205 H206 hs
                                            refine fi_inLoop ?_
                                            refine fi_seq ?_
                                            refine fi_seq ?_
                                            refine fi_region ?_
                                            refine so_move (v := (.v (.int .i64 i200))) rfl ?_
                                            refine so_move (v := (.v v166)) rfl ?_
                                            refine sv_len (hs.shows 1 rfl) (fun _ => rfl) (by decide) rfl F3.ti28 ?_
                                            refine so_bin rfl rfl ab_lss ?_
                                            refine so_nil ?_
                                            replace h := ofP h; rcases h with ⟨c201, h⟩ | ⟨c201, h⟩
                                            · refine fi_true rfl (decide_eq_true c201) ?_
                                              refine fi_skip ?_
                                              refine fi_seq ?_
                                              refine fi_block ?_
                                              refine fi_seq ?_
                                              refine fi_region ?_
                                              refine so_move (v := (.v v169)) rfl ?_
                                              refine so_move (v := (.v (.int .i64 (y172.getD ((IntKind.i64.wrap (k188 - (1 : Int)))).toNat (0 : Int))))) rfl ?_
                                              refine sv_idx (hs.shows 2 rfl) c195 (fun _ => rfl) (by decide) rfl rfl F3.tl24 ?_
                                              refine sv_cell (hs.shows 2 rfl) c195 (0 : Nat) 0 (fun x => (AV.flt .f32 x)) (fun _ => rfl) (fun _ => rfl) rfl F3.ag26 ?_
                                              refine sv_ffw rfl F3.us26 F3.in33 F3.fl33 ?_
                                              refine so_move (v := (.v v169)) rfl ?_
                                              refine so_move (v := (.v (.int .i64 i200))) rfl ?_
                                              obtain ⟨c202, h⟩ := h
                                              refine sv_idx (hs.shows 2 rfl) c202 (fun _ => rfl) (by decide) rfl rfl F3.tl24 ?_
                                              refine sv_cell (hs.shows 2 rfl) c202 (0 : Nat) 0 (fun x => (AV.flt .f32 x)) (fun _ => rfl) (fun _ => rfl) rfl F3.ag26 ?_
                                              refine sv_ffw rfl F3.us26 F3.in33 F3.fl33 ?_
                                              refine so_bin rfl rfl ab_fsub ?_
                                              refine so_move (v := (.v v166)) rfl ?_
                                              refine so_move (v := (.v (.int .i64 i200))) rfl ?_
                                              obtain ⟨c203, h⟩ := h
                                              refine sv_idx (hs.shows 1 rfl) c203 (fun _ => rfl) (by decide) rfl rfl F3.tl28 ?_
                                              refine sv_cell (hs.shows 1 rfl) c203 (0 : Int) 0 (fun x => (AV.int .i64 x)) (fun _ => rfl) (fun _ => rfl) rfl F3.ag2 ?_
                                              refine so_move (v := (.v v166)) rfl ?_
                                              refine so_move (v := (.v (.int .i64 (y172.getD ((IntKind.i64.wrap (k188 - (1 : Int)))).toNat (0 : Int))))) rfl ?_
                                              refine sv_idx (hs.shows 1 rfl) c198 (fun _ => rfl) (by decide) rfl rfl F3.tl28 ?_
                                              refine sv_cell (hs.shows 1 rfl) c198 (0 : Int) 0 (fun x => (AV.int .i64 x)) (fun _ => rfl) (fun _ => rfl) rfl F3.ag2 ?_
                                              refine so_bin rfl rfl ab_sub ?_
                                              refine sv_if rfl F3.us2 F3.in33 F3.fl33 ?_
                                              refine so_bin rfl rfl ab_fquo ?_
                                              refine so_move (v := (.v (.flt .f64 (fop .quo .f64 (fop .sub .f64 (widen (y168.getD ((y172.getD ((IntKind.i64.wrap (k188 - (1 : Int)))).toNat (0 : Int))).toNat (0 : Nat))) (widen (y168.getD ((y172.getD (k188).toNat (0 : Int))).toNat (0 : Nat)))) (itof .f64 (IntKind.i64.wrap ((y165.getD ((y172.getD (k188).toNat (0 : Int))).toNat (0 : Int)) - (y165.getD ((y172.getD ((IntKind.i64.wrap (k188 - (1 : Int)))).toNat (0 : Int))).toNat (0 : Int))))))))) rfl ?_
                                              refine so_bin rfl rfl ab_fadd ?_
                                              refine so_bin rfl rfl ab_fgtr ?_
                                              refine so_nil ?_
                                              replace h := ofT h; rcases h with ⟨c204, h⟩ | ⟨c204, h⟩
                                              · refine fi_true rfl c204 ?_
                                                refine fi_seq ?_
                                                refine fi_region ?_
                                                refine so_assign (v := (.v (.bool false))) rfl ?_
                                                refine so_nil ?_
                                                exact by_ret rfl ⟨_, h, rfl, (Sep.del 0 (Sep.del 0 (Sep.del 0 hs)))⟩
                                              · refine fi_false rfl c204 ?_
                                                refine fi_skip ?_
                                                refine fi_inBlock ?_
                                                refine fi_region ?_
                                                refine so_move (v := (.v (.int .i64 i200))) rfl ?_
                                                refine so_bin rfl rfl ab_add ?_
                                                refine so_assign (v := (.v (.int .i64 (IntKind.i64.wrap (i200 + (1 : Int)))))) rfl ?_
                                                refine so_nil ?_
                                                exact fi_at [(17, (.v v166)), (18, (.v v169)), (19, (.v v173)), (21, (.v (.int .i64 y177))), (23, (.v (.int .i64 k188))), (24, (.v (.int .i64 (y172.getD ((IntKind.i64.wrap (k188 - (1 : Int)))).toNat (0 : Int))))), (26, (.v (.flt .f64 (fop .quo .f64 (fop .sub .f64 (widen (y168.getD ((y172.getD ((IntKind.i64.wrap (k188 - (1 : Int)))).toNat (0 : Int))).toNat (0 : Nat))) (widen (y168.getD ((y172.getD (k188).toNat (0 : Int))).toNat (0 : Nat)))) (itof .f64 (IntKind.i64.wrap ((y165.getD ((y172.getD (k188).toNat (0 : Int))).toNat (0 : Int)) - (y165.getD ((y172.getD ((IntKind.i64.wrap (k188 - (1 : Int)))).toNat (0 : Int))).toNat (0 : Int))))))))), (27, (.v (.int .i64 (IntKind.i64.wrap (i200 + (1 : Int))))))] ⟨rfl, rfl, rfl, rfl, rfl, rfl, rfl, rfl, trivial⟩ (h _ _  hs)
                                            · refine fi_false rfl (decide_eq_false c201) ?_
                                              refine fi_exit rfl ?_
                                              refine fi_inBlock ?_
                                              refine fi_region ?_
                                              refine so_move (v := (.v (.int .i64 k188))) rfl ?_
                                              refine so_bin rfl rfl ab_add ?_
                                              refine so_assign (v := (.v (.int .i64 (IntKind.i64.wrap (k188 + (1 : Int)))))) rfl ?_
                                              refine so_nil ?_
                                              exact fi_at [(17, (.v v166)), (18, (.v v169)), (19, (.v v173)), (21, (.v (.int .i64 y177))), (23, (.v (.int .i64 (IntKind.i64.wrap (k188 + (1 : Int))))))] ⟨rfl, rfl, rfl, rfl, rfl, trivial⟩ (h _ _  hs)
                                    · refine fi_false rfl (decide_eq_false c189) ?_
                                      refine fi_exit rfl ?_
                                      refine fi_seq ?_
                                      refine fi_seq ?_
                                      refine fi_region ?_
                                      refine so_move (v := (.v (.int .i64 y177))) rfl ?_
                                      refine so_bin rfl rfl ab_add ?_
                                      refine so_assign (v := (.v (.int .i64 (IntKind.i64.wrap (y177 + (1 : Int)))))) rfl ?_
                                      refine so_nil ?_
                                      refine fi_block ?_
                                      refine fi_loop ?_
                                      replace hs := hs.del 0
                                      refine fi_at [(17, (.v v166)), (18, (.v v169)), (21, (.v (.int .i64 y177))), (28, (.v (.int .i64 (IntKind.i64.wrap (y177 + (1 : Int))))))] ⟨rfl, rfl, rfl, rfl, trivial⟩ ?_
                                      refine h (fun (i208 : Int) => ∀ (s : Nat → TV) (H : Heap), Sep H (Pc.osl v166 1 (enc (eInt .i64) y165) :: Pc.osl v169 1 (enc (eFlt .f32) y168) :: fr) → Fin _ _ (updL s [(17, (.v v166)), (18, (.v v169)), (21, (.v (.int .i64 y177))), (28, (.v (.int .i64 i208)))]) H _) ?_ _ _ hs
                                      intro i208 h s213 H214 hs
                                      refine fi_inLoop ?_
                                      refine fi_seq ?_
                                      refine fi_seq ?_
                                      refine fi_region ?_
                                      refine so_move (v := (.v (.int .i64 i208))) rfl ?_
                                      refine so_move (v := (.v v166)) rfl ?_
                                      refine sv_len (hs.shows 0 rfl) (fun _ => rfl) (by decide) rfl F3.ti28 ?_
                                      refine so_bin rfl rfl ab_lss ?_
                                      refine so_nil ?_
                                      replace h := ofP h; rcases h with ⟨c209, h⟩ | ⟨c209, h⟩
                                      · refine fi_true rfl (decide_eq_true c209) ?_
                                        refine fi_skip ?_
                                        refine fi_seq ?_
                                        refine fi_block ?_
                                        refine fi_seq ?_
                                        refine fi_region ?_
                                        refine so_move (v := (.v v169)) rfl ?_
                                        refine so_move (v := (.v (.int .i64 i208))) rfl ?_
                                        obtain ⟨c210, h⟩ := h
                                        refine sv_idx (hs.shows 1 rfl) c210 (fun _ => rfl) (by decide) rfl rfl F3.tl24 ?_
                                        refine sv_cell (hs.shows 1 rfl) c210 (0 : Nat) 0 (fun x => (AV.flt .f32 x)) (fun _ => rfl) (fun _ => rfl) rfl F3.ag26 ?_
                                        refine so_move (v := (.v v169)) rfl ?_
                                        refine so_move (v := (.v (.int .i64 y177))) rfl ?_
                                        obtain ⟨c211, h⟩ := h
                                        refine sv_idx (hs.shows 1 rfl) c211 (fun _ => rfl) (by decide) rfl rfl F3.tl24 ?_
                                        refine sv_cell (hs.shows 1 rfl) c211 (0 : Nat) 0 (fun x => (AV.flt .f32 x)) (fun _ => rfl) (fun _ => rfl) rfl F3.ag26 ?_
                                        refine so_bin rfl rfl ab_flss ?_
                                        refine so_nil ?_
                                        replace h := ofT h; rcases h with ⟨c212, h⟩ | ⟨c212, h⟩
                                        · refine fi_true rfl c212 ?_
                                          refine fi_seq ?_
                                          refine fi_region ?_
                                          refine so_assign (v := (.v (.bool false))) rfl ?_
                                          refine so_nil ?_
                                          exact by_ret rfl ⟨_, h, rfl, (Sep.del 0 (Sep.del 0 hs))⟩
                                        · refine fi_false rfl c212 ?_
                                          refine fi_skip ?_
                                          refine fi_inBlock ?_
                                          refine fi_region ?_
                                          refine so_move (v := (.v (.int .i64 i208))) rfl ?_
                                          refine so_bin rfl rfl ab_add ?_
                                          refine so_assign (v := (.v (.int .i64 (IntKind.i64.wrap (i208 + (1 : Int)))))) rfl ?_
                                          refine so_nil ?_
                                          exact fi_at [(17, (.v v166)), (18, (.v v169)), (21, (.v (.int .i64 y177))), (28, (.v (.int .i64 (IntKind.i64.wrap (i208 + (1 : Int))))))] ⟨rfl, rfl, rfl, rfl, trivial⟩ (h _ _  hs)
                                      · refine fi_false rfl (decide_eq_false c209) ?_
                                        refine fi_exit rfl ?_
                                        refine fi_seq ?_
                                        refine fi_region ?_
                                        refine so_assign (v := (.v (.bool true))) rfl ?_
                                        refine so_nil ?_
                                        exact by_ret rfl ⟨_, h, rfl, (Sep.del 0 (Sep.del 0 hs))⟩
                                  · refine fi_true rfl (not_t (decide_eq_false c186)) ?_
                                    refine fi_seq ?_
                                    refine fi_region ?_
                                    refine so_assign (v := (.v (.bool false))) rfl ?_
                                    refine so_nil ?_
                                    exact by_ret rfl ⟨_, h, rfl, (Sep.dropn 5 hs)⟩
                                · refine so_gno rfl (not_t (decide_eq_false c184)) ?_
                                  refine so_gno rfl (not_t (decide_eq_false c184)) ?_
                                  refine so_gno rfl (not_t (decide_eq_false c184)) ?_
                                  refine so_gno rfl (not_t (decide_eq_false c184)) ?_
                                  refine so_gno rfl (not_t (decide_eq_false c184)) ?_
                                  refine so_gno rfl (not_t (decide_eq_false c184)) ?_
                                  refine so_gno rfl (not_t (decide_eq_false c184)) ?_
                                  refine so_gno rfl (not_t (decide_eq_false c184)) ?_
                                  refine so_pick_t (v := (.v (.bool true))) rfl (not_t (decide_eq_false c184)) rfl ?_
                                  refine so_nil ?_
                                  refine fi_true rfl rfl ?_
                                  refine fi_seq ?_
                                  refine fi_region ?_
                                  refine so_assign (v := (.v (.bool false))) rfl ?_
                                  refine so_nil ?_
                                  exact by_ret rfl ⟨_, h, rfl, (Sep.dropn 5 hs)⟩
                            · refine so_gno rfl (not_t c181) ?_
                              refine so_gno rfl (not_t c181) ?_
                              refine so_gno rfl (not_t c181) ?_
                              refine so_pick_t (v := (.v (.bool true))) rfl (not_t c181) rfl ?_
                              refine so_move (v := (.v (.bool true))) rfl ?_
                              refine so_gno rfl rfl ?_
                              refine so_gno rfl rfl ?_
                              refine so_gno rfl rfl ?_
                              refine so_gno rfl rfl ?_
                              refine so_pick_t (v := (.v (.bool true))) rfl rfl rfl ?_
                              refine so_move (v := (.v (.bool true))) rfl ?_
                              refine so_gno rfl rfl ?_
                              refine so_gno rfl rfl ?_
                              refine so_gno rfl rfl ?_
                              refine so_gno rfl rfl ?_
                              refine so_gno rfl rfl ?_
                              refine so_gno rfl rfl ?_
                              refine so_gno rfl rfl ?_
                              refine so_gno rfl rfl ?_
                              refine so_pick_t (v := (.v (.bool true))) rfl rfl rfl ?_
                              refine so_nil ?_
                              refine fi_true rfl rfl ?_
                              refine fi_seq ?_
                              refine fi_region ?_
                              refine so_assign (v := (.v (.bool false))) rfl ?_
                              refine so_nil ?_
                              exact by_ret rfl ⟨_, h, rfl, (Sep.dropn 5 hs)⟩
                          · refine so_gno rfl (not_t c180) ?_
                            refine so_gno rfl (not_t c180) ?_
                            refine so_pick_t (v := (.v (.bool true))) rfl (not_t c180) rfl ?_
                            refine so_move (v := (.v (.bool true))) rfl ?_
                            refine so_gno rfl rfl ?_
                            refine so_gno rfl rfl ?_
                            refine so_gno rfl rfl ?_
                            refine so_pick_t (v := (.v (.bool true))) rfl rfl rfl ?_
                            refine so_move (v := (.v (.bool true))) rfl ?_
                            refine so_gno rfl rfl ?_
                            refine so_gno rfl rfl ?_
                            refine so_gno rfl rfl ?_
                            refine so_gno rfl rfl ?_
                            refine so_pick_t (v := (.v (.bool true))) rfl rfl rfl ?_
                            refine so_move (v := (.v (.bool true))) rfl ?_
                            refine so_gno rfl rfl ?_
                            refine so_gno rfl rfl ?_
                            refine so_gno rfl rfl ?_
                            refine so_gno rfl rfl ?_
                            refine so_gno rfl rfl ?_
                            refine so_gno rfl rfl ?_
                            refine so_gno rfl rfl ?_
                            refine so_gno rfl rfl ?_
                            refine so_pick_t (v := (.v (.bool true))) rfl rfl rfl ?_
                            refine so_nil ?_
                            refine fi_true rfl rfl ?_
                            refine fi_seq ?_
                            refine fi_region ?_
                            refine so_assign (v := (.v (.bool false))) rfl ?_
                            refine so_nil ?_
                            exact by_ret rfl ⟨_, h, rfl, (Sep.dropn 5 hs)⟩
                    · refine fi_true rfl (not_t (decide_eq_false c151)) ?_
                      refine fi_seq ?_
                      refine fi_region ?_
                      refine so_assign (v := (.v (.bool false))) rfl ?_
                      refine so_nil ?_
                      exact by_ret rfl ⟨_, h, rfl, (Sep.dropn 5 hs)⟩
                  · refine so_gno rfl (not_t (decide_eq_false c149)) ?_
                    refine so_gno rfl (not_t (decide_eq_false c149)) ?_
                    refine so_gno rfl (not_t (decide_eq_false c149)) ?_
                    refine so_gno rfl (not_t (decide_eq_false c149)) ?_
                    refine so_pick_t (v := (.v (.bool true))) rfl (not_t (decide_eq_false c149)) rfl ?_
                    refine so_nil ?_
                    refine fi_true rfl rfl ?_
                    refine fi_seq ?_
                    refine fi_region ?_
                    refine so_assign (v := (.v (.bool false))) rfl ?_
                    refine so_nil ?_
                    exact by_ret rfl ⟨_, h, rfl, (Sep.dropn 5 hs)⟩
              · refine so_gno rfl (not_t c147) ?_
                refine so_gno rfl (not_t c147) ?_
                refine so_gno rfl (not_t c147) ?_
                refine so_pick_t (v := (.v (.bool true))) rfl (not_t c147) rfl ?_
                refine so_move (v := (.v (.bool true))) rfl ?_
                refine so_gno rfl rfl ?_
                refine so_gno rfl rfl ?_
                refine so_gno rfl rfl ?_
                refine so_gno rfl rfl ?_
                refine so_gno rfl rfl ?_
                refine so_pick_t (v := (.v (.bool true))) rfl rfl rfl ?_
                refine so_move (v := (.v (.bool true))) rfl ?_
                refine so_gno rfl rfl ?_
                refine so_gno rfl rfl ?_
                refine so_gno rfl rfl ?_
                refine so_gno rfl rfl ?_
                refine so_pick_t (v := (.v (.bool true))) rfl rfl rfl ?_
                refine so_nil ?_
                refine fi_true rfl rfl ?_
                refine fi_seq ?_
                refine fi_region ?_
                refine so_assign (v := (.v (.bool false))) rfl ?_
                refine so_nil ?_
                exact by_ret rfl ⟨_, h, rfl, (Sep.dropn 5 hs)⟩
          · refine fi_true rfl (not_t (decide_eq_false c125)) ?_
            refine fi_seq ?_
            refine fi_region ?_
            refine so_assign (v := (.v (.bool false))) rfl ?_
            refine so_nil ?_
            exact by_ret rfl ⟨_, h, rfl, (Sep.del 0 (Sep.del 0 (Sep.del 0 hs)))⟩
        · refine so_gno rfl (not_t (decide_eq_false c124)) ?_
          refine so_gno rfl (not_t (decide_eq_false c124)) ?_
          refine so_gno rfl (not_t (decide_eq_false c124)) ?_
          refine so_gno rfl (not_t (decide_eq_false c124)) ?_
          refine so_gno rfl (not_t (decide_eq_false c124)) ?_
          refine so_pick_t (v := (.v (.bool true))) rfl (not_t (decide_eq_false c124)) rfl ?_
          refine so_nil ?_
          refine fi_true rfl rfl ?_
          refine fi_seq ?_
          refine fi_region ?_
          refine so_assign (v := (.v (.bool false))) rfl ?_
          refine so_nil ?_
          exact by_ret rfl ⟨_, h, rfl, (Sep.del 0 (Sep.del 0 (Sep.del 0 hs)))⟩
      · refine so_gno rfl (not_t c123) ?_
        refine so_gno rfl (not_t c123) ?_
        refine so_gno rfl (not_t c123) ?_
        refine so_gno rfl (not_t c123) ?_
        refine so_gno rfl (not_t c123) ?_
        refine so_pick_t (v := (.v (.bool true))) rfl (not_t c123) rfl ?_
        refine so_move (v := (.v (.bool true))) rfl ?_
        refine so_gno rfl rfl ?_
        refine so_gno rfl rfl ?_
        refine so_gno rfl rfl ?_
        refine so_gno rfl rfl ?_
        refine so_gno rfl rfl ?_
        refine so_pick_t (v := (.v (.bool true))) rfl rfl rfl ?_
        refine so_nil ?_
        refine fi_true rfl rfl ?_
        refine fi_seq ?_
        refine fi_region ?_
        refine so_assign (v := (.v (.bool false))) rfl ?_
        refine so_nil ?_
        exact by_ret rfl ⟨_, h, rfl, (Sep.del 0 (Sep.del 0 (Sep.del 0 hs)))⟩
    · refine so_gno rfl (not_t c122) ?_
      refine so_gno rfl (not_t c122) ?_
      refine so_pick_t (v := (.v (.bool true))) rfl (not_t c122) rfl ?_
      refine so_move (v := (.v (.bool true))) rfl ?_
      refine so_gno rfl rfl ?_
      refine so_gno rfl rfl ?_
      refine so_gno rfl rfl ?_
      refine so_gno rfl rfl ?_
      refine so_gno rfl rfl ?_
      refine so_pick_t (v := (.v (.bool true))) rfl rfl rfl ?_
      refine so_move (v := (.v (.bool true))) rfl ?_
      refine so_gno rfl rfl ?_
      refine so_gno rfl rfl ?_
      refine so_gno rfl rfl ?_
      refine so_gno rfl rfl ?_
      refine so_gno rfl rfl ?_
      refine so_pick_t (v := (.v (.bool true))) rfl rfl rfl ?_
      refine so_nil ?_
      refine fi_true rfl rfl ?_
      refine fi_seq ?_
      refine fi_region ?_
      refine so_assign (v := (.v (.bool false))) rfl ?_
      refine so_nil ?_
      exact by_ret rfl ⟨_, h, rfl, (Sep.del 0 (Sep.del 0 (Sep.del 0 hs)))⟩
end Go.Proofs.Ytfhlhgnipmgfdaa.G
