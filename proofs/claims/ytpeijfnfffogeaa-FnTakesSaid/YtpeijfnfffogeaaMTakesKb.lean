/-
  The model ends so. Printed by a program of the session; nothing here is trusted.
-/
import Derived.Test.YtpeijfnfffogeaaProg
import Derived.KernelRfl
import Derived.Test.YtpeijfnfffogeaaMTakesWa
import Derived.Test.YtpeijfnfffogeaaMTakesKa
namespace Go.Proofs.Ytpeijfnfffogeaa.G
open Go Go.Ab Go.Proofs Go.Proofs.Ytpeijfnfffogeaa
set_option maxRecDepth 100000
set_option linter.unusedVariables false
set_option linter.unusedSimpArgs false
set_option maxHeartbeats 1000000
attribute [local irreducible] wops wopf Go.Ab.Fin
theorem F11.ag3 : tagg Try.prog 3 = some false := by kernel_rfl
theorem F11.ag37 : tagg Try.prog 37 = some false := by kernel_rfl
theorem F11.ag5 : tagg Try.prog 5 = some false := by kernel_rfl
theorem F11.ag57 : tagg Try.prog 57 = some true := by kernel_rfl
theorem F11.fd57_2 : tfield Try.prog 57 2 = some (2, 1, false) := by kernel_rfl
theorem F11.it5 : tint Try.prog 5 = some .u8 := by kernel_rfl
theorem F11.ns98 : tstr Try.prog 98 = false := by kernel_rfl
theorem F11.sr9 : tstr Try.prog 9 = true := by kernel_rfl
theorem F11.sz3 : tsz Try.prog 3 = some 1 := by kernel_rfl
theorem F11.sz5 : tsz Try.prog 5 = some 1 := by kernel_rfl
theorem F11.sz57 : tsz Try.prog 57 = some 3 := by kernel_rfl
theorem F11.ta101_101 : tapp Try.prog 101 101 = some (1, 8) := by kernel_rfl
theorem F11.te101 : telem Try.prog 101 = some 3 := by kernel_rfl
theorem F11.te66 : telem Try.prog 66 = some 57 := by kernel_rfl
theorem F11.te98 : telem Try.prog 98 = some 5 := by kernel_rfl
theorem F11.ti101 : (telem Try.prog 101).isSome = true := by kernel_rfl
theorem F11.ti37 : (telem Try.prog 37).isSome = true := by kernel_rfl
theorem F11.ti66 : (telem Try.prog 66).isSome = true := by kernel_rfl
theorem F11.ti98 : (telem Try.prog 98).isSome = true := by kernel_rfl
theorem F11.tl101 : (telem Try.prog 101).bind (tsz Try.prog) = some 1 := by kernel_rfl
theorem F11.tl66 : (telem Try.prog 66).bind (tsz Try.prog) = some 3 := by kernel_rfl
theorem F11.tl98 : (telem Try.prog 98).bind (tsz Try.prog) = some 1 := by kernel_rfl
theorem F11.us2 : (Try.prog.underlying 2).isSome = true := by kernel_rfl
theorem F11.us9 : (Try.prog.underlying 9).isSome = true := by kernel_rfl
theorem F11.us98 : (Try.prog.underlying 98).isSome = true := by kernel_rfl
theorem F11.ze3 : tzero Try.prog 3 = some [(.int .i64 (0 : Int))] := by kernel_rfl
theorem F11.ze57 : tzero Try.prog 57 = some [(.str (pk ([] : List UInt8))), (.int .i64 (0 : Int)), .nilsl] := by kernel_rfl
theorem laws_FnTakes_ok {fr : List Pc} {H : Heap} (v0 : AV) (l0 : List (Int)) (v1 : AV) (l1 : List (Int)) (hs : Sep H (fr)) (g0 : ∀ H, Sep H fr → Shows H v0 1 (enc (eInt .u8) l0)) (g1 : ∀ H, Sep H fr → Shows H v1 1 (enc (eInt .u8) l1)) (K : Bool → Prop) (h : laws_FnTakes.wp l0 l1 K) : OkQ Try.prog 11 [(.v v0), (.v v1)] H (fun r H2 => ∃ (y0 : Bool), K y0 ∧ r = (.v (.bool y0)) ∧ Sep H2 (fr)) := by
  unfold laws_FnTakes.wp at h
  refine of_body Try.f11 F.hm Try.func11 rfl Try.call11 (by kernel_rfl) (by simp) ?_
  refine fi_seq ?_
  refine fi_region ?_
  refine so_assign (v := (.v (.bool false))) rfl ?_
  refine so_nil ?_
  refine fi_seq ?_
  refine fi_seq ?_
  refine fi_region ?_
  refine so_move (v := (.v v0)) rfl ?_
  refine so_move (v := (.v v1)) rfl ?_
  refine sv_callS (laws_b10Long_ok v0 l0 v1 l1 hs (fun _ hs => (g0 _ hs)) (fun _ hs => (g1 _ hs)) _ h) (fun _ _ ⟨_, _, _, e⟩ => e) rfl rfl ?_
  clear h
  rintro _ _ ⟨y101, h, rfl, rfl⟩
  refine so_nil ?_
  replace h := ofT h; rcases h with ⟨c103, h⟩ | ⟨c103, h⟩
  · refine fi_true rfl c103 ?_
    refine fi_seq ?_
    refine fi_region ?_
    refine so_assign (v := (.v (.bool true))) rfl ?_
    refine so_nil ?_
    exact by_ret rfl ⟨_, h, rfl, hs⟩
  · refine fi_false rfl c103 ?_
    refine fi_skip ?_
    refine fi_seq ?_
    refine fi_region ?_
    refine so_move (v := (.v v0)) rfl ?_
    refine sv_call (spec_B10Takes_ok v0 l0 hs (fun _ hs => (g0 _ hs)) _ h) rfl rfl nofun ?_
    clear h hs
    rintro _ H109 ⟨y104, h, v105, ws107, S108, rfl, hs⟩
    refine so_assign (v := (.v v105)) rfl ?_
    refine so_nil ?_
    refine fi_seq ?_
    refine fi_region ?_
    refine sv_bslice hs (eInt .i64) ([(0 : Int)] : List (Int)) [[(.int .i64 (0 : Int))]] F11.te101 F11.sz3 F11.ze3 rfl rfl rfl rfl (fun _ => rfl) rfl (by decide) nofun (fun v110 H111 nv110 hs => ?_)
    refine so_assign (v := (.v v110)) rfl ?_
    refine so_nil ?_
    refine fi_seq ?_
    refine fi_seq ?_
    refine fi_region ?_
    refine so_move (v := (.v v105)) rfl ?_
    refine sd_len ((hs.dshows 1 rfl) : DSh _ _ 3 R_s_ii64_LeFlt_f32_poooq y104 ws107) (by decide) rfl F11.ti66 ?_
    refine so_move (v := (.v (.int .i64 (0 : Int)))) rfl ?_
    refine so_nil ?_
    refine fi_block ?_
    refine fi_loop ?_
    refine fi_at [(1, (.v v1)), (5, (.v v105)), (6, (.v v110)), (39, (.v (.int .i64 (y104.length : Int)))), (40, (.v (.int .i64 (0 : Int))))] ⟨rfl, rfl, rfl, rfl, rfl, trivial⟩ ?_
    refine h (fun (ends273 : List (Int)) (x275 : Int) => ∀ (s : Nat → TV) (H : Heap) (v274 : AV) (nv274 : v274 ≠ .nilsl), Sep H (Pc.osl v274 1 (enc (eInt .i64) ends273) :: dpc v105 3 R_s_ii64_LeFlt_f32_poooq y104 ws107 S108 :: fr) → Fin _ _ (updL s [(1, (.v v1)), (5, (.v v105)), (6, (.v v274)), (39, (.v (.int .i64 (y104.length : Int)))), (40, (.v (.int .i64 x275)))]) H _) ?_ _ _ _ nv110 hs
    intro ends273 x275 h s431 H432 v274 nv274 hs
    refine fi_inLoop ?_
    refine fi_seq ?_
    refine fi_region ?_
    refine so_bin rfl rfl ab_lss ?_
    refine so_nil ?_
    refine fi_seq ?_
    replace h := ofP h; rcases h with ⟨c276, h⟩ | ⟨c276, h⟩
    · refine fi_true rfl (decide_eq_true c276) ?_
      refine fi_skip ?_
      refine fi_seq ?_
      refine fi_block ?_
      refine fi_seq ?_
      refine fi_region ?_
      refine so_move (v := (.v (.int .i64 x275))) rfl ?_
      refine so_assign (v := (.v (.int .i64 x275))) rfl ?_
      refine so_nil ?_
      refine fi_seq ?_
      refine fi_region ?_
      refine so_move (v := (.v v105)) rfl ?_
      refine so_move (v := (.v (.int .i64 x275))) rfl ?_
      obtain ⟨c277, h⟩ := h
      refine sd_idx ((hs.dshows 1 rfl) : DSh _ _ 3 R_s_ii64_LeFlt_f32_poooq y104 ws107) c277 (([] : List UInt8), (0 : Int), ([] : List (Nat))) (by decide) rfl rfl F11.tl66 ?_
      refine su_lds ((((hs.dshows 1 rfl) : DSh _ _ 3 R_s_ii64_LeFlt_f32_poooq y104 ws107)).at (by decide) c277 (([] : List UInt8), (0 : Int), ([] : List (Nat)))).2.2 0 3 (lenc ((((hs.dshows 1 rfl) : DSh _ _ 3 R_s_ii64_LeFlt_f32_poooq y104 ws107)).at (by decide) c277 (([] : List UInt8), (0 : Int), ([] : List (Nat)))).2.1.1 (by simp)) (by decide) (whole ((((hs.dshows 1 rfl) : DSh _ _ 3 R_s_ii64_LeFlt_f32_poooq y104 ws107)).at (by decide) c277 (([] : List UInt8), (0 : Int), ([] : List (Nat)))).2.1.1 (by rfl)) rfl F11.ag57 F11.sz57 ?_
      refine sv_call (impl_StoreTake_ok (y104.getD (x275).toNat (([] : List UInt8), (0 : Int), ([] : List (Nat)))).1 (y104.getD (x275).toNat (([] : List UInt8), (0 : Int), ([] : List (Nat)))).2.1 ((ws107.getD (x275).toNat []).getD 2 .und) (y104.getD (x275).toNat (([] : List UInt8), (0 : Int), ([] : List (Nat)))).2.2 hs (fun _ hs => ((((hs.dshows 1 rfl) : DSh _ _ 3 R_s_ii64_LeFlt_f32_poooq y104 ws107)).at (by decide) c277 (([] : List UInt8), (0 : Int), ([] : List (Nat)))).2.1.2) _ h) rfl rfl nofun ?_
      clear h hs
      rintro _ H280 ⟨y278, y279, h, rfl, hs⟩
      refine so_move (v := (.t [(.v (.str (pk y278))), (.v (.bool y279))])) rfl ?_
      refine so_extract rfl rfl rfl ?_
      refine so_extract rfl rfl rfl ?_
      refine so_assign (v := (.v (.str (pk y278)))) rfl ?_
      refine so_assign (v := (.v (.bool y279))) rfl ?_
      refine so_nil ?_
      refine fi_seq ?_
      refine fi_region ?_
      refine so_move (v := (.v (.str (pk y278)))) rfl ?_
      refine sv_call (impl_LoadTake_ok y278 hs  _ h) rfl rfl nofun ?_
      clear h hs
      rintro _ H287 ⟨y281, y282, y283, y286, h, v284, rfl, hs⟩
      refine so_move (v := (.t [(.g [(.str (pk y281)), (.int .i64 y282), v284]), (.v (.bool y286))])) rfl ?_
      refine so_extract rfl rfl rfl ?_
      refine so_extract rfl rfl rfl ?_
      refine sv_alloc hs F11.ze57 rfl nofun (fun id288 H289 hs => ?_)
      refine sv_st hs 0 rfl rfl rfl (c := [(.str (pk y281)), (.int .i64 y282), v284]) rfl F11.sz57 rfl (stc rfl (stc rfl (stc (hs.shows 1 rfl).stor stn))) (leb rfl) (cs' := [(.str (pk y281)), (.int .i64 y282), v284]) rfl nofun (fun H291 hs => ?_)
      refine so_assign (v := (.v (.bool y286))) rfl ?_
      refine so_nil ?_
      refine fi_seq ?_
      refine fi_region ?_
      refine so_move (v := (.v v105)) rfl ?_
      refine so_move (v := (.v (.int .i64 x275))) rfl ?_
      refine sd_idx ((hs.dshows 3 rfl) : DSh _ _ 3 R_s_ii64_LeFlt_f32_poooq y104 ws107) c277 (([] : List UInt8), (0 : Int), ([] : List (Nat))) (by decide) rfl rfl F11.tl66 ?_
      refine so_fieldAddr rfl F11.fd57_2 ?_
      refine su_ld ((((hs.dshows 3 rfl) : DSh _ _ 3 R_s_ii64_LeFlt_f32_poooq y104 ws107)).at (by decide) c277 (([] : List UInt8), (0 : Int), ([] : List (Nat)))).2.2 2 (congrArg (fun c => c[2]?) ((((hs.dshows 3 rfl) : DSh _ _ 3 R_s_ii64_LeFlt_f32_poooq y104 ws107)).at (by decide) c277 (([] : List UInt8), (0 : Int), ([] : List (Nat)))).2.1.1) rfl F11.ag37 ?_
      refine sv_call (impl_PackTake_ok ((ws107.getD (x275).toNat []).getD 2 .und) (y104.getD (x275).toNat (([] : List UInt8), (0 : Int), ([] : List (Nat)))).2.2 hs (fun _ hs => ((((hs.dshows 3 rfl) : DSh _ _ 3 R_s_ii64_LeFlt_f32_poooq y104 ws107)).at (by decide) c277 (([] : List UInt8), (0 : Int), ([] : List (Nat)))).2.1.2) _ h) rfl rfl nofun ?_
      clear h hs
      rintro _ H294 ⟨y292, y293, h, rfl, hs⟩
      refine so_move (v := (.t [(.v (.str (pk y292))), (.v (.bool y293))])) rfl ?_
      refine so_extract rfl rfl rfl ?_
      refine so_extract rfl rfl rfl ?_
      refine so_assign (v := (.v (.str (pk y292)))) rfl ?_
      refine so_assign (v := (.v (.bool y293))) rfl ?_
      refine so_nil ?_
      refine fi_seq ?_
      refine fi_region ?_
      refine so_move (v := (.v (.str (pk y292)))) rfl ?_
      refine sv_call (impl_UnpackTake_ok y292 hs  _ h) rfl rfl nofun ?_
      clear h hs
      rintro _ H299 ⟨y295, y298, h, v296, rfl, hs⟩
      refine so_move (v := (.t [(.v v296), (.v (.bool y298))])) rfl ?_
      refine so_extract rfl rfl rfl ?_
      refine so_extract rfl rfl rfl ?_
      refine so_assign (v := (.v v296)) rfl ?_
      refine so_assign (v := (.v (.bool y298))) rfl ?_
      refine so_nil ?_
      refine fi_seq ?_
      refine fi_seq ?_
      refine fi_free [29] ?_
      refine wf_pure rfl (by kernel_rfl) ?_
      refine so_move (v := (.v (.bool y279))) rfl ?_
      refine so_end ?_
      refine wf_pure rfl (by kernel_rfl) ?_
      refine so_un rfl au_not ?_
      refine so_end ?_
      refine wf_pure rfl (by kernel_rfl) ?_
      refine so_move (v := (.v (.bool (!y279)))) rfl ?_
      refine so_end ?_
      replace h := ofT h; rcases h with ⟨c300, h⟩ | ⟨c300, h⟩
      · refine wf_pure rfl (by kernel_rfl) ?_
        refine so_gyes rfl (not_f c300) ?_
        refine so_move (v := (.v (.bool y286))) rfl ?_
        refine so_end ?_
        refine wf_pure rfl (by kernel_rfl) ?_
        refine so_gyes rfl (not_f c300) ?_
        refine so_un rfl au_not ?_
        refine so_end ?_
        refine wf_pure rfl (by kernel_rfl) ?_
        refine so_pick_f (v := (.v (.bool (!y286)))) rfl (not_f c300) rfl ?_
        refine so_end ?_
        refine wf_pure rfl (by kernel_rfl) ?_
        refine so_move (v := (.v (.bool (!y286)))) rfl ?_
        refine so_end ?_
        replace h := ofT h; rcases h with ⟨c301, h⟩ | ⟨c301, h⟩
        · refine wf_pure rfl (by kernel_rfl) ?_
          refine so_gyes rfl (not_f c301) ?_
          refine so_move (v := (.v (.bool y293))) rfl ?_
          refine so_end ?_
          refine wf_pure rfl (by kernel_rfl) ?_
          refine so_gyes rfl (not_f c301) ?_
          refine so_un rfl au_not ?_
          refine so_end ?_
          refine wf_pure rfl (by kernel_rfl) ?_
          refine so_pick_f (v := (.v (.bool (!y293)))) rfl (not_f c301) rfl ?_
          refine so_end ?_
          refine wf_pure rfl (by kernel_rfl) ?_
          refine so_move (v := (.v (.bool (!y293)))) rfl ?_
          refine so_end ?_
          replace h := ofT h; rcases h with ⟨c302, h⟩ | ⟨c302, h⟩
          · refine wf_pure rfl (by kernel_rfl) ?_
            refine so_gyes rfl (not_f c302) ?_
            refine so_move (v := (.v (.bool y298))) rfl ?_
            refine so_end ?_
            refine wf_pure rfl (by kernel_rfl) ?_
            refine so_gyes rfl (not_f c302) ?_
            refine so_un rfl au_not ?_
            refine so_end ?_
            refine wf_pure rfl (by kernel_rfl) ?_
            refine so_pick_f (v := (.v (.bool (!y298)))) rfl (not_f c302) rfl ?_
            refine so_end ?_
            refine wf_pure rfl (by kernel_rfl) ?_
            refine so_move (v := (.v (.bool (!y298)))) rfl ?_
            refine so_end ?_
            replace h := ofT h; rcases h with ⟨c303, h⟩ | ⟨c303, h⟩
            · refine wf_pure rfl (by kernel_rfl) ?_
              refine so_gyes rfl (not_f c303) ?_
              refine so_move (v := (.v v105)) rfl ?_
              refine so_end ?_
              refine wf_pure rfl (by kernel_rfl) ?_
              refine so_gyes rfl (not_f c303) ?_
              refine so_move (v := (.v (.int .i64 x275))) rfl ?_
              refine so_end ?_
              refine wf_same (by decide +kernel) (by kernel_rfl) ?_
              refine so_gyes rfl (not_f c303) ?_
              refine sd_idx ((hs.dshows 4 rfl) : DSh _ _ 3 R_s_ii64_LeFlt_f32_poooq y104 ws107) c277 (([] : List UInt8), (0 : Int), ([] : List (Nat))) (by decide) rfl rfl F11.tl66 ?_
              refine so_end ⟨rfl, ?_⟩
              refine wf_same (by decide +kernel) (by kernel_rfl) ?_
              refine so_gyes rfl (not_f c303) ?_
              refine su_lds ((((hs.dshows 4 rfl) : DSh _ _ 3 R_s_ii64_LeFlt_f32_poooq y104 ws107)).at (by decide) c277 (([] : List UInt8), (0 : Int), ([] : List (Nat)))).2.2 0 3 (lenc ((((hs.dshows 4 rfl) : DSh _ _ 3 R_s_ii64_LeFlt_f32_poooq y104 ws107)).at (by decide) c277 (([] : List UInt8), (0 : Int), ([] : List (Nat)))).2.1.1 (by simp)) (by decide) (whole ((((hs.dshows 4 rfl) : DSh _ _ 3 R_s_ii64_LeFlt_f32_poooq y104 ws107)).at (by decide) c277 (([] : List UInt8), (0 : Int), ([] : List (Nat)))).2.1.1 (by rfl)) rfl F11.ag57 F11.sz57 ?_
              refine so_end ⟨rfl, ?_⟩
              have hs0_ := hs
              refine wf_chg (by kernel_rfl) ?_
              refine so_gyes rfl (not_f c303) ?_
              refine sv_call (impl_ValidTake_ok (y104.getD (x275).toNat (([] : List UInt8), (0 : Int), ([] : List (Nat)))).1 (y104.getD (x275).toNat (([] : List UInt8), (0 : Int), ([] : List (Nat)))).2.1 ((ws107.getD (x275).toNat []).getD 2 .und) (y104.getD (x275).toNat (([] : List UInt8), (0 : Int), ([] : List (Nat)))).2.2 hs (fun _ hs => ((((hs.dshows 4 rfl) : DSh _ _ 3 R_s_ii64_LeFlt_f32_poooq y104 ws107)).at (by decide) c277 (([] : List UInt8), (0 : Int), ([] : List (Nat)))).2.1.2) _ h) rfl rfl nofun ?_
              clear h
              rintro _ H305 ⟨y304, h, rfl, hs⟩
              refine so_end ⟨fan, ?_⟩
              refine wf_pure rfl (by kernel_rfl) ?_
              refine so_gyes rfl (not_f c303) ?_
              refine so_un rfl au_not ?_
              refine so_end ?_
              refine wf_pure rfl (by kernel_rfl) ?_
              refine so_pick_f (v := (.v (.bool (!y304)))) rfl (not_f c303) rfl ?_
              refine so_end ?_
              refine wf_pure rfl (by kernel_rfl) ?_
              refine so_move (v := (.v (.bool (!y304)))) rfl ?_
              refine so_end ?_
              replace h := ofT h; rcases h with ⟨c306, h⟩ | ⟨c306, h⟩
              · refine wf_same (by decide +kernel) (by kernel_rfl) ?_
                refine so_gyes rfl (not_f c306) ?_
                refine sv_lds hs 1 rfl rfl (leb rfl) rfl F11.ag57 F11.sz57 ?_
                refine so_end ⟨rfl, ?_⟩
                have hs1_ := hs
                refine wf_chg (by kernel_rfl) ?_
                refine so_gyes rfl (not_f c306) ?_
                refine sd_bslice hs [[(.str (pk y281)), (.int .i64 y282), v284]] F11.te66 F11.sz57 F11.ze57 rfl rfl rfl (by simp) (fac (stc rfl (stc rfl (stc (hs.shows 2 rfl).stor stn))) fan) (by decide) rfl nofun (fun v307 H308 _ hs => ?_)
                refine so_end ⟨fan, ?_⟩
                refine wf_pure rfl (by kernel_rfl) ?_
                refine so_gyes rfl (not_f c306) ?_
                refine so_move (v := (.v v105)) rfl ?_
                refine so_end ?_
                refine wf_pure rfl (by kernel_rfl) ?_
                refine so_gyes rfl (not_f c306) ?_
                refine so_move (v := (.v (.int .i64 x275))) rfl ?_
                refine so_end ?_
                refine wf_pure rfl (by kernel_rfl) ?_
                refine so_gyes rfl (not_f c306) ?_
                refine so_move (v := (.v (.int .i64 x275))) rfl ?_
                refine so_end ?_
                refine wf_pure rfl (by kernel_rfl) ?_
                refine so_gyes rfl (not_f c306) ?_
                refine so_bin rfl rfl ab_add ?_
                refine so_end ?_
                obtain ⟨c310, h⟩ := h
                refine wf_free (.v (v105.cut 3 (x275).toNat ((IntKind.i64.wrap (x275 + (1 : Int)))).toNat)) rfl (by kernel_rfl) (stepr (i := 0) rfl (by refine so_gyes rfl (not_f c306) ?_; refine sd_slice ((hs.dshows 5 rfl) : DSh _ _ 3 R_s_ii64_LeFlt_f32_poooq y104 ws107) c310 (by decide) rfl rfl rfl rfl rfl F11.tl66 ?_; exact so_end ⟨rfl, rfl⟩)) (fac (.inr (stepr (i := 0) rfl (by refine so_gyes rfl (not_f c306) ?_; refine sd_slice ((hs1_.dshows 4 rfl) : DSh _ _ 3 R_s_ii64_LeFlt_f32_poooq y104 ws107) c310 (by decide) rfl rfl rfl rfl rfl F11.tl66 ?_; exact so_end ⟨rfl, rfl⟩))) (fac (.inl ⟨19, by kernel_rfl⟩) fan)) ?_
                have hs2_ := hs
                refine wf_chg (by kernel_rfl) ?_
                refine so_gyes rfl (not_f c306) ?_
                refine sv_call (impl_SameTakes_ok v307 ([[(.str (pk y281)), (.int .i64 y282), v284]]) ([(y281, y282, y283)] : List ((List UInt8) × (Int) × (List (Nat)))) (v105.cut 3 (x275).toNat ((IntKind.i64.wrap (x275 + (1 : Int)))).toNat) ((ws107.drop (x275).toNat).take (((IntKind.i64.wrap (x275 + (1 : Int)))).toNat - (x275).toNat)) ((y104.drop (x275).toNat).take (((IntKind.i64.wrap (x275 + (1 : Int)))).toNat - (x275).toNat)) hs (fun _ hs => ⟨hs.shows 0 rfl, by simp, ⟨⟨rfl, (hs.shows 3 rfl)⟩, trivial⟩⟩) (fun _ hs => (DSh.cut ((hs.dshows 5 rfl) : DSh _ _ 3 R_s_ii64_LeFlt_f32_poooq y104 ws107) (by decide) (cutok c310))) _ h) rfl rfl nofun ?_
                clear h
                rintro _ H312 ⟨y311, h, rfl, hs⟩
                refine so_end ⟨(fac (.inl ⟨30, by kernel_rfl⟩) fan), ?_⟩
                refine wf_pure rfl (by kernel_rfl) ?_
                refine so_gyes rfl (not_f c306) ?_
                refine so_un rfl au_not ?_
                refine so_end ?_
                refine wf_pure rfl (by kernel_rfl) ?_
                refine so_pick_f (v := (.v (.bool (!y311)))) rfl (not_f c306) rfl ?_
                refine so_end ?_
                refine wf_pure rfl (by kernel_rfl) ?_
                refine so_move (v := (.v (.bool (!y311)))) rfl ?_
                refine so_end ?_
                replace h := ofT h; rcases h with ⟨c313, h⟩ | ⟨c313, h⟩
                · refine wf_pure rfl (by kernel_rfl) ?_
                  refine so_gyes rfl (not_f c313) ?_
                  refine so_move (v := (.v v296)) rfl ?_
                  refine so_end ?_
                  refine wf_pure rfl (by kernel_rfl) ?_
                  refine so_gyes rfl (not_f c313) ?_
                  refine so_move (v := (.v v105)) rfl ?_
                  refine so_end ?_
                  refine wf_pure rfl (by kernel_rfl) ?_
                  refine so_gyes rfl (not_f c313) ?_
                  refine so_move (v := (.v (.int .i64 x275))) rfl ?_
                  refine so_end ?_
                  refine wf_same (by decide +kernel) (by kernel_rfl) ?_
                  refine so_gyes rfl (not_f c313) ?_
                  refine sd_idx ((hs.dshows 5 rfl) : DSh _ _ 3 R_s_ii64_LeFlt_f32_poooq y104 ws107) c277 (([] : List UInt8), (0 : Int), ([] : List (Nat))) (by decide) rfl rfl F11.tl66 ?_
                  refine so_end ⟨rfl, ?_⟩
                  refine wf_pure rfl (by kernel_rfl) ?_
                  refine so_gyes rfl (not_f c313) ?_
                  refine so_fieldAddr rfl F11.fd57_2 ?_
                  refine so_end ?_
                  refine wf_same (by decide +kernel) (by kernel_rfl) ?_
                  refine so_gyes rfl (not_f c313) ?_
                  refine su_ld ((((hs.dshows 5 rfl) : DSh _ _ 3 R_s_ii64_LeFlt_f32_poooq y104 ws107)).at (by decide) c277 (([] : List UInt8), (0 : Int), ([] : List (Nat)))).2.2 2 (congrArg (fun c => c[2]?) ((((hs.dshows 5 rfl) : DSh _ _ 3 R_s_ii64_LeFlt_f32_poooq y104 ws107)).at (by decide) c277 (([] : List UInt8), (0 : Int), ([] : List (Nat)))).2.1.1) rfl F11.ag37 ?_
                  refine so_end ⟨rfl, ?_⟩
                  obtain ⟨y314, hw315, h⟩ := h
                  have hs3_ := hs
                  refine wf_chg (by kernel_rfl) ?_
                  refine so_gyes rfl (not_f c313) ?_
                  refine sv_callS (laws_b10List_ok v296 y295 ((ws107.getD (x275).toNat []).getD 2 .und) (y104.getD (x275).toNat (([] : List UInt8), (0 : Int), ([] : List (Nat)))).2.2 hs (fun _ hs => (hs.shows 1 rfl)) (fun _ hs => ((((hs.dshows 5 rfl) : DSh _ _ 3 R_s_ii64_LeFlt_f32_poooq y104 ws107)).at (by decide) c277 (([] : List UInt8), (0 : Int), ([] : List (Nat)))).2.1.2) (fun zy314 => y314 = zy314) hw315) (fun _ _ ⟨_, _, _, e⟩ => e) rfl rfl ?_
                  rintro _ _ ⟨_, rfl, rfl, rfl⟩
                  refine so_end ⟨(fac (.inl ⟨30, by kernel_rfl⟩) fan), ?_⟩
                  refine wf_pure rfl (by kernel_rfl) ?_
                  refine so_gyes rfl (not_f c313) ?_
                  refine so_un rfl au_not ?_
                  refine so_end ?_
                  refine wf_pure rfl (by kernel_rfl) ?_
                  refine so_pick_f (v := (.v (.bool (!y314)))) rfl (not_f c313) rfl ?_
                  refine so_end ?_
                  refine wf_pure rfl (by kernel_rfl) ?_
                  refine so_move (v := (.v (.bool (!y314)))) rfl ?_
                  refine so_end ?_
                  replace h := ofT h; rcases h with ⟨c316, h⟩ | ⟨c316, h⟩
                  · refine wf_pure rfl (by kernel_rfl) ?_
                    refine so_gyes rfl (not_f c316) ?_
                    refine so_move (v := (.v (.str (pk y292)))) rfl ?_
                    refine so_end ?_
                    refine wf_same (by decide +kernel) (by kernel_rfl) ?_
                    refine so_gyes rfl (not_f c316) ?_
                    refine so_slen rfl F11.sr9 ?_
                    refine so_end ⟨rfl, ?_⟩
                    refine wf_pure rfl (by kernel_rfl) ?_
                    refine so_gyes rfl (not_f c316) ?_
                    refine so_move (v := (.v v105)) rfl ?_
                    refine so_end ?_
                    refine wf_pure rfl (by kernel_rfl) ?_
                    refine so_gyes rfl (not_f c316) ?_
                    refine so_move (v := (.v (.int .i64 x275))) rfl ?_
                    refine so_end ?_
                    refine wf_same (by decide +kernel) (by kernel_rfl) ?_
                    refine so_gyes rfl (not_f c316) ?_
                    refine sd_idx ((hs.dshows 5 rfl) : DSh _ _ 3 R_s_ii64_LeFlt_f32_poooq y104 ws107) c277 (([] : List UInt8), (0 : Int), ([] : List (Nat))) (by decide) rfl rfl F11.tl66 ?_
                    refine so_end ⟨rfl, ?_⟩
                    refine wf_pure rfl (by kernel_rfl) ?_
                    refine so_gyes rfl (not_f c316) ?_
                    refine so_fieldAddr rfl F11.fd57_2 ?_
                    refine so_end ?_
                    refine wf_same (by decide +kernel) (by kernel_rfl) ?_
                    refine so_gyes rfl (not_f c316) ?_
                    refine su_ld ((((hs.dshows 5 rfl) : DSh _ _ 3 R_s_ii64_LeFlt_f32_poooq y104 ws107)).at (by decide) c277 (([] : List UInt8), (0 : Int), ([] : List (Nat)))).2.2 2 (congrArg (fun c => c[2]?) ((((hs.dshows 5 rfl) : DSh _ _ 3 R_s_ii64_LeFlt_f32_poooq y104 ws107)).at (by decide) c277 (([] : List UInt8), (0 : Int), ([] : List (Nat)))).2.1.1) rfl F11.ag37 ?_
                    refine so_end ⟨rfl, ?_⟩
                    refine wf_same (by decide +kernel) (by kernel_rfl) ?_
                    refine so_gyes rfl (not_f c316) ?_
                    refine sv_len ((((hs.dshows 5 rfl) : DSh _ _ 3 R_s_ii64_LeFlt_f32_poooq y104 ws107)).at (by decide) c277 (([] : List UInt8), (0 : Int), ([] : List (Nat)))).2.1.2 (fun _ => rfl) (by decide) rfl F11.ti37 ?_
                    refine so_end ⟨rfl, ?_⟩
                    refine wf_pure rfl (by kernel_rfl) ?_
                    refine so_gyes rfl (not_f c316) ?_
                    refine so_bin rfl rfl ab_mul ?_
                    refine so_end ?_
                    refine wf_pure rfl (by kernel_rfl) ?_
                    refine so_gyes rfl (not_f c316) ?_
                    refine so_bin rfl rfl ab_gtr ?_
                    refine so_end ?_
                    refine wf_pure rfl (by kernel_rfl) ?_
                    refine so_pick_f (v := (.v (.bool (decide ((IntKind.i64.wrap ((5 : Int) * ((y104.getD (x275).toNat (([] : List UInt8), (0 : Int), ([] : List (Nat)))).2.2.length : Int))) < (y292.length : Int)))))) rfl (not_f c316) rfl ?_
                    refine so_end ?_
                    refine wf_nil ?_
                    replace h := ofP h; rcases h with ⟨c317, h⟩ | ⟨c317, h⟩
                    · refine fi_true rfl (decide_eq_true c317) ?_
                      refine fi_seq ?_
                      refine fi_region ?_
                      refine so_assign (v := (.v (.bool false))) rfl ?_
                      refine so_nil ?_
                      exact by_ret rfl ⟨_, h, rfl, (Sep.dropn 6 hs)⟩
                    · refine fi_false rfl (decide_eq_false c317) ?_
                      refine fi_skip ?_
                      refine fi_region ?_
                      refine so_move (v := (.v v274)) rfl ?_
                      refine so_move (v := (.v v274)) rfl ?_
                      refine so_move (v := (.v v274)) rfl ?_
                      refine sv_len (hs.shows 4 rfl) (fun _ => rfl) (by decide) rfl F11.ti101 ?_
                      refine so_bin rfl rfl ab_sub ?_
                      obtain ⟨c318, h⟩ := h
                      refine sv_idx (hs.shows 4 rfl) c318 (fun _ => rfl) (by decide) rfl rfl F11.tl101 ?_
                      refine sv_cell (hs.shows 4 rfl) c318 (0 : Int) 0 (fun x => (AV.int .i64 x)) (fun _ => rfl) (fun _ => rfl) rfl F11.ag3 ?_
                      refine so_move (v := (.v (.str (pk y278)))) rfl ?_
                      refine so_slen rfl F11.sr9 ?_
                      refine so_bin rfl rfl ab_add ?_
                      refine sv_bslice hs (eInt .i64) ([(IntKind.i64.wrap ((ends273.getD ((IntKind.i64.wrap ((ends273.length : Int) - (1 : Int)))).toNat (0 : Int)) + (y278.length : Int)))] : List (Int)) [[(.int .i64 (IntKind.i64.wrap ((ends273.getD ((IntKind.i64.wrap ((ends273.length : Int) - (1 : Int)))).toNat (0 : Int)) + (y278.length : Int))))]] F11.te101 F11.sz3 F11.ze3 rfl rfl rfl rfl (fun _ => rfl) rfl (by decide) nofun (fun v319 H320 nv319 hs => ?_)
                      obtain ⟨c324, h⟩ := h
                      refine sv_app hs 5 rfl (hs.shows 0 rfl) (fun _ => rfl) (by decide) F11.ta101_101 (by decide) c324 rfl rfl nofun (fun v322 H323 kv322 hs => ?_)
                      replace hs := hs.del 0
                      have nv322 := kv322 nv274
                      refine so_assign (v := (.v v322)) rfl ?_
                      refine so_nil ?_
                      refine fi_inBlock ?_
                      refine fi_region ?_
                      refine so_bin rfl rfl ab_add ?_
                      refine so_move (v := (.v (.int .i64 (IntKind.i64.wrap (x275 + (1 : Int)))))) rfl ?_
                      refine so_nil ?_
                      exact fi_at [(1, (.v v1)), (5, (.v v105)), (6, (.v v322)), (39, (.v (.int .i64 (y104.length : Int)))), (40, (.v (.int .i64 (IntKind.i64.wrap (x275 + (1 : Int))))))] ⟨rfl, rfl, rfl, rfl, rfl, trivial⟩ (h _ _ _ nv322 (Sep.del 0 (Sep.del 0 (Sep.del 0 (Sep.del 0 hs)))))
                  · refine wf_pure rfl (by kernel_rfl) ?_
                    refine so_gno rfl (not_t c316) ?_
                    refine so_end ?_
                    refine wf_same (by decide +kernel) (by kernel_rfl) ?_
                    refine so_gno rfl (not_t c316) ?_
                    refine so_end ⟨rfl, ?_⟩
                    refine wf_pure rfl (by kernel_rfl) ?_
                    refine so_gno rfl (not_t c316) ?_
                    refine so_end ?_
                    refine wf_pure rfl (by kernel_rfl) ?_
                    refine so_gno rfl (not_t c316) ?_
                    refine so_end ?_
                    refine wf_same (by decide +kernel) (by kernel_rfl) ?_
                    refine so_gno rfl (not_t c316) ?_
                    refine so_end ⟨rfl, ?_⟩
                    refine wf_pure rfl (by kernel_rfl) ?_
                    refine so_gno rfl (not_t c316) ?_
                    refine so_end ?_
                    refine wf_same (by decide +kernel) (by kernel_rfl) ?_
                    refine so_gno rfl (not_t c316) ?_
                    refine so_end ⟨rfl, ?_⟩
                    refine wf_same (by decide +kernel) (by kernel_rfl) ?_
                    refine so_gno rfl (not_t c316) ?_
                    refine so_end ⟨rfl, ?_⟩
                    refine wf_pure rfl (by kernel_rfl) ?_
                    refine so_gno rfl (not_t c316) ?_
                    refine so_end ?_
                    refine wf_pure rfl (by kernel_rfl) ?_
                    refine so_gno rfl (not_t c316) ?_
                    refine so_end ?_
                    refine wf_pure rfl (by kernel_rfl) ?_
                    refine so_pick_t (v := (.v (.bool true))) rfl (not_t c316) rfl ?_
                    refine so_end ?_
                    refine wf_nil ?_
                    refine fi_true rfl rfl ?_
                    refine fi_seq ?_
                    refine fi_region ?_
                    refine so_assign (v := (.v (.bool false))) rfl ?_
                    refine so_nil ?_
                    exact by_ret rfl ⟨_, h, rfl, (Sep.dropn 6 hs)⟩
                · refine wf_pure rfl (by kernel_rfl) ?_
                  refine so_gno rfl (not_t c313) ?_
                  refine so_end ?_
                  refine wf_pure rfl (by kernel_rfl) ?_
                  refine so_gno rfl (not_t c313) ?_
                  refine so_end ?_
                  refine wf_pure rfl (by kernel_rfl) ?_
                  refine so_gno rfl (not_t c313) ?_
                  refine so_end ?_
                  refine wf_same (by decide +kernel) (by kernel_rfl) ?_
                  refine so_gno rfl (not_t c313) ?_
                  refine so_end ⟨rfl, ?_⟩
                  refine wf_pure rfl (by kernel_rfl) ?_
                  refine so_gno rfl (not_t c313) ?_
                  refine so_end ?_
                  refine wf_same (by decide +kernel) (by kernel_rfl) ?_
                  refine so_gno rfl (not_t c313) ?_
                  refine so_end ⟨rfl, ?_⟩
                  have hs3_ := hs
                  refine wf_chg (by kernel_rfl) ?_
                  refine so_gno rfl (not_t c313) ?_
                  refine so_end ⟨(fac (.inl ⟨30, by kernel_rfl⟩) fan), ?_⟩
                  refine wf_pure rfl (by kernel_rfl) ?_
                  refine so_gno rfl (not_t c313) ?_
                  refine so_end ?_
                  refine wf_pure rfl (by kernel_rfl) ?_
                  refine so_pick_t (v := (.v (.bool true))) rfl (not_t c313) rfl ?_
                  refine so_end ?_
                  refine wf_pure rfl (by kernel_rfl) ?_
                  refine so_move (v := (.v (.bool true))) rfl ?_
                  refine so_end ?_
                  refine wf_pure rfl (by kernel_rfl) ?_
                  refine so_gno rfl rfl ?_
                  refine so_end ?_
                  refine wf_same (by decide +kernel) (by kernel_rfl) ?_
                  refine so_gno rfl rfl ?_
                  refine so_end ⟨rfl, ?_⟩
                  refine wf_pure rfl (by kernel_rfl) ?_
                  refine so_gno rfl rfl ?_
                  refine so_end ?_
                  refine wf_pure rfl (by kernel_rfl) ?_
                  refine so_gno rfl rfl ?_
                  refine so_end ?_
                  refine wf_same (by decide +kernel) (by kernel_rfl) ?_
                  refine so_gno rfl rfl ?_
                  refine so_end ⟨rfl, ?_⟩
                  refine wf_pure rfl (by kernel_rfl) ?_
                  refine so_gno rfl rfl ?_
                  refine so_end ?_
                  refine wf_same (by decide +kernel) (by kernel_rfl) ?_
                  refine so_gno rfl rfl ?_
                  refine so_end ⟨rfl, ?_⟩
                  refine wf_same (by decide +kernel) (by kernel_rfl) ?_
                  refine so_gno rfl rfl ?_
                  refine so_end ⟨rfl, ?_⟩
                  refine wf_pure rfl (by kernel_rfl) ?_
                  refine so_gno rfl rfl ?_
                  refine so_end ?_
                  refine wf_pure rfl (by kernel_rfl) ?_
                  refine so_gno rfl rfl ?_
                  refine so_end ?_
                  refine wf_pure rfl (by kernel_rfl) ?_
                  refine so_pick_t (v := (.v (.bool true))) rfl rfl rfl ?_
                  refine so_end ?_
                  refine wf_nil ?_
                  refine fi_true rfl rfl ?_
                  refine fi_seq ?_
                  refine fi_region ?_
                  refine so_assign (v := (.v (.bool false))) rfl ?_
                  refine so_nil ?_
                  exact by_ret rfl ⟨_, h, rfl, (Sep.dropn 6 hs)⟩
              · refine wf_same (by decide +kernel) (by kernel_rfl) ?_
                refine so_gno rfl (not_t c306) ?_
                refine so_end ⟨rfl, ?_⟩
                have hs1_ := hs
                refine wf_chg (by kernel_rfl) ?_
                refine so_gno rfl (not_t c306) ?_
                refine so_end ⟨fan, ?_⟩
                refine wf_pure rfl (by kernel_rfl) ?_
                refine so_gno rfl (not_t c306) ?_
                refine so_end ?_
                refine wf_pure rfl (by kernel_rfl) ?_
                refine so_gno rfl (not_t c306) ?_
                refine so_end ?_
                refine wf_pure rfl (by kernel_rfl) ?_
                refine so_gno rfl (not_t c306) ?_
                refine so_end ?_
                refine wf_pure rfl (by kernel_rfl) ?_
                refine so_gno rfl (not_t c306) ?_
                refine so_end ?_
                refine wf_free (.v .und) rfl (by kernel_rfl) (stepr (i := 0) rfl (by refine so_gno rfl (not_t c306) ?_; exact so_end ⟨rfl, rfl⟩)) (fac (.inr (stepr (i := 0) rfl (by refine so_gno rfl (not_t c306) ?_; exact so_end ⟨rfl, rfl⟩))) (fac (.inl ⟨19, by kernel_rfl⟩) fan)) ?_
                have hs2_ := hs
                refine wf_chg (by kernel_rfl) ?_
                refine so_gno rfl (not_t c306) ?_
                refine so_end ⟨(fac (.inl ⟨30, by kernel_rfl⟩) fan), ?_⟩
                refine wf_pure rfl (by kernel_rfl) ?_
                refine so_gno rfl (not_t c306) ?_
                refine so_end ?_
                refine wf_pure rfl (by kernel_rfl) ?_
                refine so_pick_t (v := (.v (.bool true))) rfl (not_t c306) rfl ?_
                refine so_end ?_
                refine wf_pure rfl (by kernel_rfl) ?_
                refine so_move (v := (.v (.bool true))) rfl ?_
                refine so_end ?_
                refine wf_pure rfl (by kernel_rfl) ?_
                refine so_gno rfl rfl ?_
                refine so_end ?_
                refine wf_pure rfl (by kernel_rfl) ?_
                refine so_gno rfl rfl ?_
                refine so_end ?_
                refine wf_pure rfl (by kernel_rfl) ?_
                refine so_gno rfl rfl ?_
                refine so_end ?_
                refine wf_same (by decide +kernel) (by kernel_rfl) ?_
                refine so_gno rfl rfl ?_
                refine so_end ⟨rfl, ?_⟩
                refine wf_pure rfl (by kernel_rfl) ?_
                refine so_gno rfl rfl ?_
                refine so_end ?_
                refine wf_same (by decide +kernel) (by kernel_rfl) ?_
                refine so_gno rfl rfl ?_
                refine so_end ⟨rfl, ?_⟩
                have hs3_ := hs
                refine wf_chg (by kernel_rfl) ?_
                refine so_gno rfl rfl ?_
                refine so_end ⟨(fac (.inl ⟨30, by kernel_rfl⟩) fan), ?_⟩
                refine wf_pure rfl (by kernel_rfl) ?_
                refine so_gno rfl rfl ?_
                refine so_end ?_
                refine wf_pure rfl (by kernel_rfl) ?_
                refine so_pick_t (v := (.v (.bool true))) rfl rfl rfl ?_
                refine so_end ?_
                refine wf_pure rfl (by kernel_rfl) ?_
                refine so_move (v := (.v (.bool true))) rfl ?_
                refine so_end ?_
                refine wf_pure rfl (by kernel_rfl) ?_
                refine so_gno rfl rfl ?_
                refine so_end ?_
                refine wf_same (by decide +kernel) (by kernel_rfl) ?_
                refine so_gno rfl rfl ?_
                refine so_end ⟨rfl, ?_⟩
                refine wf_pure rfl (by kernel_rfl) ?_
                refine so_gno rfl rfl ?_
                refine so_end ?_
                refine wf_pure rfl (by kernel_rfl) ?_
                refine so_gno rfl rfl ?_
                refine so_end ?_
                refine wf_same (by decide +kernel) (by kernel_rfl) ?_
                refine so_gno rfl rfl ?_
                refine so_end ⟨rfl, ?_⟩
                refine wf_pure rfl (by kernel_rfl) ?_
                refine so_gno rfl rfl ?_
                refine so_end ?_
                refine wf_same (by decide +kernel) (by kernel_rfl) ?_
                refine so_gno rfl rfl ?_
                refine so_end ⟨rfl, ?_⟩
                refine wf_same (by decide +kernel) (by kernel_rfl) ?_
                refine so_gno rfl rfl ?_
                refine so_end ⟨rfl, ?_⟩
                refine wf_pure rfl (by kernel_rfl) ?_
                refine so_gno rfl rfl ?_
                refine so_end ?_
                refine wf_pure rfl (by kernel_rfl) ?_
                refine so_gno rfl rfl ?_
                refine so_end ?_
                refine wf_pure rfl (by kernel_rfl) ?_
                refine so_pick_t (v := (.v (.bool true))) rfl rfl rfl ?_
                refine so_end ?_
                refine wf_nil ?_
                refine fi_true rfl rfl ?_
                refine fi_seq ?_
                refine fi_region ?_
                refine so_assign (v := (.v (.bool false))) rfl ?_
                refine so_nil ?_
                exact by_ret rfl ⟨_, h, rfl, (Sep.dropn 5 hs)⟩
            · refine wf_pure rfl (by kernel_rfl) ?_
              refine so_gno rfl (not_t c303) ?_
              refine so_end ?_
              refine wf_pure rfl (by kernel_rfl) ?_
              refine so_gno rfl (not_t c303) ?_
              refine so_end ?_
              refine wf_same (by decide +kernel) (by kernel_rfl) ?_
              refine so_gno rfl (not_t c303) ?_
              refine so_end ⟨rfl, ?_⟩
              refine wf_same (by decide +kernel) (by kernel_rfl) ?_
              refine so_gno rfl (not_t c303) ?_
              refine so_end ⟨rfl, ?_⟩
              have hs0_ := hs
              refine wf_chg (by kernel_rfl) ?_
              refine so_gno rfl (not_t c303) ?_
              refine so_end ⟨fan, ?_⟩
              refine wf_pure rfl (by kernel_rfl) ?_
              refine so_gno rfl (not_t c303) ?_
              refine so_end ?_
              refine wf_pure rfl (by kernel_rfl) ?_
              refine so_pick_t (v := (.v (.bool true))) rfl (not_t c303) rfl ?_
              refine so_end ?_
              refine wf_pure rfl (by kernel_rfl) ?_
              refine so_move (v := (.v (.bool true))) rfl ?_
              refine so_end ?_
              refine wf_same (by decide +kernel) (by kernel_rfl) ?_
              refine so_gno rfl rfl ?_
              refine so_end ⟨rfl, ?_⟩
              have hs1_ := hs
              refine wf_chg (by kernel_rfl) ?_
              refine so_gno rfl rfl ?_
              refine so_end ⟨fan, ?_⟩
              refine wf_pure rfl (by kernel_rfl) ?_
              refine so_gno rfl rfl ?_
              refine so_end ?_
              refine wf_pure rfl (by kernel_rfl) ?_
              refine so_gno rfl rfl ?_
              refine so_end ?_
              refine wf_pure rfl (by kernel_rfl) ?_
              refine so_gno rfl rfl ?_
              refine so_end ?_
              refine wf_pure rfl (by kernel_rfl) ?_
              refine so_gno rfl rfl ?_
              refine so_end ?_
              refine wf_free (.v .und) rfl (by kernel_rfl) (stepr (i := 0) rfl (by refine so_gno rfl rfl ?_; exact so_end ⟨rfl, rfl⟩)) (fac (.inr (stepr (i := 0) rfl (by refine so_gno rfl rfl ?_; exact so_end ⟨rfl, rfl⟩))) (fac (.inl ⟨19, by kernel_rfl⟩) fan)) ?_
              have hs2_ := hs
              refine wf_chg (by kernel_rfl) ?_
              refine so_gno rfl rfl ?_
              refine so_end ⟨(fac (.inl ⟨30, by kernel_rfl⟩) fan), ?_⟩
              refine wf_pure rfl (by kernel_rfl) ?_
              refine so_gno rfl rfl ?_
              refine so_end ?_
              refine wf_pure rfl (by kernel_rfl) ?_
              refine so_pick_t (v := (.v (.bool true))) rfl rfl rfl ?_
              refine so_end ?_
              refine wf_pure rfl (by kernel_rfl) ?_
              refine so_move (v := (.v (.bool true))) rfl ?_
              refine so_end ?_
              refine wf_pure rfl (by kernel_rfl) ?_
              refine so_gno rfl rfl ?_
              refine so_end ?_
              refine wf_pure rfl (by kernel_rfl) ?_
              refine so_gno rfl rfl ?_
              refine so_end ?_
              refine wf_pure rfl (by kernel_rfl) ?_
              refine so_gno rfl rfl ?_
              refine so_end ?_
              refine wf_same (by decide +kernel) (by kernel_rfl) ?_
              refine so_gno rfl rfl ?_
              refine so_end ⟨rfl, ?_⟩
              refine wf_pure rfl (by kernel_rfl) ?_
              refine so_gno rfl rfl ?_
              refine so_end ?_
              refine wf_same (by decide +kernel) (by kernel_rfl) ?_
              refine so_gno rfl rfl ?_
              refine so_end ⟨rfl, ?_⟩
              have hs3_ := hs
              refine wf_chg (by kernel_rfl) ?_
              refine so_gno rfl rfl ?_
              refine so_end ⟨(fac (.inl ⟨30, by kernel_rfl⟩) fan), ?_⟩
              refine wf_pure rfl (by kernel_rfl) ?_
              refine so_gno rfl rfl ?_
              refine so_end ?_
              refine wf_pure rfl (by kernel_rfl) ?_
              refine so_pick_t (v := (.v (.bool true))) rfl rfl rfl ?_
              refine so_end ?_
              refine wf_pure rfl (by kernel_rfl) ?_
              refine so_move (v := (.v (.bool true))) rfl ?_
              refine so_end ?_
              refine wf_pure rfl (by kernel_rfl) ?_
              refine so_gno rfl rfl ?_
              refine so_end ?_
              refine wf_same (by decide +kernel) (by kernel_rfl) ?_
              refine so_gno rfl rfl ?_
              refine so_end ⟨rfl, ?_⟩
              refine wf_pure rfl (by kernel_rfl) ?_
              refine so_gno rfl rfl ?_
              refine so_end ?_
              refine wf_pure rfl (by kernel_rfl) ?_
              refine so_gno rfl rfl ?_
              refine so_end ?_
              refine wf_same (by decide +kernel) (by kernel_rfl) ?_
              refine so_gno rfl rfl ?_
              refine so_end ⟨rfl, ?_⟩
              refine wf_pure rfl (by kernel_rfl) ?_
              refine so_gno rfl rfl ?_
              refine so_end ?_
              refine wf_same (by decide +kernel) (by kernel_rfl) ?_
              refine so_gno rfl rfl ?_
              refine so_end ⟨rfl, ?_⟩
              refine wf_same (by decide +kernel) (by kernel_rfl) ?_
              refine so_gno rfl rfl ?_
              refine so_end ⟨rfl, ?_⟩
              refine wf_pure rfl (by kernel_rfl) ?_
              refine so_gno rfl rfl ?_
              refine so_end ?_
              refine wf_pure rfl (by kernel_rfl) ?_
              refine so_gno rfl rfl ?_
              refine so_end ?_
              refine wf_pure rfl (by kernel_rfl) ?_
              refine so_pick_t (v := (.v (.bool true))) rfl rfl rfl ?_
              refine so_end ?_
              refine wf_nil ?_
              refine fi_true rfl rfl ?_
              refine fi_seq ?_
              refine fi_region ?_
              refine so_assign (v := (.v (.bool false))) rfl ?_
              refine so_nil ?_
              exact by_ret rfl ⟨_, h, rfl, (Sep.dropn 5 hs)⟩
          · refine wf_pure rfl (by kernel_rfl) ?_
            refine so_gno rfl (not_t c302) ?_
            refine so_end ?_
            refine wf_pure rfl (by kernel_rfl) ?_
            refine so_gno rfl (not_t c302) ?_
            refine so_end ?_
            refine wf_pure rfl (by kernel_rfl) ?_
            refine so_pick_t (v := (.v (.bool true))) rfl (not_t c302) rfl ?_
            refine so_end ?_
            refine wf_pure rfl (by kernel_rfl) ?_
            refine so_move (v := (.v (.bool true))) rfl ?_
            refine so_end ?_
            refine wf_pure rfl (by kernel_rfl) ?_
            refine so_gno rfl rfl ?_
            refine so_end ?_
            refine wf_pure rfl (by kernel_rfl) ?_
            refine so_gno rfl rfl ?_
            refine so_end ?_
            refine wf_same (by decide +kernel) (by kernel_rfl) ?_
            refine so_gno rfl rfl ?_
            refine so_end ⟨rfl, ?_⟩
            refine wf_same (by decide +kernel) (by kernel_rfl) ?_
            refine so_gno rfl rfl ?_
            refine so_end ⟨rfl, ?_⟩
            have hs0_ := hs
            refine wf_chg (by kernel_rfl) ?_
            refine so_gno rfl rfl ?_
            refine so_end ⟨fan, ?_⟩
            refine wf_pure rfl (by kernel_rfl) ?_
            refine so_gno rfl rfl ?_
            refine so_end ?_
            refine wf_pure rfl (by kernel_rfl) ?_
            refine so_pick_t (v := (.v (.bool true))) rfl rfl rfl ?_
            refine so_end ?_
            refine wf_pure rfl (by kernel_rfl) ?_
            refine so_move (v := (.v (.bool true))) rfl ?_
            refine so_end ?_
            refine wf_same (by decide +kernel) (by kernel_rfl) ?_
            refine so_gno rfl rfl ?_
            refine so_end ⟨rfl, ?_⟩
            have hs1_ := hs
            refine wf_chg (by kernel_rfl) ?_
            refine so_gno rfl rfl ?_
            refine so_end ⟨fan, ?_⟩
            refine wf_pure rfl (by kernel_rfl) ?_
            refine so_gno rfl rfl ?_
            refine so_end ?_
            refine wf_pure rfl (by kernel_rfl) ?_
            refine so_gno rfl rfl ?_
            refine so_end ?_
            refine wf_pure rfl (by kernel_rfl) ?_
            refine so_gno rfl rfl ?_
            refine so_end ?_
            refine wf_pure rfl (by kernel_rfl) ?_
            refine so_gno rfl rfl ?_
            refine so_end ?_
            refine wf_free (.v .und) rfl (by kernel_rfl) (stepr (i := 0) rfl (by refine so_gno rfl rfl ?_; exact so_end ⟨rfl, rfl⟩)) (fac (.inr (stepr (i := 0) rfl (by refine so_gno rfl rfl ?_; exact so_end ⟨rfl, rfl⟩))) (fac (.inl ⟨19, by kernel_rfl⟩) fan)) ?_
            have hs2_ := hs
            refine wf_chg (by kernel_rfl) ?_
            refine so_gno rfl rfl ?_
            refine so_end ⟨(fac (.inl ⟨30, by kernel_rfl⟩) fan), ?_⟩
            refine wf_pure rfl (by kernel_rfl) ?_
            refine so_gno rfl rfl ?_
            refine so_end ?_
            refine wf_pure rfl (by kernel_rfl) ?_
            refine so_pick_t (v := (.v (.bool true))) rfl rfl rfl ?_
            refine so_end ?_
            refine wf_pure rfl (by kernel_rfl) ?_
            refine so_move (v := (.v (.bool true))) rfl ?_
            refine so_end ?_
            refine wf_pure rfl (by kernel_rfl) ?_
            refine so_gno rfl rfl ?_
            refine so_end ?_
            refine wf_pure rfl (by kernel_rfl) ?_
            refine so_gno rfl rfl ?_
            refine so_end ?_
            refine wf_pure rfl (by kernel_rfl) ?_
            refine so_gno rfl rfl ?_
            refine so_end ?_
            refine wf_same (by decide +kernel) (by kernel_rfl) ?_
            refine so_gno rfl rfl ?_
            refine so_end ⟨rfl, ?_⟩
            refine wf_pure rfl (by kernel_rfl) ?_
            refine so_gno rfl rfl ?_
            refine so_end ?_
            refine wf_same (by decide +kernel) (by kernel_rfl) ?_
            refine so_gno rfl rfl ?_
            refine so_end ⟨rfl, ?_⟩
            have hs3_ := hs
            refine wf_chg (by kernel_rfl) ?_
            refine so_gno rfl rfl ?_
            refine so_end ⟨(fac (.inl ⟨30, by kernel_rfl⟩) fan), ?_⟩
            refine wf_pure rfl (by kernel_rfl) ?_
            refine so_gno rfl rfl ?_
            refine so_end ?_
            refine wf_pure rfl (by kernel_rfl) ?_
            refine so_pick_t (v := (.v (.bool true))) rfl rfl rfl ?_
            refine so_end ?_
            refine wf_pure rfl (by kernel_rfl) ?_
            refine so_move (v := (.v (.bool true))) rfl ?_
            refine so_end ?_
            refine wf_pure rfl (by kernel_rfl) ?_
            refine so_gno rfl rfl ?_
            refine so_end ?_
            refine wf_same (by decide +kernel) (by kernel_rfl) ?_
            refine so_gno rfl rfl ?_
            refine so_end ⟨rfl, ?_⟩
            refine wf_pure rfl (by kernel_rfl) ?_
            refine so_gno rfl rfl ?_
            refine so_end ?_
            refine wf_pure rfl (by kernel_rfl) ?_
            refine so_gno rfl rfl ?_
            refine so_end ?_
            refine wf_same (by decide +kernel) (by kernel_rfl) ?_
            refine so_gno rfl rfl ?_
            refine so_end ⟨rfl, ?_⟩
            refine wf_pure rfl (by kernel_rfl) ?_
            refine so_gno rfl rfl ?_
            refine so_end ?_
            refine wf_same (by decide +kernel) (by kernel_rfl) ?_
            refine so_gno rfl rfl ?_
            refine so_end ⟨rfl, ?_⟩
            refine wf_same (by decide +kernel) (by kernel_rfl) ?_
            refine so_gno rfl rfl ?_
            refine so_end ⟨rfl, ?_⟩
            refine wf_pure rfl (by kernel_rfl) ?_
            refine so_gno rfl rfl ?_
            refine so_end ?_
            refine wf_pure rfl (by kernel_rfl) ?_
            refine so_gno rfl rfl ?_
            refine so_end ?_
            refine wf_pure rfl (by kernel_rfl) ?_
            refine so_pick_t (v := (.v (.bool true))) rfl rfl rfl ?_
            refine so_end ?_
            refine wf_nil ?_
            refine fi_true rfl rfl ?_
            refine fi_seq ?_
            refine fi_region ?_
            refine so_assign (v := (.v (.bool false))) rfl ?_
            refine so_nil ?_
            exact by_ret rfl ⟨_, h, rfl, (Sep.dropn 5 hs)⟩
        · refine wf_pure rfl (by kernel_rfl) ?_
          refine so_gno rfl (not_t c301) ?_
          refine so_end ?_
          refine wf_pure rfl (by kernel_rfl) ?_
          refine so_gno rfl (not_t c301) ?_
          refine so_end ?_
          refine wf_pure rfl (by kernel_rfl) ?_
          refine so_pick_t (v := (.v (.bool true))) rfl (not_t c301) rfl ?_
          refine so_end ?_
          refine wf_pure rfl (by kernel_rfl) ?_
          refine so_move (v := (.v (.bool true))) rfl ?_
          refine so_end ?_
          refine wf_pure rfl (by kernel_rfl) ?_
          refine so_gno rfl rfl ?_
          refine so_end ?_
          refine wf_pure rfl (by kernel_rfl) ?_
          refine so_gno rfl rfl ?_
          refine so_end ?_
          refine wf_pure rfl (by kernel_rfl) ?_
          refine so_pick_t (v := (.v (.bool true))) rfl rfl rfl ?_
          refine so_end ?_
          refine wf_pure rfl (by kernel_rfl) ?_
          refine so_move (v := (.v (.bool true))) rfl ?_
          refine so_end ?_
          refine wf_pure rfl (by kernel_rfl) ?_
          refine so_gno rfl rfl ?_
          refine so_end ?_
          refine wf_pure rfl (by kernel_rfl) ?_
          refine so_gno rfl rfl ?_
          refine so_end ?_
          refine wf_same (by decide +kernel) (by kernel_rfl) ?_
          refine so_gno rfl rfl ?_
          refine so_end ⟨rfl, ?_⟩
          refine wf_same (by decide +kernel) (by kernel_rfl) ?_
          refine so_gno rfl rfl ?_
          refine so_end ⟨rfl, ?_⟩
          have hs0_ := hs
          refine wf_chg (by kernel_rfl) ?_
          refine so_gno rfl rfl ?_
          refine so_end ⟨fan, ?_⟩
          refine wf_pure rfl (by kernel_rfl) ?_
          refine so_gno rfl rfl ?_
          refine so_end ?_
          refine wf_pure rfl (by kernel_rfl) ?_
          refine so_pick_t (v := (.v (.bool true))) rfl rfl rfl ?_
          refine so_end ?_
          refine wf_pure rfl (by kernel_rfl) ?_
          refine so_move (v := (.v (.bool true))) rfl ?_
          refine so_end ?_
          refine wf_same (by decide +kernel) (by kernel_rfl) ?_
          refine so_gno rfl rfl ?_
          refine so_end ⟨rfl, ?_⟩
          have hs1_ := hs
          refine wf_chg (by kernel_rfl) ?_
          refine so_gno rfl rfl ?_
          refine so_end ⟨fan, ?_⟩
          refine wf_pure rfl (by kernel_rfl) ?_
          refine so_gno rfl rfl ?_
          refine so_end ?_
          refine wf_pure rfl (by kernel_rfl) ?_
          refine so_gno rfl rfl ?_
          refine so_end ?_
          refine wf_pure rfl (by kernel_rfl) ?_
          refine so_gno rfl rfl ?_
          refine so_end ?_
          refine wf_pure rfl (by kernel_rfl) ?_
          refine so_gno rfl rfl ?_
          refine so_end ?_
          refine wf_free (.v .und) rfl (by kernel_rfl) (stepr (i := 0) rfl (by refine so_gno rfl rfl ?_; exact so_end ⟨rfl, rfl⟩)) (fac (.inr (stepr (i := 0) rfl (by refine so_gno rfl rfl ?_; exact so_end ⟨rfl, rfl⟩))) (fac (.inl ⟨19, by kernel_rfl⟩) fan)) ?_
          have hs2_ := hs
          refine wf_chg (by kernel_rfl) ?_
          refine so_gno rfl rfl ?_
          refine so_end ⟨(fac (.inl ⟨30, by kernel_rfl⟩) fan), ?_⟩
          refine wf_pure rfl (by kernel_rfl) ?_
          refine so_gno rfl rfl ?_
          refine so_end ?_
          refine wf_pure rfl (by kernel_rfl) ?_
          refine so_pick_t (v := (.v (.bool true))) rfl rfl rfl ?_
          refine so_end ?_
          refine wf_pure rfl (by kernel_rfl) ?_
          refine so_move (v := (.v (.bool true))) rfl ?_
          refine so_end ?_
          refine wf_pure rfl (by kernel_rfl) ?_
          refine so_gno rfl rfl ?_
          refine so_end ?_
          refine wf_pure rfl (by kernel_rfl) ?_
          refine so_gno rfl rfl ?_
          refine so_end ?_
          refine wf_pure rfl (by kernel_rfl) ?_
          refine so_gno rfl rfl ?_
          refine so_end ?_
          refine wf_same (by decide +kernel) (by kernel_rfl) ?_
          refine so_gno rfl rfl ?_
          refine so_end ⟨rfl, ?_⟩
          refine wf_pure rfl (by kernel_rfl) ?_
          refine so_gno rfl rfl ?_
          refine so_end ?_
          refine wf_same (by decide +kernel) (by kernel_rfl) ?_
          refine so_gno rfl rfl ?_
          refine so_end ⟨rfl, ?_⟩
          have hs3_ := hs
          refine wf_chg (by kernel_rfl) ?_
          refine so_gno rfl rfl ?_
          refine so_end ⟨(fac (.inl ⟨30, by kernel_rfl⟩) fan), ?_⟩
          refine wf_pure rfl (by kernel_rfl) ?_
          refine so_gno rfl rfl ?_
          refine so_end ?_
          refine wf_pure rfl (by kernel_rfl) ?_
          refine so_pick_t (v := (.v (.bool true))) rfl rfl rfl ?_
          refine so_end ?_
          refine wf_pure rfl (by kernel_rfl) ?_
          refine so_move (v := (.v (.bool true))) rfl ?_
          refine so_end ?_
          refine wf_pure rfl (by kernel_rfl) ?_
          refine so_gno rfl rfl ?_
          refine so_end ?_
          refine wf_same (by decide +kernel) (by kernel_rfl) ?_
          refine so_gno rfl rfl ?_
          refine so_end ⟨rfl, ?_⟩
          refine wf_pure rfl (by kernel_rfl) ?_
          refine so_gno rfl rfl ?_
          refine so_end ?_
          refine wf_pure rfl (by kernel_rfl) ?_
          refine so_gno rfl rfl ?_
          refine so_end ?_
          refine wf_same (by decide +kernel) (by kernel_rfl) ?_
          refine so_gno rfl rfl ?_
          refine so_end ⟨rfl, ?_⟩
          refine wf_pure rfl (by kernel_rfl) ?_
          refine so_gno rfl rfl ?_
          refine so_end ?_
          refine wf_same (by decide +kernel) (by kernel_rfl) ?_
          refine so_gno rfl rfl ?_
          refine so_end ⟨rfl, ?_⟩
          refine wf_same (by decide +kernel) (by kernel_rfl) ?_
          refine so_gno rfl rfl ?_
          refine so_end ⟨rfl, ?_⟩
          refine wf_pure rfl (by kernel_rfl) ?_
          refine so_gno rfl rfl ?_
          refine so_end ?_
          refine wf_pure rfl (by kernel_rfl) ?_
          refine so_gno rfl rfl ?_
          refine so_end ?_
          refine wf_pure rfl (by kernel_rfl) ?_
          refine so_pick_t (v := (.v (.bool true))) rfl rfl rfl ?_
          refine so_end ?_
          refine wf_nil ?_
          refine fi_true rfl rfl ?_
          refine fi_seq ?_
          refine fi_region ?_
          refine so_assign (v := (.v (.bool false))) rfl ?_
          refine so_nil ?_
          exact by_ret rfl ⟨_, h, rfl, (Sep.dropn 5 hs)⟩
      · refine wf_pure rfl (by kernel_rfl) ?_
        refine so_gno rfl (not_t c300) ?_
        refine so_end ?_
        refine wf_pure rfl (by kernel_rfl) ?_
        refine so_gno rfl (not_t c300) ?_
        refine so_end ?_
        refine wf_pure rfl (by kernel_rfl) ?_
        refine so_pick_t (v := (.v (.bool true))) rfl (not_t c300) rfl ?_
        refine so_end ?_
        refine wf_pure rfl (by kernel_rfl) ?_
        refine so_move (v := (.v (.bool true))) rfl ?_
        refine so_end ?_
        refine wf_pure rfl (by kernel_rfl) ?_
        refine so_gno rfl rfl ?_
        refine so_end ?_
        refine wf_pure rfl (by kernel_rfl) ?_
        refine so_gno rfl rfl ?_
        refine so_end ?_
        refine wf_pure rfl (by kernel_rfl) ?_
        refine so_pick_t (v := (.v (.bool true))) rfl rfl rfl ?_
        refine so_end ?_
        refine wf_pure rfl (by kernel_rfl) ?_
        refine so_move (v := (.v (.bool true))) rfl ?_
        refine so_end ?_
        refine wf_pure rfl (by kernel_rfl) ?_
        refine so_gno rfl rfl ?_
        refine so_end ?_
        refine wf_pure rfl (by kernel_rfl) ?_
        refine so_gno rfl rfl ?_
        refine so_end ?_
        refine wf_pure rfl (by kernel_rfl) ?_
        refine so_pick_t (v := (.v (.bool true))) rfl rfl rfl ?_
        refine so_end ?_
        refine wf_pure rfl (by kernel_rfl) ?_
        refine so_move (v := (.v (.bool true))) rfl ?_
        refine so_end ?_
        refine wf_pure rfl (by kernel_rfl) ?_
        refine so_gno rfl rfl ?_
        refine so_end ?_
        refine wf_pure rfl (by kernel_rfl) ?_
        refine so_gno rfl rfl ?_
        refine so_end ?_
        refine wf_same (by decide +kernel) (by kernel_rfl) ?_
        refine so_gno rfl rfl ?_
        refine so_end ⟨rfl, ?_⟩
        refine wf_same (by decide +kernel) (by kernel_rfl) ?_
        refine so_gno rfl rfl ?_
        refine so_end ⟨rfl, ?_⟩
        have hs0_ := hs
        refine wf_chg (by kernel_rfl) ?_
        refine so_gno rfl rfl ?_
        refine so_end ⟨fan, ?_⟩
        refine wf_pure rfl (by kernel_rfl) ?_
        refine so_gno rfl rfl ?_
        refine so_end ?_
        refine wf_pure rfl (by kernel_rfl) ?_
        refine so_pick_t (v := (.v (.bool true))) rfl rfl rfl ?_
        refine so_end ?_
        refine wf_pure rfl (by kernel_rfl) ?_
        refine so_move (v := (.v (.bool true))) rfl ?_
        refine so_end ?_
        refine wf_same (by decide +kernel) (by kernel_rfl) ?_
        refine so_gno rfl rfl ?_
        refine so_end ⟨rfl, ?_⟩
        have hs1_ := hs
        refine wf_chg (by kernel_rfl) ?_
        refine so_gno rfl rfl ?_
        refine so_end ⟨fan, ?_⟩
        refine wf_pure rfl (by kernel_rfl) ?_
        refine so_gno rfl rfl ?_
        refine so_end ?_
        refine wf_pure rfl (by kernel_rfl) ?_
        refine so_gno rfl rfl ?_
        refine so_end ?_
        refine wf_pure rfl (by kernel_rfl) ?_
        refine so_gno rfl rfl ?_
        refine so_end ?_
        refine wf_pure rfl (by kernel_rfl) ?_
        refine so_gno rfl rfl ?_
        refine so_end ?_
        refine wf_free (.v .und) rfl (by kernel_rfl) (stepr (i := 0) rfl (by refine so_gno rfl rfl ?_; exact so_end ⟨rfl, rfl⟩)) (fac (.inr (stepr (i := 0) rfl (by refine so_gno rfl rfl ?_; exact so_end ⟨rfl, rfl⟩))) (fac (.inl ⟨19, by kernel_rfl⟩) fan)) ?_
        have hs2_ := hs
        refine wf_chg (by kernel_rfl) ?_
        refine so_gno rfl rfl ?_
        refine so_end ⟨(fac (.inl ⟨30, by kernel_rfl⟩) fan), ?_⟩
        refine wf_pure rfl (by kernel_rfl) ?_
        refine so_gno rfl rfl ?_
        refine so_end ?_
        refine wf_pure rfl (by kernel_rfl) ?_
        refine so_pick_t (v := (.v (.bool true))) rfl rfl rfl ?_
        refine so_end ?_
        refine wf_pure rfl (by kernel_rfl) ?_
        refine so_move (v := (.v (.bool true))) rfl ?_
        refine so_end ?_
        refine wf_pure rfl (by kernel_rfl) ?_
        refine so_gno rfl rfl ?_
        refine so_end ?_
        refine wf_pure rfl (by kernel_rfl) ?_
        refine so_gno rfl rfl ?_
        refine so_end ?_
        refine wf_pure rfl (by kernel_rfl) ?_
        refine so_gno rfl rfl ?_
        refine so_end ?_
        refine wf_same (by decide +kernel) (by kernel_rfl) ?_
        refine so_gno rfl rfl ?_
        refine so_end ⟨rfl, ?_⟩
        refine wf_pure rfl (by kernel_rfl) ?_
        refine so_gno rfl rfl ?_
        refine so_end ?_
        refine wf_same (by decide +kernel) (by kernel_rfl) ?_
        refine so_gno rfl rfl ?_
        refine so_end ⟨rfl, ?_⟩
        have hs3_ := hs
        refine wf_chg (by kernel_rfl) ?_
        refine so_gno rfl rfl ?_
        refine so_end ⟨(fac (.inl ⟨30, by kernel_rfl⟩) fan), ?_⟩
        refine wf_pure rfl (by kernel_rfl) ?_
        refine so_gno rfl rfl ?_
        refine so_end ?_
        refine wf_pure rfl (by kernel_rfl) ?_
        refine so_pick_t (v := (.v (.bool true))) rfl rfl rfl ?_
        refine so_end ?_
        refine wf_pure rfl (by kernel_rfl) ?_
        refine so_move (v := (.v (.bool true))) rfl ?_
        refine so_end ?_
        refine wf_pure rfl (by kernel_rfl) ?_
        refine so_gno rfl rfl ?_
        refine so_end ?_
        refine wf_same (by decide +kernel) (by kernel_rfl) ?_
        refine so_gno rfl rfl ?_
        refine so_end ⟨rfl, ?_⟩
        refine wf_pure rfl (by kernel_rfl) ?_
        refine so_gno rfl rfl ?_
        refine so_end ?_
        refine wf_pure rfl (by kernel_rfl) ?_
        refine so_gno rfl rfl ?_
        refine so_end ?_
        refine wf_same (by decide +kernel) (by kernel_rfl) ?_
        refine so_gno rfl rfl ?_
        refine so_end ⟨rfl, ?_⟩
        refine wf_pure rfl (by kernel_rfl) ?_
        refine so_gno rfl rfl ?_
        refine so_end ?_
        refine wf_same (by decide +kernel) (by kernel_rfl) ?_
        refine so_gno rfl rfl ?_
        refine so_end ⟨rfl, ?_⟩
        refine wf_same (by decide +kernel) (by kernel_rfl) ?_
        refine so_gno rfl rfl ?_
        refine so_end ⟨rfl, ?_⟩
        refine wf_pure rfl (by kernel_rfl) ?_
        refine so_gno rfl rfl ?_
        refine so_end ?_
        refine wf_pure rfl (by kernel_rfl) ?_
        refine so_gno rfl rfl ?_
        refine so_end ?_
        refine wf_pure rfl (by kernel_rfl) ?_
        refine so_pick_t (v := (.v (.bool true))) rfl rfl rfl ?_
        refine so_end ?_
        refine wf_nil ?_
        refine fi_true rfl rfl ?_
        refine fi_seq ?_
        refine fi_region ?_
        refine so_assign (v := (.v (.bool false))) rfl ?_
        refine so_nil ?_
        exact by_ret rfl ⟨_, h, rfl, (Sep.dropn 5 hs)⟩
    · refine fi_false rfl (decide_eq_false c276) ?_
      refine fi_exit rfl ?_
      refine fi_seq ?_
      refine fi_region ?_
      refine so_move (v := (.v v105)) rfl ?_
      refine sv_call (impl_StoreTakes_ok v105 ws107 y104 hs (fun _ hs => (hs.dshows 1 rfl)) _ h) rfl rfl nofun ?_
      clear h hs
      rintro _ H327 ⟨y325, y326, h, rfl, hs⟩
      refine so_move (v := (.t [(.v (.str (pk y325))), (.v (.bool y326))])) rfl ?_
      refine so_extract rfl rfl rfl ?_
      refine so_extract rfl rfl rfl ?_
      refine so_assign (v := (.v (.str (pk y325)))) rfl ?_
      refine so_assign (v := (.v (.bool y326))) rfl ?_
      refine so_nil ?_
      refine fi_seq ?_
      refine fi_region ?_
      refine so_move (v := (.v (.str (pk y325)))) rfl ?_
      refine sv_call (impl_RecoverTakes_ok y325 hs  _ h) rfl rfl nofun ?_
      clear h hs
      rintro _ H335 ⟨y328, y333, y334, h, v329, ws331, S332, rfl, hs⟩
      refine so_move (v := (.t [(.v v329), (.v (.int .i64 y333)), (.v (.bool y334))])) rfl ?_
      refine so_extract rfl rfl rfl ?_
      refine so_extract rfl rfl rfl ?_
      refine so_extract rfl rfl rfl ?_
      refine so_assign (v := (.v v329)) rfl ?_
      refine so_assign (v := (.v (.int .i64 y333))) rfl ?_
      refine so_assign (v := (.v (.bool y334))) rfl ?_
      refine so_nil ?_
      refine fi_seq ?_
      refine fi_seq ?_
      refine fi_region ?_
      refine so_move (v := (.v (.bool y326))) rfl ?_
      refine so_un rfl au_not ?_
      refine so_move (v := (.v (.bool (!y326)))) rfl ?_
      replace h := ofT h; rcases h with ⟨c336, h⟩ | ⟨c336, h⟩
      · refine so_gyes rfl (not_f c336) ?_
        refine so_move (v := (.v (.bool y334))) rfl ?_
        refine so_gyes rfl (not_f c336) ?_
        refine so_un rfl au_not ?_
        refine so_pick_f (v := (.v (.bool (!y334)))) rfl (not_f c336) rfl ?_
        refine so_move (v := (.v (.bool (!y334)))) rfl ?_
        replace h := ofT h; rcases h with ⟨c337, h⟩ | ⟨c337, h⟩
        · refine so_gyes rfl (not_f c337) ?_
          refine so_move (v := (.v (.str (pk y325)))) rfl ?_
          refine so_gyes rfl (not_f c337) ?_
          refine so_slen rfl F11.sr9 ?_
          refine so_gyes rfl (not_f c337) ?_
          refine so_move (v := (.v v274)) rfl ?_
          refine so_gyes rfl (not_f c337) ?_
          refine so_move (v := (.v v105)) rfl ?_
          refine so_gyes rfl (not_f c337) ?_
          refine sd_len ((hs.dshows 2 rfl) : DSh _ _ 3 R_s_ii64_LeFlt_f32_poooq y104 ws107) (by decide) rfl F11.ti66 ?_
          refine so_gyes rfl (not_f c337) ?_
          obtain ⟨c338, h⟩ := h
          refine sv_idx (hs.shows 1 rfl) c338 (fun _ => rfl) (by decide) rfl rfl F11.tl101 ?_
          refine so_gyes rfl (not_f c337) ?_
          refine sv_cell (hs.shows 1 rfl) c338 (0 : Int) 0 (fun x => (AV.int .i64 x)) (fun _ => rfl) (fun _ => rfl) rfl F11.ag3 ?_
          refine so_gyes rfl (not_f c337) ?_
          refine so_bin rfl rfl ab_neq ?_
          refine so_pick_f (v := (.v (.bool (!(decide ((y325.length : Int) = (ends273.getD ((y104.length : Int)).toNat (0 : Int)))))))) rfl (not_f c337) rfl ?_
          refine so_move (v := (.v (.bool (!(decide ((y325.length : Int) = (ends273.getD ((y104.length : Int)).toNat (0 : Int)))))))) rfl ?_
          replace h := ofP h; rcases h with ⟨c339, h⟩ | ⟨c339, h⟩
          · refine so_gyes rfl (not_f (decide_eq_true c339)) ?_
            refine so_move (v := (.v (.int .i64 y333))) rfl ?_
            refine so_gyes rfl (not_f (decide_eq_true c339)) ?_
            refine so_move (v := (.v (.str (pk y325)))) rfl ?_
            refine so_gyes rfl (not_f (decide_eq_true c339)) ?_
            refine so_slen rfl F11.sr9 ?_
            refine so_gyes rfl (not_f (decide_eq_true c339)) ?_
            refine so_bin rfl rfl ab_neq ?_
            refine so_pick_f (v := (.v (.bool (!(decide (y333 = (y325.length : Int))))))) rfl (not_f (decide_eq_true c339)) rfl ?_
            refine so_move (v := (.v (.bool (!(decide (y333 = (y325.length : Int))))))) rfl ?_
            replace h := ofP h; rcases h with ⟨c340, h⟩ | ⟨c340, h⟩
            · refine so_gyes rfl (not_f (decide_eq_true c340)) ?_
              refine so_move (v := (.v v329)) rfl ?_
              refine so_gyes rfl (not_f (decide_eq_true c340)) ?_
              refine so_move (v := (.v v105)) rfl ?_
              refine so_gyes rfl (not_f (decide_eq_true c340)) ?_
              refine sv_call (impl_SameTakes_ok v329 ws331 y328 v105 ws107 y104 hs (fun _ hs => (hs.dshows 0 rfl)) (fun _ hs => (hs.dshows 2 rfl)) _ h) rfl rfl nofun ?_
              clear h hs
              rintro _ H342 ⟨y341, h, rfl, hs⟩
              refine so_gyes rfl (not_f (decide_eq_true c340)) ?_
              refine so_un rfl au_not ?_
              refine so_pick_f (v := (.v (.bool (!y341)))) rfl (not_f (decide_eq_true c340)) rfl ?_
              refine so_nil ?_
              replace h := ofT h; rcases h with ⟨c343, h⟩ | ⟨c343, h⟩
              · refine fi_false rfl (not_f c343) ?_
                refine fi_skip ?_
                refine fi_seq ?_
                refine fi_seq ?_
                refine fi_region ?_
                refine so_move (v := (.v (.str (pk y325)))) rfl ?_
                refine so_slen rfl F11.sr9 ?_
                refine so_bin rfl rfl ab_eql ?_
                refine so_nil ?_
                replace h := ofP h; rcases h with ⟨c344, h⟩ | ⟨c344, h⟩
                · refine fi_true rfl (decide_eq_true c344) ?_
                  refine fi_seq ?_
                  refine fi_region ?_
                  refine so_assign (v := (.v (.bool true))) rfl ?_
                  refine so_nil ?_
                  exact by_ret rfl ⟨_, h, rfl, (Sep.del 0 (Sep.del 0 (Sep.del 0 hs)))⟩
                · refine fi_false rfl (decide_eq_false c344) ?_
                  refine fi_skip ?_
                  refine fi_seq ?_
                  refine fi_region ?_
                  refine so_move (v := (.v v1)) rfl ?_
                  refine sv_callS (laws_b10At_ok v1 l1 (0 : Int) (256 : Int) hs (fun _ hs => (g1 _ hs.tl.tl.tl)) _ h) (fun _ _ ⟨_, _, _, e⟩ => e) rfl rfl ?_
                  clear h
                  rintro _ _ ⟨y345, h, rfl, rfl⟩
                  refine so_bin rfl rfl ab_mul ?_
                  refine so_move (v := (.v v1)) rfl ?_
                  refine sv_callS (laws_b10At_ok v1 l1 (1 : Int) (256 : Int) hs (fun _ hs => (g1 _ hs.tl.tl.tl)) _ h) (fun _ _ ⟨_, _, _, e⟩ => e) rfl rfl ?_
                  clear h
                  rintro _ _ ⟨y347, h, rfl, rfl⟩
                  refine so_bin rfl rfl ab_add ?_
                  refine so_move (v := (.v (.str (pk y325)))) rfl ?_
                  refine so_slen rfl F11.sr9 ?_
                  obtain ⟨c349, h⟩ := h
                  refine so_bin rfl rfl (ab_rem c349) ?_
                  refine so_assign (v := (.v (.int .i64 (Int.tmod (IntKind.i64.wrap ((IntKind.i64.wrap ((256 : Int) * y345)) + y347)) (y325.length : Int))))) rfl ?_
                  refine so_nil ?_
                  refine fi_seq ?_
                  refine fi_region ?_
                  refine so_assign (v := (.v (.int .i64 (0 : Int)))) rfl ?_
                  refine so_nil ?_
                  refine fi_seq ?_
                  refine fi_block ?_
                  refine fi_loop ?_
                  replace hs := hs.del 0
                  refine fi_at [(1, (.v v1)), (5, (.v v105)), (6, (.v v274)), (16, (.v (.str (pk y325)))), (21, (.v (.int .i64 (Int.tmod (IntKind.i64.wrap ((IntKind.i64.wrap ((256 : Int) * y345)) + y347)) (y325.length : Int))))), (22, (.v (.int .i64 (0 : Int))))] ⟨rfl, rfl, rfl, rfl, rfl, rfl, trivial⟩ ?_
                  refine h (fun (kept351 : Int) => ∀ (s : Nat → TV) (H : Heap), Sep H (Pc.osl v274 1 (enc (eInt .i64) ends273) :: dpc v105 3 R_s_ii64_LeFlt_f32_poooq y104 ws107 S108 :: fr) → Fin _ _ (updL s [(1, (.v v1)), (5, (.v v105)), (6, (.v v274)), (16, (.v (.str (pk y325)))), (21, (.v (.int .i64 (Int.tmod (IntKind.i64.wrap ((IntKind.i64.wrap ((256 : Int) * y345)) + y347)) (y325.length : Int))))), (22, (.v (.int .i64 kept351)))]) H _) ?_ _ _ hs
                  intro kept351 h s429 H430 hs
                  refine fi_inLoop ?_
                  refine fi_seq ?_
                  refine fi_seq ?_
                  refine fi_region ?_
                  refine so_move (v := (.v (.int .i64 kept351))) rfl ?_
                  refine so_move (v := (.v v105)) rfl ?_
                  refine sd_len ((hs.dshows 1 rfl) : DSh _ _ 3 R_s_ii64_LeFlt_f32_poooq y104 ws107) (by decide) rfl F11.ti66 ?_
                  refine so_bin rfl rfl ab_lss ?_
                  refine so_move (v := (.v (.bool (decide (kept351 < (y104.length : Int)))))) rfl ?_
                  replace h := ofP h; rcases h with ⟨c352, h⟩ | ⟨c352, h⟩
                  · refine so_gyes rfl (decide_eq_true c352) ?_
                    refine so_move (v := (.v v274)) rfl ?_
                    refine so_gyes rfl (decide_eq_true c352) ?_
                    refine so_move (v := (.v (.int .i64 kept351))) rfl ?_
                    refine so_gyes rfl (decide_eq_true c352) ?_
                    refine so_bin rfl rfl ab_add ?_
                    refine so_gyes rfl (decide_eq_true c352) ?_
                    obtain ⟨c353, h⟩ := h
                    refine sv_idx (hs.shows 0 rfl) c353 (fun _ => rfl) (by decide) rfl rfl F11.tl101 ?_
                    refine so_gyes rfl (decide_eq_true c352) ?_
                    refine sv_cell (hs.shows 0 rfl) c353 (0 : Int) 0 (fun x => (AV.int .i64 x)) (fun _ => rfl) (fun _ => rfl) rfl F11.ag3 ?_
                    refine so_gyes rfl (decide_eq_true c352) ?_
                    refine so_move (v := (.v (.int .i64 (Int.tmod (IntKind.i64.wrap ((IntKind.i64.wrap ((256 : Int) * y345)) + y347)) (y325.length : Int))))) rfl ?_
                    refine so_gyes rfl (decide_eq_true c352) ?_
                    refine so_bin rfl rfl ab_leq ?_
                    refine so_pick_t (v := (.v (.bool (decide ((ends273.getD ((IntKind.i64.wrap (kept351 + (1 : Int)))).toNat (0 : Int)) ≤ (Int.tmod (IntKind.i64.wrap ((IntKind.i64.wrap ((256 : Int) * y345)) + y347)) (y325.length : Int))))))) rfl (decide_eq_true c352) rfl ?_
                    refine so_nil ?_
                    replace h := ofP h; rcases h with ⟨c354, h⟩ | ⟨c354, h⟩
                    · refine fi_true rfl (decide_eq_true c354) ?_
                      refine fi_skip ?_
                      refine fi_block ?_
                      refine fi_region ?_
                      refine so_move (v := (.v (.int .i64 kept351))) rfl ?_
                      refine so_bin rfl rfl ab_add ?_
                      refine so_assign (v := (.v (.int .i64 (IntKind.i64.wrap (kept351 + (1 : Int)))))) rfl ?_
                      refine so_nil ?_
                      refine fi_inBlock ?_
                      exact fi_at [(1, (.v v1)), (5, (.v v105)), (6, (.v v274)), (16, (.v (.str (pk y325)))), (21, (.v (.int .i64 (Int.tmod (IntKind.i64.wrap ((IntKind.i64.wrap ((256 : Int) * y345)) + y347)) (y325.length : Int))))), (22, (.v (.int .i64 (IntKind.i64.wrap (kept351 + (1 : Int))))))] ⟨rfl, rfl, rfl, rfl, rfl, rfl, trivial⟩ (h _ _  hs)
                    · refine fi_false rfl (decide_eq_false c354) ?_
                      refine fi_exit rfl ?_
                      refine fi_seq ?_
                      refine fi_region ?_
                      refine so_move (v := (.v (.str (pk y325)))) rfl ?_
                      refine so_move (v := (.v (.int .i64 (Int.tmod (IntKind.i64.wrap ((IntKind.i64.wrap ((256 : Int) * y345)) + y347)) (y325.length : Int))))) rfl ?_
                      obtain ⟨c355, h⟩ := h
                      refine so_sslice rfl rfl rfl F11.sr9 rfl rfl c355 ?_
                      refine sv_call (impl_RecoverTakes_ok ((y325.drop ((0 : Int)).toNat).take (((Int.tmod (IntKind.i64.wrap ((IntKind.i64.wrap ((256 : Int) * y345)) + y347)) (y325.length : Int))).toNat - ((0 : Int)).toNat)) hs  _ h) rfl rfl nofun ?_
                      clear h hs
                      rintro _ H363 ⟨y356, y361, y362, h, v357, ws359, S360, rfl, hs⟩
                      refine so_move (v := (.t [(.v v357), (.v (.int .i64 y361)), (.v (.bool y362))])) rfl ?_
                      refine so_extract rfl rfl rfl ?_
                      refine so_extract rfl rfl rfl ?_
                      refine so_extract rfl rfl rfl ?_
                      refine so_assign (v := (.v v357)) rfl ?_
                      refine so_assign (v := (.v (.int .i64 y361))) rfl ?_
                      refine so_assign (v := (.v (.bool y362))) rfl ?_
                      refine so_nil ?_
                      refine fi_seq ?_
                      refine fi_seq ?_
                      refine fi_region ?_
                      refine so_move (v := (.v (.bool y362))) rfl ?_
                      refine so_un rfl au_not ?_
                      refine so_move (v := (.v (.bool (!y362)))) rfl ?_
                      replace h := ofT h; rcases h with ⟨c364, h⟩ | ⟨c364, h⟩
                      · refine so_gyes rfl (not_f c364) ?_
                        refine so_move (v := (.v (.int .i64 y361))) rfl ?_
                        refine so_gyes rfl (not_f c364) ?_
                        refine so_move (v := (.v v274)) rfl ?_
                        refine so_gyes rfl (not_f c364) ?_
                        refine so_move (v := (.v (.int .i64 kept351))) rfl ?_
                        refine so_gyes rfl (not_f c364) ?_
                        obtain ⟨c365, h⟩ := h
                        refine sv_idx (hs.shows 1 rfl) c365 (fun _ => rfl) (by decide) rfl rfl F11.tl101 ?_
                        refine so_gyes rfl (not_f c364) ?_
                        refine sv_cell (hs.shows 1 rfl) c365 (0 : Int) 0 (fun x => (AV.int .i64 x)) (fun _ => rfl) (fun _ => rfl) rfl F11.ag3 ?_
                        refine so_gyes rfl (not_f c364) ?_
                        refine so_bin rfl rfl ab_neq ?_
                        refine so_pick_f (v := (.v (.bool (!(decide (y361 = (ends273.getD (kept351).toNat (0 : Int)))))))) rfl (not_f c364) rfl ?_
                        refine so_move (v := (.v (.bool (!(decide (y361 = (ends273.getD (kept351).toNat (0 : Int)))))))) rfl ?_
                        replace h := ofP h; rcases h with ⟨c366, h⟩ | ⟨c366, h⟩
                        · refine so_gyes rfl (not_f (decide_eq_true c366)) ?_
                          refine so_move (v := (.v v357)) rfl ?_
                          refine so_gyes rfl (not_f (decide_eq_true c366)) ?_
                          refine sd_len ((hs.dshows 0 rfl) : DSh _ _ 3 R_s_ii64_LeFlt_f32_poooq y356 ws359) (by decide) rfl F11.ti66 ?_
                          refine so_gyes rfl (not_f (decide_eq_true c366)) ?_
                          refine so_move (v := (.v (.int .i64 kept351))) rfl ?_
                          refine so_gyes rfl (not_f (decide_eq_true c366)) ?_
                          refine so_bin rfl rfl ab_neq ?_
                          refine so_pick_f (v := (.v (.bool (!(decide ((y356.length : Int) = kept351)))))) rfl (not_f (decide_eq_true c366)) rfl ?_
                          refine so_nil ?_
                          replace h := ofP h; rcases h with ⟨c367, h⟩ | ⟨c367, h⟩
                          · refine fi_false rfl (not_f (decide_eq_true c367)) ?_
                            refine fi_skip ?_
                            refine fi_seq ?_
                            refine fi_region ?_
                            refine so_move (v := (.v (.str (pk y325)))) rfl ?_
                            refine sv_sb hs rfl F11.us9 F11.ns98 F11.te98 F11.it5 nofun (fun v368 H369 nv368 hs => ?_)
                            refine so_assign (v := (.v v368)) rfl ?_
                            refine so_nil ?_
                            refine fi_seq ?_
                            refine fi_region ?_
                            refine so_move (v := (.v v368)) rfl ?_
                            refine so_move (v := (.v (.int .i64 (Int.tmod (IntKind.i64.wrap ((IntKind.i64.wrap ((256 : Int) * y345)) + y347)) (y325.length : Int))))) rfl ?_
                            obtain ⟨c371, h⟩ := h
                            refine sv_idx (hs.shows 0 rfl) c371 (fun _ => rfl) (by decide) rfl rfl F11.tl98 ?_
                            refine sv_cell (hs.shows 0 rfl) c371 (0 : Int) 0 (fun x => (AV.int .u8 x)) (fun _ => rfl) (fun _ => rfl) rfl F11.ag5 ?_
                            refine so_move (v := (.v v1)) rfl ?_
                            refine sv_callS (laws_b10At_ok v1 l1 (2 : Int) (255 : Int) hs (fun _ hs => (g1 _ hs.tl.tl.tl.tl)) _ h) (fun _ _ ⟨_, _, _, e⟩ => e) rfl rfl ?_
                            clear h
                            rintro _ _ ⟨y372, h, rfl, rfl⟩
                            refine so_bin rfl rfl ab_add ?_
                            refine sv_ii rfl F11.us2 F11.it5 ?_
                            refine so_bin rfl rfl ab_add ?_
                            refine sv_idx (hs.shows 0 rfl) c371 (fun _ => rfl) (by decide) rfl rfl F11.tl98 ?_
                            refine sv_set hs 0 rfl c371 (IntKind.u8.wrap (((nums y325).getD ((Int.tmod (IntKind.i64.wrap ((IntKind.i64.wrap ((256 : Int) * y345)) + y347)) (y325.length : Int))).toNat (0 : Int)) + (IntKind.u8.wrap (IntKind.i64.wrap ((1 : Int) + y372))))) (fun _ => rfl) (by decide) rfl rfl rfl rfl F11.sz5 (fun _ => by kernel_rfl) (fun H374 hs => ?_)
                            refine so_nil ?_
                            refine fi_seq ?_
                            refine fi_region ?_
                            refine so_move (v := (.v v368)) rfl ?_
                            refine sv_bs (hs.shows 0 rfl) nv368 rfl F11.te98 F11.it5 F11.sr9 ?_
                            refine sv_call (impl_RecoverTakes_ok (byts ((nums y325).set ((Int.tmod (IntKind.i64.wrap ((IntKind.i64.wrap ((256 : Int) * y345)) + y347)) (y325.length : Int))).toNat (IntKind.u8.wrap (((nums y325).getD ((Int.tmod (IntKind.i64.wrap ((IntKind.i64.wrap ((256 : Int) * y345)) + y347)) (y325.length : Int))).toNat (0 : Int)) + (IntKind.u8.wrap (IntKind.i64.wrap ((1 : Int) + y372))))))) hs  _ h) rfl rfl nofun ?_
                            clear h hs
                            rintro _ H382 ⟨y375, y380, y381, h, v376, ws378, S379, rfl, hs⟩
                            refine so_move (v := (.t [(.v v376), (.v (.int .i64 y380)), (.v (.bool y381))])) rfl ?_
                            refine so_extract rfl rfl rfl ?_
                            refine so_extract rfl rfl rfl ?_
                            refine so_extract rfl rfl rfl ?_
                            refine so_assign (v := (.v v376)) rfl ?_
                            refine so_assign (v := (.v (.int .i64 y380))) rfl ?_
                            refine so_assign (v := (.v (.bool y381))) rfl ?_
                            refine so_nil ?_
                            refine fi_seq ?_
                            refine fi_region ?_
                            refine so_move (v := (.v v376)) rfl ?_
                            refine sv_call (impl_StoreTakes_ok v376 ws378 y375 hs (fun _ hs => (hs.dshows 0 rfl)) _ h) rfl rfl nofun ?_
                            clear h hs
                            rintro _ H385 ⟨y383, y384, h, rfl, hs⟩
                            refine so_move (v := (.t [(.v (.str (pk y383))), (.v (.bool y384))])) rfl ?_
                            refine so_extract rfl rfl rfl ?_
                            refine so_extract rfl rfl rfl ?_
                            refine so_assign (v := (.v (.str (pk y383)))) rfl ?_
                            refine so_assign (v := (.v (.bool y384))) rfl ?_
                            refine so_nil ?_
                            refine fi_seq ?_
                            refine fi_region ?_
                            refine so_move (v := (.v (.bool y381))) rfl ?_
                            refine so_move (v := (.v (.bool y381))) rfl ?_
                            replace h := ofT h; rcases h with ⟨c386, h⟩ | ⟨c386, h⟩
                            · refine so_gyes rfl c386 ?_
                              refine so_move (v := (.v (.bool y384))) rfl ?_
                              refine so_pick_t (v := (.v (.bool y384))) rfl c386 rfl ?_
                              refine so_move (v := (.v (.bool y384))) rfl ?_
                              replace h := ofT h; rcases h with ⟨c387, h⟩ | ⟨c387, h⟩
                              · refine so_gyes rfl c387 ?_
                                refine so_move (v := (.v v376)) rfl ?_
                                refine so_gyes rfl c387 ?_
                                refine sd_len ((hs.dshows 0 rfl) : DSh _ _ 3 R_s_ii64_LeFlt_f32_poooq y375 ws378) (by decide) rfl F11.ti66 ?_
                                refine so_gyes rfl c387 ?_
                                refine so_move (v := (.v (.int .i64 kept351))) rfl ?_
                                refine so_gyes rfl c387 ?_
                                refine so_bin rfl rfl ab_geq ?_
                                refine so_pick_t (v := (.v (.bool (decide (kept351 ≤ (y375.length : Int)))))) rfl c387 rfl ?_
                                refine so_move (v := (.v (.bool (decide (kept351 ≤ (y375.length : Int)))))) rfl ?_
                                replace h := ofP h; rcases h with ⟨c388, h⟩ | ⟨c388, h⟩
                                · refine so_gyes rfl (decide_eq_true c388) ?_
                                  refine so_move (v := (.v (.int .i64 y380))) rfl ?_
                                  refine so_gyes rfl (decide_eq_true c388) ?_
                                  refine so_bin rfl rfl ab_geq ?_
                                  refine so_pick_t (v := (.v (.bool (decide ((0 : Int) ≤ y380))))) rfl (decide_eq_true c388) rfl ?_
                                  refine so_move (v := (.v (.bool (decide ((0 : Int) ≤ y380))))) rfl ?_
                                  replace h := ofP h; rcases h with ⟨c389, h⟩ | ⟨c389, h⟩
                                  · refine so_gyes rfl (decide_eq_true c389) ?_
                                    refine so_move (v := (.v (.int .i64 y380))) rfl ?_
                                    refine so_gyes rfl (decide_eq_true c389) ?_
                                    refine so_move (v := (.v v368)) rfl ?_
                                    refine so_gyes rfl (decide_eq_true c389) ?_
                                    refine sv_len (hs.shows 1 rfl) (fun _ => rfl) (by decide) rfl F11.ti98 ?_
                                    refine so_gyes rfl (decide_eq_true c389) ?_
                                    refine so_bin rfl rfl ab_leq ?_
                                    refine so_pick_t (v := (.v (.bool (decide (y380 ≤ (((nums y325).set ((Int.tmod (IntKind.i64.wrap ((IntKind.i64.wrap ((256 : Int) * y345)) + y347)) (y325.length : Int))).toNat (IntKind.u8.wrap (((nums y325).getD ((Int.tmod (IntKind.i64.wrap ((IntKind.i64.wrap ((256 : Int) * y345)) + y347)) (y325.length : Int))).toNat (0 : Int)) + (IntKind.u8.wrap (IntKind.i64.wrap ((1 : Int) + y372)))))).length : Int)))))) rfl (decide_eq_true c389) rfl ?_
                                    refine so_move (v := (.v (.bool (decide (y380 ≤ (((nums y325).set ((Int.tmod (IntKind.i64.wrap ((IntKind.i64.wrap ((256 : Int) * y345)) + y347)) (y325.length : Int))).toNat (IntKind.u8.wrap (((nums y325).getD ((Int.tmod (IntKind.i64.wrap ((IntKind.i64.wrap ((256 : Int) * y345)) + y347)) (y325.length : Int))).toNat (0 : Int)) + (IntKind.u8.wrap (IntKind.i64.wrap ((1 : Int) + y372)))))).length : Int)))))) rfl ?_
                                    replace h := ofP h; rcases h with ⟨c390, h⟩ | ⟨c390, h⟩
                                    · refine so_gyes rfl (decide_eq_true c390) ?_
                                      refine so_move (v := (.v (.str (pk y383)))) rfl ?_
                                      refine so_gyes rfl (decide_eq_true c390) ?_
                                      refine so_move (v := (.v v368)) rfl ?_
                                      refine so_gyes rfl (decide_eq_true c390) ?_
                                      refine so_move (v := (.v (.int .i64 y380))) rfl ?_
                                      refine so_gyes rfl (decide_eq_true c390) ?_
                                      obtain ⟨c391, h⟩ := h
                                      refine sv_slice (hs.shows 1 rfl) c391 (fun _ => rfl) (by decide) rfl rfl rfl rfl rfl F11.tl98 ?_
                                      refine so_gyes rfl (decide_eq_true c390) ?_
                                      refine sv_bs (Shows.cut (e := (eInt .u8)) (n := 1) (fun _ => rfl) (hs.shows 1 rfl) (by decide) (cutok c391)) (cut_nn nv368) rfl F11.te98 F11.it5 F11.sr9 ?_
                                      refine so_gyes rfl (decide_eq_true c390) ?_
                                      refine so_bin rfl rfl ab_seql ?_
                                      refine so_pick_t (v := (.v (.bool (decide (y383 = (byts ((((nums y325).set ((Int.tmod (IntKind.i64.wrap ((IntKind.i64.wrap ((256 : Int) * y345)) + y347)) (y325.length : Int))).toNat (IntKind.u8.wrap (((nums y325).getD ((Int.tmod (IntKind.i64.wrap ((IntKind.i64.wrap ((256 : Int) * y345)) + y347)) (y325.length : Int))).toNat (0 : Int)) + (IntKind.u8.wrap (IntKind.i64.wrap ((1 : Int) + y372)))))).drop ((0 : Int)).toNat).take ((y380).toNat - ((0 : Int)).toNat)))))))) rfl (decide_eq_true c390) rfl ?_
                                      refine so_assign (v := (.v (.bool (decide (y383 = (byts ((((nums y325).set ((Int.tmod (IntKind.i64.wrap ((IntKind.i64.wrap ((256 : Int) * y345)) + y347)) (y325.length : Int))).toNat (IntKind.u8.wrap (((nums y325).getD ((Int.tmod (IntKind.i64.wrap ((IntKind.i64.wrap ((256 : Int) * y345)) + y347)) (y325.length : Int))).toNat (0 : Int)) + (IntKind.u8.wrap (IntKind.i64.wrap ((1 : Int) + y372)))))).drop ((0 : Int)).toNat).take ((y380).toNat - ((0 : Int)).toNat)))))))) rfl ?_
                                      refine so_nil ?_
                                      exact by_ret rfl ⟨_, h, rfl, (Sep.dropn 5 hs)⟩
                                    · refine so_gno rfl (decide_eq_false c390) ?_
                                      refine so_gno rfl (decide_eq_false c390) ?_
                                      refine so_gno rfl (decide_eq_false c390) ?_
                                      refine so_gno rfl (decide_eq_false c390) ?_
                                      refine so_gno rfl (decide_eq_false c390) ?_
                                      refine so_gno rfl (decide_eq_false c390) ?_
                                      refine so_pick_f (v := (.v (.bool false))) rfl (decide_eq_false c390) rfl ?_
                                      refine so_assign (v := (.v (.bool false))) rfl ?_
                                      refine so_nil ?_
                                      exact by_ret rfl ⟨_, h, rfl, (Sep.dropn 5 hs)⟩
                                  · refine so_gno rfl (decide_eq_false c389) ?_
                                    refine so_gno rfl (decide_eq_false c389) ?_
                                    refine so_gno rfl (decide_eq_false c389) ?_
                                    refine so_gno rfl (decide_eq_false c389) ?_
                                    refine so_pick_f (v := (.v (.bool false))) rfl (decide_eq_false c389) rfl ?_
                                    refine so_move (v := (.v (.bool false))) rfl ?_
                                    refine so_gno rfl rfl ?_
                                    refine so_gno rfl rfl ?_
                                    refine so_gno rfl rfl ?_
                                    refine so_gno rfl rfl ?_
                                    refine so_gno rfl rfl ?_
                                    refine so_gno rfl rfl ?_
                                    refine so_pick_f (v := (.v (.bool false))) rfl rfl rfl ?_
                                    refine so_assign (v := (.v (.bool false))) rfl ?_
                                    refine so_nil ?_
                                    exact by_ret rfl ⟨_, h, rfl, (Sep.dropn 5 hs)⟩
                                · refine so_gno rfl (decide_eq_false c388) ?_
                                  refine so_gno rfl (decide_eq_false c388) ?_
                                  refine so_pick_f (v := (.v (.bool false))) rfl (decide_eq_false c388) rfl ?_
                                  refine so_move (v := (.v (.bool false))) rfl ?_
                                  refine so_gno rfl rfl ?_
                                  refine so_gno rfl rfl ?_
                                  refine so_gno rfl rfl ?_
                                  refine so_gno rfl rfl ?_
                                  refine so_pick_f (v := (.v (.bool false))) rfl rfl rfl ?_
                                  refine so_move (v := (.v (.bool false))) rfl ?_
                                  refine so_gno rfl rfl ?_
                                  refine so_gno rfl rfl ?_
                                  refine so_gno rfl rfl ?_
                                  refine so_gno rfl rfl ?_
                                  refine so_gno rfl rfl ?_
                                  refine so_gno rfl rfl ?_
                                  refine so_pick_f (v := (.v (.bool false))) rfl rfl rfl ?_
                                  refine so_assign (v := (.v (.bool false))) rfl ?_
                                  refine so_nil ?_
                                  exact by_ret rfl ⟨_, h, rfl, (Sep.dropn 5 hs)⟩
                              · refine so_gno rfl c387 ?_
                                refine so_gno rfl c387 ?_
                                refine so_gno rfl c387 ?_
                                refine so_gno rfl c387 ?_
                                refine so_pick_f (v := (.v (.bool false))) rfl c387 rfl ?_
                                refine so_move (v := (.v (.bool false))) rfl ?_
                                refine so_gno rfl rfl ?_
                                refine so_gno rfl rfl ?_
                                refine so_pick_f (v := (.v (.bool false))) rfl rfl rfl ?_
                                refine so_move (v := (.v (.bool false))) rfl ?_
                                refine so_gno rfl rfl ?_
                                refine so_gno rfl rfl ?_
                                refine so_gno rfl rfl ?_
                                refine so_gno rfl rfl ?_
                                refine so_pick_f (v := (.v (.bool false))) rfl rfl rfl ?_
                                refine so_move (v := (.v (.bool false))) rfl ?_
                                refine so_gno rfl rfl ?_
                                refine so_gno rfl rfl ?_
                                refine so_gno rfl rfl ?_
                                refine so_gno rfl rfl ?_
                                refine so_gno rfl rfl ?_
                                refine so_gno rfl rfl ?_
                                refine so_pick_f (v := (.v (.bool false))) rfl rfl rfl ?_
                                refine so_assign (v := (.v (.bool false))) rfl ?_
                                refine so_nil ?_
                                exact by_ret rfl ⟨_, h, rfl, (Sep.dropn 5 hs)⟩
                            · refine so_gno rfl c386 ?_
                              refine so_pick_f (v := (.v (.bool false))) rfl c386 rfl ?_
                              refine so_move (v := (.v (.bool false))) rfl ?_
                              refine so_gno rfl rfl ?_
                              refine so_gno rfl rfl ?_
                              refine so_gno rfl rfl ?_
                              refine so_gno rfl rfl ?_
                              refine so_pick_f (v := (.v (.bool false))) rfl rfl rfl ?_
                              refine so_move (v := (.v (.bool false))) rfl ?_
                              refine so_gno rfl rfl ?_
                              refine so_gno rfl rfl ?_
                              refine so_pick_f (v := (.v (.bool false))) rfl rfl rfl ?_
                              refine so_move (v := (.v (.bool false))) rfl ?_
                              refine so_gno rfl rfl ?_
                              refine so_gno rfl rfl ?_
                              refine so_gno rfl rfl ?_
                              refine so_gno rfl rfl ?_
                              refine so_pick_f (v := (.v (.bool false))) rfl rfl rfl ?_
                              refine so_move (v := (.v (.bool false))) rfl ?_
                              refine so_gno rfl rfl ?_
                              refine so_gno rfl rfl ?_
                              refine so_gno rfl rfl ?_
                              refine so_gno rfl rfl ?_
                              refine so_gno rfl rfl ?_
                              refine so_gno rfl rfl ?_
                              refine so_pick_f (v := (.v (.bool false))) rfl rfl rfl ?_
                              refine so_assign (v := (.v (.bool false))) rfl ?_
                              refine so_nil ?_
                              exact by_ret rfl ⟨_, h, rfl, (Sep.dropn 5 hs)⟩
                          · refine fi_true rfl (not_t (decide_eq_false c367)) ?_
                            refine fi_seq ?_
                            refine fi_region ?_
                            refine so_assign (v := (.v (.bool false))) rfl ?_
                            refine so_nil ?_
                            exact by_ret rfl ⟨_, h, rfl, (Sep.del 0 (Sep.del 0 (Sep.del 0 hs)))⟩
                        · refine so_gno rfl (not_t (decide_eq_false c366)) ?_
                          refine so_gno rfl (not_t (decide_eq_false c366)) ?_
                          refine so_gno rfl (not_t (decide_eq_false c366)) ?_
                          refine so_gno rfl (not_t (decide_eq_false c366)) ?_
                          refine so_pick_t (v := (.v (.bool true))) rfl (not_t (decide_eq_false c366)) rfl ?_
                          refine so_nil ?_
                          refine fi_true rfl rfl ?_
                          refine fi_seq ?_
                          refine fi_region ?_
                          refine so_assign (v := (.v (.bool false))) rfl ?_
                          refine so_nil ?_
                          exact by_ret rfl ⟨_, h, rfl, (Sep.del 0 (Sep.del 0 (Sep.del 0 hs)))⟩
                      · refine so_gno rfl (not_t c364) ?_
                        refine so_gno rfl (not_t c364) ?_
                        refine so_gno rfl (not_t c364) ?_
                        refine so_gno rfl (not_t c364) ?_
                        refine so_gno rfl (not_t c364) ?_
                        refine so_gno rfl (not_t c364) ?_
                        refine so_pick_t (v := (.v (.bool true))) rfl (not_t c364) rfl ?_
                        refine so_move (v := (.v (.bool true))) rfl ?_
                        refine so_gno rfl rfl ?_
                        refine so_gno rfl rfl ?_
                        refine so_gno rfl rfl ?_
                        refine so_gno rfl rfl ?_
                        refine so_pick_t (v := (.v (.bool true))) rfl rfl rfl ?_
                        refine so_nil ?_
                        refine fi_true rfl rfl ?_
                        refine fi_seq ?_
                        refine fi_region ?_
                        refine so_assign (v := (.v (.bool false))) rfl ?_
                        refine so_nil ?_
                        exact by_ret rfl ⟨_, h, rfl, (Sep.del 0 (Sep.del 0 (Sep.del 0 hs)))⟩
                  · refine so_gno rfl (decide_eq_false c352) ?_
                    refine so_gno rfl (decide_eq_false c352) ?_
                    refine so_gno rfl (decide_eq_false c352) ?_
                    refine so_gno rfl (decide_eq_false c352) ?_
                    refine so_gno rfl (decide_eq_false c352) ?_
                    refine so_gno rfl (decide_eq_false c352) ?_
                    refine so_gno rfl (decide_eq_false c352) ?_
                    refine so_pick_f (v := (.v (.bool false))) rfl (decide_eq_false c352) rfl ?_
                    refine so_nil ?_
                    refine fi_false rfl rfl ?_
                    refine fi_exit rfl ?_
                    refine fi_seq ?_
                    refine fi_region ?_
                    refine so_move (v := (.v (.str (pk y325)))) rfl ?_
                    refine so_move (v := (.v (.int .i64 (Int.tmod (IntKind.i64.wrap ((IntKind.i64.wrap ((256 : Int) * y345)) + y347)) (y325.length : Int))))) rfl ?_
                    obtain ⟨c392, h⟩ := h
                    refine so_sslice rfl rfl rfl F11.sr9 rfl rfl c392 ?_
                    refine sv_call (impl_RecoverTakes_ok ((y325.drop ((0 : Int)).toNat).take (((Int.tmod (IntKind.i64.wrap ((IntKind.i64.wrap ((256 : Int) * y345)) + y347)) (y325.length : Int))).toNat - ((0 : Int)).toNat)) hs  _ h) rfl rfl nofun ?_
                    clear h hs
                    rintro _ H400 ⟨y393, y398, y399, h, v394, ws396, S397, rfl, hs⟩
                    refine so_move (v := (.t [(.v v394), (.v (.int .i64 y398)), (.v (.bool y399))])) rfl ?_
                    refine so_extract rfl rfl rfl ?_
                    refine so_extract rfl rfl rfl ?_
                    refine so_extract rfl rfl rfl ?_
                    refine so_assign (v := (.v v394)) rfl ?_
                    refine so_assign (v := (.v (.int .i64 y398))) rfl ?_
                    refine so_assign (v := (.v (.bool y399))) rfl ?_
                    refine so_nil ?_
                    refine fi_seq ?_
                    refine fi_seq ?_
                    refine fi_region ?_
                    refine so_move (v := (.v (.bool y399))) rfl ?_
                    refine so_un rfl au_not ?_
                    refine so_move (v := (.v (.bool (!y399)))) rfl ?_
                    replace h := ofT h; rcases h with ⟨c401, h⟩ | ⟨c401, h⟩
                    · refine so_gyes rfl (not_f c401) ?_
                      refine so_move (v := (.v (.int .i64 y398))) rfl ?_
                      refine so_gyes rfl (not_f c401) ?_
                      refine so_move (v := (.v v274)) rfl ?_
                      refine so_gyes rfl (not_f c401) ?_
                      refine so_move (v := (.v (.int .i64 kept351))) rfl ?_
                      refine so_gyes rfl (not_f c401) ?_
                      obtain ⟨c402, h⟩ := h
                      refine sv_idx (hs.shows 1 rfl) c402 (fun _ => rfl) (by decide) rfl rfl F11.tl101 ?_
                      refine so_gyes rfl (not_f c401) ?_
                      refine sv_cell (hs.shows 1 rfl) c402 (0 : Int) 0 (fun x => (AV.int .i64 x)) (fun _ => rfl) (fun _ => rfl) rfl F11.ag3 ?_
                      refine so_gyes rfl (not_f c401) ?_
                      refine so_bin rfl rfl ab_neq ?_
                      refine so_pick_f (v := (.v (.bool (!(decide (y398 = (ends273.getD (kept351).toNat (0 : Int)))))))) rfl (not_f c401) rfl ?_
                      refine so_move (v := (.v (.bool (!(decide (y398 = (ends273.getD (kept351).toNat (0 : Int)))))))) rfl ?_
                      replace h := ofP h; rcases h with ⟨c403, h⟩ | ⟨c403, h⟩
                      · refine so_gyes rfl (not_f (decide_eq_true c403)) ?_
                        refine so_move (v := (.v v394)) rfl ?_
                        refine so_gyes rfl (not_f (decide_eq_true c403)) ?_
                        refine sd_len ((hs.dshows 0 rfl) : DSh _ _ 3 R_s_ii64_LeFlt_f32_poooq y393 ws396) (by decide) rfl F11.ti66 ?_
                        refine so_gyes rfl (not_f (decide_eq_true c403)) ?_
                        refine so_move (v := (.v (.int .i64 kept351))) rfl ?_
                        refine so_gyes rfl (not_f (decide_eq_true c403)) ?_
                        refine so_bin rfl rfl ab_neq ?_
                        refine so_pick_f (v := (.v (.bool (!(decide ((y393.length : Int) = kept351)))))) rfl (not_f (decide_eq_true c403)) rfl ?_
                        refine so_nil ?_
                        replace h := ofP h; rcases h with ⟨c404, h⟩ | ⟨c404, h⟩
                        · refine fi_false rfl (not_f (decide_eq_true c404)) ?_
                          refine fi_skip ?_
                          refine fi_seq ?_
                          refine fi_region ?_
                          refine so_move (v := (.v (.str (pk y325)))) rfl ?_
                          refine sv_sb hs rfl F11.us9 F11.ns98 F11.te98 F11.it5 nofun (fun v405 H406 nv405 hs => ?_)
                          refine so_assign (v := (.v v405)) rfl ?_
                          refine so_nil ?_
                          refine fi_seq ?_
                          refine fi_region ?_
                          refine so_move (v := (.v v405)) rfl ?_
                          refine so_move (v := (.v (.int .i64 (Int.tmod (IntKind.i64.wrap ((IntKind.i64.wrap ((256 : Int) * y345)) + y347)) (y325.length : Int))))) rfl ?_
                          obtain ⟨c408, h⟩ := h
                          refine sv_idx (hs.shows 0 rfl) c408 (fun _ => rfl) (by decide) rfl rfl F11.tl98 ?_
                          refine sv_cell (hs.shows 0 rfl) c408 (0 : Int) 0 (fun x => (AV.int .u8 x)) (fun _ => rfl) (fun _ => rfl) rfl F11.ag5 ?_
                          refine so_move (v := (.v v1)) rfl ?_
                          refine sv_callS (laws_b10At_ok v1 l1 (2 : Int) (255 : Int) hs (fun _ hs => (g1 _ hs.tl.tl.tl.tl)) _ h) (fun _ _ ⟨_, _, _, e⟩ => e) rfl rfl ?_
                          clear h
                          rintro _ _ ⟨y409, h, rfl, rfl⟩
                          refine so_bin rfl rfl ab_add ?_
                          refine sv_ii rfl F11.us2 F11.it5 ?_
                          refine so_bin rfl rfl ab_add ?_
                          refine sv_idx (hs.shows 0 rfl) c408 (fun _ => rfl) (by decide) rfl rfl F11.tl98 ?_
                          refine sv_set hs 0 rfl c408 (IntKind.u8.wrap (((nums y325).getD ((Int.tmod (IntKind.i64.wrap ((IntKind.i64.wrap ((256 : Int) * y345)) + y347)) (y325.length : Int))).toNat (0 : Int)) + (IntKind.u8.wrap (IntKind.i64.wrap ((1 : Int) + y409))))) (fun _ => rfl) (by decide) rfl rfl rfl rfl F11.sz5 (fun _ => by kernel_rfl) (fun H411 hs => ?_)
                          refine so_nil ?_
                          refine fi_seq ?_
                          refine fi_region ?_
                          refine so_move (v := (.v v405)) rfl ?_
                          refine sv_bs (hs.shows 0 rfl) nv405 rfl F11.te98 F11.it5 F11.sr9 ?_
                          refine sv_call (impl_RecoverTakes_ok (byts ((nums y325).set ((Int.tmod (IntKind.i64.wrap ((IntKind.i64.wrap ((256 : Int) * y345)) + y347)) (y325.length : Int))).toNat (IntKind.u8.wrap (((nums y325).getD ((Int.tmod (IntKind.i64.wrap ((IntKind.i64.wrap ((256 : Int) * y345)) + y347)) (y325.length : Int))).toNat (0 : Int)) + (IntKind.u8.wrap (IntKind.i64.wrap ((1 : Int) + y409))))))) hs  _ h) rfl rfl nofun ?_
                          clear h hs
                          rintro _ H419 ⟨y412, y417, y418, h, v413, ws415, S416, rfl, hs⟩
                          refine so_move (v := (.t [(.v v413), (.v (.int .i64 y417)), (.v (.bool y418))])) rfl ?_
                          refine so_extract rfl rfl rfl ?_
                          refine so_extract rfl rfl rfl ?_
                          refine so_extract rfl rfl rfl ?_
                          refine so_assign (v := (.v v413)) rfl ?_
                          refine so_assign (v := (.v (.int .i64 y417))) rfl ?_
                          refine so_assign (v := (.v (.bool y418))) rfl ?_
                          refine so_nil ?_
                          refine fi_seq ?_
                          refine fi_region ?_
                          refine so_move (v := (.v v413)) rfl ?_
                          refine sv_call (impl_StoreTakes_ok v413 ws415 y412 hs (fun _ hs => (hs.dshows 0 rfl)) _ h) rfl rfl nofun ?_
                          clear h hs
                          rintro _ H422 ⟨y420, y421, h, rfl, hs⟩
                          refine so_move (v := (.t [(.v (.str (pk y420))), (.v (.bool y421))])) rfl ?_
                          refine so_extract rfl rfl rfl ?_
                          refine so_extract rfl rfl rfl ?_
                          refine so_assign (v := (.v (.str (pk y420)))) rfl ?_
                          refine so_assign (v := (.v (.bool y421))) rfl ?_
                          refine so_nil ?_
                          refine fi_seq ?_
                          refine fi_region ?_
                          refine so_move (v := (.v (.bool y418))) rfl ?_
                          refine so_move (v := (.v (.bool y418))) rfl ?_
                          replace h := ofT h; rcases h with ⟨c423, h⟩ | ⟨c423, h⟩
                          · refine so_gyes rfl c423 ?_
                            refine so_move (v := (.v (.bool y421))) rfl ?_
                            refine so_pick_t (v := (.v (.bool y421))) rfl c423 rfl ?_
                            refine so_move (v := (.v (.bool y421))) rfl ?_
                            replace h := ofT h; rcases h with ⟨c424, h⟩ | ⟨c424, h⟩
                            · refine so_gyes rfl c424 ?_
                              refine so_move (v := (.v v413)) rfl ?_
                              refine so_gyes rfl c424 ?_
                              refine sd_len ((hs.dshows 0 rfl) : DSh _ _ 3 R_s_ii64_LeFlt_f32_poooq y412 ws415) (by decide) rfl F11.ti66 ?_
                              refine so_gyes rfl c424 ?_
                              refine so_move (v := (.v (.int .i64 kept351))) rfl ?_
                              refine so_gyes rfl c424 ?_
                              refine so_bin rfl rfl ab_geq ?_
                              refine so_pick_t (v := (.v (.bool (decide (kept351 ≤ (y412.length : Int)))))) rfl c424 rfl ?_
                              refine so_move (v := (.v (.bool (decide (kept351 ≤ (y412.length : Int)))))) rfl ?_
                              replace h := ofP h; rcases h with ⟨c425, h⟩ | ⟨c425, h⟩
                              · refine so_gyes rfl (decide_eq_true c425) ?_
                                refine so_move (v := (.v (.int .i64 y417))) rfl ?_
                                refine so_gyes rfl (decide_eq_true c425) ?_
                                refine so_bin rfl rfl ab_geq ?_
                                refine so_pick_t (v := (.v (.bool (decide ((0 : Int) ≤ y417))))) rfl (decide_eq_true c425) rfl ?_
                                refine so_move (v := (.v (.bool (decide ((0 : Int) ≤ y417))))) rfl ?_
                                replace h := ofP h; rcases h with ⟨c426, h⟩ | ⟨c426, h⟩
                                · refine so_gyes rfl (decide_eq_true c426) ?_
                                  refine so_move (v := (.v (.int .i64 y417))) rfl ?_
                                  refine so_gyes rfl (decide_eq_true c426) ?_
                                  refine so_move (v := (.v v405)) rfl ?_
                                  refine so_gyes rfl (decide_eq_true c426) ?_
                                  refine sv_len (hs.shows 1 rfl) (fun _ => rfl) (by decide) rfl F11.ti98 ?_
                                  refine so_gyes rfl (decide_eq_true c426) ?_
                                  refine so_bin rfl rfl ab_leq ?_
                                  refine so_pick_t (v := (.v (.bool (decide (y417 ≤ (((nums y325).set ((Int.tmod (IntKind.i64.wrap ((IntKind.i64.wrap ((256 : Int) * y345)) + y347)) (y325.length : Int))).toNat (IntKind.u8.wrap (((nums y325).getD ((Int.tmod (IntKind.i64.wrap ((IntKind.i64.wrap ((256 : Int) * y345)) + y347)) (y325.length : Int))).toNat (0 : Int)) + (IntKind.u8.wrap (IntKind.i64.wrap ((1 : Int) + y409)))))).length : Int)))))) rfl (decide_eq_true c426) rfl ?_
                                  refine so_move (v := (.v (.bool (decide (y417 ≤ (((nums y325).set ((Int.tmod (IntKind.i64.wrap ((IntKind.i64.wrap ((256 : Int) * y345)) + y347)) (y325.length : Int))).toNat (IntKind.u8.wrap (((nums y325).getD ((Int.tmod (IntKind.i64.wrap ((IntKind.i64.wrap ((256 : Int) * y345)) + y347)) (y325.length : Int))).toNat (0 : Int)) + (IntKind.u8.wrap (IntKind.i64.wrap ((1 : Int) + y409)))))).length : Int)))))) rfl ?_
                                  replace h := ofP h; rcases h with ⟨c427, h⟩ | ⟨c427, h⟩
                                  · refine so_gyes rfl (decide_eq_true c427) ?_
                                    refine so_move (v := (.v (.str (pk y420)))) rfl ?_
                                    refine so_gyes rfl (decide_eq_true c427) ?_
                                    refine so_move (v := (.v v405)) rfl ?_
                                    refine so_gyes rfl (decide_eq_true c427) ?_
                                    refine so_move (v := (.v (.int .i64 y417))) rfl ?_
                                    refine so_gyes rfl (decide_eq_true c427) ?_
                                    obtain ⟨c428, h⟩ := h
                                    refine sv_slice (hs.shows 1 rfl) c428 (fun _ => rfl) (by decide) rfl rfl rfl rfl rfl F11.tl98 ?_
                                    refine so_gyes rfl (decide_eq_true c427) ?_
                                    refine sv_bs (Shows.cut (e := (eInt .u8)) (n := 1) (fun _ => rfl) (hs.shows 1 rfl) (by decide) (cutok c428)) (cut_nn nv405) rfl F11.te98 F11.it5 F11.sr9 ?_
                                    refine so_gyes rfl (decide_eq_true c427) ?_
                                    refine so_bin rfl rfl ab_seql ?_
                                    refine so_pick_t (v := (.v (.bool (decide (y420 = (byts ((((nums y325).set ((Int.tmod (IntKind.i64.wrap ((IntKind.i64.wrap ((256 : Int) * y345)) + y347)) (y325.length : Int))).toNat (IntKind.u8.wrap (((nums y325).getD ((Int.tmod (IntKind.i64.wrap ((IntKind.i64.wrap ((256 : Int) * y345)) + y347)) (y325.length : Int))).toNat (0 : Int)) + (IntKind.u8.wrap (IntKind.i64.wrap ((1 : Int) + y409)))))).drop ((0 : Int)).toNat).take ((y417).toNat - ((0 : Int)).toNat)))))))) rfl (decide_eq_true c427) rfl ?_
                                    refine so_assign (v := (.v (.bool (decide (y420 = (byts ((((nums y325).set ((Int.tmod (IntKind.i64.wrap ((IntKind.i64.wrap ((256 : Int) * y345)) + y347)) (y325.length : Int))).toNat (IntKind.u8.wrap (((nums y325).getD ((Int.tmod (IntKind.i64.wrap ((IntKind.i64.wrap ((256 : Int) * y345)) + y347)) (y325.length : Int))).toNat (0 : Int)) + (IntKind.u8.wrap (IntKind.i64.wrap ((1 : Int) + y409)))))).drop ((0 : Int)).toNat).take ((y417).toNat - ((0 : Int)).toNat)))))))) rfl ?_
                                    refine so_nil ?_
                                    exact by_ret rfl ⟨_, h, rfl, (Sep.dropn 5 hs)⟩
                                  · refine so_gno rfl (decide_eq_false c427) ?_
                                    refine so_gno rfl (decide_eq_false c427) ?_
                                    refine so_gno rfl (decide_eq_false c427) ?_
                                    refine so_gno rfl (decide_eq_false c427) ?_
                                    refine so_gno rfl (decide_eq_false c427) ?_
                                    refine so_gno rfl (decide_eq_false c427) ?_
                                    refine so_pick_f (v := (.v (.bool false))) rfl (decide_eq_false c427) rfl ?_
                                    refine so_assign (v := (.v (.bool false))) rfl ?_
                                    refine so_nil ?_
                                    exact by_ret rfl ⟨_, h, rfl, (Sep.dropn 5 hs)⟩
                                · refine so_gno rfl (decide_eq_false c426) ?_
                                  refine so_gno rfl (decide_eq_false c426) ?_
                                  refine so_gno rfl (decide_eq_false c426) ?_
                                  refine so_gno rfl (decide_eq_false c426) ?_
                                  refine so_pick_f (v := (.v (.bool false))) rfl (decide_eq_false c426) rfl ?_
                                  refine so_move (v := (.v (.bool false))) rfl ?_
                                  refine so_gno rfl rfl ?_
                                  refine so_gno rfl rfl ?_
                                  refine so_gno rfl rfl ?_
                                  refine so_gno rfl rfl ?_
                                  refine so_gno rfl rfl ?_
                                  refine so_gno rfl rfl ?_
                                  refine so_pick_f (v := (.v (.bool false))) rfl rfl rfl ?_
                                  refine so_assign (v := (.v (.bool false))) rfl ?_
                                  refine so_nil ?_
                                  exact by_ret rfl ⟨_, h, rfl, (Sep.dropn 5 hs)⟩
                              · refine so_gno rfl (decide_eq_false c425) ?_
                                refine so_gno rfl (decide_eq_false c425) ?_
                                refine so_pick_f (v := (.v (.bool false))) rfl (decide_eq_false c425) rfl ?_
                                refine so_move (v := (.v (.bool false))) rfl ?_
                                refine so_gno rfl rfl ?_
                                refine so_gno rfl rfl ?_
                                refine so_gno rfl rfl ?_
                                refine so_gno rfl rfl ?_
                                refine so_pick_f (v := (.v (.bool false))) rfl rfl rfl ?_
                                refine so_move (v := (.v (.bool false))) rfl ?_
                                refine so_gno rfl rfl ?_
                                refine so_gno rfl rfl ?_
                                refine so_gno rfl rfl ?_
                                refine so_gno rfl rfl ?_
                                refine so_gno rfl rfl ?_
                                refine so_gno rfl rfl ?_
                                refine so_pick_f (v := (.v (.bool false))) rfl rfl rfl ?_
                                refine so_assign (v := (.v (.bool false))) rfl ?_
                                refine so_nil ?_
                                exact by_ret rfl ⟨_, h, rfl, (Sep.dropn 5 hs)⟩
                            · refine so_gno rfl c424 ?_
                              refine so_gno rfl c424 ?_
                              refine so_gno rfl c424 ?_
                              refine so_gno rfl c424 ?_
                              refine so_pick_f (v := (.v (.bool false))) rfl c424 rfl ?_
                              refine so_move (v := (.v (.bool false))) rfl ?_
                              refine so_gno rfl rfl ?_
                              refine so_gno rfl rfl ?_
                              refine so_pick_f (v := (.v (.bool false))) rfl rfl rfl ?_
                              refine so_move (v := (.v (.bool false))) rfl ?_
                              refine so_gno rfl rfl ?_
                              refine so_gno rfl rfl ?_
                              refine so_gno rfl rfl ?_
                              refine so_gno rfl rfl ?_
                              refine so_pick_f (v := (.v (.bool false))) rfl rfl rfl ?_
                              refine so_move (v := (.v (.bool false))) rfl ?_
                              refine so_gno rfl rfl ?_
                              refine so_gno rfl rfl ?_
                              refine so_gno rfl rfl ?_
                              refine so_gno rfl rfl ?_
                              refine so_gno rfl rfl ?_
                              refine so_gno rfl rfl ?_
                              refine so_pick_f (v := (.v (.bool false))) rfl rfl rfl ?_
                              refine so_assign (v := (.v (.bool false))) rfl ?_
                              refine so_nil ?_
                              exact by_ret rfl ⟨_, h, rfl, (Sep.dropn 5 hs)⟩
                          · refine so_gno rfl c423 ?_
                            refine so_pick_f (v := (.v (.bool false))) rfl c423 rfl ?_
                            refine so_move (v := (.v (.bool false))) rfl ?_
                            refine so_gno rfl rfl ?_
                            refine so_gno rfl rfl ?_
                            refine so_gno rfl rfl ?_
                            refine so_gno rfl rfl ?_
                            refine so_pick_f (v := (.v (.bool false))) rfl rfl rfl ?_
                            refine so_move (v := (.v (.bool false))) rfl ?_
                            refine so_gno rfl rfl ?_
                            refine so_gno rfl rfl ?_
                            refine so_pick_f (v := (.v (.bool false))) rfl rfl rfl ?_
                            refine so_move (v := (.v (.bool false))) rfl ?_
                            refine so_gno rfl rfl ?_
                            refine so_gno rfl rfl ?_
                            refine so_gno rfl rfl ?_
                            refine so_gno rfl rfl ?_
                            refine so_pick_f (v := (.v (.bool false))) rfl rfl rfl ?_
                            refine so_move (v := (.v (.bool false))) rfl ?_
                            refine so_gno rfl rfl ?_
                            refine so_gno rfl rfl ?_
                            refine so_gno rfl rfl ?_
                            refine so_gno rfl rfl ?_
                            refine so_gno rfl rfl ?_
                            refine so_gno rfl rfl ?_
                            refine so_pick_f (v := (.v (.bool false))) rfl rfl rfl ?_
                            refine so_assign (v := (.v (.bool false))) rfl ?_
                            refine so_nil ?_
                            exact by_ret rfl ⟨_, h, rfl, (Sep.dropn 5 hs)⟩
                        · refine fi_true rfl (not_t (decide_eq_false c404)) ?_
                          refine fi_seq ?_
                          refine fi_region ?_
                          refine so_assign (v := (.v (.bool false))) rfl ?_
                          refine so_nil ?_
                          exact by_ret rfl ⟨_, h, rfl, (Sep.del 0 (Sep.del 0 (Sep.del 0 hs)))⟩
                      · refine so_gno rfl (not_t (decide_eq_false c403)) ?_
                        refine so_gno rfl (not_t (decide_eq_false c403)) ?_
                        refine so_gno rfl (not_t (decide_eq_false c403)) ?_
                        refine so_gno rfl (not_t (decide_eq_false c403)) ?_
                        refine so_pick_t (v := (.v (.bool true))) rfl (not_t (decide_eq_false c403)) rfl ?_
                        refine so_nil ?_
                        refine fi_true rfl rfl ?_
                        refine fi_seq ?_
                        refine fi_region ?_
                        refine so_assign (v := (.v (.bool false))) rfl ?_
                        refine so_nil ?_
                        exact by_ret rfl ⟨_, h, rfl, (Sep.del 0 (Sep.del 0 (Sep.del 0 hs)))⟩
                    · refine so_gno rfl (not_t c401) ?_
                      refine so_gno rfl (not_t c401) ?_
                      refine so_gno rfl (not_t c401) ?_
                      refine so_gno rfl (not_t c401) ?_
                      refine so_gno rfl (not_t c401) ?_
                      refine so_gno rfl (not_t c401) ?_
                      refine so_pick_t (v := (.v (.bool true))) rfl (not_t c401) rfl ?_
                      refine so_move (v := (.v (.bool true))) rfl ?_
                      refine so_gno rfl rfl ?_
                      refine so_gno rfl rfl ?_
                      refine so_gno rfl rfl ?_
                      refine so_gno rfl rfl ?_
                      refine so_pick_t (v := (.v (.bool true))) rfl rfl rfl ?_
                      refine so_nil ?_
                      refine fi_true rfl rfl ?_
                      refine fi_seq ?_
                      refine fi_region ?_
                      refine so_assign (v := (.v (.bool false))) rfl ?_
                      refine so_nil ?_
                      exact by_ret rfl ⟨_, h, rfl, (Sep.del 0 (Sep.del 0 (Sep.del 0 hs)))⟩
              · refine fi_true rfl (not_t c343) ?_
                refine fi_seq ?_
                refine fi_region ?_
                refine so_assign (v := (.v (.bool false))) rfl ?_
                refine so_nil ?_
                exact by_ret rfl ⟨_, h, rfl, (Sep.del 0 (Sep.del 0 (Sep.del 0 hs)))⟩
            · refine so_gno rfl (not_t (decide_eq_false c340)) ?_
              refine so_gno rfl (not_t (decide_eq_false c340)) ?_
              refine so_gno rfl (not_t (decide_eq_false c340)) ?_
              refine so_gno rfl (not_t (decide_eq_false c340)) ?_
              refine so_pick_t (v := (.v (.bool true))) rfl (not_t (decide_eq_false c340)) rfl ?_
              refine so_nil ?_
              refine fi_true rfl rfl ?_
              refine fi_seq ?_
              refine fi_region ?_
              refine so_assign (v := (.v (.bool false))) rfl ?_
              refine so_nil ?_
              exact by_ret rfl ⟨_, h, rfl, (Sep.del 0 (Sep.del 0 (Sep.del 0 hs)))⟩
          · refine so_gno rfl (not_t (decide_eq_false c339)) ?_
            refine so_gno rfl (not_t (decide_eq_false c339)) ?_
            refine so_gno rfl (not_t (decide_eq_false c339)) ?_
            refine so_gno rfl (not_t (decide_eq_false c339)) ?_
            refine so_pick_t (v := (.v (.bool true))) rfl (not_t (decide_eq_false c339)) rfl ?_
            refine so_move (v := (.v (.bool true))) rfl ?_
            refine so_gno rfl rfl ?_
            refine so_gno rfl rfl ?_
            refine so_gno rfl rfl ?_
            refine so_gno rfl rfl ?_
            refine so_pick_t (v := (.v (.bool true))) rfl rfl rfl ?_
            refine so_nil ?_
            refine fi_true rfl rfl ?_
            refine fi_seq ?_
            refine fi_region ?_
            refine so_assign (v := (.v (.bool false))) rfl ?_
            refine so_nil ?_
            exact by_ret rfl ⟨_, h, rfl, (Sep.del 0 (Sep.del 0 (Sep.del 0 hs)))⟩
        · refine so_gno rfl (not_t c337) ?_
          refine so_gno rfl (not_t c337) ?_
          refine so_gno rfl (not_t c337) ?_
          refine so_gno rfl (not_t c337) ?_
          refine so_gno rfl (not_t c337) ?_
          refine so_gno rfl (not_t c337) ?_
          refine so_gno rfl (not_t c337) ?_
          refine so_gno rfl (not_t c337) ?_
          refine so_pick_t (v := (.v (.bool true))) rfl (not_t c337) rfl ?_
          refine so_move (v := (.v (.bool true))) rfl ?_
          refine so_gno rfl rfl ?_
          refine so_gno rfl rfl ?_
          refine so_gno rfl rfl ?_
          refine so_gno rfl rfl ?_
          refine so_pick_t (v := (.v (.bool true))) rfl rfl rfl ?_
          refine so_move (v := (.v (.bool true))) rfl ?_
          refine so_gno rfl rfl ?_
          refine so_gno rfl rfl ?_
          refine so_gno rfl rfl ?_
          refine so_gno rfl rfl ?_
          refine so_pick_t (v := (.v (.bool true))) rfl rfl rfl ?_
          refine so_nil ?_
          refine fi_true rfl rfl ?_
          refine fi_seq ?_
          refine fi_region ?_
          refine so_assign (v := (.v (.bool false))) rfl ?_
          refine so_nil ?_
          exact by_ret rfl ⟨_, h, rfl, (Sep.del 0 (Sep.del 0 (Sep.del 0 hs)))⟩
      · refine so_gno rfl (not_t c336) ?_
        refine so_gno rfl (not_t c336) ?_
        refine so_pick_t (v := (.v (.bool true))) rfl (not_t c336) rfl ?_
        refine so_move (v := (.v (.bool true))) rfl ?_
        refine so_gno rfl rfl ?_
        refine so_gno rfl rfl ?_
        refine so_gno rfl rfl ?_
        refine so_gno rfl rfl ?_
        refine so_gno rfl rfl ?_
        refine so_gno rfl rfl ?_
        refine so_gno rfl rfl ?_
        refine so_gno rfl rfl ?_
        refine so_pick_t (v := (.v (.bool true))) rfl rfl rfl ?_
        refine so_move (v := (.v (.bool true))) rfl ?_
        refine so_gno rfl rfl ?_
        refine so_gno rfl rfl ?_
        refine so_gno rfl rfl ?_
        refine so_gno rfl rfl ?_
        refine so_pick_t (v := (.v (.bool true))) rfl rfl rfl ?_
        refine so_move (v := (.v (.bool true))) rfl ?_
        refine so_gno rfl rfl ?_
        refine so_gno rfl rfl ?_
        refine so_gno rfl rfl ?_
        refine so_gno rfl rfl ?_
        refine so_pick_t (v := (.v (.bool true))) rfl rfl rfl ?_
        refine so_nil ?_
        refine fi_true rfl rfl ?_
        refine fi_seq ?_
        refine fi_region ?_
        refine so_assign (v := (.v (.bool false))) rfl ?_
        refine so_nil ?_
        exact by_ret rfl ⟨_, h, rfl, (Sep.del 0 (Sep.del 0 (Sep.del 0 hs)))⟩

end Go.Proofs.Ytpeijfnfffogeaa.G

