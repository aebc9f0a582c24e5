/-
  ONE OPERATION, the rest: rows made, cut, appended to; the built-in functions; and all of them together. By an AI agent; nothing here is trusted.
-/
import Derived.Test.YtfhlhgnipmgfdaaAbS
import Derived.IntWalk
namespace Go.Ab
set_option linter.unusedVariables false
set_option linter.unusedSimpArgs false

/-! ### rows of zeros -/
theorem zerosOf_len (z : List AV) : ∀ n, (zerosOf z n).length = n * z.length
  | 0 => by simp [zerosOf]
  | n + 1 => by simp [zerosOf, zerosOf_len z n, Nat.add_mul]; omega

theorem zerosOf_get (z : List AV) : ∀ (n j : Nat), j < n * z.length → (zerosOf z n)[j]? = z[j % z.length]?
  | 0, j, h => by simp at h
  | n + 1, j, h => by
    have hz : 0 < z.length := by
      rcases Nat.eq_zero_or_pos z.length with e | e
      · rw [e] at h; simp at h
      · exact e
    simp only [zerosOf]
    rcases Nat.lt_or_ge j z.length with h1 | h1
    · rw [List.getElem?_append_left h1, Nat.mod_eq_of_lt h1]
    · rw [List.getElem?_append_right h1, zerosOf_get z n (j - z.length) (by rw [Nat.add_mul] at h; omega)]
      rw [Nat.mod_eq_sub_mod h1]

theorem zerosOf_all (z : List AV) (h : z.all AV.stor = true) : ∀ n, (zerosOf z n).all AV.stor = true
  | 0 => rfl
  | n + 1 => by simp only [zerosOf, List.all_append, h, zerosOf_all z h n, Bool.and_self]

/-- The machine's zeros. -/
theorem zeros_all2 {β : Emb} {z : List AV} {zc : Array Value} (h : z = zc.toList.map ofCell) (n : Nat) :
    All2 (VR β) (zerosOf z n) ((Array.range (n * zc.size)).map (fun i => zc[i % zc.size]!)).toList := by
  have hl : z.length = zc.size := by rw [h]; simp
  refine All2.of_get (by rw [zerosOf_len, hl]; simp) fun j a b ha hb => ?_
  have hj : j < n * z.length := by
    rcases Nat.lt_or_ge j (n * z.length) with h' | h'
    · exact h'
    · rw [List.getElem?_eq_none (by rw [zerosOf_len]; exact h')] at ha; cases ha
  rw [zerosOf_get z n j hj] at ha
  have hz : 0 < zc.size := by
    rcases Nat.eq_zero_or_pos zc.size with e | e
    · rw [hl, e] at hj; simp at hj
    · exact e
  have hm : j % zc.size < zc.size := Nat.mod_lt _ hz
  have hb' : b = zc[j % zc.size]! := by
    rw [hl] at hj
    simp [hj] at hb
    rw [← hb]
  rw [hl, h] at ha
  simp [hm] at ha
  rw [hb', ← ha]
  simp [hm]
  exact VR_ofCell β _

section
variable {P : Program} {o : Oper} {ρ : Operand → Value} {ev : Operand → TV} {β : Emb} {H H' : Heap} {w : World} {v : TV}

theorem d_makeSlice (t : TypeId) (l c : Operand) (ho : o.op = .makeSlice t l c) (hs : SR β H w) (hx : TVR β (ev l) (ρ l)) (hy : TVR β (ev c) (ρ c)) (h : astep P ev (.makeSlice t l c) H = some (v, H')) :
    Done β H w ((execOp ρ o).run P w) v H' := by
  simp only [astep] at h
  split at h
  · rename_i n m e en em he
    rw [en] at hx
    rw [em] at hy
    have hx' : ρ l = .int .i64 n := hx
    have hy' : ρ c = .int .i64 m := hy
    split at h
    · rename_i sz bys z hsz hby hz
      split at h
      · rename_i hc
        cases h
        obtain ⟨h0, h1, h2, h3, h4, h5⟩ := hc
        obtain ⟨zv, hz1, hz2⟩ := run_tzero (w := w) hz
        obtain ⟨i, hi, hib⟩ := run_tbytes (w := w) hby
        have hlen : z.length = zv.cells.size := by rw [hz2]; simp
        have hn : IntKind.i64.wrap n = n := by
          exact IntWalk.i64_in n ⟨by omega, by omega⟩
        have hm : IntKind.i64.wrap m = m := by
          exact IntWalk.i64_in m ⟨by omega, by omega⟩
        have hsplit : (Array.range (m.toNat * zv.cells.size)).map (fun i => zv.cells[i % zv.cells.size]!) =
            (((Array.range (n.toNat * zv.cells.size)).map (fun i => zv.cells[i % zv.cells.size]!)).toList ++
             ((Array.range (m.toNat * zv.cells.size)).map (fun i => zv.cells[i % zv.cells.size]!)).toList.drop (n.toNat * zv.cells.size)).toArray := by
          have hle : n.toNat * zv.cells.size ≤ m.toNat * zv.cells.size := Nat.mul_le_mul_right _ (by omega)
          apply Array.ext'
          apply List.ext_getElem? 
          intro j
          rcases Nat.lt_or_ge j (n.toNat * zv.cells.size) with hj | hj
          · rw [List.getElem?_append_left (by simpa using hj)]
            simp [hj, Nat.lt_of_lt_of_le hj hle]
          · rw [List.getElem?_append_right (by simpa using hj), List.getElem?_drop]
            simp only [Array.toList_map, Array.toList_range, List.length_map, List.length_range]
            rw [show n.toNat * zv.cells.size + (j - n.toNat * zv.cells.size) = j by omega]
        have ha : All2 (VS β) (zerosOf z n.toNat) ((Array.range (n.toNat * zv.cells.size)).map (fun i => zv.cells[i % zv.cells.size]!)).toList :=
          (zeros_all2 hz2 n.toNat).stor (zerosOf_all z h5 _)
        refine ⟨_, .slice (some ⟨w.heap.size, 0, none⟩) n.toNat m.toNat, _, .inl ?_, Le.ext (hs.dom _ (Nat.le_refl _)),
          hs.alloc (t := e) (rest := ((Array.range (m.toNat * zv.cells.size)).map (fun i => zv.cells[i % zv.cells.size]!)).toList.drop (n.toNat * zv.cells.size)) (fz := (0, 0)) ha (.inl rfl), ?_, Fr.alloc hs _ _⟩
        · have hlarge : ∀ k : Int, 0 ≤ k → k ≤ m → (decide (k < 0) || decide ((bys : Int) * k > 2 ^ 48)) = false := by
            intro k hk1 hk2
            have hmb : m * (bys : Int) ≤ 2 ^ 40 := h3
            have : (bys : Int) * k ≤ m * bys := by
              rw [Int.mul_comm]
              exact Int.mul_le_mul_of_nonneg_right hk2 (by omega)
            simp only [Bool.or_eq_false_iff, decide_eq_false_iff_not]
            constructor
            · omega
            · have : (2 : Int) ^ 48 = 281474976710656 := rfl
              have : (2 : Int) ^ 40 = 1099511627776 := rfl
              omega
          have hl1 := hlarge m (by omega) (Int.le_refl _)
          have hrun : (Instr.makeSlice t (.int .i64 n) (.int .i64 m)).run P w = .ok (.slice (some ⟨w.heap.size, 0, none⟩) n.toNat m.toNat)
              { w with heap := w.heap.push (.cells ((Array.range (m.toNat * zv.cells.size)).map (fun i => zv.cells[i % zv.cells.size]!)) e) } := by
            unfold Instr.makeSlice
            simp only [Sem.run_bind, run_underlying (telem_und he), Result.andThen_ok, asInt, asIntOf, Sem.run_pure, hi, hib, hn, hm, run_askRoom, run_tsz hsz]
            rw [if_neg (by simp only [hl1, Bool.false_or, Bool.or_eq_true, decide_eq_true_eq, not_or]; constructor <;> omega)]
            simp only [Sem.run_bind, run_askRoom, Result.andThen_ok, run_tsz hsz, newRow, run_newObj, Sem.run_pure, Sem.run_map]
            by_cases hz0 : m.toNat * sz = 0
            · simp only [hz0, if_true, Sem.run_pure, Result.andThen_ok]
              rw [show sz = zv.cells.size by omega] at hz0
              rw [hz0, show (Array.range 0) = #[] from rfl]
              simp
            · rw [if_neg hz0]
              simp only [Sem.run_bind, hz1, Result.andThen_ok, Sem.run_pure, Sem.run_map]
              rw [show sz = zv.cells.size by omega]
              simp
          rw [hsplit] at hrun
          simp [execOp, ho, hx', hy', hrun]
        · refine ⟨_, _, m.toNat, if_pos rfl, rfl, by omega, .inl ⟨rfl, ?_⟩⟩
          have hle : n.toNat * zv.cells.size ≤ m.toNat * zv.cells.size := Nat.mul_le_mul_right _ (by omega)
          simp only [List.length_drop, Array.length_toList, Array.size_map, Array.size_range]
          rw [show sz = zv.cells.size by omega]
          omega
      · cases h
    · cases h
  · cases h

/-! ### parts filled in -/
theorem foldl_set (us : List Value) (off : Nat) : ∀ (k : Nat) (cs : Array Value), off + k + us.length ≤ cs.size →
    ((us.zipIdx k).foldl (fun (cs : Array Value) (c, j) => cs.setIfInBounds (off + j) c) cs).toList = cs.toList.take (off + k) ++ us ++ cs.toList.drop (off + k + us.length) := by
  induction us with
  | nil => intro k cs _; simp
  | cons u us ih =>
    intro k cs h
    simp only [List.zipIdx_cons, List.foldl_cons]
    rw [ih (k + 1) _ (by simp at h ⊢; omega)]
    simp only [Array.toList_setIfInBounds, List.length_cons] at h ⊢
    have hlen : off + k < (cs.toList.set (off + k) u).length := by simp; omega
    have e1 : (cs.toList.set (off + k) u).take (off + (k + 1)) = cs.toList.take (off + k) ++ [u] := by
      rw [show off + (k + 1) = (off + k) + 1 by omega, List.take_succ_eq_append_getElem hlen, List.take_set_of_le (Nat.le_refl _)]
      simp
    have e2 : (cs.toList.set (off + k) u).drop (off + (k + 1) + us.length) = cs.toList.drop (off + (k + 1) + us.length) := by
      rw [List.drop_set_of_lt (by omega)]
    rw [e1, e2, show off + (k + 1) + us.length = off + k + (us.length + 1) by omega]
    simp

theorem All2.splice {β : Emb} {cs new : List AV} {us vs : List Value} (h : All2 (VR β) cs us) (k : All2 (VR β) new vs) (off : Nat) :
    All2 (VR β) (splice cs new off) (us.take off ++ vs ++ us.drop (off + vs.length)) := by
  unfold Ab.splice
  rw [k.len]
  exact ((h.take off).append k).append (h.drop _)

/-- The parts and the machine's. -/
def PartsR (β : Emb) : List (Nat × List AV) → List (Nat × Value) → Prop := All2 fun a b => a.1 = b.1 ∧ All2 (VR β) a.2 b.2.cells.toList

theorem TVR.cells_vr {β : Emb} {v : TV} {u : Value} {cs : List AV} (h : TVR β v u) (hc : v.cells = some cs) (hn : ∀ x, v = .v x → u.cells = #[u]) : All2 (VR β) cs u.cells.toList := by
  cases v with
  | v x =>
    simp [TV.cells] at hc
    subst hc
    rw [hn x rfl]
    exact ⟨h, trivial⟩
  | g c =>
    simp [TV.cells] at hc
    subst hc
    obtain ⟨us, rfl, h2⟩ := h
    exact h2
  | t _ => simp [TV.cells] at hc

theorem partsOf_r {l : List (Nat × Operand)} : ∀ {ps : List (Nat × List AV)}, (∀ x ∈ l.map (·.2), TVR β (ev x) (ρ x)) → partsOf ev l = some ps → (∀ p ∈ ps, p.2.all AV.stor = true) →
    PartsR β ps (l.map fun (i, x) => (i, ρ x)) := by
  induction l with
  | nil => intro ps _ h _; simp [partsOf] at h; subst h; trivial
  | cons p r ih =>
    obtain ⟨i, x⟩ := p
    intro ps hv h hst
    simp only [partsOf] at h
    split at h
    · rename_i c rs hc hr
      cases h
      refine ⟨⟨rfl, ?_⟩, ih (fun y hy => hv y (by simp at hy ⊢; exact .inr hy)) hr (fun p hp => hst p (by simp [hp]))⟩
      have h1 := hv x (by simp)
      obtain ⟨us, e1, e2⟩ := h1.cells hc (hst (i, c) (by simp))
      show All2 (VR β) c (ρ x).cells.toList
      rw [e1]
      exact e2.vr
    · cases h

theorem fill_r {place place' : Nat → Option (Nat × Nat)} (hp : ∀ i x, place i = some x → place' i = some x) : ∀ {ps : List (Nat × List AV)} {qs : List (Nat × Value)} {cs c : List AV} {us : Array Value},
    PartsR β ps qs → All2 (VR β) cs us.toList → fillParts place cs ps = some c → ∃ us', Instr.fill place' us qs = some us' ∧ All2 (VR β) c us'.toList
  | [], [], cs, c, us, _, h, hf => by simp [fillParts] at hf; subst hf; exact ⟨us, rfl, h⟩
  | (i, v) :: ps, (j, u) :: qs, cs, c, us, hpr, h, hf => by
    obtain ⟨⟨hij, hvu⟩, hrest⟩ := hpr
    simp only at hij hvu
    subst hij
    simp only [fillParts] at hf
    split at hf
    · rename_i off size hpl
      split at hf
      · rename_i hc
        have hsz : u.cells.size = v.length := by rw [hvu.len]; simp
        have hus : us.size = cs.length := by rw [h.len]; simp
        have hcells : ((u.cells.zipIdx.foldl (fun cs (c, j) => cs.setIfInBounds (off + j) c) us).toList) = us.toList.take off ++ u.cells.toList ++ us.toList.drop (off + u.cells.toList.length) := by
          rw [← Array.foldl_toList]
          have := foldl_set u.cells.toList off 0 us (by simp; omega)
          simpa using this
        obtain ⟨us', h1, h2⟩ := fill_r hp hrest (us := u.cells.zipIdx.foldl (fun cs (c, j) => cs.setIfInBounds (off + j) c) us) (by
          rw [hcells]; exact h.splice hvu off) hf
        refine ⟨us', ?_, h2⟩
        simp only [Instr.fill, hp i _ hpl]
        rw [if_neg (by simp; omega)]
        exact h1
      · cases hf
    · cases hf
  | [], _ :: _, _, _, _, h, _, _ => h.elim
  | _ :: _, [], _, _, _, h, _, _ => h.elim

theorem run_mapM {α β : Type} (f : α → Sem β) (g : α → β) : ∀ (l : List α), (∀ x ∈ l, (f x).run P w = .ok (g x) w) → (l.mapM f).run P w = .ok (l.map g) w
  | [], _ => by simp
  | x :: l, h => by
    simp [h x (by simp), run_mapM f g l (fun y hy => h y (by simp [hy]))]

theorem run_mapM_arr {α β : Type} (f : α → Sem β) (g : α → β) (a : Array α) (h : ∀ x ∈ a.toList, (f x).run P w = .ok (g x) w) : (a.mapM f).run P w = .ok (a.map g) w := by
  have : a.mapM f = (fun l => l.toArray) <$> a.toList.mapM f := by
    rw [Array.mapM_eq_mapM_toList]
  rw [this]
  rw [show a.map g = (a.toList.map g).toArray from Array.ext' (by simp)]
  simp [run_mapM f g a.toList h]

theorem d_build (t : TypeId) (parts : Array (Nat × Operand)) (ho : o.op = .build t parts) (hs : SR β H w) (hx : ∀ x ∈ parts.toList.map (·.2), TVR β (ev x) (ρ x)) (h : astep P ev (.build t parts) H = some (v, H')) :
    Done β H w ((execOp ρ o).run P w) v H' := by
  simp only [astep] at h
  split at h
  · rename_i z fs ps hz hfs hps
    split at h
    · rename_i hc
      obtain ⟨hc1, hc2⟩ := hc
      cases hf : fillParts (structPlaces P fs) z ps with
      | none => rw [hf] at h; cases h
      | some c =>
        rw [hf] at h
        cases h
        obtain ⟨fa, hu, rfl⟩ := tfields_und hfs
        obtain ⟨zv, hz1, hz2⟩ := run_tzero (w := w) hz
        let g : Field → Nat × Nat := fun f => (f.offset, (tsz P f.type).getD 0)
        have hm : (fa.mapM fun (f : Field) => (do pure (f.offset, ← sizeOf f.type) : Sem (Nat × Nat))).run P w = .ok (fa.map g) w := by
          refine run_mapM_arr _ g fa fun f hf' => ?_
          have := List.all_eq_true.1 hc1 f hf'
          obtain ⟨n, hn⟩ := Option.isSome_iff_exists.1 this
          simp [run_tsz hn, g, hn]
        have hpr := partsOf_r (β := β) (ρ := ρ) hx hps (fun p hp => List.all_eq_true.1 hc2 p hp)
        have hplace : ∀ i x, structPlaces P fa.toList i = some x → (fa.map g)[i]? = some x := by
          intro i x hix
          unfold structPlaces at hix
          split at hix
          · rename_i f hfi
            cases hn : tsz P f.type with
            | none => rw [hn] at hix; cases hix
            | some n =>
              rw [hn] at hix
              cases hix
              simp at hfi
              simp [hfi, g, hn]
          · cases hix
        obtain ⟨us', h1, h2⟩ := fill_r (place' := fun i => (fa.map g)[i]?) hplace hpr (us := zv.cells) (hz2 ▸ All2_ofCell β zv.cells.toList) hf
        refine Done.same hs (u := .agg us') ?_ ⟨us'.toList, by simp, h2⟩
        have hp : (parts.map fun (i, x) => (i, ρ x)).toList = parts.toList.map fun (i, x) => (i, ρ x) := by simp
        have hrun : (Instr.build t (parts.map fun (i, x) => (i, ρ x))).run P w = .ok (.agg us') w := by
          unfold Instr.build
          simp only [Sem.run_bind, hz1, Result.andThen_ok, run_underlying hu, Sem.run_pure, hm, hp, h1]
        simp [execOp, ho, hrun]
    · cases h
  · cases h

theorem d_buildSlice (t : TypeId) (len : Nat) (parts : Array (Nat × Operand)) (ho : o.op = .buildSlice t len parts) (hs : SR β H w) (hx : ∀ x ∈ parts.toList.map (·.2), TVR β (ev x) (ρ x))
    (h : astep P ev (.buildSlice t len parts) H = some (v, H')) : Done β H w ((execOp ρ o).run P w) v H' := by
  simp only [astep] at h
  split at h
  · rename_i e he
    split at h
    · rename_i n z ps hn hz hps
      split at h
      · rename_i hc
        obtain ⟨hc1, hc2, hc3⟩ := hc
        cases hf : fillParts (fun i => some (i * n, n)) (zerosOf z len) ps with
        | none => rw [hf] at h; cases h
        | some c =>
          rw [hf] at h
          simp only [Option.bind_some] at h
          split at h
          · rename_i hst
            cases h
            obtain ⟨zv, hz1, hz2⟩ := run_tzero (w := w) hz
            have hlen : zv.cells.size = n := by rw [← hc2, hz2]; simp
            have hpr := partsOf_r (β := β) (ρ := ρ) hx hps (fun p hp => List.all_eq_true.1 hc3 p hp)
            obtain ⟨us', h1, h2⟩ := fill_r (place' := fun i => some (i * n, n)) (fun i x hix => hix) hpr (us := (Array.range (len * zv.cells.size)).map (fun i => zv.cells[i % zv.cells.size]!)) (zeros_all2 hz2 len) hf
            have hlc : us'.size = len * n := by
              have e1 := h2.len
              have e2 : ∀ (ps : List (Nat × List AV)) (cs c : List AV), fillParts (fun i => some (i * n, n)) cs ps = some c → c.length = cs.length := by
                intro ps
                induction ps with
                | nil => intro cs c h; simp [fillParts] at h; rw [h]
                | cons p ps ih =>
                  obtain ⟨i, vv⟩ := p
                  intro cs c h
                  simp only [fillParts] at h
                  split at h
                  · rename_i hcc
                    rw [ih _ _ h, splice_len _ _ _ hcc.2]
                  · cases h
              rw [e2 _ _ _ hf, zerosOf_len, hc2] at e1
              simpa using e1.symm
            have ha : All2 (VS β) c us'.toList := h2.stor hst
            refine ⟨_, .slice (some ⟨w.heap.size, 0, none⟩) len len, _, .inl ?_, Le.ext (hs.dom _ (Nat.le_refl _)), hs.alloc (t := e) (rest := []) (fz := (0, 0)) ha (.inl rfl), ?_, Fr.alloc hs _ _⟩
            · have hrun : (Instr.buildSlice t len (parts.map fun (i, x) => (i, ρ x))).run P w = .ok (.slice (some ⟨w.heap.size, 0, none⟩) len len) { w with heap := w.heap.push (.cells us' e) } := by
                unfold Instr.buildSlice
                simp only [Sem.run_bind, run_underlying (telem_und he), Result.andThen_ok, run_tsz hn]
                rw [if_neg (by omega)]
                have hp : (parts.map fun (i, x) => (i, ρ x)).toList = parts.toList.map fun (i, x) => (i, ρ x) := by simp
                by_cases hz0 : len * n = 0
                · simp only [hz0, if_true, Sem.run_pure, Sem.run_bind, Result.andThen_ok]
                  have : (Array.range 0).map (fun i => (#[] : Array Value)[i % (#[] : Array Value).size]!) = (Array.range (len * zv.cells.size)).map (fun i => zv.cells[i % zv.cells.size]!) := by
                    rw [hlen, hz0, show (Array.range 0) = #[] from rfl]
                    simp
                  rw [this, hp, h1]
                  simp [newRow]
                · rw [if_neg hz0]
                  simp only [Sem.run_bind, hz1, Result.andThen_ok, Sem.run_pure]
                  rw [hp]
                  rw [hlen] at h1
                  rw [hlen, h1]
                  simp [newRow]
              simp [execOp, ho, hrun]
            · exact ⟨_, _, len, if_pos rfl, rfl, Nat.le_refl _, .inl ⟨rfl, by simp; omega⟩⟩
          · cases h
      · cases h
    · cases h
  · cases h

theorem optAV_some {x : Option Operand} {r : Option Int} (hx : ∀ y, x = some y → TVR β (ev y) (ρ y)) (h : optAV (x.map ev) = some r) :
    (x = none ∧ r = none) ∨ ∃ y k n, x = some y ∧ r = some n ∧ ρ y = .int k n := by
  cases x with
  | none => simp [optAV] at h; exact .inl ⟨rfl, h.symm⟩
  | some y =>
    right
    simp only [Option.map_some, optAV] at h
    split at h
    · rename_i hh; cases hh
    · rename_i k n hh
      cases h
      have := hx y rfl
      have e := Option.some.inj hh
      rw [e] at this
      exact ⟨y, k, n, rfl, rfl, this⟩
    · cases h

/-- The machine's bounds. -/
theorem run_bounds (isSlice : Bool) {lo hi : Option Operand} {l h : Option Int} {len cap a b : Nat} (hlen : len ≤ cap) (h1 : ∀ y, lo = some y → TVR β (ev y) (ρ y)) (h2 : ∀ y, hi = some y → TVR β (ev y) (ρ y))
    (e1 : optAV (lo.map ev) = some l) (e2 : optAV (hi.map ev) = some h) (hb : slBounds len l h = some (a, b)) :
    (Instr.sliceBounds isSlice len cap (lo.map ρ) (hi.map ρ) none).run P w = .ok (a, b, cap) w ∧ a ≤ b ∧ b ≤ len := by
  unfold slBounds at hb
  dsimp only at hb
  split at hb
  · rename_i hc
    cases hb
    refine ⟨?_, by omega, by omega⟩
    have key : ∀ (k : IntKind) (n : Int) (c : Nat) (code : BoundsCode), 0 ≤ n → n ≤ c → (Instr.sliceBound (.int k n) c code).run P w = .ok n.toNat w := by
      intro k n c code g1 g2
      simp [Instr.sliceBound, asIntOf, g1, g2]
    rcases optAV_some h1 e1 with ⟨rfl, rfl⟩ | ⟨y, k, n, rfl, rfl, ey⟩
    · rcases optAV_some h2 e2 with ⟨rfl, rfl⟩ | ⟨z, k2, n2, rfl, rfl, ez⟩
      · simp [Instr.sliceBounds]
      · simp at hc
        simp [Instr.sliceBounds, ez, key k2 n2 cap _ (by omega) (by omega)]
    · rcases optAV_some h2 e2 with ⟨rfl, rfl⟩ | ⟨z, k2, n2, rfl, rfl, ez⟩
      · simp at hc
        simp [Instr.sliceBounds, ey, key k n len _ (by omega) (by omega)]
      · simp at hc
        simp [Instr.sliceBounds, ey, ez, key k2 n2 cap _ (by omega) (by omega), key k n n2.toNat _ (by omega) (by omega)]
  · cases hb

theorem d_slice (t : TypeId) (x : Operand) (lo hi : Option Operand) (ho : o.op = .slice t x lo hi none) (hs : SR β H w) (hx : TVR β (ev x) (ρ x)) (h1 : ∀ y, lo = some y → TVR β (ev y) (ρ y)) (h2 : ∀ y, hi = some y → TVR β (ev y) (ρ y))
    (h : astep P ev (.slice t x lo hi none) H = some (v, H')) : Done β H w ((execOp ρ o).run P w) v H' := by
  simp only [astep] at h
  split at h
  · rename_i s l hh es el eh
    rw [es] at hx
    have hx' : ρ x = .string s := hx
    split at h
    · rename_i ht
      cases hb : slBounds s.size l hh with
      | none => rw [hb] at h; cases h
      | some ab =>
        obtain ⟨a, b⟩ := ab
        rw [hb] at h
        cases h
        obtain ⟨hr, _, _⟩ := run_bounds (P := P) (w := w) false (Nat.le_refl s.size) h1 h2 el eh hb
        refine Done.same hs (u := .string (s.extract a b)) ?_ rfl
        simp [execOp, ho, hx', Instr.sliceAt, Instr.slice, run_underlying (tstr_und ht), hr]
    · cases h
  · rename_i id off len esz l hh es el eh
    rw [es] at hx
    obtain ⟨m, ad, cap, hl, hx', hlc, hor⟩ := hx
    split at h
    · rename_i ht
      cases hte : telem P t with
      | none => rw [hte] at ht; cases ht
      | some e =>
        rw [hte] at ht
        simp at ht
        cases hb : slBounds len l hh with
        | none => rw [hb] at h; cases h
        | some ab =>
          obtain ⟨a, b⟩ := ab
          rw [hb] at h
          cases h
          obtain ⟨hr, hab, hbl⟩ := run_bounds (P := P) (w := w) true hlc h1 h2 el eh hb
          refine Done.same hs (u := .slice (if cap = a then ad else ad.map (·.add (a * esz))) (b - a) (cap - a)) ?_ ?_
          · simp [execOp, ho, hx', Instr.sliceAt, Instr.slice, run_underlying (telem_und hte), hr, run_tsz ht]
          · refine ⟨m, _, _, hl, rfl, by omega, ?_⟩
            by_cases hca : cap = a
            · right; omega
            · rcases hor with ⟨rfl, hsz⟩ | ⟨rfl, rfl⟩
              · left
                refine ⟨by simp [hca, addr_add, Nat.add_assoc], ?_⟩
                have : (cap - a) * esz = cap * esz - a * esz := Nat.sub_mul _ _ _
                have : a * esz ≤ cap * esz := Nat.mul_le_mul_right _ (by omega)
                show off + a * esz + (cap - a) * esz ≤ m.size
                omega
              · right; omega
    · cases h
  · rename_i l hh es el eh
    rw [es] at hx
    have hx' : ρ x = .slice none 0 0 := hx
    split at h
    · rename_i ht
      cases hte : telem P t with
      | none => rw [hte] at ht; cases ht
      | some e =>
        rw [hte] at ht
        simp at ht
        obtain ⟨n, hn⟩ := Option.isSome_iff_exists.1 ht
        cases hb : slBounds 0 l hh with
        | none => rw [hb] at h; cases h
        | some ab =>
          obtain ⟨a, b⟩ := ab
          rw [hb] at h
          cases h
          obtain ⟨hr, hab, hbl⟩ := run_bounds (P := P) (w := w) true (Nat.le_refl 0) h1 h2 el eh hb
          obtain ⟨rfl, rfl⟩ : a = 0 ∧ b = 0 := by omega
          refine Done.same hs (u := .slice none 0 0) ?_ rfl
          simp [execOp, ho, hx', Instr.sliceAt, Instr.slice, run_underlying (telem_und hte), hr, run_tsz hn]
    · cases h
  · rename_i id off l hh es el eh
    rw [es] at hx
    obtain ⟨m, hl, hx'⟩ := hx
    split at h
    · rename_i n sz cs hta hown
      split at h
      · rename_i hcs
        cases hte : tarr P t with
        | none => rw [hte] at hta; cases hta
        | some ne =>
          obtain ⟨n', e⟩ := ne
          rw [hte] at hta
          simp only [Option.bind_some] at hta
          cases hsz : tsz P e with
          | none => rw [hsz] at hta; cases hta
          | some sz' =>
            rw [hsz] at hta
            cases hta
            cases hb : slBounds n l hh with
            | none => rw [hb] at h; cases h
            | some ab =>
              obtain ⟨a, b⟩ := ab
              rw [hb] at h
              cases h
              obtain ⟨hr, hab, hbl⟩ := run_bounds (P := P) (w := w) false (Nat.le_refl _) h1 h2 el eh hb
              have hrow := hs.row id m hl
              rw [hown] at hrow
              obtain ⟨ccs, te, fz, _, _, _, hcl, _⟩ := hrow
              refine Done.same hs (u := .slice (some (if n = a then ⟨m.blk, m.base + off, none⟩ else (⟨m.blk, m.base + off, none⟩ : Addr).add (a * sz))) (b - a) (n - a)) ?_ ?_
              · simp [execOp, ho, hx', ptrV, Instr.sliceAt, Instr.sureAddr, run_underlying (tarr_und hte), hr, run_tsz hsz]
              · refine ⟨m, _, _, hl, rfl, by omega, ?_⟩
                by_cases hca : n = a
                · right; omega
                · left
                  refine ⟨by simp [hca, addr_add, Nat.add_assoc], ?_⟩
                  have : (n - a) * sz = n * sz - a * sz := Nat.sub_mul _ _ _
                  have : a * sz ≤ n * sz := Nat.mul_le_mul_right _ (by omega)
                  show off + a * sz + (n - a) * sz ≤ m.size
                  omega
      · cases h
    · cases h
  · cases h

/-- A slice's or a string's cells, as they are appended or copied. -/
theorem run_arg {esz : Nat} {x : AV} {xv : Value} {n : Nat} {new : List AV} (hs : SR β H w) (hx : VR β x xv) (h : cellsOfArg H esz x = some (n, new)) :
    (∀ w1 : World, (Builtin.lenOf xv).run P w1 = .ok n w1) ∧ ∃ us : List Value, All2 (VS β) new us ∧ us.length = n * esz ∧
      (∀ m k, k ≤ n → (Builtin.firstCells esz k xv).run P { w with drawn := m } = .ok (us.take (k * esz)).toArray { w with drawn := m }) ∧
      (∀ m, (Builtin.firstCells esz n xv).run P { w with drawn := m } = .ok us.toArray { w with drawn := m }) := by
  have wrap : ∀ us : List Value, us.length = n * esz → (∀ m k, k ≤ n → (Builtin.firstCells esz k xv).run P { w with drawn := m } = .ok (us.take (k * esz)).toArray { w with drawn := m }) →
      (∀ m, (Builtin.firstCells esz n xv).run P { w with drawn := m } = .ok us.toArray { w with drawn := m }) := fun us hl key m => by
    have := key m n (Nat.le_refl _)
    rw [List.take_of_length_le (by omega)] at this
    exact this
  cases x <;> simp only [cellsOfArg] at h <;> first | (cases h; done) | skip
  case nilsl =>
    cases h
    have hx' : xv = .slice none 0 0 := hx
    subst hx'
    exact ⟨fun _ => by simp [Builtin.lenOf], [], trivial, by simp, fun m k _ => by simp [Builtin.firstCells], fun m => by simp [Builtin.firstCells]⟩
  case sl id off len esz' =>
    split at h
    · rename_i he
      subst he
      cases hr : rdCells H id off (len * esz') with
      | none => rw [hr] at h; cases h
      | some c =>
        rw [hr] at h
        cases h
        obtain ⟨l, a, cap, hl, hx', hlc, hor⟩ := hx
        subst hx'
        obtain ⟨us, h1, h2, h3⟩ := cells_of hs hl hr
        have key : ∀ m k, k ≤ n → (Builtin.firstCells esz' k (.slice a n cap)).run P { w with drawn := m } = .ok (us.take (k * esz')).toArray { w with drawn := m } := by
          intro m k hk
          have hle : k * esz' ≤ n * esz' := Nat.mul_le_mul_right _ hk
          have hload : ∀ ad : Addr, (ad = ⟨l.blk, l.base + off, none⟩ ∨ k * esz' = 0) → (loadCells ad (k * esz')).run P { w with drawn := m } = .ok (us.take (k * esz')).toArray { w with drawn := m } := by
            intro ad had
            rcases had with rfl | h0
            · have := run_loadCells (P := P) (w := { w with drawn := m }) l.blk (l.base + off) (us.take (k * esz')) (fun j u hu => by
                rw [List.getElem?_take] at hu
                split at hu
                · exact h3 j u hu
                · cases hu)
              rw [show (us.take (k * esz')).length = k * esz' by simp; omega] at this
              exact this
            · rw [h0]; simp [loadCells, loadCellsFrom]
          rcases hor with ⟨rfl, _⟩ | ⟨rfl, rfl⟩
          · exact hload _ (.inl rfl)
          · obtain rfl : k = 0 := by omega
            cases a with
            | none => simp [Builtin.firstCells]
            | some ad => exact hload ad (.inr (by simp))
        exact ⟨fun _ => by simp [Builtin.lenOf], us, h2, h1, key, wrap us h1 key⟩
    · cases h
  case str s =>
    split at h
    · rename_i he
      subst he
      cases h
      have hx' : xv = .string s := hx
      subst hx'
      have key : ∀ m k, k ≤ s.size → (Builtin.firstCells 1 k (.string s)).run P { w with drawn := m } = .ok ((s.data.toList.map fun b => Value.int .u8 b.toNat).take (k * 1)).toArray { w with drawn := m } := by
        intro m k hk
        have : (s.extract 0 k).data.map (fun b => Value.int .u8 b.toNat) = ((s.data.toList.map fun b => Value.int .u8 b.toNat).take (k * 1)).toArray := by
          apply Array.ext'
          simp [ByteArray.data_extract, List.extract_eq_take_drop, List.map_take]
        simp only [Builtin.firstCells, Sem.run_pure, this]
      have hl : (s.data.toList.map fun b => Value.int .u8 b.toNat).length = s.size * 1 := by rw [List.length_map, Nat.mul_one]; rfl
      exact ⟨fun _ => by simp [Builtin.lenOf], s.data.toList.map fun b => Value.int .u8 b.toNat, All2.map (fun b => ⟨rfl, rfl⟩) _, hl, key, wrap _ hl key⟩
    · cases h

theorem growBy_le (need : Nat) : ∀ (r c : Nat), c ≤ need + (need + 768) / 4 → Builtin.growBy need r c ≤ need + (need + 768) / 4
  | 0, c, h => h
  | r + 1, c, h => by
    unfold Builtin.growBy
    split
    · exact h
    · exact growBy_le need r _ (by omega)

theorem nextcap_le (need cap : Nat) (h : cap < need) : Builtin.nextslicecap need cap ≤ 2 * need + 192 := by
  unfold Builtin.nextslicecap
  split
  · omega
  · split
    · omega
    · have := growBy_le need 4 cap (by omega)
      omega

theorem run_append_fits {t0 t1 ty e : TypeId} {esz n len cap : Nat} {a : Option Addr} {xv : Value} {us : List Value} {d1 : TypeDesc}
    (he : telem P t0 = some e) (hsz : tsz P e = some esz) (hd1 : P.underlying t1 = some d1) (hnot : ∀ k, d1 ≠ .int k)
    (hlen : (Builtin.lenOf xv).run P w = .ok n w) (hfc : (Builtin.firstCells esz n xv).run P w = .ok us.toArray w) (hfit : len + n ≤ cap) :
    (Builtin.append_ #[t0, t1] ty #[.slice a len cap, xv]).run P w =
      ((match a with | some ad => storeCells (ad.add (len * esz)) us | none => pure () : Sem Unit).run P w).andThen fun _ w' => .ok (.slice a (len + n) cap) w' := by
  have hz : (match d1 with | .int _ => true | _ => false) = false := by cases d1 <;> first | rfl | exact absurd rfl (hnot _)
  unfold Builtin.append_
  simp only [List.getElem?_toArray, List.getElem?_cons_zero, List.getElem?_cons_succ, Sem.run_bind, run_underlying (telem_und he), Result.andThen_ok, run_tsz hsz, run_underlying hd1, Sem.run_pure, hz, Bool.false_eq_true, if_false, hlen, hfit, if_true, Bool.not_false, hfc]
  cases a <;> simp

theorem run_append_grows {t0 t1 ty e : TypeId} {esz bytes n len cap : Nat} {a : Option Addr} {xv zv : Value} {us old : List Value} {d1 : TypeDesc} {ti : TypeInfo}
    (he : telem P t0 = some e) (hsz : tsz P e = some esz) (hti : ∀ w : World, (typeInfo e).run P w = .ok ti w) (hib : ti.bytes = bytes) (hbp : 0 < bytes) (hd1 : P.underlying t1 = some d1) (hnot : ∀ k, d1 ≠ .int k)
    (hlen : (Builtin.lenOf xv).run P w = .ok n w) (hfc : ∀ m, (Builtin.firstCells esz n xv).run P { w with drawn := m } = .ok us.toArray { w with drawn := m })
    (hold : ∀ m, (Builtin.firstCells esz len (.slice a len cap)).run P { w with drawn := m } = .ok old.toArray { w with drawn := m }) (hz : ∀ w : World, (zeroValue e).run P w = .ok zv w)
    (hfit : ¬ len + n ≤ cap) (hroom : (len + n) * bytes ≤ 2 ^ 40) :
    ∃ newCap m, len + n ≤ newCap ∧ (Builtin.append_ #[t0, t1] ty #[.slice a len cap, xv]).run P w =
      .ok (.slice (some ⟨w.heap.size, 0, none⟩) (len + n) newCap) { ({ w with drawn := m } : World) with heap := w.heap.push (.cells (old ++ us ++ (Builtin.zeroCells zv.cells (newCap - (len + n))).toList).toArray e) } := by
  have h1 : ¬ (((len : Int) + (n : Int)) > IntKind.i64.max ∧ bytes = 0) := by omega
  have h2 : ¬ (Builtin.nextslicecap (len + n) cap * bytes > 2 ^ 48) := by
    have h3 := nextcap_le (len + n) cap (by omega)
    have h4 : Builtin.nextslicecap (len + n) cap * bytes ≤ (2 * (len + n) + 192) * bytes := Nat.mul_le_mul_right _ h3
    have h5 : (2 * (len + n) + 192) * bytes = 2 * ((len + n) * bytes) + 192 * bytes := by rw [Nat.add_mul, Nat.mul_assoc]
    have h6 : bytes ≤ (len + n) * bytes := Nat.le_mul_of_pos_left _ (by omega)
    omega
  let newCap := Question.cut (.appendCap (len + n) cap e) (w.tape w.drawn (.appendCap (len + n) cap e))
  refine ⟨newCap, w.drawn + 1, Nat.le_add_right _ _, ?_⟩
  have hfc' := hfc (w.drawn + 1)
  have hold' := hold (w.drawn + 1)
  unfold Builtin.append_
  have hzz : (match d1 with | .int _ => true | _ => false) = false := by cases d1 <;> first | rfl | exact absurd rfl (hnot _)
  simp only [List.getElem?_toArray, List.getElem?_cons_zero, List.getElem?_cons_succ, Sem.run_bind, run_underlying (telem_und he), Result.andThen_ok, run_tsz hsz, run_underlying hd1, Sem.run_pure, hzz, Bool.false_eq_true, if_false, hlen, hfit, Bool.not_false, if_true,
    hti, hib, Nat.ne_of_gt hbp, false_or, and_false, h2, Sem.run_ite]
  simp only [run_choose, Question.forced, Bool.false_eq_true, if_false, Result.andThen_ok, run_askRoom, hold', hfc', hz, newRow, Sem.run_bind, Sem.run_map, run_newObj, Sem.run_pure]
  have harr : old.toArray ++ us.toArray ++ Builtin.zeroCells zv.cells (newCap - (len + n)) = (old ++ us ++ (Builtin.zeroCells zv.cells (newCap - (len + n))).toList).toArray := Array.ext' (by simp)
  rw [← harr]

theorem zeroCells_len (zc : Array Value) (n : Nat) : (Builtin.zeroCells zc n).toList.length = n * zc.size := by simp [Builtin.zeroCells]

/-- append: the row grows where it lies, or a new one is made. -/
theorem run_append {t0 t1 : TypeId} {ty : TypeId} {e : TypeId} {esz bytes : Nat} {z : List AV} {s x : AV} {sv xv : Value} {r : TV}
    (hs : SR β H w) (he : telem P t0 = some e) (hsz : tsz P e = some esz) (hby : tbytes P e = some bytes) (hz : tzero P e = some z) (hzl : z.length = esz) (ht1 : tint P t1 = none) (ht2 : (P.underlying t1).isSome = true)
    (hsv : VR β s sv) (hxv : VR β x xv) (h : aappend H esz bytes s x = some (r, H')) :
    ∃ β' u w', (Builtin.append_ #[t0, t1] ty #[sv, xv]).run P w = .ok u w' ∧ Le β β' ∧ SR β' H' w' ∧ TVR β' r u ∧ Fr β H w β' H' w' := by
  obtain ⟨zv, hz1, hz2⟩ := run_tzero (w := w) hz
  have hzs : zv.cells.size = esz := by rw [← hzl, hz2]; simp
  have hzw : ∀ w1 : World, (zeroValue e).run P w1 = .ok zv w1 := by
    intro w1
    unfold tzero at hz
    cases hi : P.info? e with
    | none => rw [hi] at hz; simp at hz
    | some i =>
      cases hzz : i.zero with
      | none => simp [hi, hzz] at hz
      | some zv' =>
        simp [zeroValue, typeInfo, hi, hzz] at hz1 ⊢
        exact hz1
  obtain ⟨ti, hti, hib⟩ := run_tbytes (w := w) hby
  have htw : ∀ w1 : World, (typeInfo e).run P w1 = .ok ti w1 := by
    intro w1
    cases hi : P.info? e with
    | none => simp [typeInfo, hi] at hti
    | some i => simp [typeInfo, hi] at hti ⊢; exact hti
  obtain ⟨d1, hd1⟩ := Option.isSome_iff_exists.1 ht2
  have hnot : ∀ k, d1 ≠ .int k := by
    intro k hk
    subst hk
    simp [tint, hd1] at ht1
  unfold aappend at h
  split at h
  · cases h
  · rename_i hb0
    have hbpos : 0 < bytes := Nat.pos_of_ne_zero hb0
    split at h
    · cases h
    · rename_i n new hca
      obtain ⟨hlen, us, hn, hlu, _, hfc⟩ := run_arg (P := P) hs hxv hca
      have hfc0 : (Builtin.firstCells esz n xv).run P w = .ok us.toArray w := hfc w.drawn
      have grow : ∀ {len cap : Nat} {a : Option Addr} {old : List Value} {olda : List AV} {H1 : Heap}, sv = .slice a len cap → ¬ len + n ≤ cap → (len + n) * bytes ≤ 2 ^ 40 → All2 (VS β) olda old → old.length = len * esz →
          (∀ m, (Builtin.firstCells esz len sv).run P { w with drawn := m } = .ok old.toArray { w with drawn := m }) → SR β H1 w → Fr β H w β H1 w → r = .v (.sl H1.n 0 (len + n) esz) → H' = H1.alloc (.own (olda ++ new)) →
          ∃ β' u w', (Builtin.append_ #[t0, t1] ty #[sv, xv]).run P w = .ok u w' ∧ Le β β' ∧ SR β' H' w' ∧ TVR β' r u ∧ Fr β H w β' H' w' := by
        intro len cap a old olda H1 hsv' hfit hroom hold hlold hfco hs1 hf1 hr hH
        subst hsv' hr hH
        obtain ⟨newCap, m, hcap, hrun⟩ := run_append_grows (P := P) (w := w) (ty := ty) he hsz htw hib hbpos hd1 hnot (hlen w) hfc hfco hzw hfit hroom
        have ha : All2 (VS β) (olda ++ new) (old ++ us) := hold.append hn
        refine ⟨_, _, _, hrun, Le.ext (hs1.dom _ (Nat.le_refl _)), (hs1.draw m).alloc (t := e) (rest := (Builtin.zeroCells zv.cells (newCap - (len + n))).toList) (fz := (0, 0)) ha (.inl rfl), ?_,
          hf1.trans ((Fr.draw m).trans (Fr.alloc (hs1.draw m) _ _))⟩
        refine ⟨_, _, newCap, if_pos rfl, rfl, hcap, .inl ⟨rfl, ?_⟩⟩
        simp only [List.length_append, zeroCells_len, hzs, hlold, hlu]
        have e1 : newCap * esz = (len + n) * esz + (newCap - (len + n)) * esz := by
          rw [← Nat.add_mul]; congr 1; omega
        have e2 : (len + n) * esz = len * esz + n * esz := Nat.add_mul _ _ _
        omega
      split at h
      · -- nil
        have hsv' : sv = .slice none 0 0 := hsv
        split at h
        · rename_i hn0
          cases h
          subst hsv'
          refine ⟨β, .slice none 0 0, w, ?_, Le.refl β, hs, rfl, Fr.refl β H w⟩
          rw [run_append_fits (w := w) he hsz hd1 hnot (hlen w) hfc0 (by omega)]
          simp [hn0]
        · rename_i hn0
          split at h
          · rename_i hroom
            cases h
            have := grow (len := 0) (cap := 0) (a := none) (old := []) (olda := []) (H1 := H) hsv' (by omega) (by simpa using hroom) trivial (by simp) (fun m => by subst hsv'; simp [Builtin.firstCells]) hs (Fr.refl β H w) (by simp) (by simp)
            exact this
          · cases h
      · rename_i id off len esz' 
        split at h
        · rename_i cs hown
          split at h
          · rename_i hc
            obtain ⟨rfl, hend, hroom⟩ := hc
            cases h
            obtain ⟨l, a, cap, hl, hsv', hlc, hor⟩ := hsv
            obtain ⟨ccs, e0, fz, g1, g2, g3, g4⟩ := own_row hs hl hown
            have hcold : cellsOfArg H esz' (.sl id off len esz') = some (len, (cs.drop off).take (len * esz')) := by
              simp [cellsOfArg, rdCells, hown, Blk.cs]; omega
            have hdt : (cs.drop off).take (len * esz') = cs.drop off := List.take_of_length_le (by simp; omega)
            rw [hdt] at hcold
            obtain ⟨_, old, ho1, ho2, _, ho3⟩ := run_arg (P := P) (x := .sl id off len esz') (xv := sv) hs ⟨l, a, cap, hl, hsv', hlc, hor⟩ hcold
            by_cases hfit : len + n ≤ cap
            · subst hsv'
              rw [run_append_fits (w := w) he hsz hd1 hnot (hlen w) hfc0 hfit]
              rcases hor with ⟨rfl, hsize⟩ | ⟨rfl, rfl⟩
              · have hle : (len + n) * esz' ≤ cap * esz' := Nat.mul_le_mul_right _ hfit
                have e2 : (len + n) * esz' = len * esz' + n * esz' := Nat.add_mul _ _ _
                have hnl : new.length = n * esz' := by rw [hn.len, hlu]
                obtain ⟨w', hr, hw⟩ := run_storeCells (P := P) l.blk (l.base + cs.length) e0 fz us 0 w ccs hn.ones g1 (by omega) g4
                have hadr : (⟨l.blk, l.base + off, none⟩ : Addr).add (len * esz') = ⟨l.blk, l.base + cs.length, none⟩ := by
                  rw [addr_add]; congr 1; omega
                refine ⟨_, _, w', by simp only [hadr, hr, Result.andThen_ok]; rfl, Le.ext (hs.dom _ (Nat.le_refl _)), hs.grow hl hown g1 (by omega) (by omega) hn (by simpa using hw), ?_, Fr.grow hs hl hown hw⟩
                refine ⟨_, _, cap, if_pos rfl, rfl, hfit, .inl ⟨by simp, ?_⟩⟩
                simp only
                omega
              · obtain rfl : n = 0 := by omega
                have hus : us = [] := List.length_eq_zero_iff.1 (by simpa using hlu)
                subst hus
                have hnew : new = [] := List.length_eq_zero_iff.1 (by simpa using hn.len)
                subst hnew
                have hst : ∀ ad : Option Addr, ((match ad with | some ad => storeCells (ad.add (0 * esz')) [] | none => pure () : Sem Unit).run P w) = .ok () w := by
                  intro ad; cases ad <;> simp [storeCells]
                refine ⟨β.ext H.n ⟨l.blk, l.base + off, l.size - off⟩, _, w, by rw [hst]; simp only [Result.andThen_ok]; rfl, Le.ext (hs.dom _ (Nat.le_refl _)), ?_, ?_, ?_⟩
                · have hw : Wr w w l.blk e0 fz ccs (l.base + cs.length) [] := ⟨rfl, rfl, rfl, rfl, fun _ _ => rfl, ccs, g1, rfl, fun k => by rw [if_neg (by simp)]⟩
                  exact hs.grow hl hown g1 (by omega) (by simp; omega) (us := []) trivial hw
                · exact ⟨_, _, 0, if_pos rfl, rfl, Nat.le_refl _, .inr ⟨rfl, rfl⟩⟩
                · have hw : Wr w w l.blk e0 fz ccs (l.base + cs.length) [] := ⟨rfl, rfl, rfl, rfl, fun _ _ => rfl, ccs, g1, rfl, fun k => by rw [if_neg (by simp)]⟩
                  exact Fr.grow hs hl hown hw
            · exact grow (H1 := H.put id .gone) hsv' hfit hroom ho1 ho2 ho3 (hs.giveUp id (by rw [hown]; exact fun e => Blk.noConfusion e)) (Fr.giveUp id) rfl rfl
          · cases h
        · cases h
      · cases h


theorem run_copy {t0 t1 ty : TypeId} {e : TypeId} {esz : Nat} {d x : AV} {dv xv : Value} {n : Nat} {new : List AV} {r : TV}
    (hs : SR β H w) (he : telem P t0 = some e) (hsz : tsz P e = some esz) (hdv : VR β d dv) (hxv : VR β x xv) (hca : cellsOfArg H esz x = some (n, new))
    (h : acopy H esz n new d = some (r, H')) :
    ∃ u w', (Builtin.copy_ #[t0, t1] ty #[dv, xv]).run P w = .ok u w' ∧ SR β H' w' ∧ TVR β r u ∧ Fr β H w β H' w' := by
  obtain ⟨hlen, us, hn, hlu, hfk, hfc⟩ := run_arg (P := P) hs hxv hca
  unfold acopy at h
  split at h
  · cases h
    have hd' : dv = .slice none 0 0 := hdv
    subst hd'
    have hf0 := hfk w.drawn 0 (Nat.zero_le _)
    refine ⟨.int .i64 0, w, ?_, hs, rfl, Fr.refl β H w⟩
    have hmin : Nat.min n 0 = 0 := Nat.min_zero n
    simp [Builtin.copy_, run_underlying (telem_und he), hlen, run_tsz hsz, hmin, goInt]
    rw [show ({ heap := w.heap, tape := w.tape, drawn := w.drawn, os := w.os, output := w.output } : World) = w from rfl] at hf0
    rw [hf0]
    simp
  · rename_i id off len esz'
    split at h
    · cases h
    · rename_i hee
      have hee' : esz' = esz := by omega
      subst hee'
      cases hw : wrCells H id off (new.take (min n len * esz')) with
      | none => rw [hw] at h; cases h
      | some H2 =>
        rw [hw] at h
        cases h
        obtain ⟨l, a, cap, hl, hdv', hlc, hor⟩ := hdv
        subst hdv'
        have hle : min n len ≤ n := Nat.min_le_left _ _
        have hf := hfk w.drawn (min n len) hle
        rw [show ({ heap := w.heap, tape := w.tape, drawn := w.drawn, os := w.os, output := w.output } : World) = w from rfl] at hf
        have hn' : All2 (VS β) (new.take (min n len * esz')) (us.take (min n len * esz')) := hn.take _
        obtain ⟨w', hr, h3, h4⟩ := d_write (P := P) hs hl hn' hw
        rcases hor with ⟨rfl, hsize⟩ | ⟨rfl, rfl⟩
        · refine ⟨.int .i64 (min n len : Nat), w', ?_, h3, rfl, h4⟩
          have hmin : Nat.min n len = min n len := rfl
          simp only [Builtin.copy_, List.getElem?_toArray, List.getElem?_cons_zero, List.getElem?_cons_succ, Sem.run_bind, run_underlying (telem_und he), Result.andThen_ok, hlen, run_tsz hsz, hmin, hf, hr, Sem.run_pure, goInt]
        · have h0 : us.take (min n 0 * esz') = [] := by simp
          rw [h0] at hr hf
          have hw0 : w' = w := by simp [storeCells] at hr; exact hr.symm
          subst hw0
          refine ⟨.int .i64 (min n 0 : Nat), w', ?_, h3, rfl, h4⟩
          have hmin : Nat.min n 0 = min n 0 := rfl
          simp only [Builtin.copy_, List.getElem?_toArray, List.getElem?_cons_zero, List.getElem?_cons_succ, Sem.run_bind, run_underlying (telem_und he), Result.andThen_ok, hlen, run_tsz hsz, hmin, hf, Sem.run_pure, goInt]
          cases a <;> simp [storeCells]
  · cases h

theorem max2_nan {k : FloatKind} {mx : Bool} {x y : Nat} : ∀ t, (k.decode (Question.cut (.nanMinMax k mx x y) t)).isNaN = true := by
  intro t
  cases k
  · exact nan_f32 t
  · exact nan_f64 t

theorem neg_cz (k : FloatKind) (a : Nat) (h : (k.decode a).isNaN = false) : cz k a = a := by unfold cz; rw [h]; rfl

theorem order_some {k : FloatKind} {a b : Nat} {r : Ordering} (h : k.format.order a b = some r) : (k.decode a).isNaN = false ∧ (k.decode b).isNaN = false := by
  constructor
  · cases hn : (k.decode a).isNaN with
    | false => rfl
    | true => rw [show k.format.order a b = (k.decode a).order (k.decode b) from rfl, order_nan_left hn] at h; cases h
  · cases hn : (k.decode b).isNaN with
    | false => rfl
    | true => rw [show k.format.order a b = (k.decode a).order (k.decode b) from rfl, order_nan_right hn] at h; cases h

theorem run_mm (mx : Bool) {x y z : AV} {xv yv : Value} (hx : VR β x xv) (hy : VR β y yv) (h : minMax2 mx x y = some z) :
    ∃ u n, (if mx then Builtin.max2 xv yv else Builtin.min2 xv yv).run P w = .ok u { w with drawn := n } ∧ VR β z u := by
  cases x <;> cases y <;> simp only [minMax2] at h <;> first | (cases h; done) | skip
  case int.int k a k' b =>
    have hx' : xv = .int k a := hx
    have hy' : yv = .int k' b := hy
    subst hx' hy'
    split at h
    · cases h
      cases mx
      · exact ⟨_, w.drawn, by simp [Builtin.min2], rfl⟩
      · exact ⟨_, w.drawn, by simp [Builtin.max2], rfl⟩
    · cases h
  case flt.flt k a k' b =>
    obtain ⟨a', rfl, ha⟩ := hx
    obtain ⟨b', rfl, hb⟩ := hy
    split at h
    · rename_i hk
      subst hk
      subst ha hb
      rw [order_cz] at h
      cases ho : k.format.order a' b' with
      | none =>
        rw [ho] at h
        cases h
        cases mx
        · exact ⟨.float k (Question.cut (.nanMinMax k false a' b') (w.tape w.drawn (.nanMinMax k false a' b'))), w.drawn + 1, by simp [Builtin.min2, ho, Question.forced], ⟨_, rfl, by simp [cz, max2_nan]⟩⟩
        · exact ⟨.float k (Question.cut (.nanMinMax k true a' b') (w.tape w.drawn (.nanMinMax k true a' b'))), w.drawn + 1, by simp [Builtin.max2, ho, Question.forced], ⟨_, rfl, by simp [cz, max2_nan]⟩⟩
      | some r =>
        obtain ⟨h1, h2⟩ := order_some ho
        rw [ho, neg_cz k a' h1, neg_cz k b' h2] at h
        cases r <;> simp only at h <;> cases h <;> cases mx
        · exact ⟨.float k a', w.drawn, by simp [Builtin.min2, ho], ⟨_, rfl, neg_cz k a' h1⟩⟩
        · exact ⟨.float k b', w.drawn, by simp [Builtin.max2, ho], ⟨_, rfl, neg_cz k b' h2⟩⟩
        · refine ⟨.float k (if (k.decode a').neg then a' else b'), w.drawn, by simp [Builtin.min2, ho], ⟨_, rfl, ?_⟩⟩
          cases (k.decode a').neg <;> simp [neg_cz k a' h1, neg_cz k b' h2]
        · refine ⟨.float k (if (k.decode a').neg then b' else a'), w.drawn, by simp [Builtin.max2, ho], ⟨_, rfl, ?_⟩⟩
          cases (k.decode a').neg <;> simp [neg_cz k a' h1, neg_cz k b' h2]
        · exact ⟨.float k b', w.drawn, by simp [Builtin.min2, ho], ⟨_, rfl, neg_cz k b' h2⟩⟩
        · exact ⟨.float k a', w.drawn, by simp [Builtin.max2, ho], ⟨_, rfl, neg_cz k a' h1⟩⟩
    · cases h

theorem run_foldMM (mx : Bool) : ∀ (ys : List AV) (yvs : List Value) (x z : AV) (xv : Value) (w : World), VR β x xv → All2 (VR β) ys yvs → foldMM mx x ys = some z →
    ∃ u n, (yvs.foldlM (fun a b => if mx then Builtin.max2 a b else Builtin.min2 a b) xv).run P w = .ok u { w with drawn := n } ∧ VR β z u
  | [], [], x, z, xv, w, hx, _, h => by simp [foldMM] at h; subst h; exact ⟨xv, w.drawn, by simp, hx⟩
  | y :: ys, yv :: yvs, x, z, xv, w, hx, hy, h => by
    simp only [foldMM] at h
    split at h
    · rename_i z1 hz1
      obtain ⟨u1, n1, h1, h2⟩ := run_mm (P := P) (w := w) mx hx hy.1 hz1
      obtain ⟨u, n, h3, h4⟩ := run_foldMM mx ys yvs z1 z u1 { w with drawn := n1 } h2 hy.2 h
      exact ⟨u, n, by simp only [List.foldlM_cons, Sem.run_bind, h1, Result.andThen_ok, h3], h4⟩
    · cases h
  | [], _ :: _, _, _, _, _, _, h, _ => h.elim
  | _ :: _, [], _, _, _, _, _, h, _ => h.elim

theorem argsAV_all {l : List TV} : ∀ {us : List Value} {xs : List AV}, All2 (TVR β) l us → argsAV l = some xs → All2 (VR β) xs us := by
  induction l with
  | nil => intro us xs h e; simp [argsAV] at e; subst e; cases us <;> simp_all [All2]
  | cons a l ih =>
    intro us xs h e
    cases us with
    | nil => exact h.elim
    | cons u us =>
      cases a <;> simp only [argsAV] at e <;> first | (cases e; done) | skip
      rename_i x
      cases hr : argsAV l with
      | none => rw [hr] at e; cases e
      | some rs =>
        rw [hr] at e
        cases e
        exact ⟨h.1, ih h.2 hr⟩

theorem d_builtin (b : Builtin) (tys : Array TypeId) (args : Array Operand) (ho : o.op = .call { callee := .builtin b, args, argTypes := tys }) (hs : SR β H w) (hx : ∀ x ∈ args.toList, TVR β (ev x) (ρ x))
    (h : abuiltin P b tys (args.toList.map ev) H = some (v, H')) : Done β H w ((execOp ρ o).run P w) v H' := by
  have hall : All2 (TVR β) (args.toList.map ev) (args.toList.map ρ) := by
    have : ∀ l : List Operand, (∀ x ∈ l, TVR β (ev x) (ρ x)) → All2 (TVR β) (l.map ev) (l.map ρ) := by
      intro l
      induction l with
      | nil => intro _; trivial
      | cons x l ih => intro h; exact ⟨h x (by simp), ih fun y hy => h y (by simp [hy])⟩
    exact this _ hx
  have hargs : args.map ρ = (args.toList.map ρ).toArray := Array.ext' (by simp)
  have hexec : ∀ (s : Sem Value) (tt : TypeId → Array TypeId → Array Bool → Prop), (∀ (ty : TypeId) (cs : Array Bool), builtin b tys ty cs (args.toList.map ρ).toArray = (do pure (.value (← s)))) →
      (execOp ρ o).run P w = (s.run P w).andThen fun u w' => .ok (.value u) w' := by
    intro s _ hb
    simp only [execOp, ho, resolve, invoke, hargs]
    simp [hb]
  generalize args.toList.map ev = es at h hall
  generalize args.toList.map ρ = us at hall hexec
  unfold abuiltin at h
  split at h
  · -- len of a string
    rename_i s
    match us, hall with
    | [u], hall =>
      have hu : u = .string s := hall.1
      subst hu
      split at h
      · rename_i t0 ht0
        split at h
        · rename_i ht
          cases h
          refine Done.same hs (u := .int .i64 s.size) ?_ rfl
          rw [hexec (Builtin.len_ tys 0 #[.string s]) (fun _ _ _ => True) (fun ty cs => by simp [builtin, Builtin.len_])]
          simp [Builtin.len_, ht0, run_underlying (tstr_und ht), goInt]
        · cases h
      · cases h
  · match us, hall with
    | [u], hall =>
      have hu : u = .slice none 0 0 := hall.1
      subst hu
      split at h
      · rename_i t0 ht0
        split at h
        · rename_i ht
          cases h
          obtain ⟨e, he⟩ := Option.isSome_iff_exists.1 ht
          refine Done.same hs (u := .int .i64 0) ?_ rfl
          rw [hexec (Builtin.len_ tys 0 #[.slice none 0 0]) (fun _ _ _ => True) (fun ty cs => by simp [builtin, Builtin.len_])]
          simp [Builtin.len_, ht0, run_underlying (telem_und he), goInt]
        · cases h
      · cases h
  · rename_i id off n esz
    match us, hall with
    | [u], hall =>
      obtain ⟨l, a, cap, hl, hu, _⟩ := hall.1
      subst hu
      split at h
      · rename_i t0 ht0
        split at h
        · rename_i ht
          cases h
          obtain ⟨e, he⟩ := Option.isSome_iff_exists.1 ht
          refine Done.same hs (u := .int .i64 n) ?_ rfl
          rw [hexec (Builtin.len_ tys 0 #[.slice a n cap]) (fun _ _ _ => True) (fun ty cs => by simp [builtin, Builtin.len_])]
          simp [Builtin.len_, ht0, run_underlying (telem_und he), goInt]
        · cases h
      · cases h
  · -- append
    rename_i s x
    match us, hall with
    | [su, xu], hall =>
      split at h
      · rename_i t0 t1 ht0 ht1
        split at h
        · rename_i e he
          split at h
          · rename_i esz bytes z hsz hby hz
            split at h
            · rename_i hc
              obtain ⟨β', u, w', h1, h2, h3, h4, h5⟩ := run_append (P := P) (w := w) (ty := 0) hs he hsz hby hz hc.1 hc.2.1 hc.2.2 hall.1 hall.2.1 h
              refine ⟨β', u, w', .inl ?_, h2, h3, h4, h5⟩
              have happ : ∀ ty, Builtin.append_ tys ty #[su, xu] = Builtin.append_ #[t0, t1] 0 #[su, xu] := by
                intro ty
                simp only [Builtin.append_, ht0, ht1, List.getElem?_toArray, List.getElem?_cons_zero, List.getElem?_cons_succ]
              rw [hexec (Builtin.append_ #[t0, t1] 0 #[su, xu]) (fun _ _ _ => True) (fun ty cs => by simp only [builtin, happ])]
              rw [h1]
              rfl
            · cases h
          · cases h
        · cases h
      · cases h
  · -- copy
    rename_i d x
    match us, hall with
    | [du, xu], hall =>
      split at h
      · rename_i t0 ht0
        split at h
        · rename_i e he
          split at h
          · rename_i esz hsz
            split at h
            · rename_i n new hca
              obtain ⟨u, w', h1, h2, h3, h4⟩ := run_copy (P := P) (w := w) (t1 := 0) (ty := 0) hs he hsz hall.1 hall.2.1 hca h
              refine ⟨β, u, w', .inl ?_, Le.refl β, h2, h3, h4⟩
              have happ : ∀ ty, Builtin.copy_ tys ty #[du, xu] = Builtin.copy_ #[t0, 0] 0 #[du, xu] := by
                intro ty
                simp only [Builtin.copy_, ht0, List.getElem?_toArray, List.getElem?_cons_zero, List.getElem?_cons_succ]
              rw [hexec (Builtin.copy_ #[t0, 0] 0 #[du, xu]) (fun _ _ _ => True) (fun ty cs => by simp only [builtin, happ])]
              rw [h1]
              rfl
            · cases h
          · cases h
        · cases h
      · cases h
  · -- max
    split at h
    · rename_i x r hargsAV
      have ha := argsAV_all hall hargsAV
      match us, ha with
      | xu :: ru, ha =>
        cases hf : foldMM true x r with
        | none => rw [hf] at h; cases h
        | some z =>
          rw [hf] at h
          cases h
          obtain ⟨u, n, h1, h2⟩ := run_foldMM (P := P) true r ru x z xu w ha.1 ha.2 hf
          refine Done.drew n hs (u := u) ?_ h2
          rw [hexec (Builtin.max_ tys 0 (xu :: ru).toArray) (fun _ _ _ => True) (fun ty cs => by simp [builtin, Builtin.max_])]
          simp only [if_true] at h1
          simp [Builtin.max_, h1]
    · cases h
  · split at h
    · rename_i x r hargsAV
      have ha := argsAV_all hall hargsAV
      match us, ha with
      | xu :: ru, ha =>
        cases hf : foldMM false x r with
        | none => rw [hf] at h; cases h
        | some z =>
          rw [hf] at h
          cases h
          obtain ⟨u, n, h1, h2⟩ := run_foldMM (P := P) false r ru x z xu w ha.1 ha.2 hf
          refine Done.drew n hs (u := u) ?_ h2
          rw [hexec (Builtin.min_ tys 0 (xu :: ru).toArray) (fun _ _ _ => True) (fun ty cs => by simp [builtin, Builtin.min_])]
          simp only [Bool.false_eq_true, if_false] at h1
          simp [Builtin.min_, h1]
    · cases h
  · cases h

end
end Go.Ab
