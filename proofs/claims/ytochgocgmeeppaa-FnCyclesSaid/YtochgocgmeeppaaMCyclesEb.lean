/-
  The engine: abstract values, heaps of pieces, what the operations do; only what this claim leans on. Nothing here is trusted.
-/
import Derived.Test.YtochgocgmeeppaaMCyclesEa
set_option linter.unusedVariables false
set_option linter.unusedSimpArgs false
set_option linter.unusedSectionVars false
namespace Go.Ab
theorem j3 (z:List AV):∀ n,(xx z n).length=n*z.length
 | 0=>by simp [xx]
 | n+1=>by simp [xx,j3 z n,Nat.add_mul];omega
theorem X9 (z : List AV) : ∀ (n j : Nat), j < n * z.length → (xx z n)[j]? = z[j % z.length]?
  | 0, j, h => by simp at h
  | n + 1, j, h => by
    have hz : 0 < z.length := by
      rcases Nat.eq_zero_or_pos z.length with e | e
      · rw [e] at h; simp at h
      · exact e
    simp only [xx]
    rcases Nat.lt_or_ge j z.length with h1 | h1
    · rw [List.getElem?_append_left h1, Nat.mod_eq_of_lt h1]
    · rw [List.getElem?_append_right h1, X9 z n (j - z.length) (by rw [Nat.add_mul] at h; omega)]
      rw [Nat.mod_eq_sub_mod h1]
theorem We (z:List AV) (h:z.all AV.stor=true):∀ n,(xx z n).all AV.stor=true
 | 0=>rfl
 | n+1=>by simp only [xx,List.all_append,h,We z h n,Bool.and_self]
theorem WT {β:Emb} {z:List AV} {zc:Array Value} (h:z=zc.toList.map Zy) (n:Nat) :
  All2 (VR β) (xx z n) ((Array.range (n*zc.size)).map (fun i=>zc[i % zc.size]!)).toList:=by
 have hl:z.length=zc.size:=by rw [h];simp
 refine All2.of_get (by rw [j3,hl];simp) fun j a b ha hb=>?_;have hj:j<n*z.length:=by
  rcases Nat.lt_or_ge j (n*z.length) with h'|h'
  ·exact h'
  ·rw [List.getElem?_eq_none (by rw [j3];exact h')] at ha;cases ha
 rw [X9 z n j hj] at ha;have hz:0<zc.size:=by
  rcases Nat.eq_zero_or_pos zc.size with e|e
  ·rw [hl,e] at hj;simp at hj
  ·exact e
 have hm:j % zc.size<zc.size:=Nat.mod_lt _ hz;have hb':b=zc[j % zc.size]!:=by
  rw [hl] at hj
  simp [hj] at hb
  rw [←hb]
 rw [hl,h] at ha
 simp [hm] at ha
 rw [hb',←ha]
 simp [hm]
 exact vW β _
section
variable {P:Program} {o:Oper} {ρ:Operand→Value} {ev:Operand→TV} {β:Emb} {H H':Heap} {w:World} {v:TV}
theorem JK (t : TypeId) (l c : Operand) (ho : o.op = .makeSlice t l c) (hs : SR β H w) (hx : TVR β (ev l) (ρ l)) (hy : TVR β (ev c) (ρ c)) (h : zM P ev (.makeSlice t l c) H = some (v, H')) :
    Done β H w ((execOp ρ o).run P w) v H' := by
  simp only [zM] at h
  split at h
  · rename_i n m e en em he
    rw [en] at hx
    rw [em] at hy
    have hx' : ρ l = .int .i64 n := hx
    have hy' : ρ c = .int .i64 m := hy
    split at h
    · rename_i sz bys z hsz hby hz
      split at h
      · rename_i hc
        cases h
        obtain ⟨h0, h1, h2, h3, h4, h5⟩ := hc
        obtain ⟨zv, hz1, hz2⟩ := kw (w := w) hz
        obtain ⟨i, hi, hib⟩ := WR (w := w) hby
        have hlen : z.length = zv.cells.size := by rw [hz2]; simp
        have hn : IntKind.i64.wrap n = n := by
          exact IntWalk.i64_in n ⟨by omega, by omega⟩
        have hm : IntKind.i64.wrap m = m := by
          exact IntWalk.i64_in m ⟨by omega, by omega⟩
        have hsplit : (Array.range (m.toNat * zv.cells.size)).map (fun i => zv.cells[i % zv.cells.size]!) =
            (((Array.range (n.toNat * zv.cells.size)).map (fun i => zv.cells[i % zv.cells.size]!)).toList ++
             ((Array.range (m.toNat * zv.cells.size)).map (fun i => zv.cells[i % zv.cells.size]!)).toList.drop (n.toNat * zv.cells.size)).toArray := by
          have hle : n.toNat * zv.cells.size ≤ m.toNat * zv.cells.size := Nat.mul_le_mul_right _ (by omega)
          apply Array.ext'
          apply List.ext_getElem?
          intro j
          rcases Nat.lt_or_ge j (n.toNat * zv.cells.size) with hj | hj
          · rw [List.getElem?_append_left (by simpa using hj)]
            simp [hj, Nat.lt_of_lt_of_le hj hle]
          · rw [List.getElem?_append_right (by simpa using hj), List.getElem?_drop]
            simp only [Array.toList_map, Array.toList_range, List.length_map, List.length_range]
            rw [show n.toNat * zv.cells.size + (j - n.toNat * zv.cells.size) = j by omega]
        have ha : All2 (VS β) (xx z n.toNat) ((Array.range (n.toNat * zv.cells.size)).map (fun i => zv.cells[i % zv.cells.size]!)).toList :=
          (WT hz2 n.toNat).stor (We z h5 _)
        refine ⟨_, .slice (some ⟨w.heap.size, 0, none⟩) n.toNat m.toNat, _, .inl ?_, Le.ext (hs.dom _ (Nat.le_refl _)),
          hs.alloc (t := e) (rest := ((Array.range (m.toNat * zv.cells.size)).map (fun i => zv.cells[i % zv.cells.size]!)).toList.drop (n.toNat * zv.cells.size)) (fz := (0, 0)) ha (.inl rfl), ?_, Fr.alloc hs _ _⟩
        · have hlarge : ∀ k : Int, 0 ≤ k → k ≤ m → (decide (k < 0) || decide ((bys : Int) * k > 2 ^ 48)) = false := by
            intro k hk1 hk2
            have hmb : m * (bys : Int) ≤ 2 ^ 40 := h3
            have : (bys : Int) * k ≤ m * bys := by
              rw [Int.mul_comm]
              exact Int.mul_le_mul_of_nonneg_right hk2 (by omega)
            simp only [Bool.or_eq_false_iff, decide_eq_false_iff_not]
            constructor
            · omega
            · have : (2 : Int) ^ 48 = 281474976710656 := rfl
              have : (2 : Int) ^ 40 = 1099511627776 := rfl
              omega
          have hl1 := hlarge m (by omega) (Int.le_refl _)
          have hrun : (Instr.makeSlice t (.int .i64 n) (.int .i64 m)).run P w = .ok (.slice (some ⟨w.heap.size, 0, none⟩) n.toNat m.toNat)
              { w with heap := w.heap.push (.cells ((Array.range (m.toNat * zv.cells.size)).map (fun i => zv.cells[i % zv.cells.size]!)) e) } := by
            unfold Instr.makeSlice
            simp only [Sem.run_bind, run_underlying (xV he), Result.andThen_ok, asInt, asIntOf, Sem.run_pure, hi, hib, hn, hm, run_askRoom, wm hsz]
            rw [if_neg (by simp only [hl1, Bool.false_or, Bool.or_eq_true, decide_eq_true_eq, not_or]; constructor <;> omega)]
            simp only [Sem.run_bind, run_askRoom, Result.andThen_ok, wm hsz, newRow, run_newObj, Sem.run_pure, Sem.run_map]
            by_cases hz0 : m.toNat * sz = 0
            · simp only [hz0, if_true, Sem.run_pure, Result.andThen_ok]
              rw [show sz = zv.cells.size by omega] at hz0
              rw [hz0, show (Array.range 0) = #[] from rfl]
              simp
            · rw [if_neg hz0]
              simp only [Sem.run_bind, hz1, Result.andThen_ok, Sem.run_pure, Sem.run_map]
              rw [show sz = zv.cells.size by omega]
              simp
          rw [hsplit] at hrun
          simp [execOp, ho, hx', hy', hrun]
        · refine ⟨_, _, m.toNat, if_pos rfl, rfl, by omega, .inl ⟨rfl, ?_⟩⟩
          have hle : n.toNat * zv.cells.size ≤ m.toNat * zv.cells.size := Nat.mul_le_mul_right _ (by omega)
          simp only [List.length_drop, Array.length_toList, Array.size_map, Array.size_range]
          rw [show sz = zv.cells.size by omega]
          omega
      · cases h
    · cases h
  · cases h
theorem foldl_set (us : List Value) (off : Nat) : ∀ (k : Nat) (cs : Array Value), off + k + us.length ≤ cs.size →
    ((us.zipIdx k).foldl (fun (cs : Array Value) (c, j) => cs.setIfInBounds (off + j) c) cs).toList = cs.toList.take (off + k) ++ us ++ cs.toList.drop (off + k + us.length) := by
  induction us with
  | nil => intro k cs _; simp
  | cons u us ih =>
    intro k cs h
    simp only [List.zipIdx_cons, List.foldl_cons]
    rw [ih (k + 1) _ (by simp at h ⊢; omega)]
    simp only [Array.toList_setIfInBounds, List.length_cons] at h ⊢
    have hlen : off + k < (cs.toList.set (off + k) u).length := by simp; omega
    have e1 : (cs.toList.set (off + k) u).take (off + (k + 1)) = cs.toList.take (off + k) ++ [u] := by
      rw [show off + (k + 1) = (off + k) + 1 by omega, List.take_succ_eq_append_getElem hlen, List.take_set_of_le (Nat.le_refl _)]
      simp
    have e2 : (cs.toList.set (off + k) u).drop (off + (k + 1) + us.length) = cs.toList.drop (off + (k + 1) + us.length) := by
      rw [List.drop_set_of_lt (by omega)]
    rw [e1, e2, show off + (k + 1) + us.length = off + k + (us.length + 1) by omega]
    simp
theorem All2.splice {β:Emb} {cs new:List AV} {us vs:List Value} (h:All2 (VR β) cs us) (k:All2 (VR β) new vs) (off:Nat) :
  All2 (VR β) (splice cs new off) (us.take off++vs++us.drop (off+vs.length)):=by
 unfold Ab.splice;rw [k.len];exact ((h.take off).append k).append (h.drop _)
def zbi (β:Emb):List (Nat × List AV)→List (Nat × Value)→Prop:=All2 fun a b=>a.1=b.1∧All2 (VR β) a.2 b.2.cells.toList
theorem UB {l : List (Nat × Operand)} : ∀ {ps : List (Nat × List AV)}, (∀ x ∈ l.map (·.2), TVR β (ev x) (ρ x)) → partsOf ev l = some ps → (∀ p ∈ ps, p.2.all AV.stor = true) →
    zbi β ps (l.map fun (i, x) => (i, ρ x)) := by
  induction l with
  | nil => intro ps _ h _; simp [partsOf] at h; subst h; trivial
  | cons p r ih =>
    obtain ⟨i, x⟩ := p
    intro ps hv h hst
    simp only [partsOf] at h
    split at h
    · rename_i c rs hc hr
      cases h
      refine ⟨⟨rfl, ?_⟩, ih (fun y hy => hv y (by simp at hy ⊢; exact .inr hy)) hr (fun p hp => hst p (by simp [hp]))⟩
      have h1 := hv x (by simp)
      obtain ⟨us, e1, e2⟩ := h1.cells hc (hst (i, c) (by simp))
      show All2 (VR β) c (ρ x).cells.toList
      rw [e1]
      exact e2.vr
    · cases h
theorem Qu {place place' : Nat → Option (Nat × Nat)} (hp : ∀ i x, place i = some x → place' i = some x) : ∀ {ps : List (Nat × List AV)} {qs : List (Nat × Value)} {cs c : List AV} {us : Array Value},
    zbi β ps qs → All2 (VR β) cs us.toList → xR place cs ps = some c → ∃ us', Instr.fill place' us qs = some us' ∧ All2 (VR β) c us'.toList
  | [], [], cs, c, us, _, h, hf => by simp [xR] at hf; subst hf; exact ⟨us, rfl, h⟩
  | (i, v) :: ps, (j, u) :: qs, cs, c, us, hpr, h, hf => by
    obtain ⟨⟨hij, hvu⟩, hrest⟩ := hpr
    simp only at hij hvu
    subst hij
    simp only [xR] at hf
    split at hf
    · rename_i off size hpl
      split at hf
      · rename_i hc
        have hsz : u.cells.size = v.length := by rw [hvu.len]; simp
        have hus : us.size = cs.length := by rw [h.len]; simp
        have hcells : ((u.cells.zipIdx.foldl (fun cs (c, j) => cs.setIfInBounds (off + j) c) us).toList) = us.toList.take off ++ u.cells.toList ++ us.toList.drop (off + u.cells.toList.length) := by
          rw [← Array.foldl_toList]
          have := foldl_set u.cells.toList off 0 us (by simp; omega)
          simpa using this
        obtain ⟨us', h1, h2⟩ := Qu hp hrest (us := u.cells.zipIdx.foldl (fun cs (c, j) => cs.setIfInBounds (off + j) c) us) (by
          rw [hcells]; exact h.splice hvu off) hf
        refine ⟨us', ?_, h2⟩
        simp only [Instr.fill, hp i _ hpl]
        rw [if_neg (by simp; omega)]
        exact h1
      · cases hf
    · cases hf
  | [], _ :: _, _, _, _, h, _, _ => h.elim
  | _ :: _, [], _, _, _, h, _, _ => h.elim
theorem Qv {α β : Type} (f : α → Sem β) (g : α → β) : ∀ (l : List α), (∀ x ∈ l, (f x).run P w = .ok (g x) w) → (l.mapM f).run P w = .ok (l.map g) w
  | [], _ => by simp
  | x :: l, h => by
    simp [h x (by simp), Qv f g l (fun y hy => h y (by simp [hy]))]
theorem Qw {α β:Type} (f:α→Sem β) (g:α→β) (a:Array α) (h:∀ x∈a.toList,(f x).run P w=.ok (g x) w):(a.mapM f).run P w=.ok (a.map g) w:=by
 have:a.mapM f=(fun l=>l.toArray) <$> a.toList.mapM f:=by
  rw [Array.mapM_eq_mapM_toList]
 rw [this];rw [show a.map g=(a.toList.map g).toArray from Array.ext' (by simp)]
 simp [Qv f g a.toList h]
theorem d_build (t : TypeId) (parts : Array (Nat × Operand)) (ho : o.op = .build t parts) (hs : SR β H w) (hx : ∀ x ∈ parts.toList.map (·.2), TVR β (ev x) (ρ x)) (h : zM P ev (.build t parts) H = some (v, H')) :
    Done β H w ((execOp ρ o).run P w) v H' := by
  simp only [zM] at h
  split at h
  · rename_i z fs ps hz hfs hps
    split at h
    · rename_i hc
      obtain ⟨hc1, hc2⟩ := hc
      cases hf : xR (uj P fs) z ps with
      | none => rw [hf] at h; cases h
      | some c =>
        rw [hf] at h
        cases h
        obtain ⟨fa, hu, rfl⟩ := jY hfs
        obtain ⟨zv, hz1, hz2⟩ := kw (w := w) hz
        let g : Field → Nat × Nat := fun f => (f.offset, (tsz P f.type).getD 0)
        have hm : (fa.mapM fun (f : Field) => (do pure (f.offset, ← sizeOf f.type) : Sem (Nat × Nat))).run P w = .ok (fa.map g) w := by
          refine Qw _ g fa fun f hf' => ?_
          have := List.all_eq_true.1 hc1 f hf'
          obtain ⟨n, hn⟩ := Option.isSome_iff_exists.1 this
          simp [wm hn, g, hn]
        have hpr := UB (β := β) (ρ := ρ) hx hps (fun p hp => List.all_eq_true.1 hc2 p hp)
        have hplace : ∀ i x, uj P fa.toList i = some x → (fa.map g)[i]? = some x := by
          intro i x hix
          unfold uj at hix
          split at hix
          · rename_i f hfi
            cases hn : tsz P f.type with
            | none => rw [hn] at hix; cases hix
            | some n =>
              rw [hn] at hix
              cases hix
              simp at hfi
              simp [hfi, g, hn]
          · cases hix
        obtain ⟨us', h1, h2⟩ := Qu (place' := fun i => (fa.map g)[i]?) hplace hpr (us := zv.cells) (hz2 ▸ jZ β zv.cells.toList) hf
        refine Done.same hs (u := .agg us') ?_ ⟨us'.toList, by simp, h2⟩
        have hp : (parts.map fun (i, x) => (i, ρ x)).toList = parts.toList.map fun (i, x) => (i, ρ x) := by simp
        have hrun : (Instr.build t (parts.map fun (i, x) => (i, ρ x))).run P w = .ok (.agg us') w := by
          unfold Instr.build
          simp only [Sem.run_bind, hz1, Result.andThen_ok, run_underlying hu, Sem.run_pure, hm, hp, h1]
        simp [execOp, ho, hrun]
    · cases h
  · cases h
theorem Qx (t : TypeId) (len : Nat) (parts : Array (Nat × Operand)) (ho : o.op = .buildSlice t len parts) (hs : SR β H w) (hx : ∀ x ∈ parts.toList.map (·.2), TVR β (ev x) (ρ x))
    (h : zM P ev (.buildSlice t len parts) H = some (v, H')) : Done β H w ((execOp ρ o).run P w) v H' := by
  simp only [zM] at h
  split at h
  · rename_i e he
    split at h
    · rename_i n z ps hn hz hps
      split at h
      · rename_i hc
        obtain ⟨hc1, hc2, hc3⟩ := hc
        cases hf : xR (fun i => some (i * n, n)) (xx z len) ps with
        | none => rw [hf] at h; cases h
        | some c =>
          rw [hf] at h
          simp only [Option.bind_some] at h
          split at h
          · rename_i hst
            cases h
            obtain ⟨zv, hz1, hz2⟩ := kw (w := w) hz
            have hlen : zv.cells.size = n := by rw [← hc2, hz2]; simp
            have hpr := UB (β := β) (ρ := ρ) hx hps (fun p hp => List.all_eq_true.1 hc3 p hp)
            obtain ⟨us', h1, h2⟩ := Qu (place' := fun i => some (i * n, n)) (fun i x hix => hix) hpr (us := (Array.range (len * zv.cells.size)).map (fun i => zv.cells[i % zv.cells.size]!)) (WT hz2 len) hf
            have hlc : us'.size = len * n := by
              have e1 := h2.len
              have e2 : ∀ (ps : List (Nat × List AV)) (cs c : List AV), xR (fun i => some (i * n, n)) cs ps = some c → c.length = cs.length := by
                intro ps
                induction ps with
                | nil => intro cs c h; simp [xR] at h; rw [h]
                | cons p ps ih =>
                  obtain ⟨i, vv⟩ := p
                  intro cs c h
                  simp only [xR] at h
                  split at h
                  · rename_i hcc
                    rw [ih _ _ h, Yw _ _ _ hcc.2]
                  · cases h
              rw [e2 _ _ _ hf, j3, hc2] at e1
              simpa using e1.symm
            have ha : All2 (VS β) c us'.toList := h2.stor hst
            refine ⟨_, .slice (some ⟨w.heap.size, 0, none⟩) len len, _, .inl ?_, Le.ext (hs.dom _ (Nat.le_refl _)), hs.alloc (t := e) (rest := []) (fz := (0, 0)) ha (.inl rfl), ?_, Fr.alloc hs _ _⟩
            · have hrun : (Instr.buildSlice t len (parts.map fun (i, x) => (i, ρ x))).run P w = .ok (.slice (some ⟨w.heap.size, 0, none⟩) len len) { w with heap := w.heap.push (.cells us' e) } := by
                unfold Instr.buildSlice
                simp only [Sem.run_bind, run_underlying (xV he), Result.andThen_ok, wm hn]
                rw [if_neg (by omega)]
                have hp : (parts.map fun (i, x) => (i, ρ x)).toList = parts.toList.map fun (i, x) => (i, ρ x) := by simp
                by_cases hz0 : len * n = 0
                · simp only [hz0, if_true, Sem.run_pure, Sem.run_bind, Result.andThen_ok]
                  have : (Array.range 0).map (fun i => (#[] : Array Value)[i % (#[] : Array Value).size]!) = (Array.range (len * zv.cells.size)).map (fun i => zv.cells[i % zv.cells.size]!) := by
                    rw [hlen, hz0, show (Array.range 0) = #[] from rfl]
                    simp
                  rw [this, hp, h1]
                  simp [newRow]
                · rw [if_neg hz0]
                  simp only [Sem.run_bind, hz1, Result.andThen_ok, Sem.run_pure]
                  rw [hp]
                  rw [hlen] at h1
                  rw [hlen, h1]
                  simp [newRow]
              simp [execOp, ho, hrun]
            · exact ⟨_, _, len, if_pos rfl, rfl, Nat.le_refl _, .inl ⟨rfl, by simp; omega⟩⟩
          · cases h
      · cases h
    · cases h
  · cases h
theorem Yy {x : Option Operand} {r : Option Int} (hx : ∀ y, x = some y → TVR β (ev y) (ρ y)) (h : Yr (x.map ev) = some r) :
    (x = none ∧ r = none) ∨ ∃ y k n, x = some y ∧ r = some n ∧ ρ y = .int k n := by
  cases x with
  | none => simp [Yr] at h; exact .inl ⟨rfl, h.symm⟩
  | some y =>
    right
    simp only [Option.map_some, Yr] at h
    split at h
    · rename_i hh; cases hh
    · rename_i k n hh
      cases h
      have := hx y rfl
      have e := Option.some.inj hh
      rw [e] at this
      exact ⟨y, k, n, rfl, rfl, this⟩
    · cases h
theorem Za (isSlice:Bool) {lo hi:Option Operand} {l h:Option Int} {len cap a b:Nat} (hlen:len≤cap) (h1:∀ y,lo=some y→TVR β (ev y) (ρ y)) (h2:∀ y,hi=some y→TVR β (ev y) (ρ y))
  (e1:Yr (lo.map ev)=some l) (e2:Yr (hi.map ev)=some h) (hb:ut len l h=some (a,b)) :
  (Instr.sliceBounds isSlice len cap (lo.map ρ) (hi.map ρ) none).run P w=.ok (a,b,cap) w∧a≤b∧b≤len:=by
 unfold ut at hb
 dsimp only at hb
 split at hb
 ·rename_i hc
  cases hb
  refine⟨?_,by omega,by omega⟩;have key:∀ (k:IntKind) (n:Int) (c:Nat) (code:BoundsCode),0≤n→n≤c→(Instr.sliceBound (.int k n) c code).run P w=.ok n.toNat w:=by
   intro k n c code g1 g2
   simp [Instr.sliceBound,asIntOf,g1,g2]
  rcases Yy h1 e1 with⟨rfl,rfl⟩|⟨y,k,n,rfl,rfl,ey⟩
  ·rcases Yy h2 e2 with⟨rfl,rfl⟩|⟨z,k2,n2,rfl,rfl,ez⟩
   ·simp [Instr.sliceBounds]
   ·simp at hc
    simp [Instr.sliceBounds,ez,key k2 n2 cap _ (by omega) (by omega)]
  ·rcases Yy h2 e2 with⟨rfl,rfl⟩|⟨z,k2,n2,rfl,rfl,ez⟩
   ·simp at hc
    simp [Instr.sliceBounds,ey,key k n len _ (by omega) (by omega)]
   ·simp at hc
    simp [Instr.sliceBounds,ey,ez,key k2 n2 cap _ (by omega) (by omega),key k n n2.toNat _ (by omega) (by omega)]
 ·cases hb
theorem d_slice (t : TypeId) (x : Operand) (lo hi : Option Operand) (ho : o.op = .slice t x lo hi none) (hs : SR β H w) (hx : TVR β (ev x) (ρ x)) (h1 : ∀ y, lo = some y → TVR β (ev y) (ρ y)) (h2 : ∀ y, hi = some y → TVR β (ev y) (ρ y))
    (h : zM P ev (.slice t x lo hi none) H = some (v, H')) : Done β H w ((execOp ρ o).run P w) v H' := by
  simp only [zM] at h
  split at h
  · rename_i s l hh es el eh
    rw [es] at hx
    have hx' : ρ x = .string s := hx
    split at h
    · rename_i ht
      cases hb : ut s.size l hh with
      | none => rw [hb] at h; cases h
      | some ab =>
        obtain ⟨a, b⟩ := ab
        rw [hb] at h
        cases h
        obtain ⟨hr, _, _⟩ := Za (P := P) (w := w) false (Nat.le_refl s.size) h1 h2 el eh hb
        refine Done.same hs (u := .string (s.extract a b)) ?_ rfl
        simp [execOp, ho, hx', Instr.sliceAt, Instr.slice, run_underlying (qM ht), hr]
    · cases h
  · rename_i id off len esz l hh es el eh
    rw [es] at hx
    obtain ⟨m, ad, cap, hl, hx', hlc, hor⟩ := hx
    split at h
    · rename_i ht
      cases hte : zL P t with
      | none => rw [hte] at ht; cases ht
      | some e =>
        rw [hte] at ht
        simp at ht
        cases hb : ut len l hh with
        | none => rw [hb] at h; cases h
        | some ab =>
          obtain ⟨a, b⟩ := ab
          rw [hb] at h
          cases h
          obtain ⟨hr, hab, hbl⟩ := Za (P := P) (w := w) true hlc h1 h2 el eh hb
          refine Done.same hs (u := .slice (if cap = a then ad else ad.map (·.add (a * esz))) (b - a) (cap - a)) ?_ ?_
          · simp [execOp, ho, hx', Instr.sliceAt, Instr.slice, run_underlying (xV hte), hr, wm ht]
          · refine ⟨m, _, _, hl, rfl, by omega, ?_⟩
            by_cases hca : cap = a
            · right; omega
            · rcases hor with ⟨rfl, hsz⟩ | ⟨rfl, rfl⟩
              · left
                refine ⟨by simp [hca, addr_add, Nat.add_assoc], ?_⟩
                have : (cap - a) * esz = cap * esz - a * esz := Nat.sub_mul _ _ _
                have : a * esz ≤ cap * esz := Nat.mul_le_mul_right _ (by omega)
                show off + a * esz + (cap - a) * esz ≤ m.size
                omega
              · right; omega
    · cases h
  · rename_i l hh es el eh
    rw [es] at hx
    have hx' : ρ x = .slice none 0 0 := hx
    split at h
    · rename_i ht
      cases hte : zL P t with
      | none => rw [hte] at ht; cases ht
      | some e =>
        rw [hte] at ht
        simp at ht
        obtain ⟨n, hn⟩ := Option.isSome_iff_exists.1 ht
        cases hb : ut 0 l hh with
        | none => rw [hb] at h; cases h
        | some ab =>
          obtain ⟨a, b⟩ := ab
          rw [hb] at h
          cases h
          obtain ⟨hr, hab, hbl⟩ := Za (P := P) (w := w) true (Nat.le_refl 0) h1 h2 el eh hb
          obtain ⟨rfl, rfl⟩ : a = 0 ∧ b = 0 := by omega
          refine Done.same hs (u := .slice none 0 0) ?_ rfl
          simp [execOp, ho, hx', Instr.sliceAt, Instr.slice, run_underlying (xV hte), hr, wm hn]
    · cases h
  · rename_i id off l hh es el eh
    rw [es] at hx
    obtain ⟨m, hl, hx'⟩ := hx
    split at h
    · rename_i n sz cs hta hown
      split at h
      · rename_i hcs
        cases hte : tarr P t with
        | none => rw [hte] at hta; cases hta
        | some ne =>
          obtain ⟨n', e⟩ := ne
          rw [hte] at hta
          simp only [Option.bind_some] at hta
          cases hsz : tsz P e with
          | none => rw [hsz] at hta; cases hta
          | some sz' =>
            rw [hsz] at hta
            cases hta
            cases hb : ut n l hh with
            | none => rw [hb] at h; cases h
            | some ab =>
              obtain ⟨a, b⟩ := ab
              rw [hb] at h
              cases h
              obtain ⟨hr, hab, hbl⟩ := Za (P := P) (w := w) false (Nat.le_refl _) h1 h2 el eh hb
              have hrow := hs.row id m hl
              rw [hown] at hrow
              obtain ⟨ccs, te, fz, _, _, _, hcl, _⟩ := hrow
              refine Done.same hs (u := .slice (some (if n = a then ⟨m.blk, m.base + off, none⟩ else (⟨m.blk, m.base + off, none⟩ : Addr).add (a * sz))) (b - a) (n - a)) ?_ ?_
              · simp [execOp, ho, hx', ptrV, Instr.sliceAt, Instr.sureAddr, run_underlying (Qp hte), hr, wm hsz]
              · refine ⟨m, _, _, hl, rfl, by omega, ?_⟩
                by_cases hca : n = a
                · right; omega
                · left
                  refine ⟨by simp [hca, addr_add, Nat.add_assoc], ?_⟩
                  have : (n - a) * sz = n * sz - a * sz := Nat.sub_mul _ _ _
                  have : a * sz ≤ n * sz := Nat.mul_le_mul_right _ (by omega)
                  show off + a * sz + (n - a) * sz ≤ m.size
                  omega
      · cases h
    · cases h
  · cases h
theorem VQ {esz : Nat} {x : AV} {xv : Value} {n : Nat} {new : List AV} (hs : SR β H w) (hx : VR β x xv) (h : xZ H esz x = some (n, new)) :
    (∀ w1 : World, (Builtin.lenOf xv).run P w1 = .ok n w1) ∧ ∃ us : List Value, All2 (VS β) new us ∧ us.length = n * esz ∧
      (∀ m k, k ≤ n → (Builtin.firstCells esz k xv).run P { w with drawn := m } = .ok (us.take (k * esz)).toArray { w with drawn := m }) ∧
      (∀ m, (Builtin.firstCells esz n xv).run P { w with drawn := m } = .ok us.toArray { w with drawn := m }) := by
  have wrap : ∀ us : List Value, us.length = n * esz → (∀ m k, k ≤ n → (Builtin.firstCells esz k xv).run P { w with drawn := m } = .ok (us.take (k * esz)).toArray { w with drawn := m }) →
      (∀ m, (Builtin.firstCells esz n xv).run P { w with drawn := m } = .ok us.toArray { w with drawn := m }) := fun us hl key m => by
    have := key m n (Nat.le_refl _)
    rw [List.take_of_length_le (by omega)] at this
    exact this
  cases x <;> simp only [xZ] at h <;> first | (cases h; done) | skip
  case nilsl =>
    cases h
    have hx' : xv = .slice none 0 0 := hx
    subst hx'
    exact ⟨fun _ => by simp [Builtin.lenOf], [], trivial, by simp, fun m k _ => by simp [Builtin.firstCells], fun m => by simp [Builtin.firstCells]⟩
  case sl id off len esz' =>
    split at h
    · rename_i he
      subst he
      cases hr : vB H id off (len * esz') with
      | none => rw [hr] at h; cases h
      | some c =>
        rw [hr] at h
        cases h
        obtain ⟨l, a, cap, hl, hx', hlc, hor⟩ := hx
        subst hx'
        obtain ⟨us, h1, h2, h3⟩ := Yv hs hl hr
        have key : ∀ m k, k ≤ n → (Builtin.firstCells esz' k (.slice a n cap)).run P { w with drawn := m } = .ok (us.take (k * esz')).toArray { w with drawn := m } := by
          intro m k hk
          have hle : k * esz' ≤ n * esz' := Nat.mul_le_mul_right _ hk
          have hload : ∀ ad : Addr, (ad = ⟨l.blk, l.base + off, none⟩ ∨ k * esz' = 0) → (loadCells ad (k * esz')).run P { w with drawn := m } = .ok (us.take (k * esz')).toArray { w with drawn := m } := by
            intro ad had
            rcases had with rfl | h0
            · have := run_loadCells (P := P) (w := { w with drawn := m }) l.blk (l.base + off) (us.take (k * esz')) (fun j u hu => by
                rw [List.getElem?_take] at hu
                split at hu
                · exact h3 j u hu
                · cases hu)
              rw [show (us.take (k * esz')).length = k * esz' by simp; omega] at this
              exact this
            · rw [h0]; simp [loadCells, loadCellsFrom]
          rcases hor with ⟨rfl, _⟩ | ⟨rfl, rfl⟩
          · exact hload _ (.inl rfl)
          · obtain rfl : k = 0 := by omega
            cases a with
            | none => simp [Builtin.firstCells]
            | some ad => exact hload ad (.inr (by simp))
        exact ⟨fun _ => by simp [Builtin.lenOf], us, h2, h1, key, wrap us h1 key⟩
    · cases h
  case str s =>
    split at h
    · rename_i he
      subst he
      cases h
      have hx' : xv = .string s := hx
      subst hx'
      have key : ∀ m k, k ≤ s.size → (Builtin.firstCells 1 k (.string s)).run P { w with drawn := m } = .ok ((s.data.toList.map fun b => Value.int .u8 b.toNat).take (k * 1)).toArray { w with drawn := m } := by
        intro m k hk
        have : (s.extract 0 k).data.map (fun b => Value.int .u8 b.toNat) = ((s.data.toList.map fun b => Value.int .u8 b.toNat).take (k * 1)).toArray := by
          apply Array.ext'
          simp [ByteArray.data_extract, List.extract_eq_take_drop, List.map_take]
        simp only [Builtin.firstCells, Sem.run_pure, this]
      have hl : (s.data.toList.map fun b => Value.int .u8 b.toNat).length = s.size * 1 := by rw [List.length_map, Nat.mul_one]; rfl
      exact ⟨fun _ => by simp [Builtin.lenOf], s.data.toList.map fun b => Value.int .u8 b.toNat, All2.map (fun b => ⟨rfl, rfl⟩) _, hl, key, wrap _ hl key⟩
    · cases h
theorem UC (need : Nat) : ∀ (r c : Nat), c ≤ need + (need + 768) / 4 → Builtin.growBy need r c ≤ need + (need + 768) / 4
  | 0, c, h => h
  | r + 1, c, h => by
    unfold Builtin.growBy
    split
    · exact h
    · exact UC need r _ (by omega)
theorem K8 (need cap:Nat) (h:cap<need):Builtin.nextslicecap need cap≤2*need+192:=by
 unfold Builtin.nextslicecap
 split
 ·omega
 ·split
  ·omega
  ·have:=UC need 4 cap (by omega);omega
theorem run_append_fits {t0 t1 ty e:TypeId} {esz n len cap:Nat} {a:Option Addr} {xv:Value} {us:List Value} {d1:TypeDesc}
  (he:zL P t0=some e) (hsz:tsz P e=some esz) (hd1:P.underlying t1=some d1) (hnot:∀ k,d1≠.int k)
  (hlen:(Builtin.lenOf xv).run P w=.ok n w) (hfc:(Builtin.firstCells esz n xv).run P w=.ok us.toArray w) (hfit:len+n≤cap) :
  (Builtin.append_ #[t0,t1] ty #[.slice a len cap,xv]).run P w =
   ((match a with|some ad=>storeCells (ad.add (len*esz)) us|none=>pure ():Sem Unit).run P w).andThen fun _ w'=>.ok (.slice a (len+n) cap) w':=by
 have hz:(match d1 with|.int _=>true|_=>false)=false:=by cases d1<;>first|rfl|exact absurd rfl (hnot _)
 unfold Builtin.append_;simp only [List.getElem?_toArray,List.getElem?_cons_zero,List.getElem?_cons_succ,Sem.run_bind,run_underlying (xV he),Result.andThen_ok,wm hsz,run_underlying hd1,Sem.run_pure,hz,Bool.false_eq_true,if_false,hlen,hfit,if_true,Bool.not_false,hfc]
 cases a<;>simp
theorem Wt {t0 t1 ty e : TypeId} {esz bytes n len cap : Nat} {a : Option Addr} {xv zv : Value} {us old : List Value} {d1 : TypeDesc} {ti : TypeInfo}
    (he : zL P t0 = some e) (hsz : tsz P e = some esz) (hti : ∀ w : World, (typeInfo e).run P w = .ok ti w) (hib : ti.bytes = bytes) (hbp : 0 < bytes) (hd1 : P.underlying t1 = some d1) (hnot : ∀ k, d1 ≠ .int k)
    (hlen : (Builtin.lenOf xv).run P w = .ok n w) (hfc : ∀ m, (Builtin.firstCells esz n xv).run P { w with drawn := m } = .ok us.toArray { w with drawn := m })
    (hold : ∀ m, (Builtin.firstCells esz len (.slice a len cap)).run P { w with drawn := m } = .ok old.toArray { w with drawn := m }) (hz : ∀ w : World, (zeroValue e).run P w = .ok zv w)
    (hfit : ¬ len + n ≤ cap) (hroom : (len + n) * bytes ≤ 2 ^ 40) :
    ∃ newCap m, len + n ≤ newCap ∧ (Builtin.append_ #[t0, t1] ty #[.slice a len cap, xv]).run P w =
      .ok (.slice (some ⟨w.heap.size, 0, none⟩) (len + n) newCap) { ({ w with drawn := m } : World) with heap := w.heap.push (.cells (old ++ us ++ (Builtin.zeroCells zv.cells (newCap - (len + n))).toList).toArray e) } := by
  have h1 : ¬ (((len : Int) + (n : Int)) > IntKind.i64.max ∧ bytes = 0) := by omega
  have h2 : ¬ (Builtin.nextslicecap (len + n) cap * bytes > 2 ^ 48) := by
    have h3 := K8 (len + n) cap (by omega)
    have h4 : Builtin.nextslicecap (len + n) cap * bytes ≤ (2 * (len + n) + 192) * bytes := Nat.mul_le_mul_right _ h3
    have h5 : (2 * (len + n) + 192) * bytes = 2 * ((len + n) * bytes) + 192 * bytes := by rw [Nat.add_mul, Nat.mul_assoc]
    have h6 : bytes ≤ (len + n) * bytes := Nat.le_mul_of_pos_left _ (by omega)
    omega
  let newCap := Question.cut (.appendCap (len + n) cap e) (w.tape w.drawn (.appendCap (len + n) cap e))
  refine ⟨newCap, w.drawn + 1, Nat.le_add_right _ _, ?_⟩
  have hfc' := hfc (w.drawn + 1)
  have hold' := hold (w.drawn + 1)
  unfold Builtin.append_
  have hzz : (match d1 with | .int _ => true | _ => false) = false := by cases d1 <;> first | rfl | exact absurd rfl (hnot _)
  simp only [List.getElem?_toArray, List.getElem?_cons_zero, List.getElem?_cons_succ, Sem.run_bind, run_underlying (xV he), Result.andThen_ok, wm hsz, run_underlying hd1, Sem.run_pure, hzz, Bool.false_eq_true, if_false, hlen, hfit, Bool.not_false, if_true,
    hti, hib, Nat.ne_of_gt hbp, false_or, and_false, h2, Sem.run_ite]
  simp only [run_choose, Question.forced, Bool.false_eq_true, if_false, Result.andThen_ok, run_askRoom, hold', hfc', hz, newRow, Sem.run_bind, Sem.run_map, run_newObj, Sem.run_pure]
  have harr : old.toArray ++ us.toArray ++ Builtin.zeroCells zv.cells (newCap - (len + n)) = (old ++ us ++ (Builtin.zeroCells zv.cells (newCap - (len + n))).toList).toArray := Array.ext' (by simp)
  rw [← harr]
theorem U9 (zc:Array Value) (n:Nat):(Builtin.zeroCells zc n).toList.length=n*zc.size:=by simp [Builtin.zeroCells]
theorem K9 {t0 t1 : TypeId} {ty : TypeId} {e : TypeId} {esz bytes : Nat} {z : List AV} {s x : AV} {sv xv : Value} {r : TV}
    (hs : SR β H w) (he : zL P t0 = some e) (hsz : tsz P e = some esz) (hby : vJ P e = some bytes) (hz : xz P e = some z) (hzl : z.length = esz) (ht1 : tint P t1 = none) (ht2 : (P.underlying t1).isSome = true)
    (hsv : VR β s sv) (hxv : VR β x xv) (h : vY H esz bytes s x = some (r, H')) :
    ∃ β' u w', (Builtin.append_ #[t0, t1] ty #[sv, xv]).run P w = .ok u w' ∧ Le β β' ∧ SR β' H' w' ∧ TVR β' r u ∧ Fr β H w β' H' w' := by
  obtain ⟨zv, hz1, hz2⟩ := kw (w := w) hz
  have hzs : zv.cells.size = esz := by rw [← hzl, hz2]; simp
  have hzw : ∀ w1 : World, (zeroValue e).run P w1 = .ok zv w1 := by
    intro w1
    unfold xz at hz
    cases hi : P.info? e with
    | none => rw [hi] at hz; simp at hz
    | some i =>
      cases hzz : i.zero with
      | none => simp [hi, hzz] at hz
      | some zv' =>
        simp [zeroValue, typeInfo, hi, hzz] at hz1 ⊢
        exact hz1
  obtain ⟨ti, hti, hib⟩ := WR (w := w) hby
  have htw : ∀ w1 : World, (typeInfo e).run P w1 = .ok ti w1 := by
    intro w1
    cases hi : P.info? e with
    | none => simp [typeInfo, hi] at hti
    | some i => simp [typeInfo, hi] at hti ⊢; exact hti
  obtain ⟨d1, hd1⟩ := Option.isSome_iff_exists.1 ht2
  have hnot : ∀ k, d1 ≠ .int k := by
    intro k hk
    subst hk
    simp [tint, hd1] at ht1
  unfold vY at h
  split at h
  · cases h
  · rename_i hb0
    have hbpos : 0 < bytes := Nat.pos_of_ne_zero hb0
    split at h
    · cases h
    · rename_i n new hca
      obtain ⟨hlen, us, hn, hlu, _, hfc⟩ := VQ (P := P) hs hxv hca
      have hfc0 : (Builtin.firstCells esz n xv).run P w = .ok us.toArray w := hfc w.drawn
      have grow : ∀ {len cap : Nat} {a : Option Addr} {old : List Value} {olda : List AV} {H1 : Heap}, sv = .slice a len cap → ¬ len + n ≤ cap → (len + n) * bytes ≤ 2 ^ 40 → All2 (VS β) olda old → old.length = len * esz →
          (∀ m, (Builtin.firstCells esz len sv).run P { w with drawn := m } = .ok old.toArray { w with drawn := m }) → SR β H1 w → Fr β H w β H1 w → r = .v (.sl H1.n 0 (len + n) esz) → H' = H1.alloc (.own (olda ++ new)) →
          ∃ β' u w', (Builtin.append_ #[t0, t1] ty #[sv, xv]).run P w = .ok u w' ∧ Le β β' ∧ SR β' H' w' ∧ TVR β' r u ∧ Fr β H w β' H' w' := by
        intro len cap a old olda H1 hsv' hfit hroom hold hlold hfco hs1 hf1 hr hH
        subst hsv' hr hH
        obtain ⟨newCap, m, hcap, hrun⟩ := Wt (P := P) (w := w) (ty := ty) he hsz htw hib hbpos hd1 hnot (hlen w) hfc hfco hzw hfit hroom
        have ha : All2 (VS β) (olda ++ new) (old ++ us) := hold.append hn
        refine ⟨_, _, _, hrun, Le.ext (hs1.dom _ (Nat.le_refl _)), (hs1.draw m).alloc (t := e) (rest := (Builtin.zeroCells zv.cells (newCap - (len + n))).toList) (fz := (0, 0)) ha (.inl rfl), ?_,
          hf1.trans ((Fr.draw m).trans (Fr.alloc (hs1.draw m) _ _))⟩
        refine ⟨_, _, newCap, if_pos rfl, rfl, hcap, .inl ⟨rfl, ?_⟩⟩
        simp only [List.length_append, U9, hzs, hlold, hlu]
        have e1 : newCap * esz = (len + n) * esz + (newCap - (len + n)) * esz := by
          rw [← Nat.add_mul]; congr 1; omega
        have e2 : (len + n) * esz = len * esz + n * esz := Nat.add_mul _ _ _
        omega
      split at h
      ·
        have hsv' : sv = .slice none 0 0 := hsv
        split at h
        · rename_i hn0
          cases h
          subst hsv'
          refine ⟨β, .slice none 0 0, w, ?_, Le.refl β, hs, rfl, Fr.refl β H w⟩
          rw [run_append_fits (w := w) he hsz hd1 hnot (hlen w) hfc0 (by omega)]
          simp [hn0]
        · rename_i hn0
          split at h
          · rename_i hroom
            cases h
            have := grow (len := 0) (cap := 0) (a := none) (old := []) (olda := []) (H1 := H) hsv' (by omega) (by simpa using hroom) trivial (by simp) (fun m => by subst hsv'; simp [Builtin.firstCells]) hs (Fr.refl β H w) (by simp) (by simp)
            exact this
          · cases h
      · rename_i id off len esz'
        split at h
        · rename_i cs hown
          split at h
          · rename_i hc
            obtain ⟨rfl, hend, hroom⟩ := hc
            cases h
            obtain ⟨l, a, cap, hl, hsv', hlc, hor⟩ := hsv
            obtain ⟨ccs, e0, fz, g1, g2, g3, g4⟩ := Kb hs hl hown
            have hcold : xZ H esz' (.sl id off len esz') = some (len, (cs.drop off).take (len * esz')) := by
              simp [xZ, vB, hown, Blk.cs]; omega
            have hdt : (cs.drop off).take (len * esz') = cs.drop off := List.take_of_length_le (by simp; omega)
            rw [hdt] at hcold
            obtain ⟨_, old, ho1, ho2, _, ho3⟩ := VQ (P := P) (x := .sl id off len esz') (xv := sv) hs ⟨l, a, cap, hl, hsv', hlc, hor⟩ hcold
            by_cases hfit : len + n ≤ cap
            · subst hsv'
              rw [run_append_fits (w := w) he hsz hd1 hnot (hlen w) hfc0 hfit]
              rcases hor with ⟨rfl, hsize⟩ | ⟨rfl, rfl⟩
              · have hle : (len + n) * esz' ≤ cap * esz' := Nat.mul_le_mul_right _ hfit
                have e2 : (len + n) * esz' = len * esz' + n * esz' := Nat.add_mul _ _ _
                have hnl : new.length = n * esz' := by rw [hn.len, hlu]
                obtain ⟨w', hr, hw⟩ := jH (P := P) l.blk (l.base + cs.length) e0 fz us 0 w ccs hn.ones g1 (by omega) g4
                have hadr : (⟨l.blk, l.base + off, none⟩ : Addr).add (len * esz') = ⟨l.blk, l.base + cs.length, none⟩ := by
                  rw [addr_add]; congr 1; omega
                refine ⟨_, _, w', by simp only [hadr, hr, Result.andThen_ok]; rfl, Le.ext (hs.dom _ (Nat.le_refl _)), hs.grow hl hown g1 (by omega) (by omega) hn (by simpa using hw), ?_, Fr.grow hs hl hown hw⟩
                refine ⟨_, _, cap, if_pos rfl, rfl, hfit, .inl ⟨by simp, ?_⟩⟩
                simp only
                omega
              · obtain rfl : n = 0 := by omega
                have hus : us = [] := List.length_eq_zero_iff.1 (by simpa using hlu)
                subst hus
                have hnew : new = [] := List.length_eq_zero_iff.1 (by simpa using hn.len)
                subst hnew
                have hst : ∀ ad : Option Addr, ((match ad with | some ad => storeCells (ad.add (0 * esz')) [] | none => pure () : Sem Unit).run P w) = .ok () w := by
                  intro ad; cases ad <;> simp [storeCells]
                refine ⟨β.ext H.n ⟨l.blk, l.base + off, l.size - off⟩, _, w, by rw [hst]; simp only [Result.andThen_ok]; rfl, Le.ext (hs.dom _ (Nat.le_refl _)), ?_, ?_, ?_⟩
                · have hw : Wr w w l.blk e0 fz ccs (l.base + cs.length) [] := ⟨rfl, rfl, rfl, rfl, fun _ _ => rfl, ccs, g1, rfl, fun k => by rw [if_neg (by simp)]⟩
                  exact hs.grow hl hown g1 (by omega) (by simp; omega) (us := []) trivial hw
                · exact ⟨_, _, 0, if_pos rfl, rfl, Nat.le_refl _, .inr ⟨rfl, rfl⟩⟩
                · have hw : Wr w w l.blk e0 fz ccs (l.base + cs.length) [] := ⟨rfl, rfl, rfl, rfl, fun _ _ => rfl, ccs, g1, rfl, fun k => by rw [if_neg (by simp)]⟩
                  exact Fr.grow hs hl hown hw
            · exact grow (H1 := H.put id .gone) hsv' hfit hroom ho1 ho2 ho3 (hs.giveUp id (by rw [hown]; exact fun e => Blk.noConfusion e)) (Fr.giveUp id) rfl rfl
          · cases h
        · cases h
      · cases h
theorem zdl {t0 t1 ty : TypeId} {e : TypeId} {esz : Nat} {d x : AV} {dv xv : Value} {n : Nat} {new : List AV} {r : TV}
    (hs : SR β H w) (he : zL P t0 = some e) (hsz : tsz P e = some esz) (hdv : VR β d dv) (hxv : VR β x xv) (hca : xZ H esz x = some (n, new))
    (h : acopy H esz n new d = some (r, H')) :
    ∃ u w', (Builtin.copy_ #[t0, t1] ty #[dv, xv]).run P w = .ok u w' ∧ SR β H' w' ∧ TVR β r u ∧ Fr β H w β H' w' := by
  obtain ⟨hlen, us, hn, hlu, hfk, hfc⟩ := VQ (P := P) hs hxv hca
  unfold acopy at h
  split at h
  · cases h
    have hd' : dv = .slice none 0 0 := hdv
    subst hd'
    have hf0 := hfk w.drawn 0 (Nat.zero_le _)
    refine ⟨.int .i64 0, w, ?_, hs, rfl, Fr.refl β H w⟩
    have hmin : Nat.min n 0 = 0 := Nat.min_zero n
    simp [Builtin.copy_, run_underlying (xV he), hlen, wm hsz, hmin, goInt]
    rw [show ({ heap := w.heap, tape := w.tape, drawn := w.drawn, os := w.os, output := w.output } : World) = w from rfl] at hf0
    rw [hf0]
    simp
  · rename_i id off len esz'
    split at h
    · cases h
    · rename_i hee
      have hee' : esz' = esz := by omega
      subst hee'
      cases hw : vG H id off (new.take (min n len * esz')) with
      | none => rw [hw] at h; cases h
      | some H2 =>
        rw [hw] at h
        cases h
        obtain ⟨l, a, cap, hl, hdv', hlc, hor⟩ := hdv
        subst hdv'
        have hle : min n len ≤ n := Nat.min_le_left _ _
        have hf := hfk w.drawn (min n len) hle
        rw [show ({ heap := w.heap, tape := w.tape, drawn := w.drawn, os := w.os, output := w.output } : World) = w from rfl] at hf
        have hn' : All2 (VS β) (new.take (min n len * esz')) (us.take (min n len * esz')) := hn.take _
        obtain ⟨w', hr, h3, h4⟩ := Kc (P := P) hs hl hn' hw
        rcases hor with ⟨rfl, hsize⟩ | ⟨rfl, rfl⟩
        · refine ⟨.int .i64 (min n len : Nat), w', ?_, h3, rfl, h4⟩
          have hmin : Nat.min n len = min n len := rfl
          simp only [Builtin.copy_, List.getElem?_toArray, List.getElem?_cons_zero, List.getElem?_cons_succ, Sem.run_bind, run_underlying (xV he), Result.andThen_ok, hlen, wm hsz, hmin, hf, hr, Sem.run_pure, goInt]
        · have h0 : us.take (min n 0 * esz') = [] := by simp
          rw [h0] at hr hf
          have hw0 : w' = w := by simp [storeCells] at hr; exact hr.symm
          subst hw0
          refine ⟨.int .i64 (min n 0 : Nat), w', ?_, h3, rfl, h4⟩
          have hmin : Nat.min n 0 = min n 0 := rfl
          simp only [Builtin.copy_, List.getElem?_toArray, List.getElem?_cons_zero, List.getElem?_cons_succ, Sem.run_bind, run_underlying (xV he), Result.andThen_ok, hlen, wm hsz, hmin, hf, Sem.run_pure, goInt]
          cases a <;> simp [storeCells]
  · cases h
theorem Qy {k:FloatKind} {mx:Bool} {x y:Nat}:∀ t,(k.decode (Question.cut (.nanMinMax k mx x y) t)).isNaN=true:=by
 intro t
 cases k
 ·exact XL t
 ·exact XM t
theorem qy (k:FloatKind) (a:Nat) (h:(k.decode a).isNaN=false):cz k a=a:=by unfold cz;rw [h];rfl
theorem zaa {k:FloatKind} {a b:Nat} {r:Ordering} (h:k.format.order a b=some r):(k.decode a).isNaN=false∧(k.decode b).isNaN=false:=by
 constructor
 ·cases hn:(k.decode a).isNaN with
  | false=>rfl
  | true=>rw [show k.format.order a b=(k.decode a).order (k.decode b) from rfl,jJ hn] at h;cases h
 ·cases hn:(k.decode b).isNaN with
  | false=>rfl
  | true=>rw [show k.format.order a b=(k.decode a).order (k.decode b) from rfl,jc hn] at h;cases h
theorem run_mm (mx : Bool) {x y z : AV} {xv yv : Value} (hx : VR β x xv) (hy : VR β y yv) (h : Z8 mx x y = some z) :
    ∃ u n, (if mx then Builtin.max2 xv yv else Builtin.min2 xv yv).run P w = .ok u { w with drawn := n } ∧ VR β z u := by
  cases x <;> cases y <;> simp only [Z8] at h <;> first | (cases h; done) | skip
  case int.int k a k' b =>
    have hx' : xv = .int k a := hx
    have hy' : yv = .int k' b := hy
    subst hx' hy'
    split at h
    · cases h
      cases mx
      · exact ⟨_, w.drawn, by simp [Builtin.min2], rfl⟩
      · exact ⟨_, w.drawn, by simp [Builtin.max2], rfl⟩
    · cases h
  case flt.flt k a k' b =>
    obtain ⟨a', rfl, ha⟩ := hx
    obtain ⟨b', rfl, hb⟩ := hy
    split at h
    · rename_i hk
      subst hk
      subst ha hb
      rw [Qr] at h
      cases ho : k.format.order a' b' with
      | none =>
        rw [ho] at h
        cases h
        cases mx
        · exact ⟨.float k (Question.cut (.nanMinMax k false a' b') (w.tape w.drawn (.nanMinMax k false a' b'))), w.drawn + 1, by simp [Builtin.min2, ho, Question.forced], ⟨_, rfl, by simp [cz, Qy]⟩⟩
        · exact ⟨.float k (Question.cut (.nanMinMax k true a' b') (w.tape w.drawn (.nanMinMax k true a' b'))), w.drawn + 1, by simp [Builtin.max2, ho, Question.forced], ⟨_, rfl, by simp [cz, Qy]⟩⟩
      | some r =>
        obtain ⟨h1, h2⟩ := zaa ho
        rw [ho, qy k a' h1, qy k b' h2] at h
        cases r <;> simp only at h <;> cases h <;> cases mx
        · exact ⟨.float k a', w.drawn, by simp [Builtin.min2, ho], ⟨_, rfl, qy k a' h1⟩⟩
        · exact ⟨.float k b', w.drawn, by simp [Builtin.max2, ho], ⟨_, rfl, qy k b' h2⟩⟩
        · refine ⟨.float k (if (k.decode a').neg then a' else b'), w.drawn, by simp [Builtin.min2, ho], ⟨_, rfl, ?_⟩⟩
          cases (k.decode a').neg <;> simp [qy k a' h1, qy k b' h2]
        · refine ⟨.float k (if (k.decode a').neg then b' else a'), w.drawn, by simp [Builtin.max2, ho], ⟨_, rfl, ?_⟩⟩
          cases (k.decode a').neg <;> simp [qy k a' h1, qy k b' h2]
        · exact ⟨.float k b', w.drawn, by simp [Builtin.min2, ho], ⟨_, rfl, qy k b' h2⟩⟩
        · exact ⟨.float k a', w.drawn, by simp [Builtin.max2, ho], ⟨_, rfl, qy k a' h1⟩⟩
    · cases h
theorem Yz (mx : Bool) : ∀ (ys : List AV) (yvs : List Value) (x z : AV) (xv : Value) (w : World), VR β x xv → All2 (VR β) ys yvs → q9 mx x ys = some z →
    ∃ u n, (yvs.foldlM (fun a b => if mx then Builtin.max2 a b else Builtin.min2 a b) xv).run P w = .ok u { w with drawn := n } ∧ VR β z u
  | [], [], x, z, xv, w, hx, _, h => by simp [q9] at h; subst h; exact ⟨xv, w.drawn, by simp, hx⟩
  | y :: ys, yv :: yvs, x, z, xv, w, hx, hy, h => by
    simp only [q9] at h
    split at h
    · rename_i z1 hz1
      obtain ⟨u1, n1, h1, h2⟩ := run_mm (P := P) (w := w) mx hx hy.1 hz1
      obtain ⟨u, n, h3, h4⟩ := Yz mx ys yvs z1 z u1 { w with drawn := n1 } h2 hy.2 h
      exact ⟨u, n, by simp only [List.foldlM_cons, Sem.run_bind, h1, Result.andThen_ok, h3], h4⟩
    · cases h
  | [], _ :: _, _, _, _, _, _, h, _ => h.elim
  | _ :: _, [], _, _, _, _, _, h, _ => h.elim
theorem WU {l : List TV} : ∀ {us : List Value} {xs : List AV}, All2 (TVR β) l us → kv l = some xs → All2 (VR β) xs us := by
  induction l with
  | nil => intro us xs h e; simp [kv] at e; subst e; cases us <;> simp_all [All2]
  | cons a l ih =>
    intro us xs h e
    cases us with
    | nil => exact h.elim
    | cons u us =>
      cases a <;> simp only [kv] at e <;> first | (cases e; done) | skip
      rename_i x
      cases hr : kv l with
      | none => rw [hr] at e; cases e
      | some rs =>
        rw [hr] at e
        cases e
        exact ⟨h.1, ih h.2 hr⟩
theorem zbj (b : Builtin) (tys : Array TypeId) (args : Array Operand) (ho : o.op = .call { callee := .builtin b, args, argTypes := tys }) (hs : SR β H w) (hx : ∀ x ∈ args.toList, TVR β (ev x) (ρ x))
    (h : vH P b tys (args.toList.map ev) H = some (v, H')) : Done β H w ((execOp ρ o).run P w) v H' := by
  have hall : All2 (TVR β) (args.toList.map ev) (args.toList.map ρ) := by
    have : ∀ l : List Operand, (∀ x ∈ l, TVR β (ev x) (ρ x)) → All2 (TVR β) (l.map ev) (l.map ρ) := by
      intro l
      induction l with
      | nil => intro _; trivial
      | cons x l ih => intro h; exact ⟨h x (by simp), ih fun y hy => h y (by simp [hy])⟩
    exact this _ hx
  have hargs : args.map ρ = (args.toList.map ρ).toArray := Array.ext' (by simp)
  have hexec : ∀ (s : Sem Value) (tt : TypeId → Array TypeId → Array Bool → Prop), (∀ (ty : TypeId) (cs : Array Bool), builtin b tys ty cs (args.toList.map ρ).toArray = (do pure (.value (← s)))) →
      (execOp ρ o).run P w = (s.run P w).andThen fun u w' => .ok (.value u) w' := by
    intro s _ hb
    simp only [execOp, ho, resolve, invoke, hargs]
    simp [hb]
  generalize args.toList.map ev = es at h hall
  generalize args.toList.map ρ = us at hall hexec
  unfold vH at h
  split at h
  ·
    rename_i s
    match us, hall with
    | [u], hall =>
      have hu : u = .string s := hall.1
      subst hu
      split at h
      · rename_i t0 ht0
        split at h
        · rename_i ht
          cases h
          refine Done.same hs (u := .int .i64 s.size) ?_ rfl
          rw [hexec (Builtin.len_ tys 0 #[.string s]) (fun _ _ _ => True) (fun ty cs => by simp [builtin, Builtin.len_])]
          simp [Builtin.len_, ht0, run_underlying (qM ht), goInt]
        · cases h
      · cases h
  · match us, hall with
    | [u], hall =>
      have hu : u = .slice none 0 0 := hall.1
      subst hu
      split at h
      · rename_i t0 ht0
        split at h
        · rename_i ht
          cases h
          obtain ⟨e, he⟩ := Option.isSome_iff_exists.1 ht
          refine Done.same hs (u := .int .i64 0) ?_ rfl
          rw [hexec (Builtin.len_ tys 0 #[.slice none 0 0]) (fun _ _ _ => True) (fun ty cs => by simp [builtin, Builtin.len_])]
          simp [Builtin.len_, ht0, run_underlying (xV he), goInt]
        · cases h
      · cases h
  · rename_i id off n esz
    match us, hall with
    | [u], hall =>
      obtain ⟨l, a, cap, hl, hu, _⟩ := hall.1
      subst hu
      split at h
      · rename_i t0 ht0
        split at h
        · rename_i ht
          cases h
          obtain ⟨e, he⟩ := Option.isSome_iff_exists.1 ht
          refine Done.same hs (u := .int .i64 n) ?_ rfl
          rw [hexec (Builtin.len_ tys 0 #[.slice a n cap]) (fun _ _ _ => True) (fun ty cs => by simp [builtin, Builtin.len_])]
          simp [Builtin.len_, ht0, run_underlying (xV he), goInt]
        · cases h
      · cases h
  ·
    rename_i s x
    match us, hall with
    | [su, xu], hall =>
      split at h
      · rename_i t0 t1 ht0 ht1
        split at h
        · rename_i e he
          split at h
          · rename_i esz bytes z hsz hby hz
            split at h
            · rename_i hc
              obtain ⟨β', u, w', h1, h2, h3, h4, h5⟩ := K9 (P := P) (w := w) (ty := 0) hs he hsz hby hz hc.1 hc.2.1 hc.2.2 hall.1 hall.2.1 h
              refine ⟨β', u, w', .inl ?_, h2, h3, h4, h5⟩
              have happ : ∀ ty, Builtin.append_ tys ty #[su, xu] = Builtin.append_ #[t0, t1] 0 #[su, xu] := by
                intro ty
                simp only [Builtin.append_, ht0, ht1, List.getElem?_toArray, List.getElem?_cons_zero, List.getElem?_cons_succ]
              rw [hexec (Builtin.append_ #[t0, t1] 0 #[su, xu]) (fun _ _ _ => True) (fun ty cs => by simp only [builtin, happ])]
              rw [h1]
              rfl
            · cases h
          · cases h
        · cases h
      · cases h
  ·
    rename_i d x
    match us, hall with
    | [du, xu], hall =>
      split at h
      · rename_i t0 ht0
        split at h
        · rename_i e he
          split at h
          · rename_i esz hsz
            split at h
            · rename_i n new hca
              obtain ⟨u, w', h1, h2, h3, h4⟩ := zdl (P := P) (w := w) (t1 := 0) (ty := 0) hs he hsz hall.1 hall.2.1 hca h
              refine ⟨β, u, w', .inl ?_, Le.refl β, h2, h3, h4⟩
              have happ : ∀ ty, Builtin.copy_ tys ty #[du, xu] = Builtin.copy_ #[t0, 0] 0 #[du, xu] := by
                intro ty
                simp only [Builtin.copy_, ht0, List.getElem?_toArray, List.getElem?_cons_zero, List.getElem?_cons_succ]
              rw [hexec (Builtin.copy_ #[t0, 0] 0 #[du, xu]) (fun _ _ _ => True) (fun ty cs => by simp only [builtin, happ])]
              rw [h1]
              rfl
            · cases h
          · cases h
        · cases h
      · cases h
  ·
    split at h
    · rename_i x r hargsAV
      have ha := WU hall hargsAV
      match us, ha with
      | xu :: ru, ha =>
        cases hf : q9 true x r with
        | none => rw [hf] at h; cases h
        | some z =>
          rw [hf] at h
          cases h
          obtain ⟨u, n, h1, h2⟩ := Yz (P := P) true r ru x z xu w ha.1 ha.2 hf
          refine Done.drew n hs (u := u) ?_ h2
          rw [hexec (Builtin.max_ tys 0 (xu :: ru).toArray) (fun _ _ _ => True) (fun ty cs => by simp [builtin, Builtin.max_])]
          simp only [if_true] at h1
          simp [Builtin.max_, h1]
    · cases h
  · split at h
    · rename_i x r hargsAV
      have ha := WU hall hargsAV
      match us, ha with
      | xu :: ru, ha =>
        cases hf : q9 false x r with
        | none => rw [hf] at h; cases h
        | some z =>
          rw [hf] at h
          cases h
          obtain ⟨u, n, h1, h2⟩ := Yz (P := P) false r ru x z xu w ha.1 ha.2 hf
          refine Done.drew n hs (u := u) ?_ h2
          rw [hexec (Builtin.min_ tys 0 (xu :: ru).toArray) (fun _ _ _ => True) (fun ty cs => by simp [builtin, Builtin.min_])]
          simp only [Bool.false_eq_true, if_false] at h1
          simp [Builtin.min_, h1]
    · cases h
  · cases h
end
end Go.Ab
namespace Go.Ab
open Classical in
noncomputable def YA (β:Emb) (H:Heap) (b:Nat) (o:Obj):Obj:=
 if Owns β H b then o else if ∃ i l,β i=some l∧(H.f i).isGone=false∧l.blk=b then (match o with|.cells c e _=>.cells c e (0,c.size)|_=>.cells #[] 0 (0,0)) else .cells #[] 0 (0,0)
noncomputable def bare (β:Emb) (H:Heap) (w:World):World:={ w with heap:=w.heap.mapIdx (YA β H) }
theorem Ya {β:Emb} {H:Heap} {w:World} (b:Nat):(bare β H w).heap[b]?=(w.heap[b]?).map (YA β H b):=by
 simp only [bare,Array.getElem?_mapIdx]
theorem zbk {β : Emb} {H : Heap} {w : World} (hs : SR β H w) {b : Nat} (ho : Owns β H b) {o : Obj} (e : w.heap[b]? = some o) : Obj.clean o := by
  obtain ⟨i, l, h1, h2, rfl⟩ := ho
  have hr := hs.row i l h1
  cases hb : H.f i with
  | own cs =>
    rw [hb] at hr
    obtain ⟨ccs, t, fz, h3, _⟩ := hr
    rw [e] at h3
    cases h3
    trivial
  | mp kk ek m =>
    rw [hb] at hr
    obtain ⟨es, cl, h3, _⟩ := hr
    rw [e] at h3
    cases h3
    trivial
  | ro cs => rw [hb] at h2; cases h2
  | gone => rw [hb] at h2; cases h2
  | tab b o => rw [hb] at h2; cases h2
  | hole => rw [hb] at h2; cases h2
theorem Hid.bare {β:Emb} {H:Heap} {w:World} (hs:SR β H w):Hid (Owns β H) (Live β H) w.heap.size w (bare β H w):=by
 refine⟨rfl,rfl,rfl,rfl,by simp [Go.Ab.bare],Nat.le_refl _,fun b o e=>?_⟩;rw [Ya,e];simp only [Option.map_some,Option.some.injEq,YA]
 by_cases ho:Owns β H b
 ·rw [if_pos ho];exact .inl ⟨rfl,zbk hs ho e,.inl ho⟩
 ·rw [if_neg ho]
  split
  ·rename_i hx
   cases o with
   | cells c el fz=>exact .inr (.inl ⟨c,el,fz,rfl,rfl,hx,lt_of_some e⟩)
   | _=>exact .inr (.inr ⟨rfl,lt_of_some e⟩)
  ·exact .inr (.inr ⟨rfl,lt_of_some e⟩)
theorem SR.bare {β : Emb} {H : Heap} {w : World} (hs : SR β H w) (hn : wT H) : SR β H (bare β H w) := by
  refine ⟨hs.dom, hs.tot, fun i l e => ?_, hs.apart⟩
  have hr := hs.row i l e
  cases hb : H.f i with
  | gone => trivial
  | hole => rw [hb] at hr; exact hr.elim
  | tab b o => exact (hn i b o hb).elim
  | own cs =>
    rw [hb] at hr
    obtain ⟨ccs, t, fz, h1, h2⟩ := hr
    exact ⟨ccs, t, fz, by rw [Ya, h1]; simp only [Option.map_some, YA]; rw [if_pos ⟨i, l, e, by rw [hb]; rfl, rfl⟩], h2⟩
  | mp kk ek m =>
    rw [hb] at hr
    obtain ⟨es, cl, h1, h2⟩ := hr
    exact ⟨es, cl, by rw [Ya, h1]; simp only [Option.map_some, YA]; rw [if_pos ⟨i, l, e, by rw [hb]; rfl, rfl⟩], h2⟩
  | ro cs =>
    rw [hb] at hr
    obtain ⟨ccs, t, fz, h1, h2⟩ := hr
    by_cases ho : Owns β H l.blk
    · exact ⟨ccs, t, fz, by rw [Ya, h1]; simp only [Option.map_some, YA]; rw [if_pos ho], h2⟩
    · exact ⟨ccs, t, (0, ccs.size), by rw [Ya, h1]; simp only [Option.map_some, YA]; rw [if_neg ho, if_pos ⟨i, l, e, by rw [hb]; rfl, rfl⟩], h2⟩
theorem UD {P : Program} {o : Oper} {ev : Operand → TV} {H H' : Heap} {v : TV} (h : zM P ev o.op H = some (v, H')) {β : Emb} {a : Act} {w : World} (hs : SR β H w) (hv : ∀ x ∈ o.op.operands.toList, TVR β (ev x) (a.eval x)) :
    Done β H w ((execOp a.eval o).run P w) v H' := by
  cases hop : o.op with
  | move x =>
    rw [hop] at h hv
    simp only [zM] at h
    cases h
    exact Done.same hs (u := a.eval x) (by simp [execOp, hop]) (hv x (by simp [Op.operands]))
  | assign x =>
    rw [hop] at h hv
    simp only [zM] at h
    cases h
    exact Done.same hs (u := a.eval x) (by simp [execOp, hop]) (hv x (by simp [Op.operands]))
  | pick c x y =>
    rw [hop] at h hv
    simp only [zM] at h
    split at h
    · rename_i t ht
      cases h
      have hc := hv c (by simp [Op.operands])
      rw [ht] at hc
      have hc' : a.eval c = .bool t := hc
      refine Done.same hs (u := if t then a.eval x else a.eval y) (by simp [execOp, hop, hc', asBool]) ?_
      cases t
      · exact hv y (by simp [Op.operands])
      · exact hv x (by simp [Op.operands])
    · cases h
  | alloc e => rw [hop] at h hv; exact d_alloc e hop hs h
  | box e x => rw [hop] at h hv; exact d_box e x hop hs (hv x (by simp [Op.operands])) h
  | build t ps => rw [hop] at h hv; exact d_build t ps hop hs (fun x hx => hv x (by simpa [Op.operands] using hx)) h
  | buildSlice t l ps => rw [hop] at h hv; exact Qx t l ps hop hs (fun x hx => hv x (by simpa [Op.operands] using hx)) h
  | load t x => rw [hop] at h hv; exact d_load t x hop hs (hv x (by simp [Op.operands])) h
  | store t x y => rw [hop] at h hv; exact d_store t x y hop hs (hv x (by simp [Op.operands])) (hv y (by simp [Op.operands])) h
  | nilCheck x => rw [hop] at h hv; exact K4 x hop hs (hv x (by simp [Op.operands])) h
  | binOp op t x y t2 => rw [hop] at h hv; exact d_binOp op t t2 x y hop hs (hv x (by simp [Op.operands])) (hv y (by simp [Op.operands])) h
  | unOp op t x => rw [hop] at h hv; exact d_unOp op t x hop hs (hv x (by simp [Op.operands])) h
  | convert src dst x => rw [hop] at h hv; exact zbg src dst x hop hs (hv x (by simp [Op.operands])) h
  | makeFunc fn first captured =>
    rw [hop] at h hv
    cases fn <;> simp only [zM] at h <;> first
      | (cases h; done)
      | exact K5 _ first captured hop hs (fun x hx => hv x (by simp [Op.operands]; exact .inr (by simpa using hx))) (by simpa only [zM] using h)
  | makeSlice t l c => rw [hop] at h hv; exact JK t l c hop hs (hv l (by simp [Op.operands])) (hv c (by simp [Op.operands])) h
  | slice t x lo hi mx =>
    rw [hop] at h hv
    cases mx with
    | none => exact d_slice t x lo hi hop hs (hv x (by simp [Op.operands])) (fun y hy => hv y (by simp [Op.operands, hy])) (fun y hy => hv y (by simp [Op.operands, hy])) h
    | some m => simp [zM] at h
  | fieldAddr st x f => rw [hop] at h hv; exact JE st x f hop hs (hv x (by simp [Op.operands])) h
  | field t x f => rw [hop] at h hv; exact d_field t x f hop hs (hv x (by simp [Op.operands])) h
  | indexAddr t x i => rw [hop] at h hv; exact JG t x i hop hs (hv x (by simp [Op.operands])) (hv i (by simp [Op.operands])) h
  | index t x i => rw [hop] at h hv; exact d_index t x i hop hs (hv x (by simp [Op.operands])) (hv i (by simp [Op.operands])) h
  | extract x i => rw [hop] at h hv; exact zbf x i hop hs (hv x (by simp [Op.operands])) h
  | call c =>
    rw [hop] at h hv
    simp only [zM] at h
    cases hc : c.callee with
    | builtin b =>
      rw [hc] at h
      have hc2 : c = { callee := .builtin b, args := c.args, argTypes := c.argTypes } := by cases c; simp_all
      refine zbj b c.argTypes c.args (by rw [hop, hc2]) hs (fun x hx => hv x ?_) h
      simp [Op.operands, Call.operands, hc]
      simpa using hx
    | value f => rw [hc] at h; cases h
    | invoke r n => rw [hc] at h; cases h
  | makeInterface t x => rw [hop] at h hv; exact WS t x hop hs (hv x (by simp [Op.operands])) h
  | insert => rw [hop] at h; simp [zM] at h
  | ready => rw [hop] at h; simp [zM] at h
  | waits => rw [hop] at h; simp [zM] at h
  | sliceToArrayPointer => rw [hop] at h; simp [zM] at h
  | makeMap t r =>
    rw [hop] at h hv
    cases r with
    | none => exact zbh t hop hs h
    | some r => simp [zM] at h
  | makeChan => rw [hop] at h; simp [zM] at h
  | lookup t m x ok =>
    rw [hop] at h hv
    cases ok with
    | false => exact zdk t m x hop hs (hv m (by simp [Op.operands])) (hv x (by simp [Op.operands])) h
    | true => simp [zM] at h
  | mapUpdate t m x y => rw [hop] at h hv; exact JJ t m x y hop hs (hv m (by simp [Op.operands])) (hv x (by simp [Op.operands])) (hv y (by simp [Op.operands])) h
  | mapEntry => rw [hop] at h; simp [zM] at h
  | entryStore => rw [hop] at h; simp [zM] at h
  | range => rw [hop] at h; simp [zM] at h
  | next => rw [hop] at h; simp [zM] at h
  | entry => rw [hop] at h; simp [zM] at h
  | typeAssert => rw [hop] at h; simp [zM] at h
  | go => rw [hop] at h; simp [zM] at h
  | defer => rw [hop] at h; simp [zM] at h
  | panic => rw [hop] at h; simp [zM] at h
  | send => rw [hop] at h; simp [zM] at h
  | recv => rw [hop] at h; simp [zM] at h
  | select => rw [hop] at h; simp [zM] at h
def Lists (β:Emb) (H:Heap) (P:Program) (s:Sem Next) (w:World):Prop:=∀ r w',s.run P w=.ok r w'→∀ e∈s.events P w #[],uA (Owns β H) (Live β H) w.heap.size w'.heap.size e
theorem Lists.none {β:Emb} {H:Heap} {P:Program} {s:Sem Next} {w:World} (h:s.events P w #[]=#[]):Lists β H P s w:=fun r w' _ e he=>by rw [h] at he;simp at he
theorem Lists.of_plain {β:Emb} {H:Heap} {P:Program} {o:Oper} {a:Act} {w:World} {v:TV} {H':Heap} (hp:Plain P (execOp a.eval o)) (hs:SR β H w) (hn:wT H)
  (hd:∀ w,SR β H w→Done β H w ((execOp a.eval o).run P w) v H'):Lists β H P (execOp a.eval o) w:=by
 intro r w' hr e he;obtain⟨β',u,w1,hr1,_⟩:=hd _ (hs.bare hn);have hex:∃ x,(execOp a.eval o).run P (bare β H w)=.ok x w1:=by
  rcases hr1 with h1|⟨h1,_⟩
  ·exact⟨_,h1⟩
  ·exact⟨_,h1⟩
 obtain⟨x,hx⟩:=hex;obtain⟨w2,g1,_,_,g4⟩:=hp.lcl w _ (Hid.bare hs) x w1 hx;rw [hr] at g1
 cases g1
 exact g4 #[] (fun e he=>by simp at he) e he
end Go.Ab
namespace Go.Ab
variable {P:Program}
def Mute {α:Type} (s:Sem α):Prop:=∀ (P:Program) (w:World) (es:Array Event),s.events P w es=es
theorem Mute.pure {α:Type} (a:α):Mute (Pure.pure a:Sem α):=fun _ _ _=>rfl
theorem Mute.bind {α γ:Type} {s:Sem α} {f:α→Sem γ} (h:Mute s) (hf:∀ a,Mute (f a)):Mute (s >>= f):=fun P w es=>by
 rw [Sem.events_bind,h]
 cases s.run P w with
 | ok a w'=>exact hf a P w' es
 | halt x w'=>rfl
theorem zbl (q:Question):Mute (choose q):=fun P w es=>events_choose P w es q
theorem zbm (t:TypeId) (c:Array Value):Mute (newRow t c):=fun P w es=>by simp [newRow]
theorem Qz (a:Addr):Mute (markStringish a):=by
 unfold markStringish;refine Mute.bind (fun P w es=>events_shape P w es _) fun s=>?_
 split
 ·exact fun P w es=>events_freeze P w es _ _
 ·exact Mute.pure _
theorem uB {α:Type} {t:TypeId} {d:TypeDesc} {f:TypeDesc→Sem α} (h:P.underlying t=some d) (hf:Plain P (f d)):Plain P (underlying t >>= f):=by
 unfold underlying;refine .program ?_;show Plain P ((match P.underlying t with
  | some d=>(pure d:Sem TypeDesc)
  | none=>stuck "no such type") >>= f)
 rw [h];exact hf
theorem QA {α σ : Type} (f : α → σ → Sem (ForInStep σ)) (h : ∀ a b, Plain P (f a b)) : ∀ (l : List α) (b : σ), Plain P (forIn l b f)
  | [], b => by rw [List.forIn_nil]; exact .pure _
  | x :: l, b => by
    rw [List.forIn_cons]
    refine Plain.bind (h x b) fun r => ?_
    cases r with
    | done b => exact .pure _
    | yield b => exact QA f h l b
theorem Wu (x:Value):Plain P (Conv.bytesToString x):=by
 unfold Conv.bytesToString
 split
 ·exact .pure _
 ·refine Plain.bind (zD _ _) fun c=>Plain.bind ?_ fun s=>.pure _;rw [←Array.forIn_toList];refine QA _ (fun a b=>?_) _ _
  split
  ·exact .pure _
  ·exact .halt _
 ·exact .halt _
theorem QB (t:TypeId) (a b:Bool):Plain P (Op.equal t (.bool a) (.bool b)):=by
 unfold Op.equal;rw [show Op.maxDepth=9999+1 from rfl];unfold Op.equalIn;refine Plain.bind (zq _) fun d=>?_
 cases d<;>first|exact Plain.pure _|exact Plain.halt _
theorem JL (t:TypeId) (x:Value) (h:x=.nilIface∨∃ u p,x=.iface u p):Plain P (Op.equal t x .nilIface):=by
 unfold Op.equal;rw [show Op.maxDepth=9999+1 from rfl];unfold Op.equalIn;refine Plain.bind (zq _) fun d=>?_;rcases h with rfl|⟨u,p,rfl⟩<;>(cases d<;>first|exact Plain.pure _|exact Plain.halt _)
theorem YB (op:BinOp) (t:TypeId) (x y:Operand) (a b:Value) (h:(∃ k n,a=.int k n)∨(∃ k n,a=.float k n)∨(∃ s,a=.string s)∨(∃ s,a=.bool s)):Plain P (eqGuard op t x y a b):=by
 unfold eqGuard;rcases h with⟨k,n,rfl⟩|⟨k,n,rfl⟩|⟨s,rfl⟩|⟨s,rfl⟩<;>(dsimp only;split<;>first|exact Plain.pure _|(split<;>exact Plain.pure _))
theorem zbn (op:BinOp) (t:TypeId) (x:Operand) (c:Value) (a:Value) (h:a=.nilIface∨∃ u p,a=.iface u p):Plain P (eqGuard op t x (.const c) a .nilIface):=by
 unfold eqGuard;rcases h with rfl|⟨u,p,rfl⟩<;>(dsimp only;split<;>first|exact Plain.pure _|skip)
 all_goals (rw [Bool.or_true];exact Plain.pure _)
theorem JM {ev : Operand → TV} {H H' : Heap} {v : TV} {op : BinOp} {t t2 : TypeId} {x y : Operand} {β : Emb} {ρ : Operand → Value} (hc : ∀ c, y = .const c → ρ y = c) (h : zM P ev (.binOp op t x y t2) H = some (v, H')) (hx : TVR β (ev x) (ρ x)) (hy : TVR β (ev y) (ρ y)) :
    Plain P (eqGuard op t x y (ρ x) (ρ y)) ∧ Plain P (binOp op t (ρ x) (ρ y)) := by
  simp only [zM] at h
  split at h
  · rename_i a b ea eb
    rw [ea] at hx
    rw [eb] at hy
    cases hz : abin P op t a b with
    | none =>
      rw [hz, Option.none_or] at h
      cases hf : aifc P op t y a b with
      | none => rw [hf] at h; cases h
      | some z =>
        unfold aifc at hf
        split at hf <;> first | (cases hf; done) | skip
        rename_i c p
        have hx' := IfR.cases hx
        have hy' : ρ (.const c) = .nilIface := hy
        have hx2 : ρ x = .nilIface ∨ ∃ u p, ρ x = .iface u p := by
          rcases hx' with ⟨_, hx'⟩ | ⟨_, tt, pp, hx'⟩
          · exact .inl hx'
          · exact .inr ⟨tt, pp, hx'⟩
        rw [hy']
        refine ⟨zbn op t x c (ρ x) hx2, ?_⟩
        have hq := JL (P := P) t (ρ x) hx2
        rcases hx2 with e | ⟨u, p, e⟩ <;> (rw [e] at hq ⊢; cases op <;> first | exact Plain.halt _ | exact Plain.bind hq fun _ => .pure _)
    | some z =>
      unfold abin at hz
      split at hz
      · rename_i k n k' m
        have e1 : ρ x = .int k n := hx
        have e2 : ρ y = .int k' m := hy
        rw [e1, e2]
        refine ⟨YB _ _ _ _ _ _ (.inl ⟨_, _, rfl⟩), ?_⟩
        cases op <;> (simp only [binOp]; first | exact wD _ _ _ _ _ | (split <;> first | exact Plain.halt _ | exact xw _ _ _ _ | exact xU _ _ _ _ | exact xL _ _ _ _ | exact xY _ _ _))
      · rename_i k n k' m
        obtain ⟨b1, e1, _⟩ := hx
        obtain ⟨b2, e2, _⟩ := hy
        rw [e1, e2]
        refine ⟨YB _ _ _ _ _ _ (.inr (.inl ⟨_, _, rfl⟩)), ?_⟩
        cases op <;> (simp only [binOp]; (split <;> first | exact Plain.halt _ | exact xK _ _ _ _ | exact xX _ _ _ _))
      · rename_i s1 s2
        have e1 : ρ x = .string s1 := hx
        have e2 : ρ y = .string s2 := hy
        rw [e1, e2]
        refine ⟨YB _ _ _ _ _ _ (.inr (.inr (.inl ⟨_, rfl⟩))), ?_⟩
        cases op <;> (simp only [binOp]; exact wh _ _ _)
      · rename_i s1 s2
        have e1 : ρ x = .bool s1 := hx
        have e2 : ρ y = .bool s2 := hy
        rw [e1, e2]
        refine ⟨YB _ _ _ _ _ _ (.inr (.inr (.inr ⟨_, rfl⟩))), ?_⟩
        have hq := QB (P := P) t s1 s2
        cases op <;> (simp only [binOp]; first | exact Plain.halt _ | exact Plain.bind hq fun _ => .pure _)
      · cases hz
  · cases h
theorem zab {ev : Operand → TV} {H H' : Heap} {v : TV} {src dst : TypeId} {x : Operand} {β : Emb} {ρ : Operand → Value} (h : zM P ev (.convert src dst x) H = some (v, H')) (hx : TVR β (ev x) (ρ x)) :
    Plain P (convert src dst (ρ x)) ∨ ∀ w : World, (convert src dst (ρ x)).events P w #[] = #[] := by
  simp only [zM] at h
  split at h
  · rename_i s es
    rw [es] at hx
    have hx' : ρ x = .string s := hx
    rw [hx']
    split at h
    · cases h
    · rename_i hsr
      have hsr' : (P.underlying src).isSome = true := by
        cases hh : (P.underlying src).isSome with
        | true => rfl
        | false => exact absurd hh hsr
      obtain ⟨u, hu⟩ := Option.isSome_iff_exists.1 hsr'
      split at h
      · rename_i hd
        right
        intro w
        cases u <;> simp [convert, run_underlying hu, run_underlying (qM hd)]
      · split at h
        · rename_i e he
          split at h
          · rename_i hk
            right
            intro w
            have hd := xV he
            have hk' := uu hk
            have key : Mute (Conv.stringToBytes e s) := Mute.bind (zbl _) fun _ => Mute.bind (zbm _ _) fun _ => Mute.bind (Qz _) fun _ => Mute.pure _
            cases u <;> simp [convert, run_underlying hu, run_underlying hd, run_underlying hk', key P]
          · cases h
        · cases h
  · rename_i id off len esz es
    rw [es] at hx
    obtain ⟨l, a, cap, hl, hx', hlc, hor⟩ := hx
    rw [hx']
    split at h
    · rename_i e he
      split at h
      · rename_i hk
        obtain ⟨hk1, hk2, rfl⟩ := hk
        left
        unfold convert
        refine uB (xV he) (uB (qM hk2) ?_)
        dsimp only
        exact uB (uu hk1) (Wu _)
      · split at h
        · rename_i hk
          obtain ⟨rfl, hk1, hk2, hk3⟩ := hk
          right
          intro w
          cases a <;> simp [convert, run_underlying (xV he), run_underlying (uu hk1), Qz _ P]
        · cases h
    · cases h
  · rename_i a h1 h2 ea
    left
    rw [ea] at hx
    split at h
    · rename_i hsr
      obtain ⟨u, hu⟩ := Option.isSome_iff_exists.1 hsr
      cases hz : kZ P dst a with
      | none => rw [hz] at h; cases h
      | some z =>
        unfold convert
        refine uB hu ?_
        cases a <;> simp only [kZ] at hz <;> first | (cases hz; done) | skip
        case int q n =>
          have hx' : ρ x = .int q n := hx
          rw [hx']
          split at hz
          · rename_i k hk
            refine uB (uu hk) ?_
            cases u <;> exact wJ _ _
          · split at hz
            · rename_i k hk
              refine uB (Yx hk) ?_
              cases u <;> exact wz _ _
            · cases hz
        case flt s b =>
          obtain ⟨b', hx', hb⟩ := hx
          rw [hx']
          split at hz
          · rename_i k hk
            refine uB (uu hk) ?_
            cases u <;> exact wL _ _ _
          · split at hz
            · rename_i k hk
              refine uB (Yx hk) ?_
              cases u <;> exact wF _ _ _
            · cases hz
    · cases h
  · cases h
theorem xN {s:Sem Value} (h:Plain P s):Plain P (do pure (Next.value (←s))):=Plain.bind h fun _=>.pure _
theorem Ke {s:Sem Unit} (h:Plain P s):Plain P (do s;pure Next.skip):=Plain.bind h fun _=>.pure _
theorem JN {t:TypeId} {kk:IntKind} (ht:P.underlying t=some (.int kk)) (k:IntKind) (n:Int) (y:Value):Plain P (Op.equal t (.int k n) y):=by
 unfold Op.equal;rw [show Op.maxDepth=9999+1 from rfl];unfold Op.equalIn;refine uB ht ?_
 dsimp only
 split<;>first|exact Plain.pure _|exact Plain.halt _|(split<;>first|exact Plain.pure _|exact Plain.halt _)|(rename_i h2;cases h2)
theorem YX {t : TypeId} {kk : IntKind} (ht : P.underlying t = some (.int kk)) (k : IntKind) (n : Int) : ∀ (l : List MapEntry) (i : Nat), Plain P (Instr.findAsking t (.int k n) l i)
  | [], i => .pure _
  | e :: l, i => by
    unfold Instr.findAsking
    refine Plain.bind (JN ht k n _) fun b => ?_
    split
    · exact .pure _
    · exact YX ht k n l _
theorem WV {t:TypeId} {kk:IntKind} (ht:P.underlying t=some (.int kk)) (k:IntKind) (n:Int) (l:List MapEntry):Plain P (Instr.findKey t (.int k n) l):=by
 unfold Instr.findKey;refine uB ht ?_
 split
 ·exact .pure _
 ·exact YX ht k n l _
theorem Wh {t:TypeId} {kk:IntKind} (ht:P.underlying t=some (.int kk)) (k:IntKind) (n:Int) (b:Bool):Plain P (Instr.checkKey b 10000 t (.int k n)):=by
 rw [show 10000=9999+1 from rfl];unfold Instr.checkKey;exact uB ht (.pure _)
theorem JO (a b:Value):Plain P (Instr.keyThatStays a b):=by
 unfold Instr.keyThatStays
 split
 ·exact .pure _
 ·exact Plain.bind (zR _) fun _=>.pure _
theorem zbo {t kt et:TypeId} {kk:IntKind} (hm:P.underlying t=some (.map kt et)) (ht:P.underlying kt=some (.int kk)) (k:IntKind) (n:Int) (x:Value) (b:Bool):Plain P (Instr.lookup t x (.int k n) b):=by
 unfold Instr.lookup;refine uB hm ?_
 dsimp only
 repeat' (first|exact Plain.pure _|exact Plain.halt _|with_reducible exact Wh ht k n _|with_reducible exact WV ht k n _|with_reducible exact zQ _|with_reducible exact zw _|with_reducible exact zY _|(with_reducible refine Plain.bind ?_ (fun _=>?_))|dsimp only|split)
theorem QC {t kt et:TypeId} {kk:IntKind} (hm:P.underlying t=some (.map kt et)) (ht:P.underlying kt=some (.int kk)) (k:IntKind) (n:Int) (x y:Value):Plain P (Instr.mapUpdate t x (.int k n) y):=by
 unfold Instr.mapUpdate;refine uB hm ?_
 dsimp only
 split
 ·exact zt _
 ·refine Plain.bind (zQ _) fun o=>?_
  split
  ·refine Plain.bind (Wh ht k n _) fun _=>Plain.bind (WV ht k n _) fun r=>?_
   split
   ·exact Plain.bind (JO _ _) fun _=>.setObj trivial (.pure _)
   ·exact .setObj trivial (.pure _)
  ·exact .halt _
 ·exact .halt _
theorem zac {b:Builtin} {tys:Array TypeId} {ty:TypeId} {cs:Array Bool} {args:Array Value} (h:b=.append∨b=.len∨b=.copy∨b=.max∨b=.min):Plain P (builtin b tys ty cs args):=by
 rcases h with rfl|rfl|rfl|rfl|rfl
 ·exact xN (zbc _ _ _)
 ·exact xN (Xc _ _ _)
 ·exact xN (VO _ _ _)
 ·exact xN (pl_max _ _ _)
 ·exact xN (pl_min _ _ _)
theorem Qa {b:Builtin} {tys:Array TypeId} {args:List TV} {H:Heap} {r:TV × Heap} (h:vH P b tys args H=some r):b=.append∨b=.len∨b=.copy∨b=.max∨b=.min:=by
 unfold vH at h
 split at h<;>first|(cases h;done)|simp
theorem zad {o : Oper} {ev : Operand → TV} {H H' : Heap} {v : TV} (h : zM P ev o.op H = some (v, H')) {β : Emb} {a : Act} {w : World} (hs : SR β H w) (hn : wT H) (hv : ∀ x ∈ o.op.operands.toList, TVR β (ev x) (a.eval x)) :
    Lists β H P (execOp a.eval o) w := by
  have hd : ∀ w, SR β H w → Done β H w ((execOp a.eval o).run P w) v H' := fun w hs => UD h hs hv
  have pl : Plain P (execOp a.eval o) → Lists β H P (execOp a.eval o) w := fun hp => Lists.of_plain hp hs hn hd
  cases hop : o.op with
  | move x => exact .none (by simp [execOp, hop])
  | assign x => exact .none (by simp [execOp, hop])
  | pick c x y => refine pl ?_; unfold execOp; rw [hop]; exact Plain.bind (yD _) fun _ => .pure _
  | alloc e => refine pl ?_; unfold execOp; rw [hop]; exact xN (yT _ _ _)
  | box e x => refine pl ?_; unfold execOp; rw [hop]; exact xN (xA _ _)
  | build t ps => refine pl ?_; unfold execOp; rw [hop]; exact xN (yX _ _)
  | buildSlice t l ps => refine pl ?_; unfold execOp; rw [hop]; exact xN (yl _ _ _)
  | load t x => refine pl ?_; unfold execOp; rw [hop]; exact xN (yR _ _)
  | store t x y => refine pl ?_; unfold execOp; rw [hop]; exact Ke (yK _ _ _)
  | nilCheck x =>
    rw [hop] at h hv
    have hx := hv x (by simp [Op.operands])
    simp only [zM] at h
    split at h
    · rename_i i f he
      rw [he] at hx
      obtain ⟨l, hl, hp⟩ := hx
      exact .none (by simp [execOp, hop, hp, ptrV])
    · rename_i f c he
      rw [he] at hx
      obtain ⟨us, hp, _⟩ := hx
      exact .none (by simp [execOp, hop, hp])
    · cases h
  | binOp op t x y t2 =>
    rw [hop] at h hv
    obtain ⟨h1, h2⟩ := JM (ρ := a.eval) (fun c hc => by rw [hc]; rfl) h (hv x (by simp [Op.operands])) (hv y (by simp [Op.operands]))
    refine pl ?_; unfold execOp; rw [hop]; exact xN (Plain.bind h1 fun _ => h2)
  | unOp op t x => refine pl ?_; unfold execOp; rw [hop]; exact xN (vR _ _)
  | convert src dst x =>
    rw [hop] at h hv
    rcases zab h (hv x (by simp [Op.operands])) with h1 | h1
    · refine pl ?_; unfold execOp; rw [hop]; exact xN h1
    · refine .none ?_
      unfold execOp
      rw [hop]
      show (do pure (Next.value (← convert src dst (a.eval x)))).events P w #[] = #[]
      rw [Sem.events_bind, h1]
      cases (convert src dst (a.eval x)).run P w <;> rfl
  | makeFunc fn first captured => refine pl ?_; unfold execOp; rw [hop]; exact xN (xk _ _ _)
  | makeSlice t l c => refine pl ?_; unfold execOp; rw [hop]; exact xN (yE _ _ _)
  | slice t x lo hi mx => refine pl ?_; unfold execOp; rw [hop]; exact xN (yZ _ _ _ _ _)
  | fieldAddr st x f =>
    rw [hop] at h hv
    have hx := hv x (by simp [Op.operands])
    simp only [zM] at h
    split at h
    · rename_i id off fd he hf
      split at h
      · rename_i hz
        rw [he] at hx
        obtain ⟨l, hl, hp⟩ := hx
        cases hfs : vX P st with
        | none => rw [hfs] at hf; cases hf
        | some fs =>
          rw [hfs] at hf
          obtain ⟨a, hu, rfl⟩ := jY hfs
          simp at hf
          cases hsz : tsz P fd.type with
          | none => rw [hsz] at hz; cases hz
          | some n =>
            rw [hsz] at hz
            simp at hz
            exact .none (by simp [execOp, hop, Instr.fieldAt, run_underlying hu, hf, hp, ptrV, Instr.sureAddr, fieldPlace, wm hsz, Nat.ne_of_gt hz])
      · cases h
    · cases h
  | field t x f => refine pl ?_; unfold execOp; rw [hop]; exact xN (xD _ _ _)
  | indexAddr t x i => refine pl ?_; unfold execOp; rw [hop]; exact xN (y8 _ _ _)
  | index t x i => refine pl ?_; unfold execOp; rw [hop]; exact xN (xJ _ _ _)
  | extract x i => refine pl ?_; unfold execOp; rw [hop]; exact xN (xg _ _)
  | makeInterface t x => refine pl ?_; unfold execOp; rw [hop]; exact xN (yF _ _)
  | makeMap t r => refine pl ?_; unfold execOp; rw [hop]; exact xN (xy _ _)
  | call c =>
    rw [hop] at h hv
    simp only [zM] at h
    cases hc : c.callee with
    | builtin b =>
      rw [hc] at h
      refine pl ?_
      unfold execOp
      rw [hop]
      simp only [resolve, hc]
      exact zac (Qa h)
    | value f => rw [hc] at h; cases h
    | invoke r n => rw [hc] at h; cases h
  | lookup t m x ok =>
    rw [hop] at h hv
    cases ok with
    | true => simp [zM] at h
    | false =>
      simp only [zM] at h
      split at h
      · rename_i id k a1 kk ek em ex ht
        obtain ⟨kt, et, g1, g2, _, _⟩ := kz ht
        have hx := hv x (by simp [Op.operands])
        rw [ex] at hx
        have hx' : a.eval x = .int k a1 := hx
        refine pl ?_
        unfold execOp
        rw [hop]
        dsimp only
        rw [hx']
        exact xN (zbo g1 g2 _ _ _ _)
      · cases h
  | mapUpdate t m x y =>
    rw [hop] at h hv
    simp only [zM] at h
    split at h
    · rename_i id k a1 k2 b kk ek em ex ey ht
      obtain ⟨kt, et, g1, g2, _, _⟩ := kz ht
      have hx := hv x (by simp [Op.operands])
      rw [ex] at hx
      have hx' : a.eval x = .int k a1 := hx
      refine pl ?_
      unfold execOp
      rw [hop]
      dsimp only
      rw [hx']
      exact Ke (QC g1 g2 _ _ _ _)
    · cases h
  | insert => rw [hop] at h; simp [zM] at h
  | ready => rw [hop] at h; simp [zM] at h
  | waits => rw [hop] at h; simp [zM] at h
  | sliceToArrayPointer => rw [hop] at h; simp [zM] at h
  | makeChan => rw [hop] at h; simp [zM] at h
  | mapEntry => rw [hop] at h; simp [zM] at h
  | entryStore => rw [hop] at h; simp [zM] at h
  | range => rw [hop] at h; simp [zM] at h
  | next => rw [hop] at h; simp [zM] at h
  | entry => rw [hop] at h; simp [zM] at h
  | typeAssert => rw [hop] at h; simp [zM] at h
  | go => rw [hop] at h; simp [zM] at h
  | defer => rw [hop] at h; simp [zM] at h
  | panic => rw [hop] at h; simp [zM] at h
  | send => rw [hop] at h; simp [zM] at h
  | recv => rw [hop] at h; simp [zM] at h
  | select => rw [hop] at h; simp [zM] at h
end Go.Ab
namespace Go.Ab
open Go.Conc
abbrev Cont:=(Nat→Prop)→Goroutine→World→Prop
structure Keep (R F:Nat→Prop) (w w1:World):Prop where
 os:w1.os=w.os
 tape:w1.tape=w.tape
 output:w1.output=w.output
 size:w.heap.size≤w1.heap.size
 block:∀ b,F b∨R b→w1.heap[b]?=w.heap[b]?
theorem Keep.refl (R F:Nat→Prop) (w:World):Keep R F w w:=⟨rfl,rfl,rfl,Nat.le_refl _,fun _ _=>rfl⟩
theorem Keep.trans {R F:Nat→Prop} {a b c:World} (h:Keep R F a b) (k:Keep R F b c):Keep R F a c:=
 ⟨k.os.trans h.os,k.tape.trans h.tape,k.output.trans h.output,Nat.le_trans h.size k.size,fun b hb=>(k.block b hb).trans (h.block b hb)⟩
theorem Keep.mono {R F F':Nat→Prop} {a b:World} (hf:∀ b,F b→F' b) (h:Keep R F' a b):Keep R F a b:=
 ⟨h.os,h.tape,h.output,h.size,fun b hb=>h.block b (hb.imp (hf b) id)⟩
def EvOk (R F:Nat→Prop) (n m:Nat) (e:Event):Prop:=
 match e.loc with
 | .cell a=>a.block<m∧(n≤a.block∨(F a.block∧¬R a.block)∨(R a.block∧e.write=false))
 | .obj r=>r<m∧(n≤r∨(F r∧¬R r)∨(R r∧e.write=false))
 | .mark .noRoom=>True
 | .mark (.extern _)=>True
 | _=>False
theorem EvOk.mono {R F F':Nat→Prop} {n m:Nat} {e:Event} (hf:∀ b,F b→F' b) (h:EvOk R F n m e):EvOk R F' n m e:=by
 obtain⟨loc,wr,sy⟩:=e
 cases loc with
 | cell a=>exact⟨h.1,h.2.imp id (Or.imp (fun x=>⟨hf _ x.1,x.2⟩) id)⟩
 | obj r=>exact⟨h.1,h.2.imp id (Or.imp (fun x=>⟨hf _ x.1,x.2⟩) id)⟩
 | output=>exact h
 | goroutines=>exact h
 | mark m=>cases m<;>exact h
structure Does (R F:Nat→Prop) (w w':World) (es:Array Event) (F':Nat→Prop):Prop where
 os:w'.os=w.os
 tape:w'.tape=w.tape
 output:w'.output=w.output
 size:w.heap.size≤w'.heap.size
 block:∀ b,b<w.heap.size→¬(F b∧¬R b)→w'.heap[b]?=w.heap[b]?
 evs:∀ e∈es,EvOk R F w.heap.size w'.heap.size e
 rng:∀ b,F' b→b<w.heap.size→F b
 lt:∀ b,F' b→F b∨b<w'.heap.size
theorem Does.still {R F:Nat→Prop} {w:World}:Does R F w w #[] F:=
 ⟨rfl,rfl,rfl,Nat.le_refl _,fun _ _ _=>rfl,fun e he=>by simp at he,fun _ h _=>h,fun _ h=>.inl h⟩
theorem Does.drew {R F:Nat→Prop} {w:World} (n:Nat):Does R F w { w with drawn:=n } #[] F:=
 ⟨rfl,rfl,rfl,Nat.le_refl _,fun _ _ _=>rfl,fun e he=>by simp at he,fun _ h _=>h,fun _ h=>.inl h⟩
def Closed (P:Program) (main:Bool) (R:Nat→Prop) (T:Cont):Prop:=
 ∀ F g w,g.status=.running→(∀ w1,Keep R F w w1→∃ g' w' es F',stepG P main g w1=.go g' w' es∧g'.status=.running∧Does R F w1 w' es F'∧T F' g' w')→T F g w
class Cls (P:Program) where
 main:Bool
 R:Nat→Prop
 ok:Cont→Prop
 closed:∀ T,ok T→Closed P main R T
 keep:∀ T,ok T→∀ F g w w1,T F g w→Keep R F w w1→T F g w1
 mono:∀ T,ok T→∀ (F F':Nat→Prop) g w,(∀ b,F b→F' b)→T F g w→T F' g w
structure In (R:Nat→Prop) (β:Emb) (H:Heap) (w:World):Prop where
 own:∀ b,Owns β H b→¬R b
 tabs:wT H
 low:∀ b,R b→b<w.heap.size
theorem Owns.live {β:Emb} {H:Heap} {b:Nat} (h:Owns β H b):Live β H b:=let ⟨i,l,e,ho,hl⟩:=h;⟨i,l,e,vT ho,hl⟩
theorem SR.live_lt {β:Emb} {H:Heap} {w:World} (h:SR β H w) {b:Nat} (hb:Live β H b):b<w.heap.size:=let ⟨i,l,e,hg,hl⟩:=hb;hl▸(h.row i l e).blk_lt hg
theorem In.step {R:Nat→Prop} {β β':Emb} {H H':Heap} {w w':World} (h:In R β H w) (hf:Fr β H w β' H' w'):In R β' H' w':=
 ⟨fun b hb hr=>h.own b (hf.owns b (h.low b hr) hb) hr,hf.tabs h.tabs,fun b hr=>Nat.lt_of_lt_of_le (h.low b hr) hf.size⟩
theorem RowR.same {β:Emb} {w w':World} {l:Loc} {b:Blk} (hw:b.isGone=false→w'.heap[l.blk]?=w.heap[l.blk]?) (hr:RowR β w l b):RowR β w' l b:=RowR.mono (Le.refl β) hw hr
theorem SR.keep {R:Nat→Prop} {β:Emb} {H:Heap} {w w1:World} (h:SR β H w) (k:Keep R (Live β H) w w1):SR β H w1:=
 ⟨h.dom,h.tot,fun i l e=>(h.row i l e).same fun hg=>k.block _ (.inl ⟨i,l,e,hg,rfl⟩),h.apart⟩
theorem In.keep {R F:Nat→Prop} {β:Emb} {H:Heap} {w w1:World} (h:In R β H w) (k:Keep R F w w1):In R β H w1:=⟨h.own,h.tabs,fun b hr=>Nat.lt_of_lt_of_le (h.low b hr) k.size⟩
theorem EvOk.of_touch {R:Nat→Prop} {β:Emb} {H:Heap} {w:World} (hi:In R β H w) {m:Nat} {e:Event} (h:uA (Owns β H) (Live β H) w.heap.size m e):EvOk R (Live β H) w.heap.size m e:=by
 have key:∀ b wr,(Owns β H b∨w.heap.size≤b∨(Live β H b∧wr=false))→(w.heap.size≤b∨(Live β H b∧¬R b)∨(R b∧wr=false)):=by
  rintro b wr (h|h|⟨h1,h2⟩)
  ·exact .inr (.inl ⟨h.live,hi.own b h⟩)
  ·exact .inl h
  ·by_cases hr:R b
   ·exact .inr (.inr ⟨hr,h2⟩)
   ·exact .inr (.inl ⟨h1,hr⟩)
 obtain⟨loc,wr,sy⟩:=e
 cases loc with
 | cell a=>exact⟨h.1,key _ _ h.2⟩
 | obj r=>exact⟨h.1,key _ _ h.2⟩
 | output=>exact h.elim
 | goroutines=>exact h.elim
 | mark m=>cases m<;>first|exact h.elim|trivial
theorem Does.of {R:Nat→Prop} {β β':Emb} {H H':Heap} {w w':World} {es:Array Event} (hi:In R β H w) (hs':SR β' H' w') (hf:Fr β H w β' H' w') (he:∀ e∈es,uA (Owns β H) (Live β H) w.heap.size w'.heap.size e) :
  Does R (Live β H) w w' es (Live β' H'):=
 ⟨hf.os,hf.tape,hf.output,hf.size,fun b hb hn=>hf.block b hb fun ho=>hn ⟨ho.live,hi.own b ho⟩,fun e hm=>.of_touch hi (he e hm),fun b hb hl=>hf.rng b hl hb,fun b hb=>.inr (hs'.live_lt hb)⟩
structure FrC (β:Emb) (H:Heap) (w:World) (β':Emb) (H':Heap) (w':World):Prop where
 size:w.heap.size≤w'.heap.size
 owns:∀ b,b<w.heap.size→Owns β' H' b→Owns β H b
 rng:∀ b,b<w.heap.size→Live β' H' b→Live β H b
 tabs:wT H→wT H'
theorem Fr.far {β β':Emb} {H H':Heap} {w w':World} (h:Fr β H w β' H' w'):FrC β H w β' H' w':=⟨h.size,h.owns,h.rng,h.tabs⟩
theorem FrC.refl (β:Emb) (H:Heap) (w:World):FrC β H w β H w:=(Fr.refl β H w).far
theorem FrC.draw {β:Emb} {H:Heap} {w:World} (n:Nat):FrC β H w β H { w with drawn:=n }:=(Fr.draw n).far
theorem FrC.grew {β:Emb} {H:Heap} {w w1:World} (h:w.heap.size≤w1.heap.size):FrC β H w β H w1:=⟨h,fun _ _ h=>h,fun _ _ h=>h,id⟩
theorem FrC.trans {β β' β'':Emb} {H H' H'':Heap} {w w' w'':World} (h:FrC β H w β' H' w') (k:FrC β' H' w' β'' H'' w''):FrC β H w β'' H'' w'':=
 ⟨Nat.le_trans h.size k.size,fun b hb ho=>h.owns b hb (k.owns b (Nat.lt_of_lt_of_le hb h.size) ho),fun b hb ho=>h.rng b hb (k.rng b (Nat.lt_of_lt_of_le hb h.size) ho),fun hn=>k.tabs (h.tabs hn)⟩
theorem In.far {R:Nat→Prop} {β β':Emb} {H H':Heap} {w w':World} (h:In R β H w) (hf:FrC β H w β' H' w'):In R β' H' w':=
 ⟨fun b hb hr=>h.own b (hf.owns b (h.low b hr) hb) hr,hf.tabs h.tabs,fun b hr=>Nat.lt_of_lt_of_le (h.low b hr) hf.size⟩
end Go.Ab
namespace Go.Ab
open Go.Conc
structure SRI (P:Program) [Cls P] (β:Emb) (H:Heap) (w:World):Prop where
 sr:SR β H w
 inn:In (Cls.R P) β H w
section
variable {P:Program} [Cls P]
theorem SRI.draw {β:Emb} {H:Heap} {w:World} (n:Nat) (h:SRI P β H w):SRI P β H { w with drawn:=n }:=⟨h.sr.draw n,⟨h.inn.own,h.inn.tabs,h.inn.low⟩⟩
theorem SRI.keep {β:Emb} {H:Heap} {w w1:World} (h:SRI P β H w) (k:Keep (Cls.R P) (Live β H) w w1):SRI P β H w1:=⟨h.sr.keep k,h.inn.keep k⟩
theorem SRI.step {β β':Emb} {H H':Heap} {w w':World} (h:SRI P β H w) (hs:SR β' H' w') (hf:Fr β H w β' H' w'):SRI P β' H' w':=⟨hs,h.inn.step hf⟩
theorem SRI.live {β:Emb} {H:Heap} {w:World} (h:SRI P β H w):∀ b,Live β H b→b<w.heap.size:=fun b hb=>h.sr.live_lt hb
theorem go_still {T:Cont} (hT:Cls.ok P T) {β:Emb} {H:Heap} {w:World} (hs:SRI P β H w) {g g':Goroutine} (hr:g.status=.running) (hr':g'.status=.running) (hst:∀ w,stepG P (Cls.main P) g w=.go g' w #[])
  (h:∀ w',w.heap.size≤w'.heap.size→SRI P β H w'→T (Live β H) g' w'):T (Live β H) g w:=
 Cls.closed T hT _ _ _ hr fun w1 hk=>⟨g',w1,#[],Live β H,hst w1,hr',Does.still,h w1 hk.size (hs.keep hk)⟩
theorem go_step {T:Cont} (hT:Cls.ok P T) {F:Nat→Prop} {w:World} {g g':Goroutine} (hr:g.status=.running) (hr':g'.status=.running) (hst:∀ w,stepG P (Cls.main P) g w=.go g' w #[]) (h:T F g' w):T F g w:=
 Cls.closed T hT _ _ _ hr fun w1 hk=>⟨g',w1,#[],F,hst w1,hr',Does.still,Cls.keep T hT _ _ _ _ h hk⟩
def VT (P:Program) [Cls P] (β:Emb) (H:Heap) (w:World) (s:Sem Next) (v:TV) (H':Heap):Prop:=
 ∃ β' u w',(s.run P w=.ok (.value u) w'∨(s.run P w=.ok .skip w'∧u=undef))∧Le β β'∧SR β' H' w'∧TVR β' v u∧Fr β H w β' H' w'∧∀ e∈s.events P w #[],uA (Owns β H) (Live β H) w.heap.size w'.heap.size e
def Behind (P:Program) [Cls P] (T:Cont) (β:Emb) (H:Heap) (w:World) (r:TV) (H2:Heap) (c:Frame) (cs:List Frame):Prop:=
 ∀ β2 rv w2,Le β β2→SRI P β2 H2 w2→TVR β2 r rv→FrC β H w β2 H2 w2→T (Live β2 H2) (G (c.finish rv) cs) w2
def Ok (P : Program) [Cls P] (f : FuncId) (args : List TV) (H : Heap) (r : TV) (H2 : Heap) : Prop :=
  ∀ T, Cls.ok P T → ∀ β us w, SRI P β H w → All2 (TVR β) args us →
    match (callFunc f us.toArray).run P w with
    | .ok (.enter g cargs) w1 => w1 = w ∧ (callFunc f us.toArray).events P w #[] = #[] ∧ ∀ c cs, Behind P T β H w r H2 c cs → T (Live β H) (G (Frame.enter P g cargs .normal) (c :: cs)) w
    | .ok (.value v) w1 => VT P β H w (callFunc f us.toArray) r H2
    | _ => False
def je (P : Program) [Cls P] (o : Oper) (ev : Operand → TV) (H : Heap) (v : TV) (H' : Heap) : Prop :=
  ∀ T, Cls.ok P T → ∀ β (a : Act) w, SRI P β H w → (∀ x ∈ o.op.operands.toList, TVR β (ev x) (a.eval x)) →
    ∀ (b : Frame) (ops : Array Oper) (i : Nat) (rest : List Nat) (k : List Item) (cs : List Frame), ops[i]? = some o → Region.wanted o (yielded ops a.tmps) = true → b.kind ≠ .early →
    (∀ β' u w', Le β β' → SRI P β' H' w' → TVR β' v u → FrC β H w β' H' w' → T (Live β' H') (G (b.at (a.put o.dst u) (.inRegion ops rest :: k)) cs) w') →
    T (Live β H) (G (b.at a (.inRegion ops (i :: rest) :: k)) cs) w
theorem QD {T:Cont} (hT:Cls.ok P T) {o:Oper} {H H':Heap} {v:TV} {β:Emb} {a:Act} {w w1:World} (hk:Keep (Cls.R P) (Live β H) w w1) (hs:SRI P β H w1) {b:Frame} {ops:Array Oper} {i:Nat} {rest:List Nat} {k:List Item} {cs:List Frame} (ho:ops[i]?=some o) (hw:Region.wanted o (yielded ops a.tmps)=true) (hb:b.kind≠.early)
  (hK:∀ β' u w',Le β β'→SRI P β' H' w'→TVR β' v u→FrC β H w β' H' w'→T (Live β' H') (G (b.at (a.put o.dst u) (.inRegion ops rest::k)) cs) w') (h:VT P β H w1 (execOp a.eval o) v H') :
  ∃ g' w' es F',stepG P (Cls.main P) (G (b.at a (.inRegion ops (i::rest)::k)) cs) w1=.go g' w' es∧g'.status=.running∧Does (Cls.R P) (Live β H) w1 w' es F'∧T F' g' w':=by
 obtain⟨β',u,w',hr,h1,h2,h3,h4,h5⟩:=h;have hd:Does (Cls.R P) (Live β H) w1 w' (listed P b.fn a o w1) (Live β' H'):=Does.of hs.inn h2 h4 fun e he=>h5 e (mem_listed he);have hc:=hK β' u w' h1 (hs.step h2 h4) h3 ((FrC.grew hk.size).trans h4.far);rcases hr with hr|⟨hr,rfl⟩
 ·exact⟨_,_,_,_,stepG_value ho hw hb hr,rfl,hd,hc⟩
 ·exact⟨_,_,_,_,stepG_none ho hw hb hr,rfl,hd,hc⟩
theorem je.of_one {o:Oper} {ev:Operand→TV} {H H':Heap} {v:TV}
  (h:∀ β (a:Act) w,SRI P β H w→(∀ x∈o.op.operands.toList,TVR β (ev x) (a.eval x))→VT P β H w (execOp a.eval o) v H'):je P o ev H v H':=by
 intro T hT β a w hs hv b ops i rest k cs ho hw hb hK;exact Cls.closed T hT _ _ _ rfl fun w1 hk=>QD hT hk (hs.keep hk) ho hw hb hK (h β a w1 (hs.keep hk) hv)
theorem jg {o:Oper} {ev:Operand→TV} {H H':Heap} {v:TV} (h:zM P ev o.op H=some (v,H')):je P o ev H v H':=by
 refine je.of_one fun β a w hs hv=>?_;obtain⟨β',u,w',hr,h1,h2,h3,h4⟩:=UD h hs.sr hv;refine⟨β',u,w',hr,h1,h2,h3,h4,?_⟩;have hl:=zad h hs.sr hs.inn.tabs hv;rcases hr with hr|⟨hr,_⟩
 ·exact hl _ _ hr
 ·exact hl _ _ hr
end
theorem All2.of_map {γ α δ:Type} {R:α→δ→Prop} {f:γ→α} {g:γ→δ}:∀ (l:List γ),(∀ x∈l,R (f x) (g x))→All2 R (l.map f) (l.map g)
 | [],_=>trivial
 | x::l,h=>⟨h x (by simp),All2.of_map l fun y hy=>h y (by simp [hy])⟩
section
variable {P:Program} [Cls P]
theorem zae {o : Oper} {ev : Operand → TV} {H H' : Heap} {v : TV} {c : Call} {f : Operand} {g : FuncId} {caps : List (Nat × Nat)} (hop : o.op = .call c) (hc : c.callee = .value f)
    (hf : ev f = .v (.fn g caps)) (h : Ok P g (c.args.toList.map ev ++ caps.map fun p => TV.v (.ptr p.1 p.2)) H v H') : je P o ev H v H' := by
  intro T hT β a w hs hv b ops i rest k cs ho hw hb hK
  rw [hop] at hv
  have hfv := hv f (by simp [Op.operands, Call.operands, hc])
  rw [hf] at hfv
  obtain ⟨us, hfe, hcap⟩ := hfv
  have hargs : All2 (TVR β) (c.args.toList.map ev) (c.args.toList.map a.eval) :=
    All2.of_map _ fun x hx => hv x (by simp [Op.operands, Call.operands, hc]; exact .inr (by simpa using hx))
  have hcaps : All2 (TVR β) (caps.map fun p => TV.v (.ptr p.1 p.2)) us := by
    have : ∀ (cs : List (Nat × Nat)) (us : List Value), All2 (fun (c : Nat × Nat) u => ∃ l, β c.1 = some l ∧ u = ptrV l c.2) cs us → All2 (TVR β) (cs.map fun p => TV.v (.ptr p.1 p.2)) us := by
      intro cs
      induction cs with
      | nil => intro us h; cases us <;> simp_all [All2]
      | cons x cs ih => intro us h; cases us with
        | nil => exact h.elim
        | cons u us => exact ⟨h.1, ih us h.2⟩
    exact this caps us hcap
  have hall := hargs.append hcaps
  refine Cls.closed T hT _ _ _ rfl fun w1 hk => ?_
  have hs1 := hs.keep hk
  have key := h T hT β _ w1 hs1 hall
  have e1 : c.args.map a.eval ++ us.toArray = (c.args.toList.map a.eval ++ us).toArray := Array.ext' (by simp)
  have hexec : execOp a.eval o = callFunc g (c.args.toList.map a.eval ++ us).toArray := by
    unfold execOp
    rw [hop]
    simp only [resolve, hc, hfe, Deferred.ofValue, e1.symm]
    show invoke (Target.fn (Fn.func g) us.toArray) (#[] ++ Array.map a.eval c.args) = _
    rw [Array.empty_append]
    rfl
  generalize hres : (callFunc g (c.args.toList.map a.eval ++ us).toArray).run P w1 = res at key
  cases res with
  | halt x w2 => exact key.elim
  | ok nx w2 =>
    cases nx <;> simp only at key <;> first | exact key.elim | skip
    case value u =>
      exact QD hT hk hs1 ho hw hb hK (by rw [hexec]; exact key)
    case enter f' args =>
      obtain ⟨rfl, k1, k2⟩ := key
      have hl : listed P b.fn a o w2 = #[] := by
        unfold listed
        rw [hexec, k1]
        exact seen_none P _
      refine ⟨_, _, _, Live β H, stepG_enter ho hw hb (by rw [hexec]; exact hres), rfl, ?_, k2 (b.at a (.inRegion ops (i :: rest) :: k)) cs ?_⟩
      · rw [hl]; exact Does.still
      · intro β2 rv w3 g1 g2 g3 g4
        rw [Frame.finish_at, ho]
        exact hK β2 rv w3 g1 g2 g3 ((FrC.grew hk.size).trans g4)
end
inductive StepR (P:Program) [Cls P] (ops:List Oper) (s:Nat→TV) (H:Heap) (o:Oper):TV→Heap→Prop
 | plain {v H'} (hw:o.guard=none∨∃ j want,o.guard=some (j,want)∧uZ ops s j=some (some want)) (h:je P o (zK s) H v H'):StepR P ops s H o v H'
 | skip {j want y} (hg:o.guard=some (j,want)) (hy:uZ ops s j=some y) (hne:y≠some want):StepR P ops s H o (.v .und) H
structure AR (β:Emb) (s:Nat→TV) (a:Act) (n:Nat):Prop where
 size:a.tmps.size=n
 val:∀ t,TVR β (s t) (a.tmps.getD t undef)
 defers:a.defers=[]
theorem AR.mono {β γ:Emb} {s:Nat→TV} {a:Act} {n:Nat} (h:Le β γ) (ha:AR β s a n):AR γ s a n:=⟨ha.size,fun t=>TVR.mono h (ha.val t),ha.defers⟩
theorem jK (a:Act) (d:Tmp) (u:Value) (t:Nat) (hd:d<a.tmps.size):(a.put (some d) u).tmps.getD t undef=if t=d then u else a.tmps.getD t undef:=by
 simp only [Act.put,Array.getD_eq_getD_getElem?,Array.getElem?_setIfInBounds]
 by_cases h:t=d
 ·subst h;simp [hd]
 ·simp [h,Ne.symm h]
theorem AR.put {β : Emb} {s : Nat → TV} {a : Act} {n : Nat} {dst : Option Tmp} {v : TV} {u : Value} (ha : AR β s a n) (hd : ∀ d, dst = some d → d < n) (hv : TVR β v u) : AR β (aput s dst v) (a.put dst u) n := by
  cases dst with
  | none => exact ha
  | some d =>
    have hd' := hd d rfl
    refine ⟨by simp [Act.put, ha.size], fun t => ?_, ha.defers⟩
    rw [jK a d u t (by rw [ha.size]; exact hd')]
    show TVR β (if t = d then v else s t) _
    split
    · exact hv
    · exact ha.val t
theorem AR.eval {β:Emb} {s:Nat→TV} {a:Act} {n:Nat} (ha:AR β s a n) (x:Operand):TVR β (zK s x) (a.eval x):=by
 cases x with
 | tmp t=>exact ha.val t
 | const c=>exact Z6 β c
 | global g=>trivial
 | func f=>exact⟨[],rfl,trivial⟩
theorem getElem?_of_getD (t:Array Value) (d:Nat) (h:d<t.size):t[d]?=some (t.getD d undef):=by
 simp [Array.getD_eq_getD_getElem?,h]
theorem zdm {ops : Array Oper} {s : Nat → TV} {tmps : Array Value} {n j : Nat} {y : Option Bool} {β : Emb} (hn : ∀ o ∈ ops.toList, ∀ d, o.dst = some d → d < n) (hs : tmps.size = n)
    (hv : ∀ d, (ops[j]?).bind (·.dst) = some d → TVR β (s d) (tmps.getD d undef)) (h : uZ ops.toList s j = some y) : yielded ops tmps j = y := by
  unfold uZ at h
  unfold yielded
  have e : ops.toList[j]? = ops[j]? := by simp
  rw [e] at h
  split at h
  · rename_i d hd
    have hvd := hv d hd
    have hdn : d < tmps.size := by
      rw [hs]
      cases ho : ops[j]? with
      | none => rw [ho] at hd; cases hd
      | some o =>
        rw [ho] at hd
        exact hn o (by
          have := Array.mem_of_getElem? ho
          simpa using this) d hd
    rw [hd]
    simp only [Option.bind_some, getElem?_of_getD tmps d hdn]
    split at h
    · rename_i b hb
      cases h
      rw [hb] at hvd
      have : tmps.getD d undef = .bool b := hvd
      rw [this]
    · rename_i hb
      cases h
      rw [hb] at hvd
      have : tmps.getD d undef = undef := hvd
      rw [this]
      rfl
    · cases h
  · cases h
theorem UE {ops:Array Oper} {o:Oper} {tmps:Array Value} {y:Option Bool} {j:Nat} {want:Bool} (hg:o.guard=some (j,want)) (hy:yielded ops tmps j=y) :
  Region.wanted o (yielded ops tmps)=(y == some want):=by
 unfold Region.wanted;rw [hg]
 simp [hy]
def opTmp:Operand→Option Tmp
 | .tmp t=>some t
 | _=>none
def named (ops:List Oper) (o:Oper):List Tmp:=
 o.dst.toList++o.op.operands.toList.filterMap opTmp++(match o.guard with|some (j,_)=>((ops[j]?).bind (·.dst)).toList|none=>[])
def ZA (acc:List Nat) (o:Oper):Nat:=
 o.after.toList.foldl (fun m e=>if Region.binds .any e then m ||| 2 ^ e.on ||| acc.getD e.on 0 else m) 0
def masks:List Oper→List Nat→List Nat
 | [],acc=>acc
 | o::r,acc=>masks r (acc++[ZA acc o])
def maskAt (ops:List Oper) (j:Nat):Nat:=(masks ops []).getD j 0
def vU:Op→Bool
 | .move _|.assign _|.pick ..|.binOp ..|.unOp ..|.extract ..|.fieldAddr ..|.build ..=>true
 | _=>false
def jh (ops:List Oper) (i:Nat):Bool:=(ops[i]?).any fun o=>vU o.op
def yY (ops:List Oper) (i:Nat):Bool:=
 !jh ops i&&(List.range ops.length).all fun j=>jh ops j || if j<i then (maskAt ops i).testBit j else if i<j then (maskAt ops j).testBit i else true
def clash (ops:List Oper) (i j:Nat):Bool:=
 match ops[i]?,ops[j]? with
 | some a,some b=>a.dst.toList.any ((named ops b).contains ·) || b.dst.toList.any ((named ops a).contains ·)
 | _,_=>false
def xM (ops:List Oper):Bool:=
 ((List.range ops.length).all fun j=>(ops[j]?).all fun o=>o.after.toList.all fun e=>!Region.binds .any e || e.on<j) &&
 (List.range ops.length).all fun j=>(List.range j).all fun i=>!clash ops i j || (maskAt ops j).testBit i
theorem Xf : ∀ (ops : List Oper) (acc : List Nat) (j : Nat), j < acc.length → (masks ops acc).getD j 0 = acc.getD j 0
  | [], acc, j, _ => rfl
  | o :: r, acc, j, h => by
    rw [masks, Xf r _ j (by simp; omega)]
    simp [List.getD_eq_getElem?_getD, List.getElem?_append_left h]
theorem UF : ∀ (ops : List Oper) (acc : List Nat) (j : Nat) (o : Oper), ops[j]? = some o →
    ∃ acc' : List Nat, acc'.length = acc.length + j ∧ (∀ k, k < acc'.length → acc'.getD k 0 = (masks ops acc).getD k 0) ∧ (masks ops acc).getD (acc.length + j) 0 = ZA acc' o
  | [], _, j, o, h => by simp at h
  | x :: r, acc, 0, o, h => by
    simp at h
    subst h
    refine ⟨acc, by simp, fun k hk => (Xf _ _ k hk).symm, ?_⟩
    rw [masks, Xf r _ _ (by simp)]
    simp [List.getD_eq_getElem?_getD]
  | x :: r, acc, j + 1, o, h => by
    obtain ⟨acc', h1, h2, h3⟩ := UF r (acc ++ [ZA acc x]) j o (by simpa using h)
    simp at h1
    refine ⟨acc', by omega, h2, ?_⟩
    rw [masks]
    rw [show acc.length + (j + 1) = (acc ++ [ZA acc x]).length + j by simp; omega]
    exact h3
theorem zaf (acc : List Nat) (o : Oper) (i : Nat) (h : (ZA acc o).testBit i = true) :
    ∃ e ∈ o.after.toList, Region.binds .any e = true ∧ (e.on = i ∨ (acc.getD e.on 0).testBit i = true) := by
  unfold ZA at h
  have key : ∀ (l : List Edge) (m : Nat), (l.foldl (fun m e => if Region.binds .any e then m ||| 2 ^ e.on ||| acc.getD e.on 0 else m) m).testBit i = true →
      m.testBit i = true ∨ ∃ e ∈ l, Region.binds .any e = true ∧ (e.on = i ∨ (acc.getD e.on 0).testBit i = true) := by
    intro l
    induction l with
    | nil => intro m h; exact .inl h
    | cons e l ih =>
      intro m h
      rw [List.foldl_cons] at h
      rcases ih _ h with h1 | ⟨e', he', hb, hor⟩
      · by_cases hb : Region.binds .any e = true
        · rw [if_pos hb, Nat.testBit_or, Nat.testBit_or, Bool.or_eq_true, Bool.or_eq_true] at h1
          rcases h1 with (h1 | h1) | h1
          · exact .inl h1
          · exact .inr ⟨e, by simp, hb, .inl (by simpa [Nat.testBit_two_pow] using h1)⟩
          · exact .inr ⟨e, by simp, hb, .inr h1⟩
        · rw [if_neg hb] at h1
          exact .inl h1
      · exact .inr ⟨e', by simp [he'], hb, hor⟩
  rcases key _ 0 h with h1 | h1
  · simp at h1
  · exact h1
theorem YC {ops:List Oper} (hok:xM ops=true) {j i:Nat} {o:Oper} (ho:ops[j]?=some o) (h:(maskAt ops j).testBit i=true) :
  ∃ e∈o.after.toList,Region.binds .any e=true∧(e.on=i∨(maskAt ops e.on).testBit i=true):=by
 obtain⟨acc',h1,h2,h3⟩:=UF ops [] j o ho;unfold maskAt at h
 simp at h3 h1
 rw [show (masks ops []).getD j 0=ZA acc' o by simpa using h3] at h;obtain⟨e,he,hb,hor⟩:=zaf acc' o i h;refine⟨e,he,hb,?_⟩;have hj:j<ops.length:=by
  rcases Nat.lt_or_ge j ops.length with h'|h'
  ·exact h'
  ·rw [List.getElem?_eq_none h'] at ho;cases ho
 have hlt:e.on<j:=by
  unfold xM at hok;rw [Bool.and_eq_true] at hok;have:=List.all_eq_true.1 hok.1 j (List.mem_range.2 hj);rw [ho] at this;have:=List.all_eq_true.1 this e he;rw [hb] at this
  simpa using this
 rcases hor with hor|hor
 ·exact .inl hor
 ·right
  unfold maskAt;rw [←h2 e.on (by omega)];exact hor
theorem uJ {ops:List Oper} (hok:xM ops=true) {i j:Nat} (hij:i<j) (hj:j<ops.length) (h:clash ops i j=true):(maskAt ops j).testBit i=true:=by
 unfold xM at hok;rw [Bool.and_eq_true] at hok;have:=List.all_eq_true.1 (List.all_eq_true.1 hok.2 j (List.mem_range.2 hj)) i (List.mem_range.2 hij);rw [h] at this
 simpa using this
def Yb : Op → Option (Operand × List Operand)
  | .call c => match c.callee with
    | .value f => some (f, c.args.toList)
    | _ => none
  | _ => none
def wop (P : Program) [Cls P] (ev : Operand → TV) (op : Op) (H : Heap) (K : TV → Heap → Prop) : Prop :=
  match Yb op with
  | some (f, args) =>
    match ev f with
    | .v (.fn g caps) => ∃ r H2, Ok P g (args.map ev ++ caps.map fun p => TV.v (.ptr p.1 p.2)) H r H2 ∧ K r H2
    | _ => False
  | none =>
    match zM P ev op H with
    | some (v, H') => K v H'
    | none => False
def wops (P : Program) [Cls P] (q : Bool) (ops : List Oper) : List Oper → Nat → (Nat → TV) → Heap → ((Nat → TV) → Heap → Prop) → Prop
  | [], _, s, H, K => K s H
  | o :: r, i, s, H, K =>
    match o.guard with
    | none => wop P (zK s) o.op H fun v H' => (q = true → H' = H ∨ yY ops i = true) ∧ wops P q ops r (i + 1) (aput s o.dst v) H' K
    | some (j, want) =>
      match uZ ops s j with
      | some y =>
        if y = some want then wop P (zK s) o.op H fun v H' => (q = true → H' = H ∨ yY ops i = true) ∧ wops P q ops r (i + 1) (aput s o.dst v) H' K
        else wops P q ops r (i + 1) (aput s o.dst (.v .und)) H K
      | none => False
theorem kC {P:Program} [Cls P] {o:Oper} {ev:Operand→TV} {H:Heap} {K:TV→Heap→Prop} (h:wop P ev o.op H K):∃ v H',je P o ev H v H'∧K v H':=by
 unfold wop at h
 split at h
 ·rename_i f args hc
  unfold Yb at hc
  split at hc
  ·rename_i c hop
   split at hc
   ·rename_i f' hcal
    cases hc
    split at h
    ·rename_i g caps hf
     obtain⟨r,H2,h1,h2⟩:=h;exact⟨r,H2,zae hop hcal hf h1,h2⟩
    ·exact h.elim
   ·cases hc
  ·cases hc
 ·split at h
  ·rename_i v H' hst
   exact⟨v,H',jg hst,h⟩
  ·exact h.elim
theorem zah {P:Program} [Cls P] {ev:Operand→TV} {op:Op} (hp:vU op=true) {H:Heap} {v:TV} {H':Heap} (h:zM P ev op H=some (v,H')):H'=H∧∀ H2,zM P ev op H2=some (v,H2):=by
 cases op<;>first|(exact absurd hp Bool.false_ne_true)|skip
 case move x=>simp only [zM,Option.some.injEq,Prod.mk.injEq] at h ⊢;exact⟨h.2.symm,fun H2=>⟨h.1,trivial⟩⟩
 case assign x=>simp only [zM,Option.some.injEq,Prod.mk.injEq] at h ⊢;exact⟨h.2.symm,fun H2=>⟨h.1,trivial⟩⟩
 case build t ps=>
  simp only [zM] at h ⊢
  split at h
  ·split at h
   ·rename_i hc
    obtain⟨c,h1,h2⟩:=Option.map_eq_some_iff.1 h
    cases h2
    exact⟨rfl,fun H2=>by rw [if_pos hc,h1];rfl⟩
   ·cases h
  ·cases h
 all_goals
  simp only [zM] at h ⊢
  (repeat' split at h)<;>simp_all [Option.map_eq_some_iff]
 all_goals
  obtain⟨a,h1,h2,h3⟩:=h;exact⟨h3.symm,a,h1,h2⟩
theorem JP {op:Op} (hp:vU op=true):Yb op=none:=by
 cases op<;>first|(exact absurd hp Bool.false_ne_true)|rfl
theorem ZB {P:Program} [Cls P] {o:Oper} {ev:Operand→TV} {H:Heap} {K:TV→Heap→Prop} (hp:vU o.op=true) (h:wop P ev o.op H K):∃ v,(∀ H2,je P o ev H2 v H2)∧K v H:=by
 unfold wop at h;rw [JP hp] at h;simp only at h
 split at h
 ·rename_i v H' hst
  obtain⟨rfl,h2⟩:=zah hp hst;exact⟨v,fun H2=>jg (h2 H2),h⟩
 ·exact h.elim
structure Trc (P:Program) [Cls P] (q:Bool) (ops:List Oper) (l:List Oper) (i:Nat) (S:Nat→Nat→TV) (Hs:Nat→Heap) (V:Nat→TV):Prop where
 step:∀ j o,l[j]?=some o→StepR P ops (S j) (Hs j) o (V j) (Hs (j+1))
 next:∀ j o,l[j]?=some o→S (j+1)=aput (S j) o.dst (V j)
 quiet:q=true→∀ j o,l[j]?=some o→Hs (j+1)=Hs j∨yY ops (i+j)=true
 pure:∀ j o,l[j]?=some o→vU o.op=true→Hs (j+1)=Hs j∧∀ H2,StepR P ops (S j) H2 o (V j) H2
theorem WW {P : Program} [Cls P] {q : Bool} {ops : List Oper} {K : (Nat → TV) → Heap → Prop} : ∀ (l : List Oper) (i : Nat) (s : Nat → TV) (H : Heap), wops P q ops l i s H K →
    ∃ S Hs V, S 0 = s ∧ Hs 0 = H ∧ Trc P q ops l i S Hs V ∧ K (S l.length) (Hs l.length)
  | [], i, s, H, h => ⟨fun _ => s, fun _ => H, fun _ => .v .und, rfl, rfl, ⟨fun j o e => by simp at e, fun j o e => by simp at e, fun _ j o e => by simp at e, fun j o e => by simp at e⟩, h⟩
  | o :: r, i, s, H, h => by
    have glue : ∀ v H', StepR P ops s H o v H' → (vU o.op = true → H' = H ∧ ∀ H2, StepR P ops s H2 o v H2) → (q = true → H' = H ∨ yY ops i = true) → wops P q ops r (i + 1) (aput s o.dst v) H' K →
        ∃ S Hs V, S 0 = s ∧ Hs 0 = H ∧ Trc P q ops (o :: r) i S Hs V ∧ K (S (o :: r).length) (Hs (o :: r).length) := by
      intro v H' hst hpu hq hr
      obtain ⟨S, Hs, V, h1, h2, h3, h4⟩ := WW r (i + 1) _ _ hr
      refine ⟨fun n => match n with | 0 => s | n + 1 => S n, fun n => match n with | 0 => H | n + 1 => Hs n, fun n => match n with | 0 => v | n + 1 => V n, rfl, rfl, ⟨fun j o' e => ?_, fun j o' e => ?_, fun hqt j o' e => ?_, fun j o' e hp => ?_⟩, by simpa using h4⟩
      · cases j with
        | zero =>
          simp at e
          subst e
          show StepR P ops s H o v (Hs 0)
          rw [h2]; exact hst
        | succ j => exact h3.step j o' (by simpa using e)
      · cases j with
        | zero =>
          simp at e
          subst e
          exact h1
        | succ j => exact h3.next j o' (by simpa using e)
      · cases j with
        | zero =>
          show Hs 0 = H ∨ _
          rw [h2]
          exact hq hqt
        | succ j =>
          have := h3.quiet hqt j o' (by simpa using e)
          rw [show i + (j + 1) = i + 1 + j by omega]
          exact this
      · cases j with
        | zero =>
          simp at e
          subst e
          show Hs 0 = H ∧ _
          rw [h2]
          exact hpu hp
        | succ j => exact h3.pure j o' (by simpa using e) hp
    rw [wops] at h
    split at h
    · rename_i hg
      cases hp : vU o.op with
      | false =>
        obtain ⟨v, H', h1, h2, h3⟩ := kC h
        exact glue v H' (.plain (.inl hg) h1) (fun h => by rw [hp] at h; cases h) h2 h3
      | true =>
        obtain ⟨v, h1, h2, h3⟩ := ZB hp h
        exact glue v H (.plain (.inl hg) (h1 H)) (fun _ => ⟨rfl, fun H2 => .plain (.inl hg) (h1 H2)⟩) h2 h3
    · rename_i j want hg
      split at h
      · rename_i y hy
        split at h
        · rename_i hyw
          subst hyw
          cases hp : vU o.op with
          | false =>
            obtain ⟨v, H', h1, h2, h3⟩ := kC h
            exact glue v H' (.plain (.inr ⟨j, want, hg, hy⟩) h1) (fun h => by rw [hp] at h; cases h) h2 h3
          | true =>
            obtain ⟨v, h1, h2, h3⟩ := ZB hp h
            exact glue v H (.plain (.inr ⟨j, want, hg, hy⟩) (h1 H)) (fun _ => ⟨rfl, fun H2 => .plain (.inr ⟨j, want, hg, hy⟩) (h1 H2)⟩) h2 h3
        · rename_i hyw
          exact glue _ _ (.skip hg hy hyw) (fun _ => ⟨rfl, fun _ => .skip hg hy hyw⟩) (fun _ => .inl rfl) h
      · exact h.elim
end Go.Ab
namespace Go.Ab
open Go.Conc
def QT (T:Cont) (b:Frame) (k:List Item) (cs:List Frame) (β:Emb) (H:Heap) (a:Act) (w:World):Prop:=T (Live β H) (G (b.at a k) cs) w
def OpT (T:Cont) (b:Frame) (k:List Item) (cs:List Frame) (ops:Array Oper) (i:Nat) (K:Emb→Heap→Act→World→Prop) (β:Emb) (H:Heap) (a:Act) (w:World):Prop:=
 ∀ rest,(∀ β' H' a' w',K β' H' a' w'→T (Live β' H') (G (b.at a' (.inRegion ops rest::k)) cs) w')→T (Live β H) (G (b.at a (.inRegion ops (i::rest)::k)) cs) w
def AnyT (T:Cont) (b:Frame) (k:List Item) (cs:List Frame) (ops:Array Oper):Nat→Array Bool→Emb→Heap→Act→World→Prop
 | 0,E,β,H,a,w=>Region.ready .any ops E=[]∧QT T b k cs β H a w
 | n+1,E,β,H,a,w=>(Region.ready .any ops E=[]→QT T b k cs β H a w)∧∀ i∈Region.ready .any ops E,OpT T b k cs ops i (AnyT T b k cs ops n (E.setIfInBounds i true)) β H a w
theorem zai {P : Program} [Cls P] {T : Cont} (hT : Cls.ok P T) {b : Frame} {k : List Item} {cs : List Frame} {ops : Array Oper} (hend : ∀ β H a w, QT T b k cs β H a w → T (Live β H) (G (b.at a (.inRegion ops [] :: k)) cs) w) :
    ∀ (fuel t : Nat) (E : Array Bool) (β : Emb) (H : Heap) (a : Act) (w : World), AnyT T b k cs ops fuel E β H a w → T (Live β H) (G (b.at a (.inRegion ops (Region.linearise.go .any ops fuel t E []) :: k)) cs) w := by
  intro fuel
  induction fuel with
  | zero => intro t E β H a w h; simpa [Region.linearise.go] using hend _ _ _ _ h.2
  | succ fuel ih =>
    intro t E β H a w h
    obtain ⟨h₀, h₁⟩ := h
    simp only [Region.linearise.go]
    change T (Live β H) (G (b.at a (.inRegion ops (match (Region.ready .any ops E)[t % (Region.ready .any ops E).length]? with
      | some i => Region.linearise.go .any ops fuel (t / (Region.ready .any ops E).length) (E.setIfInBounds i true) [i]
      | none => [].reverse) :: k)) cs) w
    cases hi : (Region.ready .any ops E)[t % (Region.ready .any ops E).length]? with
    | none =>
      have hnil : Region.ready .any ops E = [] := by
        cases hr : Region.ready .any ops E with
        | nil => rfl
        | cons x xs =>
          rw [hr] at hi
          have hlt : t % (x :: xs).length < (x :: xs).length := Nat.mod_lt _ (by simp)
          simp at hi
          simp at hlt
          omega
      simpa using hend _ _ _ _ (h₀ hnil)
    | some i =>
      simp only []
      rw [linearise_go_acc, List.reverse_singleton, List.singleton_append]
      exact h₁ i (List.mem_of_getElem? hi) _ fun β' H' a' w' hk => ih _ _ _ _ _ _ hk
theorem VU {P:Program} [Cls P] {T:Cont} (hT:Cls.ok P T) {b:Frame} {k:List Item} {cs:List Frame} {ops:Array Oper}:∀ β H a w,QT T b k cs β H a w→T (Live β H) (G (b.at a (.inRegion ops []::k)) cs) w:=
 fun β H a w h=>go_step hT rfl rfl (fun w=>stepG_region_end) h
theorem WX {P:Program} {main:Bool} {b:Frame} {a:Act} {k:List Item} {cs:List Frame} {ops:Array Oper} {w:World} {id:Nat} :
  stepG P main (G (b.at a (.code (.region id ops true)::k)) cs) w =
   .go (G (b.at a (.inRegion ops (Region.schedule (P.follows .mixedOrders) ops (w.tape w.drawn (.order b.fn id)))::k)) cs) { w with drawn:=w.drawn+1 }:=by
 simp [G,stepG,stepG.exec,Frame.at,choose,Sem.run,Question.forced,Question.cut]
theorem Xg {P:Program} [Cls P] (hm:P.follows .mixedOrders=true) {T:Cont} (hT:Cls.ok P T) {b:Frame} {k:List Item} {cs:List Frame} {ops:Array Oper} {id:Nat} {β:Emb} {H:Heap} {a:Act} {w:World} (hs:SRI P β H w)
  (h:∀ w',w.heap.size≤w'.heap.size→SRI P β H w'→AnyT T b k cs ops ops.size (Array.replicate ops.size false) β H a w'):T (Live β H) (G (b.at a (.code (.region id ops true)::k)) cs) w:=by
 refine Cls.closed T hT _ _ _ rfl fun w1 hk=>⟨_,_,_,Live β H,WX,rfl,Does.drew _,?_⟩;simp only [Region.schedule,hm,Bool.true_or,if_true];exact zai hT (VU hT) ops.size _ _ _ _ _ _ (h _ hk.size ((hs.keep hk).draw _))
theorem zbp {P:Program} [Cls P] {T:Cont} (hT:Cls.ok P T) {b:Frame} {k:List Item} {cs:List Frame} {ops:Array Oper} {id:Nat} {β:Emb} {H:Heap} {a:Act} {w:World} (hs:SRI P β H w)
  (h:∀ w',w.heap.size≤w'.heap.size→SRI P β H w'→T (Live β H) (G (b.at a (.inRegion ops (List.range' 0 ops.size)::k)) cs) w'):T (Live β H) (G (b.at a (.code (.region id ops false)::k)) cs) w:=
 go_still hT hs rfl rfl (fun w=>by rw [stepG_region,List.range_eq_range']) h
theorem zaj {P:Program} [Cls P] {T:Cont} (hT:Cls.ok P T) {b:Frame} {k:List Item} {cs:List Frame} {ops:Array Oper} {β:Emb} {H:Heap} {a:Act} {w:World} (hs:SRI P β H w)
  (h:∀ w',w.heap.size≤w'.heap.size→SRI P β H w'→T (Live β H) (G (b.at a k) cs) w'):T (Live β H) (G (b.at a (.inRegion ops []::k)) cs) w:=
 go_still hT hs rfl rfl (fun w=>stepG_region_end) h
section
variable {P:Program} [Cls P] {T:Cont} {b:Frame} {k:List Item} {cs:List Frame} {ops:Array Oper} {N:Nat} {S:Nat→Nat→TV} {Hs:Nat→Heap} {V:Nat→TV} {q:Bool}
theorem jL {Hi Hi1 : Heap} {Vi : TV} (hd : ∀ o ∈ ops.toList, ∀ d, o.dst = some d → d < N) {i : Nat} {o : Oper} (ho : ops[i]? = some o) (hst : StepR P ops.toList (S i) Hi o Vi Hi1)
    {β : Emb} {a : Act} {w : World} (hs : SRI P β Hi w) (hsz : a.tmps.size = N) (hdf : a.defers = []) (hv : ∀ t ∈ named ops.toList o, TVR β (S i t) (a.tmps.getD t undef))
    (hT : Cls.ok P T) (hb : b.kind ≠ .early) {K : Emb → Heap → Act → World → Prop} (hK : ∀ β' u w', Le β β' → SRI P β' Hi1 w' → TVR β' Vi u → FrC β Hi w β' Hi1 w' → K β' Hi1 (a.put o.dst u) w') :
    OpT T b k cs ops i K β Hi a w := by
  have hops : ∀ x ∈ o.op.operands.toList, TVR β (zK (S i) x) (a.eval x) := by
    intro x hx
    cases x with
    | tmp t =>
      refine hv t ?_
      unfold named
      simp only [List.mem_append, List.mem_filterMap]
      exact .inl (.inr ⟨.tmp t, hx, rfl⟩)
    | const c => exact Z6 β c
    | global g => trivial
    | func f => exact ⟨[], rfl, trivial⟩
  have hyield : ∀ j want y, o.guard = some (j, want) → uZ ops.toList (S i) j = some y → yielded ops a.tmps j = y := by
    intro j want y hg hy
    refine zdm hd hsz (fun d hjd => hv d ?_) hy
    unfold named
    rw [hg]
    simp only [List.mem_append]
    refine .inr ?_
    have : (ops.toList[j]?).bind (·.dst) = some d := by simpa using hjd
    rw [this]
    simp
  intro rest hrest
  cases hst with
  | plain hw h =>
    have hwant : Region.wanted o (yielded ops a.tmps) = true := by
      rcases hw with hg | ⟨j, want, hg, hy⟩
      · simp [Region.wanted, hg]
      · rw [UE hg (hyield j want _ hg hy)]
        simp
    exact h T hT β a w hs hops b ops i rest k cs ho hwant hb fun β' u w' h1 h2 h3 h4 => hrest _ _ _ _ (hK β' u w' h1 h2 h3 h4)
  | skip hg hy hne =>
    rename_i j want y
    have hwant : Region.wanted o (yielded ops a.tmps) = false := by
      rw [UE hg (hyield j want _ hg hy)]
      simpa using hne
    exact go_still hT hs rfl rfl (fun w => stepG_unwanted ho hwant) fun w' hsz hs' => hrest _ _ _ _ (hK β undef w' (Le.refl β) hs' rfl (FrC.grew hsz))
theorem QE (ht:Trc P q ops.toList ops.toList 0 S Hs V) (hd:∀ o∈ops.toList,∀ d,o.dst=some d→d<N) {i:Nat} {o:Oper} (ho:ops[i]?=some o)
  {β:Emb} {a:Act} {w:World} (hs:SRI P β (Hs i) w) (hsz:a.tmps.size=N) (hdf:a.defers=[]) (hv:∀ t∈named ops.toList o,TVR β (S i t) (a.tmps.getD t undef))
  (hT:Cls.ok P T) (hb:b.kind≠.early) {K:Emb→Heap→Act→World→Prop} (hK:∀ β' u w',Le β β'→SRI P β' (Hs (i+1)) w'→TVR β' (V i) u→FrC β (Hs i) w β' (Hs (i+1)) w'→K β' (Hs (i+1)) (a.put o.dst u) w') :
  OpT T b k cs ops i K β (Hs i) a w:=jL hd ho (ht.step i o (by simpa using ho)) hs hsz hdf hv hT hb hK
theorem WY (ht : Trc P q ops.toList ops.toList 0 S Hs V) (hd : ∀ o ∈ ops.toList, ∀ d, o.dst = some d → d < N) (hT : Cls.ok P T) (hb : b.kind ≠ .early) {β0 : Emb} {w0 : World}
    (hQ : ∀ β' a' w', Le β0 β' → AR β' (S ops.size) a' N → SRI P β' (Hs ops.size) w' → FrC β0 (Hs 0) w0 β' (Hs ops.size) w' → QT T b k cs β' (Hs ops.size) a' w') :
    ∀ (m j : Nat) (β : Emb) (a : Act) (w : World), j + m = ops.size → Le β0 β → AR β (S j) a N → SRI P β (Hs j) w → FrC β0 (Hs 0) w0 β (Hs j) w → T (Live β (Hs j)) (G (b.at a (.inRegion ops (List.range' j m) :: k)) cs) w
  | 0, j, β, a, w, hj, hle, ha, hs, hf => by
    have : j = ops.size := by omega
    subst this
    exact zaj hT hs fun w' hsz hs' => hQ β a w' hle ha hs' (hf.trans (FrC.grew hsz))
  | m + 1, j, β, a, w, hj, hle, ha, hs, hf => by
    rw [List.range'_succ]
    have hjl : j < ops.size := by omega
    have ho : ops[j]? = some ops[j] := by simp [hjl]
    refine QE (K := fun β' H' a' w' => T (Live β' H') (G (b.at a' (.inRegion ops (List.range' (j + 1) m) :: k)) cs) w') ht hd ho hs ha.size ha.defers (fun t _ => ha.val t) hT hb (fun β' u w' h1 h2 h3 h4 => ?_) _ (fun _ _ _ _ h => h)
    refine WY ht hd hT hb hQ m (j + 1) β' _ w' (by omega) (hle.trans h1) ?_ h2 (hf.trans h4)
    rw [ht.next j ops[j] (by simp [hjl])]
    exact (ha.mono h1).put (fun d hdd => hd _ (by simp) d hdd) h3
def look (ops:List Oper) (V:Nat→TV) (d0:TV) (E:Nat→Bool) (t:Tmp):Nat→TV
 | 0=>d0
 | i+1=>if E i=true∧(ops[i]?).bind (·.dst)=some t then V i else look ops V d0 E t i
theorem yV {ops : List Oper} {V : Nat → TV} {d0 : TV} {E E' : Nat → Bool} {t : Tmp} : ∀ (k : Nat), (∀ j, j < k → (ops[j]?).bind (·.dst) = some t → E j = E' j) → look ops V d0 E t k = look ops V d0 E' t k
  | 0, _ => rfl
  | i + 1, h => by
    have ih := yV (V := V) (d0 := d0) (E := E) (E' := E') i fun j hj => h j (by omega)
    simp only [look]
    by_cases hd : (ops[i]?).bind (·.dst) = some t
    · rw [h i (by omega) hd, ih]
    · rw [ih]; simp [hd]
theorem wu {ops : List Oper} {V : Nat → TV} {d0 : TV} {t : Tmp} (i : Nat) : ∀ (k : Nat), i ≤ k → look ops V d0 (fun j => decide (j < i)) t k = look ops V d0 (fun j => decide (j < i)) t i
  | 0, h => by obtain rfl : i = 0 := by omega
               rfl
  | k + 1, h => by
    by_cases hk : i = k + 1
    · rw [hk]
    · rw [show look ops V d0 (fun j => decide (j < i)) t (k + 1) = look ops V d0 (fun j => decide (j < i)) t k by
        simp only [look]
        rw [if_neg (by simp; omega)]]
      exact wu i k (by omega)
theorem Zb (ht : Trc P q ops.toList ops.toList 0 S Hs V) (t : Tmp) : ∀ i, i ≤ ops.size → S i t = look ops.toList V (S 0 t) (fun j => decide (j < i)) t i
  | 0, _ => rfl
  | i + 1, h => by
    have ho : ops.toList[i]? = some ops[i] := by simp
    rw [ht.next i ops[i] ho]
    have ih := Zb ht t i (by omega)
    have e : look ops.toList V (S 0 t) (fun j => decide (j < i + 1)) t i = look ops.toList V (S 0 t) (fun j => decide (j < i)) t i :=
      yV i fun j hj _ => by simp; omega
    simp only [look, ho, Option.bind_some]
    rw [e, ← ih]
    cases hd : (ops[i]).dst with
    | none => simp [aput]
    | some d =>
      simp only [aput, upd]
      by_cases hdt : t = d
      · subst hdt; simp
      · rw [if_neg hdt, if_neg (by simp; exact fun e => hdt e.symm)]
def unl (E:Array Bool):Nat→Nat
 | 0=>0
 | i+1=>unl E i+if E.getD i true=true then 0 else 1
theorem getD_set_ne' {E:Array Bool} {i j:Nat} (d:Bool) (h:i≠j):(E.setIfInBounds i true).getD j d=E.getD j d:=by
 simp [Array.getD_eq_getD_getElem?,Array.getElem?_setIfInBounds,h]
theorem uP {E:Array Bool} {i:Nat} (d:Bool) (h:i<E.size):(E.setIfInBounds i true).getD i d=true:=by
 simp [Array.getD_eq_getD_getElem?,Array.getElem?_setIfInBounds,h]
theorem Yc (E : Array Bool) (i : Nat) (hi : i < E.size) (he : E.getD i true = false) : ∀ k, unl (E.setIfInBounds i true) k + (if i < k then 1 else 0) = unl E k
  | 0 => by simp [unl]
  | k + 1 => by
    have ih := Yc E i hi he k
    simp only [unl]
    by_cases hk : i = k
    · subst hk
      rw [uP true hi, he]
      simp at ih
      simp [ih]
    · rw [getD_set_ne' true hk]
      by_cases h1 : i < k
      · have e1 : (if i < k then 1 else 0) = 1 := if_pos h1
        have e2 : (if i < k + 1 then 1 else 0) = 1 := if_pos (by omega)
        rw [e1] at ih
        rw [e2]
        omega
      · have e1 : (if i < k then 1 else 0) = 0 := if_neg h1
        have e2 : (if i < k + 1 then 1 else 0) = 0 := if_neg (by omega)
        rw [e1] at ih
        rw [e2]
        omega
theorem ZC (E : Array Bool) : ∀ k, unl E k = 0 → ∀ j, j < k → E.getD j true = true
  | 0, _, j, h => by omega
  | k + 1, h, j, hj => by
    simp only [unl] at h
    by_cases hk : E.getD k true = true
    · rcases Nat.lt_or_ge j k with h1 | h1
      · exact ZC E k (by omega) j h1
      · obtain rfl : j = k := by omega
        exact hk
    · rw [if_neg hk] at h; omega
structure Mid (P:Program) [Cls P] (ops:Array Oper) (N:Nat) (S:Nat→Nat→TV) (Hs:Nat→Heap) (V:Nat→TV) (β0:Emb) (w0:World) (E:Array Bool) (a:Act) (w:World) (β:Emb) (m:Nat):Prop where
 le:Le β0 β
 sr:SRI P β (Hs m) w
 fr:FrC β0 (Hs 0) w0 β (Hs m) w
 size:a.tmps.size=N
 defers:a.defers=[]
 val:∀ t,TVR β (look ops.toList V (S 0 t) (fun j=>E.getD j false) t ops.size) (a.tmps.getD t undef)
 esize:E.size=ops.size
 mle:m≤ops.size
 bar:∀ j,j<ops.size→yY ops.toList j=true→(E.getD j false=true↔j<m)
 closed:∀ j,j<ops.size→E.getD j false=true→∀ i,(maskAt ops.toList j).testBit i=true→E.getD i false=true
theorem Mid.ready {β0:Emb} {w0:World} {E:Array Bool} {a:Act} {w:World} {β:Emb} {m:Nat} (hok:xM ops.toList=true) (h:Mid P ops N S Hs V β0 w0 E a w β m) {i:Nat}
  (hi:i∈Region.ready .any ops E):i<ops.size∧E.getD i true=false∧∀ k,(maskAt ops.toList i).testBit k=true→E.getD k false=true:=by
 obtain⟨h1,o,ho,h2⟩:=mem_ready.1 hi;have hlt:i<ops.size:=by
  rcases Nat.lt_or_ge i ops.size with h'|h'
  ·exact h'
  ·simp [Array.getElem?_eq_none h'] at ho
 refine⟨hlt,h1,fun k hk=>?_⟩;obtain⟨e,he,hb,hor⟩:=YC hok (j:=i) (i:=k) (o:=o) (by simpa using ho) hk;have hE:=h2 e (by simpa using he) hb;rcases hor with rfl|hor
 ·exact hE
 ·have hel:e.on<ops.size:=by
   rcases Nat.lt_or_ge e.on ops.size with h'|h'
   ·exact h'
   ·rw [←h.esize] at h'
    simp [Array.getD_eq_getD_getElem?,Array.getElem?_eq_none h'] at hE
  exact h.closed e.on hel hE k hor
theorem xS {E:Array Bool} {i:Nat} (h:i<E.size) (d d':Bool):E.getD i d=E.getD i d':=by
 simp [Array.getD_eq_getD_getElem?,h]
theorem Kg {ops:List Oper} {b j:Nat} (h:yY ops b=true) (hj:j<ops.length) (hp:jh ops j=false):(j<b→(maskAt ops b).testBit j=true)∧(b<j→(maskAt ops j).testBit b=true):=by
 unfold yY at h;rw [Bool.and_eq_true] at h;have:=List.all_eq_true.1 h.2 j (List.mem_range.2 hj);rw [hp,Bool.false_or] at this;constructor
 ·intro hjb;rw [if_pos hjb] at this;exact this
 ·intro hbj;rw [if_neg (by omega),if_pos hbj] at this;exact this
theorem zdn {ops:List Oper} {b:Nat} (h:yY ops b=true):jh ops b=false:=by
 unfold yY at h;rw [Bool.and_eq_true] at h
 simpa using h.1
theorem ZL (ht : Trc P true ops.toList ops.toList 0 S Hs V) : ∀ (d i : Nat), i + d ≤ ops.size → (∀ j, i ≤ j → j < i + d → yY ops.toList j = false) → Hs (i + d) = Hs i
  | 0, i, _, _ => rfl
  | d + 1, i, h, hb => by
    have hlt : i + d < ops.size := by omega
    have := ht.quiet rfl (i + d) ops[i + d] (by simp [hlt])
    rw [show i + (d + 1) = i + d + 1 by omega]
    rcases this with h1 | h1
    · rw [h1]
      exact ZL ht d i (by omega) fun j h2 h3 => hb j h2 (by omega)
    · rw [Nat.zero_add, hb (i + d) (by omega) (by omega)] at h1
      cases h1
theorem Mid.rows {β0:Emb} {w0:World} {E:Array Bool} {a:Act} {w:World} {β:Emb} {m:Nat} (ht:Trc P true ops.toList ops.toList 0 S Hs V) (hok:xM ops.toList=true) (h:Mid P ops N S Hs V β0 w0 E a w β m) {i:Nat}
  (hi:i∈Region.ready .any ops E) (hpi:jh ops.toList i=false):Hs m=Hs i∧(∀ j,j<ops.size→yY ops.toList j=true→(j<m↔j<i)):=by
 obtain⟨hlt,he,hbits⟩:=h.ready hok hi;have hEi:E.getD i false=false:=by rw [xS (by rw [h.esize];exact hlt) false true];exact he
 have hlen:ops.toList.length=ops.size:=by simp
 have key:∀ j,j<ops.size→yY ops.toList j=true→(j<m↔j<i):=by
  intro j hj hb;rw [←h.bar j hj hb];constructor
  ·intro hE;rcases Nat.lt_trichotomy j i with h1|h1|h1
   ·exact h1
   ·subst h1;rw [hEi] at hE;cases hE
   ·have:=(Kg hb (j:=i) (by omega) hpi).1 h1;rw [h.closed j hj hE i this] at hEi
    cases hEi
  ·intro h1;exact hbits j ((Kg hb (j:=i) (by omega) hpi).2 h1)
 refine⟨?_,key⟩;rcases Nat.le_total m i with h1|h1
 ·have:=ZL ht (i - m) m (by omega) fun j h2 h3=>by
   cases hb:yY ops.toList j with
   | false=>rfl
   | true=>have:=key j (by omega) hb;omega
  rw [show m+(i - m)=i by omega] at this;exact this.symm
 ·have:=ZL ht (m - i) i (by have:=h.mle;omega) fun j h2 h3=>by
   cases hb:yY ops.toList j with
   | false=>rfl
   | true=>have:=key j (by have:=h.mle;omega) hb;omega
  rw [show i+(m - i)=m by omega] at this;exact this
theorem YD {ops:List Oper} {i j:Nat} {o o':Oper} {t:Tmp} (ho:ops[i]?=some o) (ho':ops[j]?=some o') (ht:t∈named ops o) (hd:o'.dst=some t):clash ops i j=true∧clash ops j i=true:=by
 have hc:(named ops o).contains t=true:=by simpa using ht
 unfold clash;rw [ho,ho'];constructor
 ·simp only [hd,Option.toList_some,List.any_cons,List.any_nil,Bool.or_false,hc,Bool.or_true]
 ·simp only [hd,Option.toList_some,List.any_cons,List.any_nil,Bool.or_false,hc,Bool.true_or]
theorem Mid.names {β0:Emb} {w0:World} {E:Array Bool} {a:Act} {w:World} {β:Emb} {m:Nat} (ht:Trc P true ops.toList ops.toList 0 S Hs V) (hok:xM ops.toList=true) (h:Mid P ops N S Hs V β0 w0 E a w β m) {i:Nat} {o:Oper}
  (hi:i∈Region.ready .any ops E) (ho:ops[i]?=some o) {t:Tmp} (htn:t∈named ops.toList o):∀ j,j<ops.size→(ops.toList[j]?).bind (·.dst)=some t→(E.getD j false=true↔j<i):=by
 obtain⟨hlt,he,hbits⟩:=h.ready hok hi;have hEi:E.getD i false=false:=by rw [xS (by rw [h.esize];exact hlt) false true];exact he
 intro j hj hjd;have hoj:ops.toList[j]?=some ops[j]:=by simp [hj]
 rw [hoj] at hjd;simp only [Option.bind_some] at hjd;have hcl:=YD (i:=i) (j:=j) (by simpa using ho) hoj htn hjd;have hlen:ops.toList.length=ops.size:=by simp
 constructor
 ·intro hE;rcases Nat.lt_trichotomy j i with h1|h1|h1
  ·exact h1
  ·subst h1;rw [hEi] at hE;cases hE
  ·have:=uJ hok h1 (by omega) hcl.1;rw [h.closed j hj hE i this] at hEi
   cases hEi
 ·intro h1;exact hbits j (uJ hok h1 (by omega) hcl.2)
theorem zak (ht : Trc P true ops.toList ops.toList 0 S Hs V) (hok : xM ops.toList = true) (hd : ∀ o ∈ ops.toList, ∀ d, o.dst = some d → d < N) (hT : Cls.ok P T) (hb : b.kind ≠ .early) {β0 : Emb} {w0 : World}
    (hQ : ∀ β' a' w', Le β0 β' → AR β' (S ops.size) a' N → SRI P β' (Hs ops.size) w' → FrC β0 (Hs 0) w0 β' (Hs ops.size) w' → QT T b k cs β' (Hs ops.size) a' w') :
    ∀ (fuel : Nat) (E : Array Bool) (a : Act) (w : World) (β : Emb) (m : Nat), unl E ops.size = fuel → Mid P ops N S Hs V β0 w0 E a w β m → AnyT T b k cs ops fuel E β (Hs m) a w := by
  have hlen : ops.toList.length = ops.size := by simp
  have finish : ∀ (E : Array Bool) (a : Act) (w : World) (β : Emb) (m : Nat), Mid P ops N S Hs V β0 w0 E a w β m → (∀ j, j < ops.size → E.getD j true = true) → QT T b k cs β (Hs m) a w := by
    intro E a w β m h hall
    have hallf : ∀ j, j < ops.size → E.getD j false = true := fun j hj => by rw [xS (by rw [h.esize]; exact hj) false true]; exact hall j hj
    have hrows : Hs m = Hs ops.size := by
      have := ZL ht (ops.size - m) m (by have := h.mle; omega) fun j h2 h3 => by
        cases hb : yY ops.toList j with
        | false => rfl
        | true => have := (h.bar j (by omega) hb).1 (hallf j (by omega)); omega
      rw [show m + (ops.size - m) = ops.size by have := h.mle; omega] at this
      exact this.symm
    have hsr := h.sr
    have hfr := h.fr
    rw [hrows] at hsr hfr ⊢
    refine hQ β a w h.le ⟨h.size, fun t => ?_, h.defers⟩ hsr hfr
    rw [Zb ht t ops.size (Nat.le_refl _)]
    rw [yV (E' := fun j => E.getD j false) ops.size fun j hj _ => by simp [hj, hallf j hj]]
    exact h.val t
  have ready_nil : ∀ (E : Array Bool) (a : Act) (w : World) (β : Emb) (m : Nat), Mid P ops N S Hs V β0 w0 E a w β m → Region.ready .any ops E = [] → ∀ j, j < ops.size → E.getD j true = true := by
    intro E a w β m h hnil j
    induction j using Nat.strongRecOn with
    | _ j ih =>
      intro hj
      cases hE : E.getD j true with
      | true => rfl
      | false =>
        have : j ∈ Region.ready .any ops E := by
          refine mem_ready.2 ⟨hE, ops[j], by simp [hj], fun e he hb => ?_⟩
          have hlt : e.on < j := by
            have hok' := hok
            unfold xM at hok'
            rw [Bool.and_eq_true] at hok'
            have := List.all_eq_true.1 hok'.1 j (List.mem_range.2 (by omega))
            rw [show ops.toList[j]? = some ops[j] by simp [hj]] at this
            have := List.all_eq_true.1 this e (by simpa using he)
            rw [hb] at this
            simpa using this
          have := ih e.on hlt (by omega)
          rw [xS (by rw [h.esize]; omega) false true]
          exact this
        rw [hnil] at this
        cases this
  intro fuel
  induction fuel with
  | zero =>
    intro E a w β m hu h
    have hall := ZC E ops.size hu
    refine ⟨?_, finish E a w β m h hall⟩
    cases hr : Region.ready .any ops E with
    | nil => rfl
    | cons i r =>
      have hi : i ∈ Region.ready .any ops E := by rw [hr]; simp
      obtain ⟨h1, h2, _⟩ := h.ready hok hi
      rw [hall i h1] at h2
      cases h2
  | succ fuel ih =>
    intro E a w β m hu h
    refine ⟨fun hnil => finish E a w β m h (ready_nil E a w β m h hnil), fun i hi => ?_⟩
    obtain ⟨hlt, he, hbits⟩ := h.ready hok hi
    have hisz : i < E.size := by rw [h.esize]; exact hlt
    have hEi : E.getD i false = false := by rw [xS hisz false true]; exact he
    have ho : ops[i]? = some ops[i] := by simp [hlt]
    have hoL : ops.toList[i]? = some ops[i] := by simp [hlt]
    have hval : ∀ t ∈ named ops.toList ops[i], TVR β (S i t) (a.tmps.getD t undef) := by
      intro t htn
      rw [Zb ht t i (by omega), ← wu i ops.size (by omega)]
      rw [yV (E' := fun j => E.getD j false) ops.size fun j hj hjd => by
        have := h.names ht hok hi ho htn j hj hjd
        cases hE : E.getD j false with
        | true => simp [this.1 hE]
        | false => simp; exact Nat.le_of_not_lt fun hlt' => by rw [this.2 hlt'] at hE; cases hE]
      exact h.val t
    have hu' : unl (E.setIfInBounds i true) ops.size = fuel := by
      have := Yc E i hisz he ops.size
      rw [if_pos hlt] at this
      omega
    have hset : ∀ j, j ≠ i → (E.setIfInBounds i true).getD j false = E.getD j false := fun j hj => getD_set_ne' false (Ne.symm hj)
    have hseti : (E.setIfInBounds i true).getD i false = true := uP false hisz
    have hsize' : ∀ u, (a.put ops[i].dst u).tmps.size = N := fun u => by
      cases ops[i].dst <;> simp [Act.put, h.size]
    have hdef' : ∀ u, (a.put ops[i].dst u).defers = [] := fun u => by
      cases ops[i].dst <;> exact h.defers
    have hvals : ∀ (β' : Emb) (u : Value), Le β β' → TVR β' (V i) u → ∀ t, TVR β' (look ops.toList V (S 0 t) (fun j => (E.setIfInBounds i true).getD j false) t ops.size) ((a.put ops[i].dst u).tmps.getD t undef) := by
      intro β' u h1 h3
      intro t
      cases hdst : ops[i].dst with
      | none =>
        show TVR β' _ (a.tmps.getD t undef)
        rw [yV (E' := fun j => E.getD j false) ops.size fun j hj hjd => by
          by_cases hji : j = i
          · subst hji; rw [hoL] at hjd; simp [hdst] at hjd
          · exact hset j hji]
        exact TVR.mono h1 (h.val t)
      | some d =>
        rw [jK a d u t (by rw [h.size]; exact hd ops[i] (by simp) d hdst)]
        by_cases htd : t = d
        · rw [if_pos htd]
          subst htd
          have htn : t ∈ named ops.toList ops[i] := by
            unfold named
            simp [hdst]
          have e1 : look ops.toList V (S 0 t) (fun j => (E.setIfInBounds i true).getD j false) t ops.size = look ops.toList V (S 0 t) (fun j => decide (j < i + 1)) t ops.size := by
            refine yV ops.size fun j hj hjd => ?_
            by_cases hji : j = i
            · subst hji; rw [hseti]; simp
            · rw [hset j hji]
              have := h.names ht hok hi ho htn j hj hjd
              cases hE : E.getD j false with
              | true => have := this.1 hE; simp; omega
              | false =>
                simp
                have : ¬ j < i := fun hlt' => by rw [this.2 hlt'] at hE; cases hE
                omega
          rw [e1, wu (i + 1) ops.size (by omega), ← Zb ht t (i + 1) (by omega), ht.next i ops[i] hoL, hdst]
          show TVR β' (if t = t then V i else S i t) u
          rw [if_pos rfl]
          exact h3
        · rw [if_neg htd]
          rw [yV (E' := fun j => E.getD j false) ops.size fun j hj hjd => by
            by_cases hji : j = i
            · subst hji; rw [hoL] at hjd; simp [hdst] at hjd; exact absurd hjd.symm htd
            · exact hset j hji]
          exact TVR.mono h1 (h.val t)
    have hclosed' : ∀ j, j < ops.size → (E.setIfInBounds i true).getD j false = true → ∀ k, (maskAt ops.toList j).testBit k = true → (E.setIfInBounds i true).getD k false = true := by
      intro j hj hEj k hk
      by_cases hki : k = i
      · subst hki; exact hseti
      · rw [hset k hki]
        by_cases hji : j = i
        · subst hji; exact hbits k hk
        · rw [hset j hji] at hEj
          exact h.closed j hj hEj k hk
    cases hpi : jh ops.toList i with
    | true =>
      have hpo : vU ops[i].op = true := by
        unfold jh at hpi
        rw [hoL] at hpi
        exact hpi
      have hst := (ht.pure i ops[i] hoL hpo).2 (Hs m)
      refine jL hd ho hst h.sr h.size h.defers hval hT hb fun β' u w' h1 h2 h3 h4 => ?_
      refine ih _ _ _ β' m hu' ⟨h.le.trans h1, h2, h.fr.trans h4, hsize' u, hdef' u, hvals β' u h1 h3, by simp [h.esize], h.mle, fun j hj hbj => ?_, hclosed'⟩
      by_cases hji : j = i
      · subst hji; rw [zdn hbj] at hpi; cases hpi
      · rw [hset j hji]
        exact h.bar j hj hbj
    | false =>
    obtain ⟨hrows, hbar⟩ := h.rows ht hok hi hpi
    have hsr := h.sr
    have hfr := h.fr
    rw [hrows] at hsr hfr ⊢
    refine QE ht hd ho hsr h.size h.defers hval hT hb fun β' u w' h1 h2 h3 h4 => ?_
    have hval' := hvals β' u h1 h3
    have hcase : (yY ops.toList i = true ∧ True) ∨ (yY ops.toList i = false ∧ Hs (i + 1) = Hs i) := by
      cases hb : yY ops.toList i with
      | true => exact .inl ⟨rfl, trivial⟩
      | false =>
        right
        refine ⟨rfl, ?_⟩
        rcases ht.quiet rfl i ops[i] hoL with h5 | h5
        · exact h5
        · rw [Nat.zero_add, hb] at h5; cases h5
    rcases hcase with ⟨hb, _⟩ | ⟨hb, hsame⟩
    · refine ih _ _ _ β' (i + 1) hu' ⟨h.le.trans h1, h2, hfr.trans h4, hsize' u, hdef' u, hval', by simp [h.esize], by omega, fun j hj hbj => ?_, hclosed'⟩
      by_cases hji : j = i
      · subst hji; rw [hseti]; simp
      · rw [hset j hji, h.bar j hj hbj, hbar j hj hbj]
        omega
    · rw [hsame] at h2 h4 ⊢
      rw [← hrows]
      refine ih _ _ _ β' m hu' ⟨h.le.trans h1, by rw [hrows]; exact h2, by rw [hrows]; exact hfr.trans h4, hsize' u, hdef' u, hval', by simp [h.esize], h.mle, fun j hj hbj => ?_, hclosed'⟩
      by_cases hji : j = i
      · subst hji; rw [hb] at hbj; cases hbj
      · rw [hset j hji]
        exact h.bar j hj hbj
theorem uQ : ∀ (n k : Nat), k ≤ n → unl (Array.replicate n false) k = k
  | n, 0, _ => rfl
  | n, k + 1, h => by
    have hk : k < n := h
    simp only [unl]
    rw [uQ n k (by omega)]
    simp [Array.getD_eq_getD_getElem?, hk]
end
end Go.Ab
namespace Go.Ab
open Go.Conc
def vK (ops:List Oper) (F:List Nat) (i:Nat):Bool:=jh ops i || F.contains i
def stillOp : Op → Bool
  | .load .. | .indexAddr .. | .index .. | .field .. | .slice .. | .nilCheck .. => true
  | .call c => match c.callee with
    | .builtin .len | .builtin .cap => true
    | _ => false
  | _ => false
def stillAt (ops:List Oper) (i:Nat):Bool:=(ops[i]?).any fun o=>stillOp o.op
def yz (ops:List Oper) (F:List Nat) (i:Nat):Bool:=
 !vK ops F i&&(!stillAt ops i&&(List.range ops.length).all fun j=>vK ops F j || if j<i then (maskAt ops i).testBit j else if i<j then (maskAt ops j).testBit i else true)
def wont (ops:List Oper) (F:List Nat) (i m b:Nat):Bool:=
 decide (b<ops.length)&&yz ops F b&&(((maskAt ops i).testBit b&&decide (m≤b)) || ((maskAt ops b).testBit i&&decide (b<m)))
def RdF (P:Program) [Cls P] (ops:List Oper) (F:List Nat) (i:Nat) (o:Oper) (s:Nat→TV) (v:TV) (G:Nat × Heap):Prop:=(∃ b,wont ops F i G.1 b=true)∨StepR P ops s G.2 o v G.2
def ixF (c i:Nat):Nat→Nat
 | 0=>c
 | m+1=>i+(m+1)
structure TraceF (P:Program) [Cls P] (F:List Nat) (ops:List Oper) (l:List Oper) (i:Nat) (S:Nat→Nat→TV) (Hs:Nat→Heap) (V:Nat→TV):Prop where
 step:∀ j o,l[j]?=some o→StepR P ops (S j) (Hs j) o (V j) (Hs (j+1))
 next:∀ j o,l[j]?=some o→S (j+1)=aput (S j) o.dst (V j)
 quiet:∀ j o,l[j]?=some o→Hs (j+1)=Hs j∨yz ops F (i+j)=true
 free:∀ j o,l[j]?=some o→vK ops F (i+j)=true→Hs (j+1)=Hs j∧∀ m,m≤l.length→(m=0∨yz ops F (i+m - 1)=true)→RdF P ops F (i+j) o (S j) (V j) (m,Hs m)
def wopf (P : Program) [Cls P] (F : List Nat) (ops : List Oper) : List Oper → Nat → List (Nat × Heap) → List (Nat × Oper × (Nat → TV) × TV) → Nat → (Nat → TV) → Heap → ((Nat → TV) → Heap → Prop) → Prop
  | [], _, _, _, _, s, H, K => K s H
  | o :: r, i, past, pend, c, s, H, K =>
    (vK ops F i = false ∧ yz ops F i = false ∧ ∃ v, StepR P ops s H o v H ∧ wopf P F ops r (i + 1) past pend c (aput s o.dst v) H K) ∨
    (yz ops F i = false ∧ ∃ v, (∀ G, StepR P ops s G o v G) ∧ wopf P F ops r (i + 1) past pend c (aput s o.dst v) H K) ∨
    (yz ops F i = false ∧ ∃ v, StepR P ops s H o v H ∧ (∀ G ∈ past, RdF P ops F i o s v G) ∧ wopf P F ops r (i + 1) past ((i, o, s, v) :: pend) c (aput s o.dst v) H K) ∨
    (yz ops F i = true ∧ ∃ v H', StepR P ops s H o v H' ∧ (∀ p ∈ pend, RdF P ops F p.1 p.2.1 p.2.2.1 p.2.2.2 (i + 1, H')) ∧ wopf P F ops r (i + 1) ((c, H) :: past) pend (i + 1) (aput s o.dst v) H' K)
theorem zdo {ops:List Oper} {F:List Nat} {b:Nat} (h:yz ops F b=true):vK ops F b=false:=by
 unfold yz at h;rw [Bool.and_eq_true] at h
 simpa using h.1
theorem WZ {P : Program} [Cls P] {F : List Nat} {ops : List Oper} {K : (Nat → TV) → Heap → Prop} : ∀ (l : List Oper) (i : Nat) (past : List (Nat × Heap)) (pend : List (Nat × Oper × (Nat → TV) × TV)) (c : Nat) (s : Nat → TV) (H : Heap), (∀ p ∈ pend, RdF P ops F p.1 p.2.1 p.2.2.1 p.2.2.2 (c, H)) →
    wopf P F ops l i past pend c s H K → ∃ (S : Nat → Nat → TV) (Hs : Nat → Heap) (V : Nat → TV), S 0 = s ∧ Hs 0 = H ∧ (∀ j o, l[j]? = some o → StepR P ops (S j) (Hs j) o (V j) (Hs (j + 1))) ∧ (∀ j o, l[j]? = some o → S (j + 1) = aput (S j) o.dst (V j)) ∧
      (∀ j o, l[j]? = some o → Hs (j + 1) = Hs j ∨ yz ops F (i + j) = true) ∧
      (∀ j o, l[j]? = some o → vK ops F (i + j) = true → Hs (j + 1) = Hs j ∧ (∀ m, m ≤ l.length → (m = 0 ∨ yz ops F (i + m - 1) = true) → RdF P ops F (i + j) o (S j) (V j) (ixF c i m, Hs m)) ∧ ∀ G ∈ past, RdF P ops F (i + j) o (S j) (V j) G) ∧
      (∀ p ∈ pend, ∀ m, m ≤ l.length → (m = 0 ∨ yz ops F (i + m - 1) = true) → RdF P ops F p.1 p.2.1 p.2.2.1 p.2.2.2 (ixF c i m, Hs m)) ∧ K (S l.length) (Hs l.length)
  | [], i, past, pend, c, s, H, hp, h => ⟨fun _ => s, fun _ => H, fun _ => .v .und, rfl, rfl, fun j o e => by simp at e, fun j o e => by simp at e, fun j o e => by simp at e, fun j o e => by simp at e, fun p hp' m hm _ => by
      obtain rfl : m = 0 := by simpa using hm
      exact hp p hp', h⟩
  | o :: r, i, past, pend, c, s, H, hp, h => by
    have glue : ∀ v H' past' pend' c', StepR P ops s H o v H' → ((H' = H ∧ c' = c ∧ past' = past ∧ yz ops F i = false) ∨ (yz ops F i = true ∧ c' = i + 1 ∧ past' = (c, H) :: past)) → (vK ops F i = true → H' = H ∧ (∀ G ∈ past, RdF P ops F i o s v G) ∧ ((i, o, s, v) ∈ pend' ∨ ∀ G, StepR P ops s G o v G)) → (∀ p ∈ pend, p ∈ pend') → (∀ p ∈ pend', RdF P ops F p.1 p.2.1 p.2.2.1 p.2.2.2 (c', H')) →
        wopf P F ops r (i + 1) past' pend' c' (aput s o.dst v) H' K → ∃ (S : Nat → Nat → TV) (Hs : Nat → Heap) (V : Nat → TV), S 0 = s ∧ Hs 0 = H ∧ (∀ j o', (o :: r)[j]? = some o' → StepR P ops (S j) (Hs j) o' (V j) (Hs (j + 1))) ∧ (∀ j o', (o :: r)[j]? = some o' → S (j + 1) = aput (S j) o'.dst (V j)) ∧
      (∀ j o', (o :: r)[j]? = some o' → Hs (j + 1) = Hs j ∨ yz ops F (i + j) = true) ∧
      (∀ j o', (o :: r)[j]? = some o' → vK ops F (i + j) = true → Hs (j + 1) = Hs j ∧ (∀ m, m ≤ (o :: r).length → (m = 0 ∨ yz ops F (i + m - 1) = true) → RdF P ops F (i + j) o' (S j) (V j) (ixF c i m, Hs m)) ∧ ∀ G ∈ past, RdF P ops F (i + j) o' (S j) (V j) G) ∧
      (∀ p ∈ pend, ∀ m, m ≤ (o :: r).length → (m = 0 ∨ yz ops F (i + m - 1) = true) → RdF P ops F p.1 p.2.1 p.2.2.1 p.2.2.2 (ixF c i m, Hs m)) ∧ K (S (o :: r).length) (Hs (o :: r).length) := by
      intro v H' past' pend' c' hst hq hfr hpe hpe2 hr
      obtain ⟨S, Hs, V, h1, h2, h3, h4, h5, h6, h7, h8⟩ := WZ r (i + 1) past' pend' c' _ _ hpe2 hr
      have hix : ∀ m, (m + 1 = 0 ∨ yz ops F (i + (m + 1) - 1) = true) → (m = 0 ∨ yz ops F (i + 1 + m - 1) = true) ∧ ixF c' (i + 1) m = ixF c i (m + 1) := by
        intro m hm
        have hm' : yz ops F (i + m) = true := by
          rcases hm with hm | hm
          · omega
          · rw [show i + (m + 1) - 1 = i + m by omega] at hm; exact hm
        refine ⟨?_, ?_⟩
        · right; rw [show i + 1 + m - 1 = i + m by omega]; exact hm'
        · cases m with
          | zero =>
            rcases hq with ⟨_, _, _, hq⟩ | ⟨_, hq, _⟩
            · rw [Nat.add_zero, hq] at hm'; cases hm'
            · rw [hq]; rfl
          | succ m => show i + 1 + (m + 1) = i + (m + 1 + 1); omega
      refine ⟨fun n => match n with | 0 => s | n + 1 => S n, fun n => match n with | 0 => H | n + 1 => Hs n, fun n => match n with | 0 => v | n + 1 => V n, rfl, rfl, fun j o' e => ?_, fun j o' e => ?_, fun j o' e => ?_, fun j o' e hf => ?_, fun p hp' m hm hb => ?_, by simpa using h8⟩
      · cases j with
        | zero =>
          simp at e
          subst e
          show StepR P ops s H o v (Hs 0)
          rw [h2]; exact hst
        | succ j => exact h3 j o' (by simpa using e)
      · cases j with
        | zero =>
          simp at e
          subst e
          exact h1
        | succ j => exact h4 j o' (by simpa using e)
      · cases j with
        | zero =>
          show Hs 0 = H ∨ _
          rw [h2]
          rcases hq with ⟨hq, _⟩ | ⟨hq, _⟩
          · exact .inl hq
          · exact .inr hq
        | succ j =>
          have := h5 j o' (by simpa using e)
          rw [show i + (j + 1) = i + 1 + j by omega]
          exact this
      · cases j with
        | zero =>
          simp at e
          subst e
          obtain ⟨f1, f2, f3⟩ := hfr hf
          refine ⟨by show Hs 0 = H; rw [h2, f1], fun m hm hb => ?_, f2⟩
          cases m with
          | zero => exact .inr (by rw [f1] at hst; exact hst)
          | succ m =>
            rcases f3 with f4 | f4
            · have := h7 _ f4 m (by simpa using hm) (hix m hb).1
              rw [(hix m hb).2] at this
              exact this
            · exact .inr (f4 _)
        | succ j =>
          obtain ⟨f1, f2, f3⟩ := h6 j o' (by simpa using e) (by rw [show i + 1 + j = i + (j + 1) by omega]; exact hf)
          rw [show i + 1 + j = i + (j + 1) by omega] at f2 f3
          refine ⟨f1, fun m hm hb => ?_, fun G hG => f3 G ?_⟩
          · cases m with
            | zero =>
              rcases hq with ⟨q1, q2, q3, _⟩ | ⟨_, _, q3⟩
              · have := f2 0 (Nat.zero_le _) (.inl rfl)
                rw [h2, q1] at this
                rw [← q2]
                exact this
              · exact f3 (c, H) (by rw [q3]; exact List.mem_cons_self ..)
            | succ m =>
              have := f2 m (by simpa using hm) (hix m hb).1
              rw [(hix m hb).2] at this
              exact this
          · rcases hq with ⟨_, _, q3, _⟩ | ⟨_, _, q3⟩
            · rw [q3]; exact hG
            · rw [q3]; exact List.mem_cons_of_mem _ hG
      · cases m with
        | zero => exact hp p hp'
        | succ m =>
          have := h7 p (hpe p hp') m (by simpa using hm) (hix m hb).1
          rw [(hix m hb).2] at this
          exact this
    rw [wopf] at h
    rcases h with ⟨hf, hb, v, h1, h2⟩ | ⟨hb, v, h1, h2⟩ | ⟨hb, v, h1, h1', h2⟩ | ⟨hb, v, H', h1, h2, h3⟩
    · exact glue v H past pend c h1 (.inl ⟨rfl, rfl, rfl, hb⟩) (fun hf2 => by rw [hf] at hf2; cases hf2) (fun _ h => h) hp h2
    · exact glue v H past pend c (h1 H) (.inl ⟨rfl, rfl, rfl, hb⟩) (fun _ => ⟨rfl, fun G _ => .inr (h1 G.2), .inr h1⟩) (fun _ h => h) hp h2
    · exact glue v H past ((i, o, s, v) :: pend) c h1 (.inl ⟨rfl, rfl, rfl, hb⟩) (fun _ => ⟨rfl, h1', .inl (List.mem_cons_self ..)⟩) (fun _ h => List.mem_cons_of_mem _ h) (fun p hp' => by
        rcases List.mem_cons.1 hp' with rfl | hp'
        · exact .inr h1
        · exact hp p hp') h2
    · exact glue v H' ((c, H) :: past) pend (i + 1) h1 (.inr ⟨hb, rfl, rfl⟩) (fun hf2 => by rw [zdo hb] at hf2; cases hf2) (fun _ h => h) h2 h3
theorem qW {P : Program} [Cls P] {F : List Nat} {ops : List Oper} {K K' : (Nat → TV) → Heap → Prop} (h : ∀ s H, K s H → K' s H) : ∀ (l : List Oper) (i : Nat) (past : List (Nat × Heap)) (pend : List (Nat × Oper × (Nat → TV) × TV)) (c : Nat) (s : Nat → TV) (H : Heap), wopf P F ops l i past pend c s H K → wopf P F ops l i past pend c s H K'
  | [], _, _, _, _, _, _, hw => h _ _ hw
  | o :: r, i, past, pend, c, s, H, hw => by
    rw [wopf] at hw ⊢
    rcases hw with ⟨h1, hb, v, h2, h3⟩ | ⟨hb, v, h1, h2⟩ | ⟨hb, v, h1, h1', h2⟩ | ⟨h0, v, H', h1, h2, h3⟩
    · exact .inl ⟨h1, hb, v, h2, qW h r _ _ _ _ _ _ h3⟩
    · exact .inr (.inl ⟨hb, v, h1, qW h r _ _ _ _ _ _ h2⟩)
    · exact .inr (.inr (.inl ⟨hb, v, h1, h1', qW h r _ _ _ _ _ _ h2⟩))
    · exact .inr (.inr (.inr ⟨h0, v, H', h1, h2, qW h r _ _ _ _ _ _ h3⟩))
theorem Yd {P : Program} [Cls P] {F : List Nat} {ops : List Oper} {ι : Type} {K : ι → (Nat → TV) → Heap → Prop} : ∀ (l : List Oper) (i : Nat) (past : List (Nat × Heap)) (pend : List (Nat × Oper × (Nat → TV) × TV)) (c : Nat) (s : Nat → TV) (H : Heap), wopf P F ops l i past pend c s H (fun s H => ∃ k, K k s H) → ∃ k, wopf P F ops l i past pend c s H (K k)
  | [], _, _, _, _, _, _, hw => hw
  | o :: r, i, past, pend, c, s, H, hw => by
    rw [wopf] at hw
    rcases hw with ⟨h1, hb, v, h2, h3⟩ | ⟨hb, v, h1, h2⟩ | ⟨hb, v, h1, h1', h2⟩ | ⟨h0, v, H', h1, h2, h3⟩
    · obtain ⟨k, hk⟩ := Yd r _ _ _ _ _ _ h3; exact ⟨k, by rw [wopf]; exact .inl ⟨h1, hb, v, h2, hk⟩⟩
    · obtain ⟨k, hk⟩ := Yd r _ _ _ _ _ _ h2; exact ⟨k, by rw [wopf]; exact .inr (.inl ⟨hb, v, h1, hk⟩)⟩
    · obtain ⟨k, hk⟩ := Yd r _ _ _ _ _ _ h2; exact ⟨k, by rw [wopf]; exact .inr (.inr (.inl ⟨hb, v, h1, h1', hk⟩))⟩
    · obtain ⟨k, hk⟩ := Yd r _ _ _ _ _ _ h3; exact ⟨k, by rw [wopf]; exact .inr (.inr (.inr ⟨h0, v, H', h1, h2, hk⟩))⟩
section
variable {P:Program} [Cls P] {T:Cont} {b:Frame} {k:List Item} {cs:List Frame} {F:List Nat} {ops:Array Oper} {N:Nat} {S:Nat→Nat→TV} {Hs:Nat→Heap} {V:Nat→TV}
theorem zbq (ht:TraceF P F ops.toList ops.toList 0 S Hs V) (hd:∀ o∈ops.toList,∀ d,o.dst=some d→d<N) {i:Nat} {o:Oper} (ho:ops[i]?=some o)
  {β:Emb} {a:Act} {w:World} (hs:SRI P β (Hs i) w) (hsz:a.tmps.size=N) (hdf:a.defers=[]) (hv:∀ t∈named ops.toList o,TVR β (S i t) (a.tmps.getD t undef))
  (hT:Cls.ok P T) (hb:b.kind≠.early) {K:Emb→Heap→Act→World→Prop} (hK:∀ β' u w',Le β β'→SRI P β' (Hs (i+1)) w'→TVR β' (V i) u→FrC β (Hs i) w β' (Hs (i+1)) w'→K β' (Hs (i+1)) (a.put o.dst u) w') :
  OpT T b k cs ops i K β (Hs i) a w:=jL hd ho (ht.step i o (by simpa using ho)) hs hsz hdf hv hT hb hK
theorem j4 (ht : TraceF P F ops.toList ops.toList 0 S Hs V) (t : Tmp) : ∀ i, i ≤ ops.size → S i t = look ops.toList V (S 0 t) (fun j => decide (j < i)) t i
  | 0, _ => rfl
  | i + 1, h => by
    have ho : ops.toList[i]? = some ops[i] := by simp
    rw [ht.next i ops[i] ho]
    have ih := j4 ht t i (by omega)
    have e : look ops.toList V (S 0 t) (fun j => decide (j < i + 1)) t i = look ops.toList V (S 0 t) (fun j => decide (j < i)) t i :=
      yV i fun j hj _ => by simp; omega
    simp only [look, ho, Option.bind_some]
    rw [e, ← ih]
    cases hd : (ops[i]).dst with
    | none => simp [aput]
    | some d =>
      simp only [aput, upd]
      by_cases hdt : t = d
      · subst hdt; simp
      · rw [if_neg hdt, if_neg (by simp; exact fun e => hdt e.symm)]
structure MidF (P:Program) [Cls P] (F:List Nat) (ops:Array Oper) (N:Nat) (S:Nat→Nat→TV) (Hs:Nat→Heap) (V:Nat→TV) (β0:Emb) (w0:World) (E:Array Bool) (a:Act) (w:World) (β:Emb) (m:Nat):Prop where
 le:Le β0 β
 sr:SRI P β (Hs m) w
 fr:FrC β0 (Hs 0) w0 β (Hs m) w
 size:a.tmps.size=N
 defers:a.defers=[]
 val:∀ t,TVR β (look ops.toList V (S 0 t) (fun j=>E.getD j false) t ops.size) (a.tmps.getD t undef)
 esize:E.size=ops.size
 mle:m≤ops.size
 mb:m=0∨yz ops.toList F (m - 1)=true
 bar:∀ j,j<ops.size→yz ops.toList F j=true→(E.getD j false=true↔j<m)
 closed:∀ j,j<ops.size→E.getD j false=true→∀ i,(maskAt ops.toList j).testBit i=true→E.getD i false=true
theorem MidF.ready {β0:Emb} {w0:World} {E:Array Bool} {a:Act} {w:World} {β:Emb} {m:Nat} (hok:xM ops.toList=true) (h:MidF P F ops N S Hs V β0 w0 E a w β m) {i:Nat}
  (hi:i∈Region.ready .any ops E):i<ops.size∧E.getD i true=false∧∀ k,(maskAt ops.toList i).testBit k=true→E.getD k false=true:=by
 obtain⟨h1,o,ho,h2⟩:=mem_ready.1 hi;have hlt:i<ops.size:=by
  rcases Nat.lt_or_ge i ops.size with h'|h'
  ·exact h'
  ·simp [Array.getElem?_eq_none h'] at ho
 refine⟨hlt,h1,fun k hk=>?_⟩;obtain⟨e,he,hb,hor⟩:=YC hok (j:=i) (i:=k) (o:=o) (by simpa using ho) hk;have hE:=h2 e (by simpa using he) hb;rcases hor with rfl|hor
 ·exact hE
 ·have hel:e.on<ops.size:=by
   rcases Nat.lt_or_ge e.on ops.size with h'|h'
   ·exact h'
   ·rw [←h.esize] at h'
    simp [Array.getD_eq_getD_getElem?,Array.getElem?_eq_none h'] at hE
  exact h.closed e.on hel hE k hor
theorem YE {ops:List Oper} {F:List Nat} {b j:Nat} (h:yz ops F b=true) (hj:j<ops.length) (hp:vK ops F j=false):(j<b→(maskAt ops b).testBit j=true)∧(b<j→(maskAt ops j).testBit b=true):=by
 unfold yz at h;rw [Bool.and_eq_true,Bool.and_eq_true] at h;have:=List.all_eq_true.1 h.2.2 j (List.mem_range.2 hj);rw [hp,Bool.false_or] at this;constructor
 ·intro hjb;rw [if_pos hjb] at this;exact this
 ·intro hbj;rw [if_neg (by omega),if_pos hbj] at this;exact this
theorem UG {ops:List Oper} {F:List Nat} {b:Nat} (h:yz ops F b=true):vK ops F b=false:=by
 unfold yz at h;rw [Bool.and_eq_true] at h
 simpa using h.1
theorem Zc (ht : TraceF P F ops.toList ops.toList 0 S Hs V) : ∀ (d i : Nat), i + d ≤ ops.size → (∀ j, i ≤ j → j < i + d → yz ops.toList F j = false) → Hs (i + d) = Hs i
  | 0, i, _, _ => rfl
  | d + 1, i, h, hb => by
    have hlt : i + d < ops.size := by omega
    have := ht.quiet (i + d) ops[i + d] (by simp [hlt])
    rw [show i + (d + 1) = i + d + 1 by omega]
    rcases this with h1 | h1
    · rw [h1]
      exact Zc ht d i (by omega) fun j h2 h3 => hb j h2 (by omega)
    · rw [Nat.zero_add, hb (i + d) (by omega) (by omega)] at h1
      cases h1
theorem MidF.rows {β0:Emb} {w0:World} {E:Array Bool} {a:Act} {w:World} {β:Emb} {m:Nat} (ht:TraceF P F ops.toList ops.toList 0 S Hs V) (hok:xM ops.toList=true) (h:MidF P F ops N S Hs V β0 w0 E a w β m) {i:Nat}
  (hi:i∈Region.ready .any ops E) (hpi:vK ops.toList F i=false):Hs m=Hs i∧(∀ j,j<ops.size→yz ops.toList F j=true→(j<m↔j<i)):=by
 obtain⟨hlt,he,hbits⟩:=h.ready hok hi;have hEi:E.getD i false=false:=by rw [xS (by rw [h.esize];exact hlt) false true];exact he
 have hlen:ops.toList.length=ops.size:=by simp
 have key:∀ j,j<ops.size→yz ops.toList F j=true→(j<m↔j<i):=by
  intro j hj hb;rw [←h.bar j hj hb];constructor
  ·intro hE;rcases Nat.lt_trichotomy j i with h1|h1|h1
   ·exact h1
   ·subst h1;rw [hEi] at hE;cases hE
   ·have:=(YE hb (j:=i) (by omega) hpi).1 h1;rw [h.closed j hj hE i this] at hEi
    cases hEi
  ·intro h1;exact hbits j ((YE hb (j:=i) (by omega) hpi).2 h1)
 refine⟨?_,key⟩;rcases Nat.le_total m i with h1|h1
 ·have:=Zc ht (i - m) m (by omega) fun j h2 h3=>by
   cases hb:yz ops.toList F j with
   | false=>rfl
   | true=>have:=key j (by omega) hb;omega
  rw [show m+(i - m)=i by omega] at this;exact this.symm
 ·have:=Zc ht (m - i) i (by have:=h.mle;omega) fun j h2 h3=>by
   cases hb:yz ops.toList F j with
   | false=>rfl
   | true=>have:=key j (by have:=h.mle;omega) hb;omega
  rw [show i+(m - i)=m by omega] at this;exact this
theorem MidF.names {β0:Emb} {w0:World} {E:Array Bool} {a:Act} {w:World} {β:Emb} {m:Nat} (ht:TraceF P F ops.toList ops.toList 0 S Hs V) (hok:xM ops.toList=true) (h:MidF P F ops N S Hs V β0 w0 E a w β m) {i:Nat} {o:Oper}
  (hi:i∈Region.ready .any ops E) (ho:ops[i]?=some o) {t:Tmp} (htn:t∈named ops.toList o):∀ j,j<ops.size→(ops.toList[j]?).bind (·.dst)=some t→(E.getD j false=true↔j<i):=by
 obtain⟨hlt,he,hbits⟩:=h.ready hok hi;have hEi:E.getD i false=false:=by rw [xS (by rw [h.esize];exact hlt) false true];exact he
 intro j hj hjd;have hoj:ops.toList[j]?=some ops[j]:=by simp [hj]
 rw [hoj] at hjd;simp only [Option.bind_some] at hjd;have hcl:=YD (i:=i) (j:=j) (by simpa using ho) hoj htn hjd;have hlen:ops.toList.length=ops.size:=by simp
 constructor
 ·intro hE;rcases Nat.lt_trichotomy j i with h1|h1|h1
  ·exact h1
  ·subst h1;rw [hEi] at hE;cases hE
  ·have:=uJ hok h1 (by omega) hcl.1;rw [h.closed j hj hE i this] at hEi
   cases hEi
 ·intro h1;exact hbits j (uJ hok h1 (by omega) hcl.2)
theorem JQ (ht : TraceF P F ops.toList ops.toList 0 S Hs V) (hok : xM ops.toList = true) (hd : ∀ o ∈ ops.toList, ∀ d, o.dst = some d → d < N) (hT : Cls.ok P T) (hb : b.kind ≠ .early) {β0 : Emb} {w0 : World}
    (hQ : ∀ β' a' w', Le β0 β' → AR β' (S ops.size) a' N → SRI P β' (Hs ops.size) w' → FrC β0 (Hs 0) w0 β' (Hs ops.size) w' → QT T b k cs β' (Hs ops.size) a' w') :
    ∀ (fuel : Nat) (E : Array Bool) (a : Act) (w : World) (β : Emb) (m : Nat), unl E ops.size = fuel → MidF P F ops N S Hs V β0 w0 E a w β m → AnyT T b k cs ops fuel E β (Hs m) a w := by
  have hlen : ops.toList.length = ops.size := by simp
  have finish : ∀ (E : Array Bool) (a : Act) (w : World) (β : Emb) (m : Nat), MidF P F ops N S Hs V β0 w0 E a w β m → (∀ j, j < ops.size → E.getD j true = true) → QT T b k cs β (Hs m) a w := by
    intro E a w β m h hall
    have hallf : ∀ j, j < ops.size → E.getD j false = true := fun j hj => by rw [xS (by rw [h.esize]; exact hj) false true]; exact hall j hj
    have hrows : Hs m = Hs ops.size := by
      have := Zc ht (ops.size - m) m (by have := h.mle; omega) fun j h2 h3 => by
        cases hb : yz ops.toList F j with
        | false => rfl
        | true => have := (h.bar j (by omega) hb).1 (hallf j (by omega)); omega
      rw [show m + (ops.size - m) = ops.size by have := h.mle; omega] at this
      exact this.symm
    have hsr := h.sr
    have hfr := h.fr
    rw [hrows] at hsr hfr ⊢
    refine hQ β a w h.le ⟨h.size, fun t => ?_, h.defers⟩ hsr hfr
    rw [j4 ht t ops.size (Nat.le_refl _)]
    rw [yV (E' := fun j => E.getD j false) ops.size fun j hj _ => by simp [hj, hallf j hj]]
    exact h.val t
  have ready_nil : ∀ (E : Array Bool) (a : Act) (w : World) (β : Emb) (m : Nat), MidF P F ops N S Hs V β0 w0 E a w β m → Region.ready .any ops E = [] → ∀ j, j < ops.size → E.getD j true = true := by
    intro E a w β m h hnil j
    induction j using Nat.strongRecOn with
    | _ j ih =>
      intro hj
      cases hE : E.getD j true with
      | true => rfl
      | false =>
        have : j ∈ Region.ready .any ops E := by
          refine mem_ready.2 ⟨hE, ops[j], by simp [hj], fun e he hb => ?_⟩
          have hlt : e.on < j := by
            have hok' := hok
            unfold xM at hok'
            rw [Bool.and_eq_true] at hok'
            have := List.all_eq_true.1 hok'.1 j (List.mem_range.2 (by omega))
            rw [show ops.toList[j]? = some ops[j] by simp [hj]] at this
            have := List.all_eq_true.1 this e (by simpa using he)
            rw [hb] at this
            simpa using this
          have := ih e.on hlt (by omega)
          rw [xS (by rw [h.esize]; omega) false true]
          exact this
        rw [hnil] at this
        cases this
  intro fuel
  induction fuel with
  | zero =>
    intro E a w β m hu h
    have hall := ZC E ops.size hu
    refine ⟨?_, finish E a w β m h hall⟩
    cases hr : Region.ready .any ops E with
    | nil => rfl
    | cons i r =>
      have hi : i ∈ Region.ready .any ops E := by rw [hr]; simp
      obtain ⟨h1, h2, _⟩ := h.ready hok hi
      rw [hall i h1] at h2
      cases h2
  | succ fuel ih =>
    intro E a w β m hu h
    refine ⟨fun hnil => finish E a w β m h (ready_nil E a w β m h hnil), fun i hi => ?_⟩
    obtain ⟨hlt, he, hbits⟩ := h.ready hok hi
    have hisz : i < E.size := by rw [h.esize]; exact hlt
    have hEi : E.getD i false = false := by rw [xS hisz false true]; exact he
    have ho : ops[i]? = some ops[i] := by simp [hlt]
    have hoL : ops.toList[i]? = some ops[i] := by simp [hlt]
    have hval : ∀ t ∈ named ops.toList ops[i], TVR β (S i t) (a.tmps.getD t undef) := by
      intro t htn
      rw [j4 ht t i (by omega), ← wu i ops.size (by omega)]
      rw [yV (E' := fun j => E.getD j false) ops.size fun j hj hjd => by
        have := h.names ht hok hi ho htn j hj hjd
        cases hE : E.getD j false with
        | true => simp [this.1 hE]
        | false => simp; exact Nat.le_of_not_lt fun hlt' => by rw [this.2 hlt'] at hE; cases hE]
      exact h.val t
    have hu' : unl (E.setIfInBounds i true) ops.size = fuel := by
      have := Yc E i hisz he ops.size
      rw [if_pos hlt] at this
      omega
    have hset : ∀ j, j ≠ i → (E.setIfInBounds i true).getD j false = E.getD j false := fun j hj => getD_set_ne' false (Ne.symm hj)
    have hseti : (E.setIfInBounds i true).getD i false = true := uP false hisz
    have hsize' : ∀ u, (a.put ops[i].dst u).tmps.size = N := fun u => by
      cases ops[i].dst <;> simp [Act.put, h.size]
    have hdef' : ∀ u, (a.put ops[i].dst u).defers = [] := fun u => by
      cases ops[i].dst <;> exact h.defers
    have hvals : ∀ (β' : Emb) (u : Value), Le β β' → TVR β' (V i) u → ∀ t, TVR β' (look ops.toList V (S 0 t) (fun j => (E.setIfInBounds i true).getD j false) t ops.size) ((a.put ops[i].dst u).tmps.getD t undef) := by
      intro β' u h1 h3
      intro t
      cases hdst : ops[i].dst with
      | none =>
        show TVR β' _ (a.tmps.getD t undef)
        rw [yV (E' := fun j => E.getD j false) ops.size fun j hj hjd => by
          by_cases hji : j = i
          · subst hji; rw [hoL] at hjd; simp [hdst] at hjd
          · exact hset j hji]
        exact TVR.mono h1 (h.val t)
      | some d =>
        rw [jK a d u t (by rw [h.size]; exact hd ops[i] (by simp) d hdst)]
        by_cases htd : t = d
        · rw [if_pos htd]
          subst htd
          have htn : t ∈ named ops.toList ops[i] := by
            unfold named
            simp [hdst]
          have e1 : look ops.toList V (S 0 t) (fun j => (E.setIfInBounds i true).getD j false) t ops.size = look ops.toList V (S 0 t) (fun j => decide (j < i + 1)) t ops.size := by
            refine yV ops.size fun j hj hjd => ?_
            by_cases hji : j = i
            · subst hji; rw [hseti]; simp
            · rw [hset j hji]
              have := h.names ht hok hi ho htn j hj hjd
              cases hE : E.getD j false with
              | true => have := this.1 hE; simp; omega
              | false =>
                simp
                have : ¬ j < i := fun hlt' => by rw [this.2 hlt'] at hE; cases hE
                omega
          rw [e1, wu (i + 1) ops.size (by omega), ← j4 ht t (i + 1) (by omega), ht.next i ops[i] hoL, hdst]
          show TVR β' (if t = t then V i else S i t) u
          rw [if_pos rfl]
          exact h3
        · rw [if_neg htd]
          rw [yV (E' := fun j => E.getD j false) ops.size fun j hj hjd => by
            by_cases hji : j = i
            · subst hji; rw [hoL] at hjd; simp [hdst] at hjd; exact absurd hjd.symm htd
            · exact hset j hji]
          exact TVR.mono h1 (h.val t)
    have hclosed' : ∀ j, j < ops.size → (E.setIfInBounds i true).getD j false = true → ∀ k, (maskAt ops.toList j).testBit k = true → (E.setIfInBounds i true).getD k false = true := by
      intro j hj hEj k hk
      by_cases hki : k = i
      · subst hki; exact hseti
      · rw [hset k hki]
        by_cases hji : j = i
        · subst hji; exact hbits k hk
        · rw [hset j hji] at hEj
          exact h.closed j hj hEj k hk
    cases hpi : vK ops.toList F i with
    | true =>
      have hfo : vK ops.toList F i = true := hpi
      have hrd := (ht.free i ops[i] hoL (by rw [Nat.zero_add]; exact hfo)).2 m (by rw [hlen]; exact h.mle) (by rw [Nat.zero_add]; exact h.mb)
      have hst : StepR P ops.toList (S i) (Hs m) ops[i] (V i) (Hs m) := by
        rcases hrd with ⟨b, hb⟩ | hst
        · exfalso
          unfold wont at hb
          simp only [Bool.and_eq_true, Bool.or_eq_true, decide_eq_true_eq, Nat.zero_add] at hb
          obtain ⟨⟨hb1, hb2⟩, hb3⟩ := hb
          rw [hlen] at hb1
          rcases hb3 with ⟨hb4, hb5⟩ | ⟨hb4, hb5⟩
          · have := (h.bar b hb1 hb2).1 (hbits b hb4); omega
          · have := h.closed b hb1 ((h.bar b hb1 hb2).2 hb5) i hb4
            rw [hEi] at this; cases this
        · exact hst
      refine jL hd ho hst h.sr h.size h.defers hval hT hb fun β' u w' h1 h2 h3 h4 => ?_
      refine ih _ _ _ β' m hu' ⟨h.le.trans h1, h2, h.fr.trans h4, hsize' u, hdef' u, hvals β' u h1 h3, by simp [h.esize], h.mle, h.mb, fun j hj hbj => ?_, hclosed'⟩
      by_cases hji : j = i
      · subst hji; rw [UG hbj] at hpi; cases hpi
      · rw [hset j hji]
        exact h.bar j hj hbj
    | false =>
    obtain ⟨hrows, hbar⟩ := h.rows ht hok hi hpi
    have hsr := h.sr
    have hfr := h.fr
    rw [hrows] at hsr hfr ⊢
    refine zbq ht hd ho hsr h.size h.defers hval hT hb fun β' u w' h1 h2 h3 h4 => ?_
    have hval' := hvals β' u h1 h3
    have hcase : (yz ops.toList F i = true ∧ True) ∨ (yz ops.toList F i = false ∧ Hs (i + 1) = Hs i) := by
      cases hb : yz ops.toList F i with
      | true => exact .inl ⟨rfl, trivial⟩
      | false =>
        right
        refine ⟨rfl, ?_⟩
        rcases ht.quiet i ops[i] hoL with h5 | h5
        · exact h5
        · rw [Nat.zero_add, hb] at h5; cases h5
    rcases hcase with ⟨hb, _⟩ | ⟨hb, hsame⟩
    · refine ih _ _ _ β' (i + 1) hu' ⟨h.le.trans h1, h2, hfr.trans h4, hsize' u, hdef' u, hval', by simp [h.esize], by omega, .inr (by rw [Nat.add_sub_cancel]; exact hb), fun j hj hbj => ?_, hclosed'⟩
      by_cases hji : j = i
      · subst hji; rw [hseti]; simp
      · rw [hset j hji, h.bar j hj hbj, hbar j hj hbj]
        omega
    · rw [hsame] at h2 h4 ⊢
      rw [← hrows]
      refine ih _ _ _ β' m hu' ⟨h.le.trans h1, by rw [hrows]; exact h2, by rw [hrows]; exact hfr.trans h4, hsize' u, hdef' u, hval', by simp [h.esize], h.mle, h.mb, fun j hj hbj => ?_, hclosed'⟩
      by_cases hji : j = i
      · subst hji; rw [hb] at hbj; cases hbj
      · rw [hset j hji]
        exact h.bar j hj hbj
end
theorem zal {P:Program} [Cls P] {T:Cont} (hT:Cls.ok P T) {b:Frame} (hb:b.kind≠.early) {k:List Item} {cs:List Frame} {N:Nat} {F:List Nat} {ops:Array Oper} (hm:P.follows .mixedOrders=true) (ho:xM ops.toList=true) (hd:∀ o∈ops.toList,∀ t,o.dst=some t→t<N) {id:Nat} {s:Nat→TV} {H:Heap} {K:(Nat→TV)→Heap→Prop} (h:wopf P F ops.toList ops.toList 0 [] [] 0 s H K)
  {β:Emb} {a:Act} {w:World} (ha:AR β s a N) (hs:SRI P β H w) (hQ:∀ β' s' H' a' w',K s' H'→Le β β'→AR β' s' a' N→SRI P β' H' w'→FrC β H w β' H' w'→QT T b k cs β' H' a' w') :
  T (Live β H) (G (b.at a (.code (.region id ops true)::k)) cs) w:=by
 obtain⟨S,Hs,V,rfl,rfl,h3,h4,h5,h6,_,hK⟩:=WZ _ _ _ _ _ _ _ (fun p hp=>absurd hp (List.not_mem_nil)) h;have ht:TraceF P F ops.toList ops.toList 0 S Hs V:=⟨h3,h4,h5,fun j o e hf=>⟨(h6 j o e hf).1,fun m h1 h2=>by
  have:=(h6 j o e hf).2.1 m h1 h2
  cases m with
  | zero=>exact this
  | succ m=>rw [show ixF 0 0 (m+1)=m+1 by show 0+(m+1)=_;omega] at this;exact this⟩⟩
 rw [show ops.toList.length=ops.size by simp] at hK;refine Xg hm hT hs fun wd hsz hsd=>?_;have:=JQ ht ho hd hT hb (k:=k) (cs:=cs) (β0:=β) (w0:=w) (fun β' a' w' h1 h2 h3 h4=>hQ β' _ _ a' w' hK h1 h2 h3 h4) ops.size (Array.replicate ops.size false) a wd β 0 (uQ _ _ (Nat.le_refl _))
  ⟨Le.refl β,hsd,FrC.grew hsz,ha.size,ha.defers,fun t=>?_,by simp,Nat.zero_le _,.inl rfl,fun j hj _=>?_,fun j hj hE=>?_⟩
 ·exact this
 ·rw [yV (E':=fun j=>decide (j<0)) ops.size fun j hj _=>by simp [Array.getD_eq_getD_getElem?,hj]];rw [wu 0 ops.size (Nat.zero_le _)];exact ha.val t
 ·simp [Array.getD_eq_getD_getElem?,hj]
 ·simp [Array.getD_eq_getD_getElem?,hj] at hE
end Go.Ab
namespace Go.Ab
open Go.Conc
def closedD (ops:List Oper) (D:Nat→Bool):Prop:=∀ j,j<ops.length→D j=true→∀ k,(maskAt ops j).testBit k=true→D k=true
structure TraceM (P:Program) [Cls P] (ops:List Oper) (S:Nat→Nat→TV) (Hs:(Nat→Bool)→Heap) (V:Nat→TV):Prop where
 next:∀ j o,ops[j]?=some o→S (j+1)=aput (S j) o.dst (V j)
 step:∀ i o,ops[i]?=some o→∀ D,D i=false→closedD ops D→(∀ k,(maskAt ops i).testBit k=true→D k=true)→StepR P ops (S i) (Hs D) o (V i) (Hs (fun j=>D j || j == i))
section
variable {P:Program} [Cls P] {T:Cont} {b:Frame} {k:List Item} {cs:List Frame} {ops:Array Oper} {N:Nat} {S:Nat→Nat→TV} {Hs:(Nat→Bool)→Heap} {V:Nat→TV}
theorem j5 (ht : TraceM P ops.toList S Hs V) (t : Tmp) : ∀ i, i ≤ ops.size → S i t = look ops.toList V (S 0 t) (fun j => decide (j < i)) t i
  | 0, _ => rfl
  | i + 1, h => by
    have ho : ops.toList[i]? = some ops[i] := by simp
    rw [ht.next i ops[i] ho]
    have ih := j5 ht t i (by omega)
    have e : look ops.toList V (S 0 t) (fun j => decide (j < i + 1)) t i = look ops.toList V (S 0 t) (fun j => decide (j < i)) t i :=
      yV i fun j hj _ => by simp; omega
    simp only [look, ho, Option.bind_some]
    rw [e, ← ih]
    cases hd : (ops[i]).dst with
    | none => simp [aput]
    | some d =>
      simp only [aput, upd]
      by_cases hdt : t = d
      · subst hdt; simp
      · rw [if_neg hdt, if_neg (by simp; exact fun e => hdt e.symm)]
structure MidM (P:Program) [Cls P] (ops:Array Oper) (N:Nat) (S:Nat→Nat→TV) (Hs:(Nat→Bool)→Heap) (V:Nat→TV) (β0:Emb) (w0:World) (E:Array Bool) (a:Act) (w:World) (β:Emb):Prop where
 le:Le β0 β
 sr:SRI P β (Hs (fun j=>E.getD j false)) w
 fr:FrC β0 (Hs (fun _=>false)) w0 β (Hs (fun j=>E.getD j false)) w
 size:a.tmps.size=N
 defers:a.defers=[]
 val:∀ t,TVR β (look ops.toList V (S 0 t) (fun j=>E.getD j false) t ops.size) (a.tmps.getD t undef)
 esize:E.size=ops.size
 closed:∀ j,j<ops.size→E.getD j false=true→∀ i,(maskAt ops.toList j).testBit i=true→E.getD i false=true
theorem MidM.ready {β0:Emb} {w0:World} {E:Array Bool} {a:Act} {w:World} {β:Emb} (hok:xM ops.toList=true) (h:MidM P ops N S Hs V β0 w0 E a w β) {i:Nat}
  (hi:i∈Region.ready .any ops E):i<ops.size∧E.getD i true=false∧∀ k,(maskAt ops.toList i).testBit k=true→E.getD k false=true:=by
 obtain⟨h1,o,ho,h2⟩:=mem_ready.1 hi;have hlt:i<ops.size:=by
  rcases Nat.lt_or_ge i ops.size with h'|h'
  ·exact h'
  ·simp [Array.getElem?_eq_none h'] at ho
 refine⟨hlt,h1,fun k hk=>?_⟩;obtain⟨e,he,hb,hor⟩:=YC hok (j:=i) (i:=k) (o:=o) (by simpa using ho) hk;have hE:=h2 e (by simpa using he) hb;rcases hor with rfl|hor
 ·exact hE
 ·have hel:e.on<ops.size:=by
   rcases Nat.lt_or_ge e.on ops.size with h'|h'
   ·exact h'
   ·rw [←h.esize] at h'
    simp [Array.getD_eq_getD_getElem?,Array.getElem?_eq_none h'] at hE
  exact h.closed e.on hel hE k hor
theorem MidM.names {β0:Emb} {w0:World} {E:Array Bool} {a:Act} {w:World} {β:Emb} (hok:xM ops.toList=true) (h:MidM P ops N S Hs V β0 w0 E a w β) {i:Nat} {o:Oper}
  (hi:i∈Region.ready .any ops E) (ho:ops[i]?=some o) {t:Tmp} (htn:t∈named ops.toList o):∀ j,j<ops.size→(ops.toList[j]?).bind (·.dst)=some t→(E.getD j false=true↔j<i):=by
 obtain⟨hlt,he,hbits⟩:=h.ready hok hi;have hEi:E.getD i false=false:=by rw [xS (by rw [h.esize];exact hlt) false true];exact he
 intro j hj hjd;have hoj:ops.toList[j]?=some ops[j]:=by simp [hj]
 rw [hoj] at hjd;simp only [Option.bind_some] at hjd;have hcl:=YD (i:=i) (j:=j) (by simpa using ho) hoj htn hjd;have hlen:ops.toList.length=ops.size:=by simp
 constructor
 ·intro hE;rcases Nat.lt_trichotomy j i with h1|h1|h1
  ·exact h1
  ·subst h1;rw [hEi] at hE;cases hE
  ·have:=uJ hok h1 (by omega) hcl.1;rw [h.closed j hj hE i this] at hEi
   cases hEi
 ·intro h1;exact hbits j (uJ hok h1 (by omega) hcl.2)
theorem JR (ht : TraceM P ops.toList S Hs V) (hok : xM ops.toList = true) (hd : ∀ o ∈ ops.toList, ∀ d, o.dst = some d → d < N) (hT : Cls.ok P T) (hb : b.kind ≠ .early) {β0 : Emb} {w0 : World}
    (hQ : ∀ β' a' w', Le β0 β' → AR β' (S ops.size) a' N → SRI P β' (Hs (fun j => decide (j < ops.size))) w' → FrC β0 (Hs (fun _ => false)) w0 β' (Hs (fun j => decide (j < ops.size))) w' → QT T b k cs β' (Hs (fun j => decide (j < ops.size))) a' w') :
    ∀ (fuel : Nat) (E : Array Bool) (a : Act) (w : World) (β : Emb), unl E ops.size = fuel → MidM P ops N S Hs V β0 w0 E a w β → AnyT T b k cs ops fuel E β (Hs fun j => E.getD j false) a w := by
  have hlen : ops.toList.length = ops.size := by simp
  have finish : ∀ (E : Array Bool) (a : Act) (w : World) (β : Emb), MidM P ops N S Hs V β0 w0 E a w β → (∀ j, j < ops.size → E.getD j true = true) → QT T b k cs β (Hs fun j => E.getD j false) a w := by
    intro E a w β h hall
    have hallf : ∀ j, j < ops.size → E.getD j false = true := fun j hj => by rw [xS (by rw [h.esize]; exact hj) false true]; exact hall j hj
    have hsr := h.sr
    have hfr := h.fr
    have hD : (fun j => E.getD j false) = fun j => decide (j < ops.size) := funext fun j => by
      by_cases hj : j < ops.size
      · rw [hallf j hj, decide_eq_true hj]
      · rw [decide_eq_false hj]; simp [Array.getD_eq_getD_getElem?, Array.getElem?_eq_none (show E.size ≤ j by rw [h.esize]; omega)]
    rw [hD] at hsr hfr ⊢
    refine hQ β a w h.le ⟨h.size, fun t => ?_, h.defers⟩ hsr hfr
    rw [j5 ht t ops.size (Nat.le_refl _)]
    rw [yV (E' := fun j => E.getD j false) ops.size fun j hj _ => by simp [hj, hallf j hj]]
    exact h.val t
  have ready_nil : ∀ (E : Array Bool) (a : Act) (w : World) (β : Emb), MidM P ops N S Hs V β0 w0 E a w β → Region.ready .any ops E = [] → ∀ j, j < ops.size → E.getD j true = true := by
    intro E a w β h hnil j
    induction j using Nat.strongRecOn with
    | _ j ih =>
      intro hj
      cases hE : E.getD j true with
      | true => rfl
      | false =>
        have : j ∈ Region.ready .any ops E := by
          refine mem_ready.2 ⟨hE, ops[j], by simp [hj], fun e he hb => ?_⟩
          have hlt : e.on < j := by
            have hok' := hok
            unfold xM at hok'
            rw [Bool.and_eq_true] at hok'
            have := List.all_eq_true.1 hok'.1 j (List.mem_range.2 (by omega))
            rw [show ops.toList[j]? = some ops[j] by simp [hj]] at this
            have := List.all_eq_true.1 this e (by simpa using he)
            rw [hb] at this
            simpa using this
          have := ih e.on hlt (by omega)
          rw [xS (by rw [h.esize]; omega) false true]
          exact this
        rw [hnil] at this
        cases this
  intro fuel
  induction fuel with
  | zero =>
    intro E a w β hu h
    have hall := ZC E ops.size hu
    refine ⟨?_, finish E a w β h hall⟩
    cases hr : Region.ready .any ops E with
    | nil => rfl
    | cons i r =>
      have hi : i ∈ Region.ready .any ops E := by rw [hr]; simp
      obtain ⟨h1, h2, _⟩ := h.ready hok hi
      rw [hall i h1] at h2
      cases h2
  | succ fuel ih =>
    intro E a w β hu h
    refine ⟨fun hnil => finish E a w β h (ready_nil E a w β h hnil), fun i hi => ?_⟩
    obtain ⟨hlt, he, hbits⟩ := h.ready hok hi
    have hisz : i < E.size := by rw [h.esize]; exact hlt
    have hEi : E.getD i false = false := by rw [xS hisz false true]; exact he
    have ho : ops[i]? = some ops[i] := by simp [hlt]
    have hoL : ops.toList[i]? = some ops[i] := by simp [hlt]
    have hval : ∀ t ∈ named ops.toList ops[i], TVR β (S i t) (a.tmps.getD t undef) := by
      intro t htn
      rw [j5 ht t i (by omega), ← wu i ops.size (by omega)]
      rw [yV (E' := fun j => E.getD j false) ops.size fun j hj hjd => by
        have := h.names hok hi ho htn j hj hjd
        cases hE : E.getD j false with
        | true => simp [this.1 hE]
        | false => simp; exact Nat.le_of_not_lt fun hlt' => by rw [this.2 hlt'] at hE; cases hE]
      exact h.val t
    have hu' : unl (E.setIfInBounds i true) ops.size = fuel := by
      have := Yc E i hisz he ops.size
      rw [if_pos hlt] at this
      omega
    have hset : ∀ j, j ≠ i → (E.setIfInBounds i true).getD j false = E.getD j false := fun j hj => getD_set_ne' false (Ne.symm hj)
    have hseti : (E.setIfInBounds i true).getD i false = true := uP false hisz
    have hsize' : ∀ u, (a.put ops[i].dst u).tmps.size = N := fun u => by
      cases ops[i].dst <;> simp [Act.put, h.size]
    have hdef' : ∀ u, (a.put ops[i].dst u).defers = [] := fun u => by
      cases ops[i].dst <;> exact h.defers
    have hvals : ∀ (β' : Emb) (u : Value), Le β β' → TVR β' (V i) u → ∀ t, TVR β' (look ops.toList V (S 0 t) (fun j => (E.setIfInBounds i true).getD j false) t ops.size) ((a.put ops[i].dst u).tmps.getD t undef) := by
      intro β' u h1 h3
      intro t
      cases hdst : ops[i].dst with
      | none =>
        show TVR β' _ (a.tmps.getD t undef)
        rw [yV (E' := fun j => E.getD j false) ops.size fun j hj hjd => by
          by_cases hji : j = i
          · subst hji; rw [hoL] at hjd; simp [hdst] at hjd
          · exact hset j hji]
        exact TVR.mono h1 (h.val t)
      | some d =>
        rw [jK a d u t (by rw [h.size]; exact hd ops[i] (by simp) d hdst)]
        by_cases htd : t = d
        · rw [if_pos htd]
          subst htd
          have htn : t ∈ named ops.toList ops[i] := by
            unfold named
            simp [hdst]
          have e1 : look ops.toList V (S 0 t) (fun j => (E.setIfInBounds i true).getD j false) t ops.size = look ops.toList V (S 0 t) (fun j => decide (j < i + 1)) t ops.size := by
            refine yV ops.size fun j hj hjd => ?_
            by_cases hji : j = i
            · subst hji; rw [hseti]; simp
            · rw [hset j hji]
              have := h.names hok hi ho htn j hj hjd
              cases hE : E.getD j false with
              | true => have := this.1 hE; simp; omega
              | false =>
                simp
                have : ¬ j < i := fun hlt' => by rw [this.2 hlt'] at hE; cases hE
                omega
          rw [e1, wu (i + 1) ops.size (by omega), ← j5 ht t (i + 1) (by omega), ht.next i ops[i] hoL, hdst]
          show TVR β' (if t = t then V i else S i t) u
          rw [if_pos rfl]
          exact h3
        · rw [if_neg htd]
          rw [yV (E' := fun j => E.getD j false) ops.size fun j hj hjd => by
            by_cases hji : j = i
            · subst hji; rw [hoL] at hjd; simp [hdst] at hjd; exact absurd hjd.symm htd
            · exact hset j hji]
          exact TVR.mono h1 (h.val t)
    have hclosed' : ∀ j, j < ops.size → (E.setIfInBounds i true).getD j false = true → ∀ k, (maskAt ops.toList j).testBit k = true → (E.setIfInBounds i true).getD k false = true := by
      intro j hj hEj k hk
      by_cases hki : k = i
      · subst hki; exact hseti
      · rw [hset k hki]
        by_cases hji : j = i
        · subst hji; exact hbits k hk
        · rw [hset j hji] at hEj
          exact h.closed j hj hEj k hk
    have hDn : (fun j => (E.setIfInBounds i true).getD j false) = fun j => E.getD j false || j == i := funext fun j => by
      by_cases hj : j = i
      · subst hj; rw [hseti]; simp
      · rw [hset j hj, show (j == i) = false by simpa using hj, Bool.or_false]
    have hst := ht.step i _ hoL (fun j => E.getD j false) hEi (fun j hj hD k hk => h.closed j (by simpa using hj) hD k hk) hbits
    rw [← hDn] at hst
    refine jL hd ho hst h.sr h.size h.defers hval hT hb fun β' u w' h1 h2 h3 h4 => ?_
    exact ih _ _ _ β' hu' ⟨h.le.trans h1, h2, h.fr.trans h4, hsize' u, hdef' u, hvals β' u h1 h3, by simp [h.esize], hclosed'⟩
end
def mayM (ops:List Oper) (C:List Nat) (i:Nat) (m:List Bool):Bool:=
 (C.zip m).all fun p=>(!(maskAt ops i).testBit p.1 || p.2)&&(!(maskAt ops p.1).testBit i || !p.2)&&(!(p.1 == i) || !p.2)&&(C.zip m).all fun q=>!(maskAt ops p.1).testBit q.1 || !p.2 || q.2
def uS:Nat→List (List Bool)
 | 0=>[[]]
 | n+1=>(uS n).map (false::·)++(uS n).map (true::·)
def jM (ops:List Oper) (C:List Nat) (i:Nat):List (List Bool):=(uS C.length).filter (mayM ops C i)
def wX (C:List Nat) (i:Nat) (m:List Bool):List Bool:=(C.zip m).map fun p=>p.2 || p.1 == i
theorem Wi : ∀ (m : List Bool), m ∈ uS m.length
  | [] => by simp [uS]
  | b :: m => by
    have := Wi m
    show b :: m ∈ (uS m.length).map (false :: ·) ++ (uS m.length).map (true :: ·)
    rw [List.mem_append]
    cases b
    · exact .inl (List.mem_map.2 ⟨m, this, rfl⟩)
    · exact .inr (List.mem_map.2 ⟨m, this, rfl⟩)
theorem QF (C:List Nat) (D:Nat→Bool):C.zip (C.map D)=C.map fun k=>(k,D k):=by
 induction C with
 | nil=>rfl
 | cons k C ih=>rw [List.map_cons,List.zip_cons_cons,ih];rfl
def wopm (P:Program) [Cls P] (ops:List Oper) (C:List Nat) (Hm:List Bool→Heap):List Oper→Nat→(Nat→TV)→((Nat→TV)→Heap→Prop)→Prop
 | [],_,s,K=>K s (Hm (C.map fun _=>true))
 | o::r,i,s,K=>∃ v,((C.contains i=false∧∀ G,StepR P ops s G o v G)∨∀ m∈jM ops C i,StepR P ops s (Hm m) o v (Hm (wX C i m)))∧wopm P ops C Hm r (i+1) (aput s o.dst v) K
theorem ZM {P:Program} [Cls P] {ops:List Oper} {C:List Nat} {Hm:List Bool→Heap} {K K':(Nat→TV)→Heap→Prop} (h:∀ s H,K s H→K' s H):∀ (l:List Oper) (i:Nat) (s:Nat→TV),wopm P ops C Hm l i s K→wopm P ops C Hm l i s K'
 | [],_,_,hw=>h _ _ hw
 | o::r,i,s,⟨v,h1,h2⟩=>⟨v,h1,ZM h r _ _ h2⟩
theorem VV {P:Program} [Cls P] {ops:List Oper} {C:List Nat} {Hm:List Bool→Heap} {ι:Type} {K:ι→(Nat→TV)→Heap→Prop}:∀ (l:List Oper) (i:Nat) (s:Nat→TV),wopm P ops C Hm l i s (fun s H=>∃ k,K k s H)→∃ k,wopm P ops C Hm l i s (K k)
 | [],_,_,hw=>hw
 | o::r,i,s,⟨v,h1,h2⟩=>by obtain⟨k,hk⟩:=VV r _ _ h2;exact⟨k,v,h1,hk⟩
theorem zbr {P:Program} [Cls P] {ops:List Oper} {C:List Nat} {Hm:List Bool→Heap} {K:(Nat→TV)→Heap→Prop} (l:List Oper) (i:Nat) (s:Nat→TV) (h:wopm P ops C Hm l i s K):∃ s' H',K s' H'∧wopm P ops C Hm l i s (fun x y=>x=s'∧y=H'):=by
 have h1:wopm P ops C Hm l i s (fun x y=>∃ p:{p:(Nat→TV) × Heap // K p.1 p.2},x=p.1.1∧y=p.1.2):=ZM (fun s H hk=>⟨⟨(s,H),hk⟩,rfl,rfl⟩) l i s h;obtain⟨⟨p,hp⟩,h2⟩:=VV l i s h1;exact⟨p.1,p.2,hp,h2⟩
theorem W9 {P : Program} [Cls P] {ops : List Oper} {C : List Nat} {Hm : List Bool → Heap} {K : (Nat → TV) → Heap → Prop} : ∀ (l : List Oper) (i : Nat) (s : Nat → TV), wopm P ops C Hm l i s K →
    ∃ (S : Nat → Nat → TV) (V : Nat → TV), S 0 = s ∧ (∀ j o, l[j]? = some o → S (j + 1) = aput (S j) o.dst (V j)) ∧
      (∀ j o, l[j]? = some o → (C.contains (i + j) = false ∧ ∀ G, StepR P ops (S j) G o (V j) G) ∨ ∀ m ∈ jM ops C (i + j), StepR P ops (S j) (Hm m) o (V j) (Hm (wX C (i + j) m))) ∧ K (S l.length) (Hm (C.map fun _ => true))
  | [], i, s, h => ⟨fun _ => s, fun _ => .v .und, rfl, fun j o e => by simp at e, fun j o e => by simp at e, h⟩
  | o :: r, i, s, ⟨v, h1, h2⟩ => by
    obtain ⟨S, V, g1, g2, g3, g4⟩ := W9 r (i + 1) _ h2
    refine ⟨fun n => match n with | 0 => s | n + 1 => S n, fun n => match n with | 0 => v | n + 1 => V n, rfl, fun j o' e => ?_, fun j o' e => ?_, by simpa using g4⟩
    · cases j with
      | zero => simp at e; subst e; exact g1
      | succ j => exact g2 j o' (by simpa using e)
    · cases j with
      | zero => simp at e; subst e; exact h1
      | succ j =>
        have := g3 j o' (by simpa using e)
        rw [show i + 1 + j = i + (j + 1) by omega] at this
        exact this
def holes:Nat→Heap→Heap
 | 0,H=>H
 | n+1,H=>(holes n H).alloc .hole
theorem SR.hole {β:Emb} {H:Heap} {w:World} (h:SR β H w):SR β (H.alloc .hole) w:=by
 have hn:∀ i l,β i=some l→i≠H.n:=fun i l e=>Nat.ne_of_lt (h.lt e);refine⟨fun i hi=>h.dom i (Nat.le_of_succ_le hi),fun i hi hh=>?_,fun i l e=>?_,fun i j li lj hij ei ej ho hg=>?_⟩
 ·have hi':i<H.n+1:=hi
  by_cases e:i=H.n
  ·subst e;exact absurd (show (H.alloc .hole).f H.n=.hole by simp [Heap.alloc,upd]) hh
  ·exact h.tot i (by omega) (by simpa [Heap.alloc,upd,e] using hh)
 ·have:=hn i l e;rw [show (H.alloc .hole).f i=H.f i by simp [Heap.alloc,upd,this]];exact h.row i l e
 ·rw [show (H.alloc .hole).f i=H.f i by simp [Heap.alloc,upd,hn i li ei]] at ho;rw [show (H.alloc .hole).f j=H.f j by simp [Heap.alloc,upd,hn j lj ej]] at hg;exact h.apart i j li lj hij ei ej ho hg
theorem Owns.hole {β:Emb} {H:Heap} {b:Nat} (h:Owns β (H.alloc .hole) b):Owns β H b:=by
 obtain⟨i,l,e,ho,hl⟩:=h;refine⟨i,l,e,?_,hl⟩
 by_cases hi:i=H.n
 ·subst hi;simp [Heap.alloc,upd,Blk.isOwn] at ho
 ·simpa [Heap.alloc,upd,hi] using ho
theorem UH {β:Emb} {H:Heap} {w:World} (hs:SR β H w):Live β (H.alloc .hole)=Live β H:=funext fun b=>propext ⟨fun ⟨i,l,e,hg,hl⟩=>⟨i,l,e,by
 have:i≠H.n:=Nat.ne_of_lt (hs.lt e)
 simpa [Heap.alloc,upd,this] using hg,hl⟩,fun ⟨i,l,e,hg,hl⟩=>⟨i,l,e,by
 have:i≠H.n:=Nat.ne_of_lt (hs.lt e)
 simpa [Heap.alloc,upd,this] using hg,hl⟩⟩
theorem SRI.hole {P:Program} [Cls P] {β:Emb} {H:Heap} {w:World} (h:SRI P β H w):SRI P β (H.alloc .hole) w:=⟨h.sr.hole,fun b hb=>h.inn.own b hb.hole,wT.upd (fun _ _=>Blk.noConfusion) h.inn.tabs,h.inn.low⟩
theorem FrC.hole {β β':Emb} {H H':Heap} {w w':World} (hs:SR β H w) (h:FrC β (H.alloc .hole) w β' H' w'):FrC β H w β' H' w':=
 ⟨h.size,fun b hb ho=>(h.owns b hb ho).hole,fun b hb ho=>by have:=h.rng b hb ho;rw [UH hs] at this;exact this,fun hn=>h.tabs (wT.upd (fun _ _=>Blk.noConfusion) hn)⟩
theorem SRI.holes {P:Program} [Cls P] {β:Emb} {H:Heap} {w:World} (h:SRI P β H w):∀ n,SRI P β (holes n H) w
 | 0=>h
 | n+1=>(SRI.holes h n).hole
theorem Va {P:Program} [Cls P] {β:Emb} {H:Heap} {w:World} (h:SRI P β H w):∀ n,Live β (holes n H)=Live β H
 | 0=>rfl
 | n+1=>(UH (SRI.holes h n).sr).trans (Va h n)
theorem FrC.holes {P:Program} [Cls P] {β β':Emb} {H H':Heap} {w w':World} (hs:SRI P β H w):∀ n,FrC β (holes n H) w β' H' w'→FrC β H w β' H' w'
 | 0,h=>h
 | n+1,h=>FrC.holes hs n (FrC.hole (SRI.holes hs n).sr h)
theorem zam {P : Program} [Cls P] {T : Cont} (hT : Cls.ok P T) {b : Frame} (hb : b.kind ≠ .early) {k : List Item} {cs : List Frame} {N : Nat} {C : List Nat} {Hm : List Bool → Heap} {nh : Nat} {ops : Array Oper} (hm : P.follows .mixedOrders = true) (ho : xM ops.toList = true) (hd : ∀ o ∈ ops.toList, ∀ t, o.dst = some t → t < N) {id : Nat} {s : Nat → TV} {H : Heap} {K : (Nat → TV) → Heap → Prop} (hC : ∀ k ∈ C, k < ops.size) (h0 : Hm (C.map fun _ => false) = holes nh H) (h : wopm P ops.toList C Hm ops.toList 0 s K)
    {β : Emb} {ac : Act} {w : World} (ha : AR β s ac N) (hs : SRI P β H w) (hQ : ∀ β' s' H' a' w', K s' H' → Le β β' → AR β' s' a' N → SRI P β' H' w' → FrC β H w β' H' w' → QT T b k cs β' H' a' w') :
    T (Live β H) (G (b.at ac (.code (.region id ops true) :: k)) cs) w := by
  obtain ⟨S, V, rfl, g2, g3, hK⟩ := W9 _ _ _ h
  have hlen : ops.toList.length = ops.size := by simp
  have ht : TraceM P ops.toList S (fun D => Hm (C.map D)) V := ⟨g2, fun i o e D hDi hcl hmask => by
    have hnx : C.map (fun j => D j || j == i) = wX C i (C.map D) := by rw [wX, QF, List.map_map]; rfl
    rcases g3 i o e with ⟨hc, hall⟩ | hall
    · rw [Nat.zero_add] at hc
      have : C.map (fun j => D j || j == i) = C.map D := List.map_congr_left fun k hk => by
        have : (k == i) = false := by
          cases hki : k == i with
          | false => rfl
          | true =>
            have : k = i := by simpa using hki
            subst this
            rw [List.contains_iff_mem.2 hk] at hc; cases hc
        rw [this, Bool.or_false]
      show StepR P ops.toList (S i) (Hm (C.map D)) o (V i) (Hm (C.map fun j => D j || j == i))
      rw [this]; exact hall _
    · rw [Nat.zero_add] at hall
      show StepR P ops.toList (S i) (Hm (C.map D)) o (V i) (Hm (C.map fun j => D j || j == i))
      rw [hnx]
      refine hall _ ?_
      unfold jM
      rw [List.mem_filter]
      have hb := Wi (C.map D)
      rw [List.length_map] at hb
      refine ⟨hb, ?_⟩
      unfold mayM
      rw [QF, List.all_eq_true]
      intro p hp
      obtain ⟨k, hk, rfl⟩ := List.mem_map.1 hp
      have hk' := hC k hk
      have k1 := hmask k
      have k2 : D k = true → (maskAt ops.toList k).testBit i = false := fun hD => by
        cases hb : (maskAt ops.toList k).testBit i with
        | false => rfl
        | true => rw [hcl k (by omega) hD i hb] at hDi; cases hDi
      have k3 : D k = true → (k == i) = false := fun hD => by
        cases hki : k == i with
        | false => rfl
        | true => rw [show k = i by simpa using hki, hDi] at hD; cases hD
      have k4 : ((C.map fun k => (k, D k)).all fun q => !(maskAt ops.toList k).testBit q.1 || !D k || q.2) = true := by
        rw [List.all_eq_true]
        intro q hq
        obtain ⟨k', hk', rfl⟩ := List.mem_map.1 hq
        have := hcl k (by omega)
        cases h1 : (maskAt ops.toList k).testBit k' <;> cases h2 : D k <;> simp_all
      rw [Bool.and_eq_true]
      refine ⟨?_, k4⟩
      clear g2 g3 hall hK hQ h hd hm ho k4
      cases h1 : (maskAt ops.toList i).testBit k <;> cases h2 : D k <;> cases h3 : (maskAt ops.toList k).testBit i <;> cases h4 : (k == i) <;> simp_all⟩
  rw [hlen] at hK
  have hfull : C.map (fun j => decide (j < ops.size)) = C.map fun _ => true := List.map_congr_left fun k hk => decide_eq_true (hC k hk)
  rw [← Va hs nh]
  refine Xg hm hT (hs.holes nh) fun wd hsz hsd => ?_
  have h0f : (fun k => (Array.replicate ops.size false).getD k false) = fun _ => false := funext fun k => by
    simp only [Array.getD_eq_getD_getElem?, Array.getElem?_replicate]; split <;> rfl
  have h0k : ∀ k, (Array.replicate ops.size false).getD k false = false := fun k => congrFun h0f k
  have := JR ht ho hd hT hb (k := k) (cs := cs) (β0 := β) (w0 := w) (fun β' a' w' h1 h2 h3 h4 => by
      simp only [hfull] at h3 h4 ⊢
      simp only [h0] at h4
      exact hQ β' _ _ a' w' hK h1 h2 h3 (FrC.holes hs nh h4)) ops.size (Array.replicate ops.size false) ac wd β (uQ _ _ (Nat.le_refl _))
    ⟨Le.refl β, by rw [h0f]; simp only [h0]; exact hsd, by rw [h0f]; simp only [h0]; exact FrC.grew hsz, ha.size, ha.defers, fun t => ?_, by simp, fun j hj hE => ?_⟩
  · rw [h0f] at this
    rw [← h0]
    exact this
  · rw [yV (E' := fun j => decide (j < 0)) ops.size fun j hj _ => by simp [Array.getD_eq_getD_getElem?, hj]]
    rw [wu 0 ops.size (Nat.zero_le _)]
    exact ha.val t
  · rw [h0k] at hE; cases hE
def wopa (P:Program) [Cls P] (d:Bool) (ops:List Oper) (s:Nat→TV) (H:Heap) (K:(Nat→TV)→Heap→Prop):Prop:=
 wops P d ops ops 0 s H K∨(d=true∧((∃ F,wopf P F ops ops 0 [] [] 0 s H K)∨∃ C Hm nh,(∀ k∈C,k<ops.length)∧Hm (C.map fun _=>false)=holes nh H∧wopm P ops C Hm ops 0 s K))
end Go.Ab
namespace Go.Ab
open Go.Conc
def wY (n:Nat):Code→Bool
 | .region _ ops d=>(ops.toList.all fun o=>o.dst.all fun t=>decide (t<n))&&(!d || xM ops.toList)
 | .seq a b=>wY n a&&wY n b
 | .cond _ a b=>wY n a&&wY n b
 | .block _ c=>wY n c
 | .loop c=>wY n c
 | _=>true
def wZ (n:Nat):Item→Bool
 | .code c=>wY n c
 | .inLoop c=>wY n c
 | _=>true
def fin (P : Program) [Cls P] : Nat → List Item → (Nat → TV) → Heap → ((Nat → TV) → Heap → Prop) → Prop
  | 0, _, _, _, _ => False
  | k + 1, todo, s, H, R =>
    match todo with
    | [] => R s H
    | .code c :: t =>
      match c with
      | .skip => fin P k t s H R
      | .label _ => fin P k t s H R
      | .seq a b => fin P k (.code a :: .code b :: t) s H R
      | .cond c a b =>
        match zK s c with
        | .v (.bool x) => if x = true then fin P k (.code a :: t) s H R else fin P k (.code b :: t) s H R
        | _ => False
      | .block id c => fin P k (.code c :: .inBlock id :: t) s H R
      | .loop c => fin P k (.code c :: .inLoop c :: t) s H R
      | .exit id =>
        match exitTo id t with
        | some t' => fin P k t' s H R
        | none => False
      | .ret => R s H
      | .region _ ops d => wopa P d ops.toList s H fun s' H' => fin P k t s' H' R
      | _ => False
    | .inBlock _ :: t => fin P k t s H R
    | .inLoop c :: t => fin P k (.code c :: .inLoop c :: t) s H R
    | _ => False
def Fin (P:Program) [Cls P] (todo:List Item) (s:Nat→TV) (H:Heap) (R:(Nat→TV)→Heap→Prop):Prop:=∃ k,fin P k todo s H R
theorem YF {n id : Nat} : ∀ {t t' : List Item}, exitTo id t = some t' → t.all (wZ n) = true → t'.all (wZ n) = true
  | [], t', h, _ => by simp [exitTo] at h
  | x :: t, t', h, hok => by
    simp only [List.all_cons, Bool.and_eq_true] at hok
    cases x <;> simp only [exitTo] at h <;> first
      | exact YF h hok.2
      | (split at h
         · cases h; exact hok.2
         · exact YF h hok.2)
section
variable {P:Program} [Cls P] {N:Nat} {T:Cont} {b:Frame} {k:List Item} {cs:List Frame}
theorem xW (hT : Cls.ok P T) (hb : b.kind ≠ .early) {id : Nat} {ops : Array Oper} {d : Bool} (hm : P.follows .mixedOrders = true) (hok : wY N (.region id ops d) = true) {s : Nat → TV} {H : Heap} {K : (Nat → TV) → Heap → Prop} (h : wopa P d ops.toList s H K)
    {β : Emb} {a : Act} {w : World} (ha : AR β s a N) (hs : SRI P β H w) (hQ : ∀ β' s' H' a' w', K s' H' → Le β β' → AR β' s' a' N → SRI P β' H' w' → FrC β H w β' H' w' → QT T b k cs β' H' a' w') :
    T (Live β H) (G (b.at a (.code (.region id ops d) :: k)) cs) w := by
  simp only [wY, Bool.and_eq_true] at hok
  have hd : ∀ o ∈ ops.toList, ∀ t, o.dst = some t → t < N := by
    intro o ho t ht
    have := List.all_eq_true.1 hok.1 o ho
    rw [ht] at this
    simpa using this
  rcases h with h | ⟨rfl, ⟨F, h⟩ | ⟨C, Hm, nh, hC, hH, h⟩⟩
  case inr.inl => exact zal hT hb (id := id) hm (by simpa using hok.2) hd h ha hs hQ
  case inr.inr => exact zam hT hb (id := id) hm (by simpa using hok.2) hd (by simpa using hC) hH h ha hs hQ
  obtain ⟨S, Hs, V, rfl, rfl, ht, hK⟩ := WW _ _ _ _ h
  rw [show ops.toList.length = ops.size by simp] at hK
  cases d with
  | false =>
    refine zbp hT hs fun w' hsz hs' => ?_
    exact WY ht hd hT hb (β0 := β) (w0 := w) (fun β' a' w' h1 h2 h3 h4 => hQ β' _ _ a' w' hK h1 h2 h3 h4) ops.size 0 β a w' (by omega) (Le.refl β) ha hs' (FrC.grew hsz)
  | true =>
    refine Xg hm hT hs fun wd hsz hsd => ?_
    have ho : xM ops.toList = true := by simpa using hok.2
    have := zak ht ho hd hT hb (k := k) (cs := cs) (β0 := β) (w0 := w) (fun β' a' w' h1 h2 h3 h4 => hQ β' _ _ a' w' hK h1 h2 h3 h4) ops.size (Array.replicate ops.size false) a wd β 0 (uQ _ _ (Nat.le_refl _))
      ⟨Le.refl β, hsd, FrC.grew hsz, ha.size, ha.defers, fun t => ?_, by simp, Nat.zero_le _, fun j hj _ => ?_, fun j hj hE => ?_⟩
    · exact this
    · rw [yV (E' := fun j => decide (j < 0)) ops.size fun j hj _ => by simp [Array.getD_eq_getD_getElem?, hj]]
      rw [wu 0 ops.size (Nat.zero_le _)]
      exact ha.val t
    · simp [Array.getD_eq_getD_getElem?, hj]
    · simp [Array.getD_eq_getD_getElem?, hj] at hE
theorem Xh (hT : Cls.ok P T) (hb : b.kind ≠ .early) (hm : P.follows .mixedOrders = true) : ∀ (n : Nat) (todo : List Item) (s : Nat → TV) (H : Heap) (R : (Nat → TV) → Heap → Prop), fin P n todo s H R → todo.all (wZ N) = true →
    ∀ (β : Emb) (a : Act) (w : World), AR β s a N → SRI P β H w →
    (∀ β' s' H' a' w' todo', R s' H' → Le β β' → AR β' s' a' N → SRI P β' H' w' → FrC β H w β' H' w' → T (Live β' H') (G { b.at a' todo' with mode := .returning } cs) w') → T (Live β H) (G (b.at a todo) cs) w := by
  intro n
  induction n with
  | zero => intro todo s H R h; exact h.elim
  | succ n ih =>
    intro todo s H R h hok β a w ha hs hR
    have go : ∀ (todo' : List Item), fin P n todo' s H R → todo'.all (wZ N) = true → (∀ w, stepG P (Cls.main P) (G (b.at a todo) cs) w = .go (G (b.at a todo') cs) w #[]) → T (Live β H) (G (b.at a todo) cs) w := by
      intro todo' h' hok' hst
      refine go_still hT hs rfl rfl hst fun w' hsz hs' => ih todo' s H R h' hok' β a w' ha hs' fun β' s' H' a' w2 t' h1 h2 h3 h4 h5 => hR β' s' H' a' w2 t' h1 h2 h3 h4 ((FrC.grew hsz).trans h5)
    have ends : R s H → (∃ todo', ∀ w, stepG P (Cls.main P) (G (b.at a todo) cs) w = .go (G { b.at a todo' with mode := .returning } cs) w #[]) → T (Live β H) (G (b.at a todo) cs) w := by
      rintro h' ⟨todo', hst⟩
      exact go_still hT hs rfl rfl hst fun w' hsz hs' => hR β s H a w' todo' h' (Le.refl β) ha hs' (FrC.grew hsz)
    unfold fin at h
    split at h
    · exact ends h ⟨[], fun w => stepG_end⟩
    · rename_i c t
      simp only [List.all_cons, Bool.and_eq_true] at hok
      obtain ⟨hokc, hokt⟩ := hok
      split at h
      · exact go _ h hokt fun w => stepG_skip
      · exact go _ h hokt fun w => stepG_label
      · rename_i x y
        simp only [wZ, wY, Bool.and_eq_true] at hokc
        exact go _ h (by simp [wZ, hokc.1, hokc.2, hokt]) fun w => stepG_seq
      · rename_i cnd x y
        simp only [wZ, wY, Bool.and_eq_true] at hokc
        split at h
        · rename_i t' hc
          have hcv := ha.eval cnd
          rw [hc] at hcv
          have hcv' : a.eval cnd = .bool t' := hcv
          cases t' with
          | true =>
            rw [if_pos rfl] at h
            exact go _ h (by simp [wZ, hokc.1, hokt]) fun w => by simpa using stepG_cond (P := P) (main := Cls.main P) (b := b) (k := t) (cs := cs) (w := w) (x := x) (y := y) hcv'
          | false =>
            rw [if_neg (by simp)] at h
            exact go _ h (by simp [wZ, hokc.2, hokt]) fun w => by simpa using stepG_cond (P := P) (main := Cls.main P) (b := b) (k := t) (cs := cs) (w := w) (x := x) (y := y) hcv'
        · exact h.elim
      · simp only [wZ, wY] at hokc
        exact go _ h (by simp [wZ, hokc, hokt]) fun w => stepG_block
      · simp only [wZ, wY] at hokc
        exact go _ h (by simp [wZ, hokc, hokt]) fun w => stepG_loop
      · split at h
        · rename_i t' ht
          exact go _ h (YF ht hokt) fun w => stepG_exit ht
        · exact h.elim
      · exact ends h ⟨_, fun w => stepG_ret'⟩
      · rename_i id ops d
        refine xW hT hb (id := id) hm (by simpa [wZ] using hokc) h ha hs fun β' s' H' a' w' h1 h2 h3 h4 h5 => ?_
        exact ih t s' H' R h1 hokt β' a' w' h3 h4 fun β2 s2 H2 a2 w2 t2 g1 g2 g3 g4 g5 => hR β2 s2 H2 a2 w2 t2 g1 (h2.trans g2) g3 g4 (h5.trans g5)
      · exact h.elim
    · simp only [List.all_cons, Bool.and_eq_true] at hok
      exact go _ h hok.2 fun w => stepG_inBlock
    · rename_i c t
      simp only [List.all_cons, Bool.and_eq_true] at hok
      have hokc : wY N c = true := by simpa [wZ] using hok.1
      exact go _ h (by simp [wZ, hokc, hok.2]) fun w => stepG_inLoop
    · exact h.elim
end
def AV.refs:AV→List Nat
 | .ptr id _=>[id]
 | .sl id _ _ _=>[id]
 | .mref id=>[id]
 | .fn _ caps=>caps.map (·.1)
 | _=>[]
def AV.ren (ρ:Nat→Nat):AV→AV
 | .ptr id off=>.ptr (ρ id) off
 | .sl id off len esz=>.sl (ρ id) off len esz
 | .mref id=>.mref (ρ id)
 | .fn f caps=>.fn f (caps.map fun p=>(ρ p.1,p.2))
 | x=>x
def TV0.refs:TV0→List Nat
 | .v x=>x.refs
 | .g cs=>cs.flatMap AV.refs
def TV0.ren (ρ:Nat→Nat):TV0→TV0
 | .v x=>.v (x.ren ρ)
 | .g cs=>.g (cs.map (AV.ren ρ))
def TV.refs:TV→List Nat
 | .v x=>x.refs
 | .g cs=>cs.flatMap AV.refs
 | .t vs=>vs.flatMap TV0.refs
def TV.ren (ρ:Nat→Nat):TV→TV
 | .v x=>.v (x.ren ρ)
 | .g cs=>.g (cs.map (AV.ren ρ))
 | .t vs=>.t (vs.map (TV0.ren ρ))
def Blk.ren (ρ:Nat→Nat):Blk→Blk
 | .ro cs=>.ro (cs.map (AV.ren ρ))
 | .own cs=>.own (cs.map (AV.ren ρ))
 | .gone=>.gone
 | .tab b o=>.tab b o
 | .hole=>.hole
 | .mp kk ek m=>.mp kk ek m
def Blk.refs (b:Blk):List Nat:=b.cs.flatMap AV.refs
theorem VR.ren {β γ : Emb} {ρ : Nat → Nat} : ∀ {x : AV} {u : Value}, VR β (x.ren ρ) u → (∀ id ∈ x.refs, γ id = β (ρ id)) → VR γ x u
  | .bad, _, _, _ => trivial
  | .und, _, h, _ => h
  | .bool _, _, h, _ => h
  | .int _ _, _, h, _ => h
  | .flt _ _, _, h, _ => h
  | .str _, _, h, _ => h
  | .nilptr, _, h, _ => h
  | .ifc _, _, h, _ => h
  | .mref id, _, ⟨l, h1, h2⟩, k => ⟨l, (k id (by simp [AV.refs])).trans h1, h2⟩
  | .ptr id off, _, ⟨l, h1, h2⟩, k => ⟨l, (k id (by simp [AV.refs])).trans h1, h2⟩
  | .nilsl, _, h, _ => h
  | .sl id off len esz, _, ⟨l, a, c, h1, h2⟩, k => ⟨l, a, c, (k id (by simp [AV.refs])).trans h1, h2⟩
  | .fn f caps, u, ⟨us, h1, h2⟩, k => by
    refine ⟨us, h1, ?_⟩
    clear h1
    induction caps generalizing us with
    | nil => cases us <;> simp_all [All2]
    | cons c caps ih =>
      cases us with
      | nil => exact h2.elim
      | cons u us =>
        obtain ⟨⟨l, e1, e2⟩, h2⟩ := h2
        exact ⟨⟨l, (k c.1 (by simp [AV.refs])).trans e1, e2⟩, ih us h2 fun id hid => k id (by simp [AV.refs] at hid ⊢; exact .inr hid)⟩
theorem Kh {β : Emb} : ∀ {x : AV} {u : Value}, VR β x u → ∀ id ∈ x.refs, ∃ l, β id = some l
  | .ptr id off, _, ⟨l, h1, _⟩, i, hi => by simp [AV.refs] at hi; subst hi; exact ⟨l, h1⟩
  | .mref id, _, ⟨l, h1, _⟩, i, hi => by simp [AV.refs] at hi; subst hi; exact ⟨l, h1⟩
  | .sl id off len esz, _, ⟨l, _, _, h1, _⟩, i, hi => by simp [AV.refs] at hi; subst hi; exact ⟨l, h1⟩
  | .fn f caps, u, ⟨us, h1, h2⟩, i, hi => by
    clear h1
    simp only [AV.refs] at hi
    induction caps generalizing us with
    | nil => simp at hi
    | cons c caps ih =>
      cases us with
      | nil => exact h2.elim
      | cons u us =>
        obtain ⟨⟨l, e1, e2⟩, h2⟩ := h2
        simp at hi
        rcases hi with rfl | hi
        · exact ⟨l, e1⟩
        · exact ih us h2 (by simpa using hi)
  | .bad, _, _, i, hi => by simp [AV.refs] at hi
  | .und, _, _, i, hi => by simp [AV.refs] at hi
  | .bool _, _, _, i, hi => by simp [AV.refs] at hi
  | .int _ _, _, _, i, hi => by simp [AV.refs] at hi
  | .flt _ _, _, _, i, hi => by simp [AV.refs] at hi
  | .str _, _, _, i, hi => by simp [AV.refs] at hi
  | .nilptr, _, _, i, hi => by simp [AV.refs] at hi
  | .ifc _, _, _, i, hi => by simp [AV.refs] at hi
  | .nilsl, _, _, i, hi => by simp [AV.refs] at hi
theorem All2.ren {β γ:Emb} {ρ:Nat→Nat}:∀ {cs:List AV} {us:List Value},All2 (VR β) (cs.map (AV.ren ρ)) us→(∀ id∈cs.flatMap AV.refs,γ id=β (ρ id))→All2 (VR γ) cs us
 | [],[],_,_=>trivial
 | c::cs,u::us,h,k=>⟨VR.ren h.1 fun id hid=>k id (by simp [hid]),All2.ren h.2 fun id hid=>k id (by simp at hid ⊢;exact .inr hid)⟩
 | [],_::_,h,_=>h.elim
 | _::_,[],h,_=>h.elim
theorem TV0R.ren {β γ:Emb} {ρ:Nat→Nat} {x:TV0} {u:Value} (h:TV0R β (x.ren ρ) u) (k:∀ id∈x.refs,γ id=β (ρ id)):TV0R γ x u:=by
 cases x with
 | v x=>exact VR.ren h k
 | g cs=>obtain⟨us,h1,h2⟩:=h;exact⟨us,h1,h2.ren k⟩
theorem All2.ren0 {β γ:Emb} {ρ:Nat→Nat}:∀ {cs:List TV0} {us:List Value},All2 (TV0R β) (cs.map (TV0.ren ρ)) us→(∀ id∈cs.flatMap TV0.refs,γ id=β (ρ id))→All2 (TV0R γ) cs us
 | [],[],_,_=>trivial
 | c::cs,u::us,h,k=>⟨TV0R.ren h.1 fun id hid=>k id (by simp [hid]),All2.ren0 h.2 fun id hid=>k id (by simp at hid ⊢;exact .inr hid)⟩
 | [],_::_,h,_=>h.elim
 | _::_,[],h,_=>h.elim
theorem TVR.ren {β γ : Emb} {ρ : Nat → Nat} {x : TV} {u : Value} (h : TVR β (x.ren ρ) u) (k : ∀ id ∈ x.refs, γ id = β (ρ id)) : TVR γ x u := by
  cases x with
  | v x => exact VR.ren h k
  | g cs => obtain ⟨us, h1, h2⟩ := h; exact ⟨us, h1, h2.ren k⟩
  | t vs =>
    obtain ⟨us, h1, h2⟩ := h
    exact ⟨us, h1, All2.ren0 h2 k⟩
def init (args:List TV):Nat→TV:=fun t=>args.getD t (.v .und)
def vg (P:Program) (fn:Func) (s:Nat→TV) (H:Heap):Option TV:=(vS P s H fn.results.toList).bind zbd
def kD (tmps:Array Value):ResultVar→Sem Value
 | .tmp t=>pure (tmps.getD t undef)
 | .cell x t=>do loadVar t (←asAddr (tmps.getD x undef))
theorem j6 {P : Program} {N : Nat} {β : Emb} {a : Act} {s : Nat → TV} {H : Heap} {w : World} (ha : AR β s a N) (hs : SR β H w) : ∀ (rs : List ResultVar) (vs : List TV), vS P s H rs = some vs →
    ∃ us : List Value, All2 (TVR β) vs us ∧ (rs.mapM (kD a.tmps)).run P w = .ok us w
  | [], vs, h => by simp [vS] at h; subst h; exact ⟨[], trivial, by simp⟩
  | .tmp t :: rs, vs, h => by
    simp only [vS] at h
    cases hr : vS P s H rs with
    | none => rw [hr] at h; cases h
    | some vr =>
      rw [hr] at h
      cases h
      obtain ⟨us, h1, h2⟩ := j6 ha hs rs vr hr
      exact ⟨a.tmps.getD t undef :: us, ⟨ha.val t, h1⟩, by simp [kD, h2]⟩
  | .cell x t :: rs, vs, h => by
    simp only [vS] at h
    split at h
    · rename_i id off hx
      have hxv := ha.val x
      rw [hx] at hxv
      obtain ⟨l, hl, hp⟩ := hxv
      split at h
      · rename_i hg
        split at h
        · rename_i c hc
          cases hr : vS P s H rs with
          | none => rw [hr] at h; cases h
          | some vr =>
            rw [hr] at h
            cases h
            obtain ⟨us, h1, h2⟩ := j6 ha hs rs vr hr
            cases hn : tsz P t with
            | none => rw [hn] at hc; cases hc
            | some n =>
              rw [hn] at hc
              simp only [Option.bind_some] at hc
              obtain ⟨cu, k1, k2, k3⟩ := Yv hs hl hc
              have hload := run_loadCells (P := P) l.blk (l.base + off) cu k3
              rw [k1] at hload
              exact ⟨.agg cu.toArray :: us, ⟨⟨cu, rfl, k2.vr⟩, h1⟩, by simp [kD, hp, ptrV, asAddr, loadVar, jI hg, wm hn, hload, h2]⟩
        · cases h
      · rename_i hg
        split at h
        · rename_i c hc
          cases hr : vS P s H rs with
          | none => rw [hr] at h; cases h
          | some vr =>
            rw [hr] at h
            cases h
            obtain ⟨us, h1, h2⟩ := j6 ha hs rs vr hr
            obtain ⟨u, k1, k2⟩ := cell_of hs hl hc
            exact ⟨u :: us, ⟨k2.1, h1⟩, by simp [kD, hp, ptrV, asAddr, loadVar, jI hg, k1, h2]⟩
        · cases h
      · cases h
    · cases h
theorem UI {β : Emb} : ∀ {vs : List TV} {us : List Value} {ds : List TV0}, All2 (TVR β) vs us → Zo vs = some ds → All2 (TV0R β) ds us
  | [], [], ds, _, h => by simp [Zo] at h; subst h; trivial
  | v :: vs, u :: us, ds, h, hd => by
    simp only [Zo] at hd
    split at hd
    · rename_i y ys hy hys
      cases hd
      refine ⟨?_, UI h.2 hys⟩
      cases v <;> simp [TV.down] at hy <;> subst hy <;> exact h.1
    · cases hd
  | [], _ :: _, _, h, _ => h.elim
  | _ :: _, [], _, h, _ => h.elim
theorem uC {P : Program} {fn : Func} {N : Nat} {β : Emb} {a : Act} {s : Nat → TV} {H : Heap} {w : World} {r : TV} (ha : AR β s a N) (hs : SR β H w) (h : vg P fn s H = some r) :
    ∃ rv, (results fn a.tmps).run P w = .ok rv w ∧ TVR β r rv := by
  unfold vg at h
  cases hv : vS P s H fn.results.toList with
  | none => rw [hv] at h; cases h
  | some vs =>
    rw [hv] at h
    simp only [Option.bind_some] at h
    obtain ⟨us, h1, h2⟩ := j6 (P := P) ha hs _ _ hv
    have hm : (fn.results.mapM (kD a.tmps)).run P w = .ok us.toArray w := by
      rw [Array.mapM_eq_mapM_toList]
      rw [Sem.run_map, h2]
      rfl
    have hres : results fn a.tmps = (do
        let vs ← fn.results.mapM (kD a.tmps)
        pure (if h : vs.size = 1 then vs[0] else .tuple vs)) := by
      unfold results
      congr 1
    rw [hres, Sem.run_bind, hm]
    simp only [Result.andThen_ok, Sem.run_pure]
    unfold zbd at h
    split at h
    · rename_i x
      cases h
      match us, h1 with
      | [u], h1 => exact ⟨u, by simp, h1.1⟩
    · rename_i hne
      cases hd : Zo vs with
      | none => rw [hd] at h; cases h
      | some ds =>
        rw [hd] at h
        cases h
        have hlen : us.length ≠ 1 := by
          intro hl
          rw [← h1.len] at hl
          match vs, hl with
          | [x], _ => exact hne x rfl
        exact ⟨.tuple us.toArray, by simp [hlen], us, rfl, UI h1 hd⟩
end Go.Ab
namespace Go.Ab
theorem ZE {P:Program} [Cls P] {ev:Operand→TV} {op:Op} {H:Heap} {K K':TV→Heap→Prop} (h:∀ v H',K v H'→K' v H') (hw:wop P ev op H K):wop P ev op H K':=by
 unfold wop at *
 split at hw
 ·split at hw
  ·obtain⟨r,H2,h1,h2⟩:=hw;exact⟨r,H2,h1,h _ _ h2⟩
  ·exact hw
 ·split at hw
  ·exact h _ _ hw
  ·exact hw
theorem kE {P : Program} [Cls P] {q : Bool} {ops : List Oper} {K K' : (Nat → TV) → Heap → Prop} (h : ∀ s H, K s H → K' s H) : ∀ (l : List Oper) (i : Nat) (s : Nat → TV) (H : Heap), wops P q ops l i s H K → wops P q ops l i s H K'
  | [], i, s, H, hw => h _ _ hw
  | o :: r, i, s, H, hw => by
    rw [wops] at hw ⊢
    split at hw
    · exact ZE (fun v H' h1 => ⟨h1.1, kE h r _ _ _ h1.2⟩) hw
    · split at hw
      · split at hw
        · rename_i hy; rw [if_pos hy]; exact ZE (fun v H' h1 => ⟨h1.1, kE h r _ _ _ h1.2⟩) hw
        · rename_i hy; rw [if_neg hy]; exact kE h r _ _ _ hw
      · exact hw
theorem wop_ex {P:Program} [Cls P] {ev:Operand→TV} {op:Op} {H:Heap} {K:Nat→TV→Heap→Prop} (hw:wop P ev op H fun v H'=>∃ k,K k v H'):∃ k,wop P ev op H (K k):=by
 unfold wop at *
 split at hw
 ·split at hw
  ·obtain⟨r,H2,h1,k,h2⟩:=hw;exact⟨k,r,H2,h1,h2⟩
  ·exact⟨0,hw⟩
 ·split at hw
  ·obtain⟨k,h⟩:=hw;exact⟨k,h⟩
  ·exact⟨0,hw⟩
theorem VW {P : Program} [Cls P] {q : Bool} {ops : List Oper} {K : Nat → (Nat → TV) → Heap → Prop} : ∀ (l : List Oper) (i : Nat) (s : Nat → TV) (H : Heap), (wops P q ops l i s H fun s H => ∃ k, K k s H) → ∃ k, wops P q ops l i s H (K k)
  | [], i, s, H, hw => hw
  | o :: r, i, s, H, hw => by
    have go : wop P (zK s) o.op H (fun v H' => (q = true → H' = H ∨ yY ops i = true) ∧ wops P q ops r (i + 1) (aput s o.dst v) H' fun s H => ∃ k, K k s H) →
        ∃ k, wop P (zK s) o.op H (fun v H' => (q = true → H' = H ∨ yY ops i = true) ∧ wops P q ops r (i + 1) (aput s o.dst v) H' (K k)) := fun h => by
      refine wop_ex (ZE (fun v H' h1 => ?_) h)
      obtain ⟨k, hk⟩ := VW r _ _ _ h1.2
      exact ⟨k, h1.1, hk⟩
    rw [wops] at hw
    split at hw
    · rename_i hg
      obtain ⟨k, hk⟩ := go hw
      refine ⟨k, ?_⟩
      rw [wops, hg]
      exact hk
    · rename_i j want hg
      split at hw
      · rename_i y hy
        split at hw
        · rename_i hyw
          obtain ⟨k, hk⟩ := go hw
          refine ⟨k, ?_⟩
          rw [wops, hg]
          simp only [hy, if_pos hyw]
          exact hk
        · rename_i hyw
          obtain ⟨k, hk⟩ := VW r _ _ _ hw
          refine ⟨k, ?_⟩
          rw [wops, hg]
          simp only [hy, if_neg hyw]
          exact hk
      · exact hw.elim
section
variable {P:Program} [Cls P] {t:List Item} {s:Nat→TV} {H:Heap} {R:(Nat→TV)→Heap→Prop}
theorem uw {todo todo':List Item} (h:∀ k,fin P (k+1) todo s H R=fin P k todo' s H R):Fin P todo s H R=Fin P todo' s H R:=by
 apply propext;constructor
 ·rintro⟨k,hk⟩
  cases k with
  | zero=>exact hk.elim
  | succ k=>rw [h] at hk;exact⟨k,hk⟩
 ·rintro⟨k,hk⟩;exact⟨k+1,by rw [h];exact hk⟩
theorem Fin_end {todo:List Item} (h:∀ k,fin P (k+1) todo s H R=R s H):Fin P todo s H R=R s H:=by
 apply propext;constructor
 ·rintro⟨k,hk⟩
  cases k with
  | zero=>exact hk.elim
  | succ k=>rw [h] at hk;exact hk
 ·intro hk;exact⟨1,by rw [h];exact hk⟩
theorem Fin_ret:Fin P (.code .ret::t) s H R=R s H:=Fin_end fun _=>rfl
theorem zdp:Fin P (.code .skip::t) s H R=Fin P t s H R:=uw fun _=>rfl
theorem Fin_seq {a b:Code}:Fin P (.code (.seq a b)::t) s H R=Fin P (.code a::.code b::t) s H R:=uw fun _=>rfl
theorem zbs {id:Nat} {c:Code}:Fin P (.code (.block id c)::t) s H R=Fin P (.code c::.inBlock id::t) s H R:=uw fun _=>rfl
theorem zdq {c:Code}:Fin P (.code (.loop c)::t) s H R=Fin P (.inLoop c::t) s H R:=(uw fun _=>rfl).trans (uw (todo':=.code c::.inLoop c::t) fun _=>rfl).symm
theorem zan {c:Code}:Fin P (.inLoop c::t) s H R=Fin P (.code c::.inLoop c::t) s H R:=uw fun _=>rfl
theorem JS {id:Nat}:Fin P (.inBlock id::t) s H R=Fin P t s H R:=uw fun _=>rfl
def exitC (P:Program) [Cls P] (s:Nat→TV) (H:Heap) (R:(Nat→TV)→Heap→Prop):Option (List Item)→Prop
 | some t=>Fin P t s H R
 | none=>False
theorem zdr {id : Nat} : Fin P (.code (.exit id) :: t) s H R = exitC P s H R (exitTo id t) := by
  cases h : exitTo id t with
  | some t' => exact uw fun k => by simp only [fin, h]
  | none =>
    apply propext
    constructor
    · rintro ⟨k, hk⟩
      cases k with
      | zero => exact hk.elim
      | succ k => simp only [fin, h] at hk
    · exact fun h => h.elim
def condC (P:Program) [Cls P] (t:List Item) (s:Nat→TV) (H:Heap) (R:(Nat→TV)→Heap→Prop) (a b:Code):TV→Prop
 | .v (.bool x)=>if x=true then Fin P (.code a::t) s H R else Fin P (.code b::t) s H R
 | _=>False
theorem QG {c : Operand} {a b : Code} : Fin P (.code (.cond c a b) :: t) s H R = condC P t s H R a b (zK s c) := by
  cases h : zK s c with
  | v x =>
    cases x <;> first
      | (apply propext
         constructor
         · rintro ⟨k, hk⟩
           cases k with
           | zero => exact hk.elim
           | succ k => simp only [fin, h] at hk
         · exact fun h => h.elim)
      | skip
    rename_i x
    cases x with
    | true => exact (uw (todo' := .code a :: t) fun k => by simp only [fin, h, if_true]).trans (by simp [condC])
    | false => exact (uw (todo' := .code b :: t) fun k => by simp only [fin, h, Bool.false_eq_true, if_false]).trans (by simp [condC])
  | g cs =>
    apply propext
    constructor
    · rintro ⟨k, hk⟩
      cases k with
      | zero => exact hk.elim
      | succ k => simp only [fin, h] at hk
    · exact fun h => h.elim
  | t vs =>
    apply propext
    constructor
    · rintro ⟨k, hk⟩
      cases k with
      | zero => exact hk.elim
      | succ k => simp only [fin, h] at hk
    · exact fun h => h.elim
theorem zao {a b:Code}:condC P t s H R a b (.v (.bool true))=Fin P (.code a::t) s H R:=by simp [condC]
theorem JU {a b:Code}:condC P t s H R a b (.v (.bool false))=Fin P (.code b::t) s H R:=by simp [condC]
def FinK (P:Program) [Cls P] (t:List Item) (R:(Nat→TV)→Heap→Prop):(Nat→TV)→Heap→Prop:=fun s H=>Fin P t s H R
theorem Vb {id : Nat} {ops : List Oper} {d : Bool} : Fin P (.code (.region id ops.toArray d) :: t) s H R = wopa P d ops s H (FinK P t R) := by
  apply propext
  constructor
  · rintro ⟨k, hk⟩
    cases k with
    | zero => exact hk.elim
    | succ k =>
      have : wopa P d ops s H fun s' H' => fin P k t s' H' R := hk
      rcases this with this | ⟨hd, ⟨F, this⟩ | ⟨C, Hm, nh, hC, hH, this⟩⟩
      · exact .inl (kE (fun s H h => ⟨k, h⟩) _ _ _ _ this)
      · exact .inr ⟨hd, .inl ⟨F, qW (fun s H h => ⟨k, h⟩) _ _ _ _ _ _ _ this⟩⟩
      · exact .inr ⟨hd, .inr ⟨C, Hm, nh, hC, hH, ZM (fun s H h => ⟨k, h⟩) _ _ _ this⟩⟩
  · intro h
    rcases h with h | ⟨hd, ⟨F, h⟩ | ⟨C, Hm, nh, hC, hH, h⟩⟩
    · obtain ⟨k, hk⟩ := VW (K := fun k s' H' => fin P k t s' H' R) _ _ _ _ h
      exact ⟨k + 1, .inl hk⟩
    · obtain ⟨k, hk⟩ := Yd (K := fun k s' H' => fin P k t s' H' R) _ _ _ _ _ _ _ h
      exact ⟨k + 1, .inr ⟨hd, .inl ⟨F, hk⟩⟩⟩
    · obtain ⟨k, hk⟩ := VV (K := fun k s' H' => fin P k t s' H' R) _ _ _ h
      exact ⟨k + 1, .inr ⟨hd, .inr ⟨C, Hm, nh, hC, hH, hk⟩⟩⟩
end
section
variable {P:Program} [Cls P] {q:Bool} {ops r:List Oper} {i:Nat} {s:Nat→TV} {H:Heap} {K:(Nat→TV)→Heap→Prop} {dst:Option Tmp}
def wC (P:Program) [Cls P] (q:Bool) (ops r:List Oper) (i:Nat) (s:Nat→TV) (dst:Option Tmp) (H:Heap) (K:(Nat→TV)→Heap→Prop):Option (TV × Heap)→Prop
 | some (v,H')=>(q=true→H'=H∨yY ops i=true)∧wops P q ops r (i+1) (aput s dst v) H' K
 | none=>False
def callG (P:Program) [Cls P] (q:Bool) (ops r:List Oper) (i:Nat) (s:Nat→TV) (dst:Option Tmp) (H:Heap) (K:(Nat→TV)→Heap→Prop) (args:List TV):TV→Prop
 | .v (.fn g caps)=>∃ v H',Ok P g (args++caps.map fun p=>TV.v (.ptr p.1 p.2)) H v H'∧wC P q ops r i s dst H K (some (v,H'))
 | _=>False
theorem zbt {op:Op} (h:Yb op=none):wop P (zK s) op H (fun v H'=>(q=true→H'=H∨yY ops i=true)∧wops P q ops r (i+1) (aput s dst v) H' K)=wC P q ops r i s dst H K (zM P (zK s) op H):=by
 unfold wop;rw [h]
 cases zM P (zK s) op H with
 | none=>rfl
 | some x=>rfl
theorem wG {op:Op} {ty:TypeId} {pos:String} {after:Array Edge} (h:Yb op=none):wops P q ops ({ dst,op,type:=ty,pos,after,guard:=none }::r) i s H K=wC P q ops r i s dst H K (zM P (zK s) op H):=by
 rw [wops];exact zbt h
theorem zbu {f:Operand} {as:List Operand} {tys:Array TypeId} {ty:TypeId} {pos:String} {after:Array Edge} :
  wops P q ops ({ dst,op:=.call { callee:=.value f,args:=as.toArray,argTypes:=tys },type:=ty,pos,after,guard:=none }::r) i s H K=callG P q ops r i s dst H K (as.map (zK s)) (zK s f):=by
 rw [wops];unfold wop;simp only [Yb]
 cases h:zK s f with
 | v x=>cases x<;>rfl
 | g cs=>rfl
 | t vs=>rfl
def Vd (P:Program) [Cls P] (q:Bool) (ops r:List Oper) (i:Nat) (s:Nat→TV) (o:Oper) (H:Heap) (K:(Nat→TV)→Heap→Prop) (want:Bool):Option (Option Bool)→Prop
 | some (some b)=>if b=want then wops P q ops ({ o with guard:=none }::r) i s H K else wops P q ops r (i+1) (aput s o.dst (.v .und)) H K
 | some none=>wops P q ops r (i+1) (aput s o.dst (.v .und)) H K
 | none=>False
theorem YG {op : Op} {ty : TypeId} {pos : String} {after : Array Edge} {j : Nat} {want : Bool} :
    wops P q ops ({ dst, op, type := ty, pos, after, guard := some (j, want) } :: r) i s H K = Vd P q ops r i s { dst, op, type := ty, pos, after, guard := some (j, want) } H K want (uZ ops s j) := by
  rw [wops]
  simp only
  cases uZ ops s j with
  | none => rfl
  | some y =>
    cases y with
    | none => simp [Vd]
    | some b => by_cases h : b = want <;> simp [Vd, h, wops]
theorem Wj {v:TV}:wC P q ops r i s dst H K (some (v,H))=wops P q ops r (i+1) (aput s dst v) H K:=by simp [wC]
theorem JV {g:FuncId} {args:List TV} {v:TV} {H':Heap} (h:Ok P g args H v H') (k:wC P q ops r i s dst H K (some (v,H'))):callG P q ops r i s dst H K args (.v (.fn g [])):=
 ⟨v,H',by simpa using h,k⟩
end
theorem qX (s:Nat→TV) (d:Tmp) (v:TV):aput s (some d) v=upd s d v:=rfl
theorem upd_same {α:Type} (f:Nat→α) (i:Nat) (x:α):upd f i x i=x:=by simp [upd]
theorem upd_ne {α:Type} (f:Nat→α) (i:Nat) (x:α) (j:Nat) (h:j≠i):upd f i x j=f j:=by simp [upd,h]
end Go.Ab
namespace Go.Ab
section
variable {P:Program} [Cls P] {q:Bool} {ops r:List Oper} {i:Nat} {s:Nat→TV} {H:Heap} {K:(Nat→TV)→Heap→Prop} {dst:Option Tmp} {ty:TypeId} {pos:String} {after:Array Edge}
def XN (P:Program) [Cls P] (q:Bool) (ops r:List Oper) (i:Nat) (s:Nat→TV) (dst:Option Tmp) (H:Heap) (K:(Nat→TV)→Heap→Prop):Option TV→Prop
 | some v=>wops P q ops r (i+1) (aput s dst v) H K
 | none=>False
theorem Zd {v:TV}:XN P q ops r i s dst H K (some v)=wops P q ops r (i+1) (aput s dst v) H K:=rfl
theorem YH (x:Option TV):wC P q ops r i s dst H K (x.map fun v=>(v,H))=XN P q ops r i s dst H K x:=by
 cases x with
 | none=>rfl
 | some v=>simp [wC,XN]
theorem zbv {x:Operand}:wops P q ops ({ dst,op:=.move x,type:=ty,pos,after,guard:=none }::r) i s H K=wops P q ops r (i+1) (aput s dst (zK s x)) H K:=by
 rw [wG rfl];exact Wj
theorem JW {x:Operand}:wops P q ops ({ dst,op:=.assign x,type:=ty,pos,after,guard:=none }::r) i s H K=wops P q ops r (i+1) (aput s dst (zK s x)) H K:=by
 rw [wG rfl];exact Wj
def tpick (a b:TV):TV→Option TV
 | .v (.bool t)=>some (if t=true then a else b)
 | _=>none
theorem UJ {c a b:Operand}:wops P q ops ({ dst,op:=.pick c a b,type:=ty,pos,after,guard:=none }::r) i s H K=XN P q ops r i s dst H K (tpick (zK s a) (zK s b) (zK s c)):=by
 rw [wG rfl,←YH]
 congr 1
 simp only [zM]
 cases zK s c with
 | v x=>cases x<;>rfl
 | g c=>rfl
 | t v=>rfl
theorem Ve {a b:TV} {t:Bool}:tpick a b (.v (.bool t))=some (if t=true then a else b):=rfl
def tbin (P:Program) (op:BinOp) (t:TypeId) (yo:Operand):TV→TV→Option TV
 | .v a,.v b=>((abin P op t a b).or (aifc P op t yo a b)).map .v
 | _,_=>none
theorem zds {op:BinOp} {t t2:TypeId} {x y:Operand}:wops P q ops ({ dst,op:=.binOp op t x y t2,type:=ty,pos,after,guard:=none }::r) i s H K=XN P q ops r i s dst H K (tbin P op t y (zK s x) (zK s y)):=by
 rw [wG rfl,←YH]
 congr 1
 simp only [zM]
 cases zK s x<;>cases zK s y<;>simp [tbin,Option.map_map]<;>rfl
section bins
variable {t:TypeId} {yo:Operand} {k:IntKind} {f:FloatKind} {a b:Int} {x y:Nat}
end bins
def tun (op:UnOp):TV→Option TV
 | .v a=>(aun op a).map .v
 | _=>none
theorem wops_un {op:UnOp} {t:TypeId} {x:Operand}:wops P q ops ({ dst,op:=.unOp op t x,type:=ty,pos,after,guard:=none }::r) i s H K=XN P q ops r i s dst H K (tun op (zK s x)):=by
 rw [wG rfl,←YH]
 congr 1
 simp only [zM]
 cases zK s x<;>simp [tun,Option.map_map]<;>rfl
def ZN (P : Program) (src d : TypeId) (H : Heap) : TV → Option (TV × Heap)
  | .v (.str s) =>
    if (P.underlying src).isSome = false then none else
    if tstr P d then some (.v (.str s), H) else
    match zL P d with
    | some e => if tint P e = some .u8 then some (.v (.sl H.n 0 s.size 1), H.alloc (.own (s.data.toList.map fun b => .int .u8 b.toNat))) else none
    | none => none
  | .v (.sl id off len esz) =>
    match zL P src with
    | some e => if tint P e = some .u8 ∧ tstr P d = true ∧ esz = 1 then ((vB H id off len).bind uq).map fun l => (.v (.str ⟨l.toArray⟩), H) else if src = d ∧ tint P e = some .u8 ∧ 0 < len ∧ (H.f id).isRow = true then some (.v (.sl id off len esz), H) else none
    | none => none
  | .v a => if (P.underlying src).isSome then (kZ P d a).map fun z => (.v z, H) else none
  | _ => none
theorem zbw {src d:TypeId} {x:Operand}:wops P q ops ({ dst,op:=.convert src d x,type:=ty,pos,after,guard:=none }::r) i s H K=wC P q ops r i s dst H K (ZN P src d H (zK s x)):=by
 rw [wG rfl];rfl
theorem zbx {src d:TypeId} {k k':IntKind} {n:Int} (h1:(P.underlying src).isSome=true) (h2:tint P d=some k'):ZN P src d H (.v (.int k n))=some (.v (.int k' (k'.wrap n)),H):=by simp [ZN,h1,kZ,h2]
theorem zaq {src d:TypeId} {k:IntKind} {f:FloatKind} {n:Int} (h1:(P.underlying src).isSome=true) (h2:tint P d=none) (h3:tflt P d=some f):ZN P src d H (.v (.int k n))=some (.v (.flt f (cz f (floatOfInt f n))),H):=by
 simp [ZN,h1,kZ,h2,h3]
theorem zar {src d:TypeId} {f g:FloatKind} {b c:Nat} (h1:(P.underlying src).isSome=true) (h2:tint P d=none) (h3:tflt P d=some g) (h4:qG f b g=some c):ZN P src d H (.v (.flt f b))=some (.v (.flt g c),H):=by
 simp [ZN,h1,kZ,h2,h3,h4]
def tload (P : Program) (t : TypeId) (H : Heap) : TV → Option (TV × Heap)
  | .v (.ptr id off) =>
    match tagg P t with
    | some true => match tsz P t with
      | some n => (vB H id off n).map fun c => (.g c, H)
      | none => none
    | some false => (wN H id off).map fun c => (.v c, H)
    | none => none
  | _ => none
theorem zby {t:TypeId} {x:Operand}:wops P q ops ({ dst,op:=.load t x,type:=ty,pos,after,guard:=none }::r) i s H K=wC P q ops r i s dst H K (tload P t H (zK s x)):=by
 rw [wG rfl];rfl
theorem zas {t:TypeId} {id off:Nat} {c:AV} (h1:tagg P t=some false) (h2:wN H id off=some c):tload P t H (.v (.ptr id off))=some (.v c,H):=by simp [tload,h1,h2]
def Xi (P:Program) (t:TypeId) (H:Heap) (a x:TV):Option (TV × Heap):=
 match a,x.cells,tsz P t with
 | .v (.ptr id off),some c,some n=>if c.length=n then (vG H id off c).map fun H'=>(.v .und,H') else none
 | _,_,_=>none
theorem zat {t:TypeId} {a x:Operand}:wops P q ops ({ dst,op:=.store t a x,type:=ty,pos,after,guard:=none }::r) i s H K=wC P q ops r i s dst H K (Xi P t H (zK s a) (zK s x)):=by
 rw [wG rfl];rfl
theorem Z7 {t:TypeId} {x:TV} {id off n:Nat} {c:List AV} {H':Heap} (h1:x.cells=some c) (h2:tsz P t=some n) (h3:c.length=n) (h4:vG H id off c=some H'):Xi P t H (.v (.ptr id off)) x=some (.v .und,H'):=by
 simp [Xi,h1,h2,h3,h4]
def UK (H:Heap):TV→Option (TV × Heap)
 | .v (.ptr i o)=>some (.v (.ptr i o),H)
 | .v (.fn f c)=>some (.v (.fn f c),H)
 | _=>none
theorem Qb {x:Operand}:wops P q ops ({ dst,op:=.nilCheck x,type:=ty,pos,after,guard:=none }::r) i s H K=wC P q ops r i s dst H K (UK H (zK s x)):=by
 rw [wG rfl];rfl
theorem Qc {j o:Nat}:UK H (.v (.ptr j o))=some (.v (.ptr j o),H):=rfl
def YI (P : Program) (t : TypeId) (H : Heap) : TV → TV → Option (TV × Heap)
  | .v (.sl id off len esz), .v (.int _ n) =>
    match (zL P t).bind (tsz P) with
    | some sz => if sz = esz ∧ 0 ≤ n ∧ n < len then some (.v (.ptr id (off + n.toNat * esz)), H) else none
    | none => none
  | .v (.ptr id off), .v (.int _ n) =>
    match tarr P t with
    | some (len, e) => match tsz P e with
      | some sz => if 0 ≤ n ∧ n < len then some (.v (.ptr id (off + n.toNat * sz)), H) else none
      | none => none
    | none => none
  | _, _ => none
theorem qh {t:TypeId} {x y:Operand}:wops P q ops ({ dst,op:=.indexAddr t x y,type:=ty,pos,after,guard:=none }::r) i s H K=wC P q ops r i s dst H K (YI P t H (zK s x) (zK s y)):=by
 rw [wG rfl];rfl
theorem qI {t:TypeId} {id off len esz:Nat} {k:IntKind} {n:Int} (h1:(zL P t).bind (tsz P)=some esz) (h2:0≤n) (h3:n<len):YI P t H (.v (.sl id off len esz)) (.v (.int k n))=some (.v (.ptr id (off+n.toNat*esz)),H):=by
 simp [YI,h1,h2,h3]
def QH (H:Heap) (i:Nat):TV→Option (TV × Heap)
 | .t vs=>(vs[i]?).map fun z=>(z.up,H)
 | _=>none
theorem QI {j:Nat} {x:Operand}:wops P q ops ({ dst,op:=.extract x j,type:=ty,pos,after,guard:=none }::r) i s H K=wC P q ops r i s dst H K (QH H j (zK s x)):=by
 rw [wG rfl];rfl
def Ze (P : Program) (st : TypeId) (f : Nat) (H : Heap) : TV → Option (TV × Heap)
  | .v (.ptr id off) =>
    match (vX P st).bind (·[f]?) with
    | some fd => if (tsz P fd.type).any (0 < ·) then some (.v (.ptr id (off + fd.offset)), H) else none
    | none => none
  | _ => none
theorem VX {st:TypeId} {f:Nat} {x:Operand}:wops P q ops ({ dst,op:=.fieldAddr st x f,type:=ty,pos,after,guard:=none }::r) i s H K=wC P q ops r i s dst H K (Ze P st f H (zK s x)):=by
 rw [wG rfl]
 congr 1
 simp only [zM,Ze]
 cases zK s x with
 | v x=>cases x<;>first|rfl|(cases (vX P st).bind (·[f]?)<;>rfl)
 | g c=>rfl
 | t v=>rfl
def Ye (P : Program) (st : TypeId) (f : Nat) : Option (Nat × Nat × Bool) :=
  match (vX P st).bind (·[f]?) with
  | some fd => match tsz P fd.type, tagg P fd.type with
    | some n, some b => if 0 < n then some (fd.offset, n, b) else none
    | _, _ => none
  | none => none
theorem Vf {st : TypeId} {f o n : Nat} {b : Bool} {id off : Nat} (h : Ye P st f = some (o, n, b)) : Ze P st f H (.v (.ptr id off)) = some (.v (.ptr id (off + o)), H) := by
  unfold Ye at h
  cases hf : (vX P st).bind (·[f]?) with
  | none => rw [hf] at h; cases h
  | some fd =>
    rw [hf] at h
    simp only at h
    split at h
    · rename_i n' b' hn _
      split at h
      · rename_i hpos
        cases h
        simp [Ze, hf, hn, hpos]
      · cases h
    · cases h
theorem ji {b:Builtin} {as:List Operand} {tys:Array TypeId}:wops P q ops ({ dst,op:=.call { callee:=.builtin b,args:=as.toArray,argTypes:=tys },type:=ty,pos,after,guard:=none }::r) i s H K =
  wC P q ops r i s dst H K (vH P b tys (as.map (zK s)) H):=by
 rw [wG rfl];rfl
theorem QJ {t:TypeId} {l:List TypeId} (h:(zL P t).isSome=true):vH P .len (t::l).toArray [.v .nilsl] H=some (.v (.int .i64 0),H):=by simp [vH,h]
theorem Ki {t:TypeId} {l:List TypeId} {id off n esz:Nat} (h:(zL P t).isSome=true):vH P .len (t::l).toArray [.v (.sl id off n esz)] H=some (.v (.int .i64 n),H):=by simp [vH,h]
def tapp (P : Program) (t0 t1 : TypeId) : Option (Nat × Nat) :=
  match zL P t0 with
  | some e => match tsz P e, vJ P e, xz P e with
    | some esz, some bytes, some z => if z.length = esz ∧ tint P t1 = none ∧ (P.underlying t1).isSome then some (esz, bytes) else none
    | _, _, _ => none
  | none => none
theorem zau {t0 t1:TypeId} {x y:AV} {esz bytes:Nat} (h:tapp P t0 t1=some (esz,bytes)):vH P .append [t0,t1].toArray [.v x,.v y] H=vY H esz bytes x y:=by
 unfold tapp at h;simp only [vH,List.getElem?_toArray,List.getElem?_cons_zero,List.getElem?_cons_succ]
 split at h
 ·rename_i e he
  split at h
  ·rename_i a b z h1 h2 h3
   split at h
   ·rename_i hc;cases h;simp [he,h1,h2,h3,hc]
   ·cases h
  ·cases h
 ·cases h
theorem Vg {esz bytes id off len n:Nat} {x:AV} {cs new:List AV} (h1:H.f id=.own cs) (h2:off+len*esz=cs.length) (h3:xZ H esz x=some (n,new)) (h4:(len+n)*bytes≤2 ^ 40) (h5:bytes≠0) :
  vY H esz bytes (.sl id off len esz) x=some (.v (.sl H.n 0 (len+n) esz),(H.put id .gone).alloc (.own (cs.drop off++new))):=by
 simp only [vY,h5,if_false,h3,h1,h2,true_and,h4,if_true]
theorem JX {esz bytes n:Nat} {x:AV} {new:List AV} (h3:xZ H esz x=some (n,new)) (h0:n≠0) (h4:n*bytes≤2 ^ 40) (h5:bytes≠0) :
  vY H esz bytes .nilsl x=some (.v (.sl H.n 0 n esz),H.alloc (.own new)):=by
 simp only [vY,h5,if_false,h3,h0,h4,if_true]
theorem arg_sl {esz id off len:Nat} {cs:List AV} (h:vB H id off (len*esz)=some cs):xZ H esz (.sl id off len esz)=some (len,cs):=by simp [xZ,h]
theorem JY (cs new:List AV):splice cs new 0=new++cs.drop new.length:=by simp [splice]
def jk : List (Nat × TV) → Option (List (Nat × List AV))
  | [] => some []
  | (i, x) :: r =>
    match x.cells, jk r with
    | some c, some rs => some ((i, c) :: rs)
    | _, _ => none
theorem Xj (ev : Operand → TV) : ∀ ps : List (Nat × Operand), partsOf ev ps = jk (ps.map fun p => (p.1, ev p.2))
  | [] => rfl
  | (i, x) :: r => by
    simp only [partsOf, List.map_cons, jk, Xj ev r]
    rfl
def tbs (P : Program) (t : TypeId) (len : Nat) (H : Heap) (ps : List (Nat × TV)) : Option (TV × Heap) :=
  match zL P t with
  | some e => match tsz P e, xz P e, jk ps with
    | some n, some z, some ps =>
      if len * n ≤ 2 ^ 24 ∧ z.length = n ∧ ps.all (fun p => p.2.all AV.stor) = true then
        (xR (fun i => some (i * n, n)) (xx z len) ps).bind fun c => if c.all AV.stor then some (.v (.sl H.n 0 len n), H.alloc (.own c)) else none
      else none
    | _, _, _ => none
  | none => none
theorem Vh {t:TypeId} {len:Nat} {ps:List (Nat × Operand)}:wops P q ops ({ dst,op:=.buildSlice t len ps.toArray,type:=ty,pos,after,guard:=none }::r) i s H K =
  wC P q ops r i s dst H K (tbs P t len H (ps.map fun p=>(p.1,zK s p.2))):=by
 rw [wG rfl]
 congr 1
 simp only [zM,tbs,Xj];rfl
theorem zav {t:TypeId} {ps:List (Nat × Operand)}:wops P q ops ({ dst,op:=.build t ps.toArray,type:=ty,pos,after,guard:=none }::r) i s H K =
  wC P q ops r i s dst H K (zM P (zK s) (.build t ps.toArray) H):=wG rfl
def tmake (P : Program) (t : TypeId) (H : Heap) (x y : TV) : Option (TV × Heap) :=
  match x, y, zL P t with
  | .v (.int .i64 n), .v (.int .i64 m), some e =>
    match tsz P e, vJ P e, xz P e with
    | some sz, some by_, some z =>
      if 0 ≤ n ∧ n ≤ m ∧ m ≤ 2 ^ 40 ∧ m * by_ ≤ 2 ^ 40 ∧ z.length = sz ∧ z.all AV.stor = true then some (.v (.sl H.n 0 n.toNat sz), H.alloc (.own (xx z n.toNat))) else none
    | _, _, _ => none
  | _, _, _ => none
theorem VY {t:TypeId} {l c:Operand}:wops P q ops ({ dst,op:=.makeSlice t l c,type:=ty,pos,after,guard:=none }::r) i s H K =
  wC P q ops r i s dst H K (tmake P t H (zK s l) (zK s c)):=wG rfl
theorem mk_ {t e:TypeId} {sz bys:Nat} {z:List AV} {H:Heap} (h1:zL P t=some e) (h2:tsz P e=some sz) (h3:vJ P e=some bys) (h4:xz P e=some z) (h5:z.length=sz) (h6:z.all AV.stor=true) (n m:Int)
  (h7:0≤n) (h8:n≤m) (h9:m≤2 ^ 40) (h10:m*bys≤2 ^ 40) :
  tmake P t H (.v (.int .i64 n)) (.v (.int .i64 m))=some (.v (.sl H.n 0 n.toNat sz),H.alloc (.own (xx z n.toNat))):=by
 simp only [tmake,h1,h2,h3,h4,h5,h6,h7,h8,h9,h10,and_self,if_true]
def tbox (P:Program) (t:TypeId) (H:Heap) (x:TV):Option (TV × Heap):=
 x.cells.bind fun c=>if (P.info? t).isSome=true∧c.all AV.stor=true then some (.v (.ptr H.n 0),H.alloc (.own c)) else none
theorem zdt {t:TypeId} {x:Operand}:wops P q ops ({ dst,op:=.box t x,type:=ty,pos,after,guard:=none }::r) i s H K =
  wC P q ops r i s dst H K (tbox P t H (zK s x)):=wG rfl
def QK (P:Program) (t:TypeId) (H:Heap):Option (TV × Heap):=
 (xz P t).bind fun z=>if z.all AV.stor then some (.v (.ptr H.n 0),H.alloc (.own z)) else none
theorem zaw {t:TypeId}:wops P q ops ({ dst,op:=.alloc t,type:=ty,pos,after,guard:=none }::r) i s H K =
  wC P q ops r i s dst H K (QK P t H):=wG rfl
theorem al_ {t:TypeId} {z:List AV} {H:Heap} (h:xz P t=some z) (h2:z.all AV.stor=true):QK P t H=some (.v (.ptr H.n 0),H.alloc (.own z)):=by simp only [QK,h,Option.bind_some,h2,if_true]
end
theorem wH (H:Heap) (b:Blk) (j:Nat):(H.alloc b).f j=if j=H.n then b else H.f j:=rfl
theorem qi (H:Heap) (i:Nat) (b:Blk) (j:Nat):(H.put i b).f j=if j=i then b else H.f j:=rfl
theorem kF (H:Heap) (id off:Nat):wN H id off=(H.f id).cs[off]?:=rfl
theorem QL (cs:List AV):(Blk.own cs).cs=cs:=rfl
theorem Zf (H:Heap) (id off n:Nat):vB H id off n=if off+n≤(H.f id).cs.length then some (((H.f id).cs.drop off).take n) else none:=rfl
theorem qz {H:Heap} {id off:Nat} {cs new:List AV} (h:H.f id=.own cs) (h1:off+new.length≤cs.length) (h2:new.all AV.stor=true):vG H id off new=some (H.put id (.own (splice cs new off))):=by
 simp [vG,h,h1,h2]
section
variable {P:Program} [Cls P] {H:Heap}
end
end Go.Ab
namespace Go.Ab
def Row (H:Heap) (id off:Nat) (cs:List AV):Prop:=id<H.n∧off+cs.length≤(H.f id).cs.length∧((H.f id).cs.drop off).take cs.length=cs
theorem Row.lt {H:Heap} {id off:Nat} {cs:List AV} (h:Row H id off cs):id<H.n:=h.1
theorem Row.rd {H:Heap} {id off:Nat} {cs:List AV} (h:Row H id off cs) {j:Nat} (hj:j<cs.length):(H.f id).cs[off+j]?=cs[j]?:=by
 obtain⟨_,h1,h2⟩:=h
 conv=>rhs;rw [←h2]
 rw [List.getElem?_take,if_pos hj,List.getElem?_drop]
theorem Row.rds {H:Heap} {id off:Nat} {cs:List AV} (h:Row H id off cs) {j n:Nat} (hj:j+n≤cs.length):(((H.f id).cs.drop (off+j)).take n)=(cs.drop j).take n:=by
 obtain⟨_,h1,h2⟩:=h
 conv=>rhs;rw [←h2]
 rw [List.drop_take,List.take_take,List.drop_drop,Nat.min_eq_left (by omega)]
theorem Row.le {H:Heap} {id off:Nat} {cs:List AV} (h:Row H id off cs):off+cs.length≤(H.f id).cs.length:=h.2.1
theorem Row.mono {H H':Heap} {id off:Nat} {cs:List AV} (h:Row H id off cs) (hn:H.n≤H'.n) (hf:H'.f id=H.f id):Row H' id off cs:=by
 obtain⟨h0,h1,h2⟩:=h;exact⟨by omega,by rw [hf];exact h1,by rw [hf];exact h2⟩
theorem Row.of_f {H:Heap} {id:Nat} {cs:List AV} (h0:id<H.n) (h:(H.f id).cs=cs):Row H id 0 cs:=by
 refine⟨h0,by rw [h];omega,?_⟩;rw [h,List.drop_zero,List.take_length]
theorem Row.alloc {H:Heap} {id off:Nat} {cs:List AV} (h:Row H id off cs) (b:Blk):Row (H.alloc b) id off cs:=
 h.mono (Nat.le_succ _) (by rw [wH,if_neg (Nat.ne_of_lt h.1)])
theorem Row.put {H:Heap} {id off j:Nat} {cs:List AV} (h:Row H id off cs) (b:Blk) (hj:id≠j):Row (H.put j b) id off cs:=
 h.mono (Nat.le_refl _) (by rw [qi,if_neg hj])
def enc {α:Type} (e:α→List AV) (l:List α):List AV:=l.flatMap e
theorem wE {α:Type} (e:α→List AV) (x:α) (l:List α):enc e (x::l)=e x++enc e l:=rfl
theorem YJ {α:Type} (e:α→List AV) (l m:List α):enc e (l++m)=enc e l++enc e m:=by simp [enc]
theorem y9 {α:Type} {e:α→List AV} {n:Nat} (he:∀ x,(e x).length=n) (l:List α):(enc e l).length=l.length*n:=by
 induction l with
 | nil=>simp [enc]
 | cons x l ih=>rw [wE,List.length_append,ih,he,List.length_cons,Nat.succ_mul];omega
theorem YK {α : Type} {e : α → List AV} {n : Nat} (he : ∀ x, (e x).length = n) : ∀ (l : List α) (i : Nat), (enc e l).drop (i * n) = enc e (l.drop i)
  | l, 0 => by simp
  | [], i + 1 => by simp [enc]
  | x :: l, i + 1 => by
    rw [wE, List.drop_succ_cons, ← YK he l i, Nat.succ_mul, Nat.add_comm, ← List.drop_drop, ← he x, List.drop_left]
theorem Wv {α : Type} {e : α → List AV} {n : Nat} (he : ∀ x, (e x).length = n) : ∀ (l : List α) (i : Nat), (enc e l).take (i * n) = enc e (l.take i)
  | l, 0 => by simp [enc]
  | [], i + 1 => by simp [enc]
  | x :: l, i + 1 => by
    rw [wE, List.take_succ_cons, wE, ← Wv he l i, Nat.succ_mul, Nat.add_comm, List.take_add, ← he x, List.take_left, List.drop_left]
theorem enc_at {α:Type} {e:α→List AV} {n:Nat} (he:∀ x,(e x).length=n) {l:List α} {i:Nat} (h:i<l.length):((enc e l).drop (i*n)).take n=e l[i]:=by
 rw [YK he,List.drop_eq_getElem_cons h,wE,←he l[i],List.take_left]
theorem Row.elem {α:Type} {e:α→List AV} {n:Nat} (he:∀ x,(e x).length=n) {H:Heap} {id off:Nat} {l:List α} (h:Row H id off (enc e l)) {i:Nat} (hi:i<l.length) :
  Row H id (off+i*n) (e l[i]):=by
 have hl:=y9 he l;have hm:i*n+n≤l.length*n:=by rw [←Nat.succ_mul];exact Nat.mul_le_mul_right _ hi
 refine⟨h.1,by have:=h.2.1;rw [he];omega,?_⟩;rw [he,h.rds (by omega),enc_at he hi]
theorem Row.slice {α:Type} {e:α→List AV} {n:Nat} (he:∀ x,(e x).length=n) {H:Heap} {id off:Nat} {l:List α} (h:Row H id off (enc e l)) {a b:Nat} (hb:a+b≤l.length) :
  Row H id (off+a*n) (enc e ((l.drop a).take b)):=by
 have hl:=y9 he l;have hm:a*n+b*n≤l.length*n:=by rw [←Nat.add_mul];exact Nat.mul_le_mul_right _ hb
 have hl2:((l.drop a).take b).length=b:=by rw [List.length_take,List.length_drop];omega
 have hl3:(enc e ((l.drop a).take b)).length=b*n:=by rw [y9 he,hl2]
 refine⟨h.1,by have:=h.2.1;omega,?_⟩;rw [hl3,h.rds (by omega),YK he,Wv he]
theorem Wl {α:Type} (e:α→List AV) (z:α) (n:Nat):xx (e z) n=enc e (List.replicate n z):=by
 induction n with
 | zero=>rfl
 | succ n ih=>rw [xx,List.replicate_succ,wE,ih]
theorem zax {α:Type} {e:α→List AV} {n:Nat} (he:∀ x,(e x).length=n) (l:List α) (i:Nat) (x:α) (h:i<l.length):splice (enc e l) (e x) (i*n)=enc e (l.set i x):=by
 rw [splice,Wv he,he,←Nat.succ_mul,YK he,List.set_eq_take_append_cons_drop,if_pos h,YJ,wE,List.append_assoc]
theorem Row.agg {α:Type} {e:α→List AV} {n:Nat} (he:∀ x,(e x).length=n) {H:Heap} {id off:Nat} {l:List α} (h:Row H id off (enc e l)) {i:Nat} (hi:i<l.length) :
  (off+(i*n+n)≤(H.f id).cs.length)=True∧((H.f id).cs.drop (off+i*n)).take n=e l[i]:=by
 have r:=h.elem he hi;have h1:=r.2.1;have h2:=r.2.2;rw [he] at h1 h2;exact⟨eq_true (by omega),h2⟩
theorem Row.cell {α:Type} {e:α→List AV} {n:Nat} (he:∀ x,(e x).length=n) {H:Heap} {id off:Nat} {l:List α} (h:Row H id off (enc e l)) {i:Nat} (hi:i<l.length) {j:Nat} (hj:j<n) :
  (H.f id).cs[off+(i*n+j)]?=(e l[i])[j]?:=by
 rw [←Nat.add_assoc,(h.elem he hi).rd (by rw [he];exact hj)]
theorem Row.cell0 {α:Type} {e:α→List AV} {n:Nat} (he:∀ x,(e x).length=n) {H:Heap} {id off:Nat} {l:List α} (h:Row H id off (enc e l)) {i:Nat} (hi:i<l.length) (hj:0<n) :
  (H.f id).cs[off+i*n]?=(e l[i])[0]?:=h.cell he hi hj
theorem wrap_i64 {n:Int} (h1:-9223372036854775808≤n) (h2:n<9223372036854775808):IntKind.i64.wrap n=n:=by
 simp only [IntKind.wrap,IntKind.signed,IntKind.bits]
 simp
 omega
theorem Xk {i:Nat} (h:i<9223372036854775807):IntKind.i64.wrap ((i:Int)+1)=((i+1:Nat):Int):=by rw [wrap_i64 (by omega) (by omega)];rfl
end Go.Ab
namespace Go.Ab
theorem zbz:cz .f32 0=0:=by decide +kernel
theorem word_lt (f:Ieee.Format) (neg:Bool) (r:Nat) (h:r<f.infRung) (hs:f.infRung<f.signWeight):((f.read (f.word neg r)).isInfinity)=false:=by
 have hr:f.word neg r % f.signWeight=r:=by
  unfold Ieee.Format.word
  cases neg
  ·simp only [Bool.false_eq_true,if_false];exact Nat.mod_eq_of_lt (by omega)
  ·simp only [if_true];rw [Nat.add_mod_left];exact Nat.mod_eq_of_lt (by omega)
 unfold Ieee.Format.read;simp only [hr]
 split
 ·rfl
 ·rfl
theorem cut_zero (neg:Bool) (n:Nat):Ieee.Toward.even.cut neg n 0=n:=by
 simp [Ieee.Toward.cut,Nat.mod_one]
theorem Wm (b:Nat):(∃ s t,Ieee.single.read b=.nan s t)∨(∃ s,Ieee.single.read b=.infinity s)∨∃ s m e,Ieee.single.read b=.number s m e∧m<2 ^ 24∧-149≤e∧e≤104:=by
 unfold Ieee.Format.read;have hb:Ieee.single.binade=2 ^ 23:=rfl;have hi:Ieee.single.infRung=255*2 ^ 23:=rfl;have hp:Ieee.single.leastPlace=-149:=rfl;simp only [hb,hi,hp];generalize hr:b % Ieee.single.signWeight=r
 split
 ·right;right;exact⟨_,_,_,rfl,by omega,by omega,by omega⟩
 ·split
  ·right;right
   refine⟨_,_,_,rfl,by omega,by omega,?_⟩;omega
  ·split
   ·right;left;exact⟨_,rfl⟩
   ·left;exact⟨_,_,rfl⟩
theorem UL {m:Nat} (h:m<2 ^ 24):m.log2<24:=by
 by_cases h0:m=0
 ·subst h0;decide
 ·exact (Nat.log2_lt h0).2 h
theorem zb0 (s:Bool) (m:Nat) (e:Int) (hm:m<2 ^ 24) (h1:-149≤e) (h2:e≤104):(Ieee.double.read (Ieee.double.nearest s m e)).isInfinity=false:=by
 unfold Ieee.Format.nearest;have hw:Ieee.double.infRung<Ieee.double.signWeight:=by decide +kernel
 split
 ·exact word_lt _ _ _ (by decide +kernel) hw
 ·rename_i h0
  apply word_lt _ _ _ _ hw;have hf:Ieee.double.fractionBits=52:=rfl;have hp:Ieee.double.leastPlace=-1074:=rfl;have hb:Ieee.double.binade=2 ^ 52:=rfl;have hi:Ieee.double.infRung=2047*2 ^ 52:=rfl;have hl:=UL hm;simp only [hf,hp,hb,hi];generalize hla:max (e+(m.log2:Int) - ((52:Nat):Int)) (-1074)=last;have hle:last≤e:=by omega
  have hlast:last≤75:=by omega
  have hcut:(last - e).toNat=0:=by omega
  rw [hcut,cut_zero];have hmm:m <<< (e - last).toNat<2 ^ 53:=by
   rw [Nat.shiftLeft_eq];have h3:m<2 ^ (m.log2+1):=Nat.lt_log2_self;have h4:(e - last).toNat+(m.log2+1)≤53:=by omega
   calc m*2 ^ (e - last).toNat<2 ^ (m.log2+1)*2 ^ (e - last).toNat:=Nat.mul_lt_mul_of_pos_right h3 (Nat.two_pow_pos _)
    _=2 ^ ((m.log2+1)+(e - last).toNat):=(Nat.pow_add ..).symm
    _≤2 ^ 53:=Nat.pow_le_pow_right (by decide) (by omega)
  have h5:(last - -1074).toNat≤1149:=by omega
  have h6:(last - -1074).toNat*2 ^ 52≤1149*2 ^ 52:=Nat.mul_le_mul_right _ h5;exact Nat.lt_of_le_of_lt (Nat.min_le_left _ _) (by omega)
def widen (b:Nat):Nat:=(qG .f32 b .f64).getD 0
theorem zdu (b:Nat):qG .f32 b .f64=some (widen b):=by
 have:(qG .f32 b .f64).isSome=true:=by
  unfold qG;rw [if_neg (by decide)];have hd:FloatKind.f32.decode b=Ieee.single.read b:=rfl;rw [hd];rcases Wm b with⟨s,t,h⟩|⟨s,h⟩|⟨s,m,e,h,h1,h2,h3⟩
  ·rw [h];rfl
  ·rw [h];rfl
  ·rw [h];have hf:(FloatKind.f64.decode (FloatKind.f64.encode (Ieee.Datum.number s m e))).isInfinity=false:=zb0 s m e h1 h2 h3;simp only [hf];rfl
 unfold widen
 cases h:qG .f32 b .f64 with
 | none=>rw [h] at this;cases this
 | some c=>rfl
end Go.Ab
namespace Go.Ab
def eF (l:List Nat):List AV:=l.map (AV.flt .f32)
def fl (n:Int):Nat:=cz .f32 (floatOfInt .f32 n)
def marks (k:Int):Nat→List Nat
 | 0=>[]
 | n+1=>fl k::marks (k+1) n
end Go.Ab
