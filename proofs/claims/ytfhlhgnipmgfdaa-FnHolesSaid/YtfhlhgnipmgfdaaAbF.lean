/-
  FUNCTIONS: the abstract run of a body, what it says of the call, and how its end is told. By an AI agent; nothing here is trusted.
-/
import Derived.Test.YtfhlhgnipmgfdaaAbE
namespace Go.Ab
set_option linter.unusedVariables false
set_option linter.unusedSimpArgs false

def codeOK (n : Nat) : Code → Bool
  | .region _ ops d => (ops.toList.all fun o => o.dst.all fun t => decide (t < n)) && (!d || orderOK ops.toList)
  | .seq a b => codeOK n a && codeOK n b
  | .cond _ a b => codeOK n a && codeOK n b
  | .block _ c => codeOK n c
  | .loop c => codeOK n c
  | _ => true

def itemOK (n : Nat) : Item → Bool
  | .code c => codeOK n c
  | .inLoop c => codeOK n c
  | _ => true

/-- The run from a list of what is to do, in k steps: R holds at the return. -/
def fin (P : Program) : Nat → List Item → (Nat → TV) → Heap → ((Nat → TV) → Heap → Prop) → Prop
  | 0, _, _, _, _ => False
  | k + 1, todo, s, H, R =>
    match todo with
    | [] => R s H
    | .code c :: t =>
      match c with
      | .skip => fin P k t s H R
      | .label _ => fin P k t s H R
      | .seq a b => fin P k (.code a :: .code b :: t) s H R
      | .cond c a b =>
        match aeval s c with
        | .v (.bool x) => if x = true then fin P k (.code a :: t) s H R else fin P k (.code b :: t) s H R
        | _ => False
      | .block id c => fin P k (.code c :: .inBlock id :: t) s H R
      | .loop c => fin P k (.code c :: .inLoop c :: t) s H R
      | .exit id =>
        match exitTo id t with
        | some t' => fin P k t' s H R
        | none => False
      | .ret => R s H
      | .region _ ops d => wopa P d ops.toList s H fun s' H' => fin P k t s' H' R
      | _ => False
    | .inBlock _ :: t => fin P k t s H R
    | .inLoop c :: t => fin P k (.code c :: .inLoop c :: t) s H R
    | _ => False

def Fin (P : Program) (todo : List Item) (s : Nat → TV) (H : Heap) (R : (Nat → TV) → Heap → Prop) : Prop := ∃ k, fin P k todo s H R

theorem exitTo_all {n id : Nat} : ∀ {t t' : List Item}, exitTo id t = some t' → t.all (itemOK n) = true → t'.all (itemOK n) = true
  | [], t', h, _ => by simp [exitTo] at h
  | x :: t, t', h, hok => by
    simp only [List.all_cons, Bool.and_eq_true] at hok
    cases x <;> simp only [exitTo] at h <;> first
      | exact exitTo_all h hok.2
      | (split at h
         · cases h; exact hok.2
         · exact exitTo_all h hok.2)

section
variable {P : Program} {N : Nat}

theorem region_sound {id : Nat} {ops : Array Oper} {d : Bool} (hm : P.follows .mixedOrders = true) (hok : codeOK N (.region id ops d) = true) {s : Nat → TV} {H : Heap} {K : (Nat → TV) → Heap → Prop} (h : wopa P d ops.toList s H K)
    {β : Emb} {a : Act} {w : World} (ha : AR β s a N) (hs : SR β H w) {Q : Exit → Act → World → Prop} (hQ : ∀ β' s' H' a' w', K s' H' → Le β β' → AR β' s' a' N → SR β' H' w' → Fr β H w β' H' w' → Q .normal a' w') :
    (Code.region id ops d).wp P Q a w := by
  simp only [codeOK, Bool.and_eq_true] at hok
  have hd : ∀ o ∈ ops.toList, ∀ t, o.dst = some t → t < N := by
    intro o ho t ht
    have := List.all_eq_true.1 hok.1 o ho
    rw [ht] at this
    simpa using this
  rcases h with h | ⟨rfl, ⟨F, h⟩ | ⟨C, Hm, nh, hC, hH, h⟩⟩
  case inr.inl => exact anyF_sound (id := id) hm (by simpa using hok.2) hd h ha hs hQ
  case inr.inr => exact anyM_sound (id := id) hm (by simpa using hok.2) hd (by simpa using hC) hH h ha hs hQ
  obtain ⟨S, Hs, V, rfl, rfl, ht, hK⟩ := wops_trace _ _ _ _ h
  rw [show ops.toList.length = ops.size by simp] at hK
  cases d with
  | false =>
    refine wp_region ?_
    rw [List.range_eq_range']
    exact region_seq ht hd (β0 := β) (w0 := w) (fun β' a' w' h1 h2 h3 h4 => hQ β' _ _ a' w' hK h1 h2 h3 h4) ops.size 0 β a w (by omega) (Le.refl β) ha hs (Fr.refl β _ w)
  | true =>
    refine wp_region_any hm ?_
    have ho : orderOK ops.toList = true := by simpa using hok.2
    have := region_any ht ho hd (β0 := β) (w0 := w) (Q := Q) (fun β' a' w' h1 h2 h3 h4 => hQ β' _ _ a' w' hK h1 h2 h3 h4) ops.size (Array.replicate ops.size false) a { w with drawn := w.drawn + 1 } β 0 (unl_replicate _ _ (Nat.le_refl _))
      ⟨Le.refl β, hs.draw _, Fr.draw _, ha.size, ha.defers, fun t => ?_, by simp, Nat.zero_le _, fun j hj _ => ?_, fun j hj hE => ?_⟩
    · exact this
    · rw [look_congr (E' := fun j => decide (j < 0)) ops.size fun j hj _ => by simp [Array.getD_eq_getD_getElem?, hj]]
      rw [look_beyond 0 ops.size (Nat.zero_le _)]
      exact ha.val t
    · simp [Array.getD_eq_getD_getElem?, hj]
    · simp [Array.getD_eq_getD_getElem?, hj] at hE

theorem fin_sound (hm : P.follows .mixedOrders = true) : ∀ (k : Nat) (todo : List Item) (s : Nat → TV) (H : Heap) (R : (Nat → TV) → Heap → Prop), fin P k todo s H R → todo.all (itemOK N) = true →
    ∀ (β : Emb) (a : Act) (w : World) (b : Frame) (cs : List Frame), AR β s a N → SR β H w →
    ∃ β' s' H' a' w' todo', R s' H' ∧ Le β β' ∧ AR β' s' a' N ∧ SR β' H' w' ∧ Fr β H w β' H' w' ∧ Steps P (lone (b.at a todo) cs w) (lone { b.at a' todo' with mode := .returning } cs w') := by
  intro k
  induction k with
  | zero => intro todo s H R h; exact h.elim
  | succ k ih =>
    intro todo s H R h hok β a w b cs ha hs
    have go : ∀ (todo' : List Item), fin P k todo' s H R → todo'.all (itemOK N) = true → step P (lone (b.at a todo) cs w) = .next (lone (b.at a todo') cs w) →
        ∃ β' s' H' a' w' todo', R s' H' ∧ Le β β' ∧ AR β' s' a' N ∧ SR β' H' w' ∧ Fr β H w β' H' w' ∧ Steps P (lone (b.at a todo) cs w) (lone { b.at a' todo' with mode := .returning } cs w') := by
      intro todo' h' hok' hst
      obtain ⟨β', s', H', a', w', t', h1, h2, h3, h4, h5, h6⟩ := ih todo' s H R h' hok' β a w b cs ha hs
      exact ⟨β', s', H', a', w', t', h1, h2, h3, h4, h5, .head hst h6⟩
    unfold fin at h
    split at h
    · exact ⟨β, s, H, a, w, [], h, Le.refl β, ha, hs, Fr.refl β H w, .one step_end⟩
    · rename_i c t
      simp only [List.all_cons, Bool.and_eq_true] at hok
      obtain ⟨hokc, hokt⟩ := hok
      split at h
      · exact go _ h hokt step_skip
      · exact go _ h hokt step_label
      · rename_i x y
        simp only [itemOK, codeOK, Bool.and_eq_true] at hokc
        exact go _ h (by simp [itemOK, hokc.1, hokc.2, hokt]) step_seq
      · rename_i cnd x y
        simp only [itemOK, codeOK, Bool.and_eq_true] at hokc
        split at h
        · rename_i t' hc
          have hcv := ha.eval cnd
          rw [hc] at hcv
          have hcv' : a.eval cnd = .bool t' := hcv
          cases t' with
          | true =>
            rw [if_pos rfl] at h
            exact go _ h (by simp [itemOK, hokc.1, hokt]) (by simpa using step_cond (P := P) (b := b) (k := t) (cs := cs) (w := w) (x := x) (y := y) hcv')
          | false =>
            rw [if_neg (by simp)] at h
            exact go _ h (by simp [itemOK, hokc.2, hokt]) (by simpa using step_cond (P := P) (b := b) (k := t) (cs := cs) (w := w) (x := x) (y := y) hcv')
        · exact h.elim
      · simp only [itemOK, codeOK] at hokc
        exact go _ h (by simp [itemOK, hokc, hokt]) step_block
      · simp only [itemOK, codeOK] at hokc
        exact go _ h (by simp [itemOK, hokc, hokt]) step_loop
      · split at h
        · rename_i t' ht
          exact go _ h (exitTo_all ht hokt) (step_exit ht)
        · exact h.elim
      · exact ⟨β, s, H, a, w, _, h, Le.refl β, ha, hs, Fr.refl β H w, .one step_ret⟩
      · rename_i id ops d
        have hwp := region_sound (id := id) hm (by simpa [itemOK] using hokc) h ha hs (Q := fun e a' w' => e = .normal ∧ ∃ β' s' H', fin P k t s' H' R ∧ Le β β' ∧ AR β' s' a' N ∧ SR β' H' w' ∧ Fr β H w β' H' w')
          (fun β' s' H' a' w' h1 h2 h3 h4 h5 => ⟨rfl, β', s', H', h1, h2, h3, h4, h5⟩)
        obtain ⟨e, a', w', ⟨rfl, β', s', H', h1, h2, h3, h4, h5⟩, harr⟩ := hwp b t cs
        obtain ⟨β2, s2, H2, a2, w2, t2, g1, g2, g3, g4, g5, g6⟩ := ih t s' H' R h1 hokt β' a' w' b cs h3 h4
        exact ⟨β2, s2, H2, a2, w2, t2, g1, h2.trans g2, g3, g4, h5.trans g5, Steps.trans harr g6⟩
      · exact h.elim
    · simp only [List.all_cons, Bool.and_eq_true] at hok
      exact go _ h hok.2 step_inBlock
    · rename_i c t
      simp only [List.all_cons, Bool.and_eq_true] at hok
      have hokc : codeOK N c = true := by simpa [itemOK] using hok.1
      exact go _ h (by simp [itemOK, hokc, hok.2]) step_inLoop
    · exact h.elim
end

/-! ### the end of a function -/
def AV.refs : AV → List Nat
  | .ptr id _ => [id]
  | .sl id _ _ _ => [id]
  | .mref id => [id]
  | .fn _ caps => caps.map (·.1)
  | _ => []

def AV.ren (ρ : Nat → Nat) : AV → AV
  | .ptr id off => .ptr (ρ id) off
  | .sl id off len esz => .sl (ρ id) off len esz
  | .mref id => .mref (ρ id)
  | .fn f caps => .fn f (caps.map fun p => (ρ p.1, p.2))
  | x => x

def TV0.refs : TV0 → List Nat
  | .v x => x.refs
  | .g cs => cs.flatMap AV.refs

def TV0.ren (ρ : Nat → Nat) : TV0 → TV0
  | .v x => .v (x.ren ρ)
  | .g cs => .g (cs.map (AV.ren ρ))

def TV.refs : TV → List Nat
  | .v x => x.refs
  | .g cs => cs.flatMap AV.refs
  | .t vs => vs.flatMap TV0.refs

def TV.ren (ρ : Nat → Nat) : TV → TV
  | .v x => .v (x.ren ρ)
  | .g cs => .g (cs.map (AV.ren ρ))
  | .t vs => .t (vs.map (TV0.ren ρ))

def Blk.ren (ρ : Nat → Nat) : Blk → Blk
  | .ro cs => .ro (cs.map (AV.ren ρ))
  | .own cs => .own (cs.map (AV.ren ρ))
  | .gone => .gone
  | .tab b o => .tab b o
  | .hole => .hole
  | .mp kk ek m => .mp kk ek m

def Blk.refs (b : Blk) : List Nat := b.cs.flatMap AV.refs

theorem VR.ren {β γ : Emb} {ρ : Nat → Nat} : ∀ {x : AV} {u : Value}, VR β (x.ren ρ) u → (∀ id ∈ x.refs, γ id = β (ρ id)) → VR γ x u
  | .bad, _, _, _ => trivial
  | .und, _, h, _ => h
  | .bool _, _, h, _ => h
  | .int _ _, _, h, _ => h
  | .flt _ _, _, h, _ => h
  | .str _, _, h, _ => h
  | .nilptr, _, h, _ => h
  | .ifc _, _, h, _ => h
  | .mref id, _, ⟨l, h1, h2⟩, k => ⟨l, (k id (by simp [AV.refs])).trans h1, h2⟩
  | .ptr id off, _, ⟨l, h1, h2⟩, k => ⟨l, (k id (by simp [AV.refs])).trans h1, h2⟩
  | .nilsl, _, h, _ => h
  | .sl id off len esz, _, ⟨l, a, c, h1, h2⟩, k => ⟨l, a, c, (k id (by simp [AV.refs])).trans h1, h2⟩
  | .fn f caps, u, ⟨us, h1, h2⟩, k => by
    refine ⟨us, h1, ?_⟩
    clear h1
    induction caps generalizing us with
    | nil => cases us <;> simp_all [All2]
    | cons c caps ih =>
      cases us with
      | nil => exact h2.elim
      | cons u us =>
        obtain ⟨⟨l, e1, e2⟩, h2⟩ := h2
        exact ⟨⟨l, (k c.1 (by simp [AV.refs])).trans e1, e2⟩, ih us h2 fun id hid => k id (by simp [AV.refs] at hid ⊢; exact .inr hid)⟩

theorem AV.stor_ren (ρ : Nat → Nat) (x : AV) : (x.ren ρ).stor = x.stor := by cases x <;> rfl

theorem VR_refs {β : Emb} : ∀ {x : AV} {u : Value}, VR β x u → ∀ id ∈ x.refs, ∃ l, β id = some l
  | .ptr id off, _, ⟨l, h1, _⟩, i, hi => by simp [AV.refs] at hi; subst hi; exact ⟨l, h1⟩
  | .mref id, _, ⟨l, h1, _⟩, i, hi => by simp [AV.refs] at hi; subst hi; exact ⟨l, h1⟩
  | .sl id off len esz, _, ⟨l, _, _, h1, _⟩, i, hi => by simp [AV.refs] at hi; subst hi; exact ⟨l, h1⟩
  | .fn f caps, u, ⟨us, h1, h2⟩, i, hi => by
    clear h1
    simp only [AV.refs] at hi
    induction caps generalizing us with
    | nil => simp at hi
    | cons c caps ih =>
      cases us with
      | nil => exact h2.elim
      | cons u us =>
        obtain ⟨⟨l, e1, e2⟩, h2⟩ := h2
        simp at hi
        rcases hi with rfl | hi
        · exact ⟨l, e1⟩
        · exact ih us h2 (by simpa using hi)
  | .bad, _, _, i, hi => by simp [AV.refs] at hi
  | .und, _, _, i, hi => by simp [AV.refs] at hi
  | .bool _, _, _, i, hi => by simp [AV.refs] at hi
  | .int _ _, _, _, i, hi => by simp [AV.refs] at hi
  | .flt _ _, _, _, i, hi => by simp [AV.refs] at hi
  | .str _, _, _, i, hi => by simp [AV.refs] at hi
  | .nilptr, _, _, i, hi => by simp [AV.refs] at hi
  | .ifc _, _, _, i, hi => by simp [AV.refs] at hi
  | .nilsl, _, _, i, hi => by simp [AV.refs] at hi

theorem All2.ren {β γ : Emb} {ρ : Nat → Nat} : ∀ {cs : List AV} {us : List Value}, All2 (VR β) (cs.map (AV.ren ρ)) us → (∀ id ∈ cs.flatMap AV.refs, γ id = β (ρ id)) → All2 (VR γ) cs us
  | [], [], _, _ => trivial
  | c :: cs, u :: us, h, k => ⟨VR.ren h.1 fun id hid => k id (by simp [hid]), All2.ren h.2 fun id hid => k id (by simp at hid ⊢; exact .inr hid)⟩
  | [], _ :: _, h, _ => h.elim
  | _ :: _, [], h, _ => h.elim

theorem TV0R.ren {β γ : Emb} {ρ : Nat → Nat} {x : TV0} {u : Value} (h : TV0R β (x.ren ρ) u) (k : ∀ id ∈ x.refs, γ id = β (ρ id)) : TV0R γ x u := by
  cases x with
  | v x => exact VR.ren h k
  | g cs => obtain ⟨us, h1, h2⟩ := h; exact ⟨us, h1, h2.ren k⟩

theorem All2.ren0 {β γ : Emb} {ρ : Nat → Nat} : ∀ {cs : List TV0} {us : List Value}, All2 (TV0R β) (cs.map (TV0.ren ρ)) us → (∀ id ∈ cs.flatMap TV0.refs, γ id = β (ρ id)) → All2 (TV0R γ) cs us
  | [], [], _, _ => trivial
  | c :: cs, u :: us, h, k => ⟨TV0R.ren h.1 fun id hid => k id (by simp [hid]), All2.ren0 h.2 fun id hid => k id (by simp at hid ⊢; exact .inr hid)⟩
  | [], _ :: _, h, _ => h.elim
  | _ :: _, [], h, _ => h.elim

theorem TVR.ren {β γ : Emb} {ρ : Nat → Nat} {x : TV} {u : Value} (h : TVR β (x.ren ρ) u) (k : ∀ id ∈ x.refs, γ id = β (ρ id)) : TVR γ x u := by
  cases x with
  | v x => exact VR.ren h k
  | g cs => obtain ⟨us, h1, h2⟩ := h; exact ⟨us, h1, h2.ren k⟩
  | t vs =>
    obtain ⟨us, h1, h2⟩ := h
    exact ⟨us, h1, All2.ren0 h2 k⟩

/-- The values at a function's begin. -/
def init (args : List TV) : Nat → TV := fun t => args.getD t (.v .und)

def resultOf (P : Program) (fn : Func) (s : Nat → TV) (H : Heap) : Option TV := (aresults P s H fn.results.toList).bind packTV

def resOne (tmps : Array Value) : ResultVar → Sem Value
  | .tmp t => pure (tmps.getD t undef)
  | .cell x t => do loadVar t (← asAddr (tmps.getD x undef))

theorem results_run {P : Program} {N : Nat} {β : Emb} {a : Act} {s : Nat → TV} {H : Heap} {w : World} (ha : AR β s a N) (hs : SR β H w) : ∀ (rs : List ResultVar) (vs : List TV), aresults P s H rs = some vs →
    ∃ us : List Value, All2 (TVR β) vs us ∧ (rs.mapM (resOne a.tmps)).run P w = .ok us w
  | [], vs, h => by simp [aresults] at h; subst h; exact ⟨[], trivial, by simp⟩
  | .tmp t :: rs, vs, h => by
    simp only [aresults] at h
    cases hr : aresults P s H rs with
    | none => rw [hr] at h; cases h
    | some vr =>
      rw [hr] at h
      cases h
      obtain ⟨us, h1, h2⟩ := results_run ha hs rs vr hr
      exact ⟨a.tmps.getD t undef :: us, ⟨ha.val t, h1⟩, by simp [resOne, h2]⟩
  | .cell x t :: rs, vs, h => by
    simp only [aresults] at h
    split at h
    · rename_i id off hx
      have hxv := ha.val x
      rw [hx] at hxv
      obtain ⟨l, hl, hp⟩ := hxv
      split at h
      · rename_i hg
        split at h
        · rename_i c hc
          cases hr : aresults P s H rs with
          | none => rw [hr] at h; cases h
          | some vr =>
            rw [hr] at h
            cases h
            obtain ⟨us, h1, h2⟩ := results_run ha hs rs vr hr
            cases hn : tsz P t with
            | none => rw [hn] at hc; cases hc
            | some n =>
              rw [hn] at hc
              simp only [Option.bind_some] at hc
              obtain ⟨cu, k1, k2, k3⟩ := cells_of hs hl hc
              have hload := run_loadCells (P := P) l.blk (l.base + off) cu k3
              rw [k1] at hload
              exact ⟨.agg cu.toArray :: us, ⟨⟨cu, rfl, k2.vr⟩, h1⟩, by simp [resOne, hp, ptrV, asAddr, loadVar, run_tagg hg, run_tsz hn, hload, h2]⟩
        · cases h
      · rename_i hg
        split at h
        · rename_i c hc
          cases hr : aresults P s H rs with
          | none => rw [hr] at h; cases h
          | some vr =>
            rw [hr] at h
            cases h
            obtain ⟨us, h1, h2⟩ := results_run ha hs rs vr hr
            obtain ⟨u, k1, k2⟩ := cell_of hs hl hc
            exact ⟨u :: us, ⟨k2.1, h1⟩, by simp [resOne, hp, ptrV, asAddr, loadVar, run_tagg hg, k1, h2]⟩
        · cases h
      · cases h
    · cases h

theorem downAll_r {β : Emb} : ∀ {vs : List TV} {us : List Value} {ds : List TV0}, All2 (TVR β) vs us → downAll vs = some ds → All2 (TV0R β) ds us
  | [], [], ds, _, h => by simp [downAll] at h; subst h; trivial
  | v :: vs, u :: us, ds, h, hd => by
    simp only [downAll] at hd
    split at hd
    · rename_i y ys hy hys
      cases hd
      refine ⟨?_, downAll_r h.2 hys⟩
      cases v <;> simp [TV.down] at hy <;> subst hy <;> exact h.1
    · cases hd
  | [], _ :: _, _, h, _ => h.elim
  | _ :: _, [], _, h, _ => h.elim

theorem resultOf_run {P : Program} {fn : Func} {N : Nat} {β : Emb} {a : Act} {s : Nat → TV} {H : Heap} {w : World} {r : TV} (ha : AR β s a N) (hs : SR β H w) (h : resultOf P fn s H = some r) :
    ∃ rv, (results fn a.tmps).run P w = .ok rv w ∧ TVR β r rv := by
  unfold resultOf at h
  cases hv : aresults P s H fn.results.toList with
  | none => rw [hv] at h; cases h
  | some vs =>
    rw [hv] at h
    simp only [Option.bind_some] at h
    obtain ⟨us, h1, h2⟩ := results_run (P := P) ha hs _ _ hv
    have hm : (fn.results.mapM (resOne a.tmps)).run P w = .ok us.toArray w := by
      rw [Array.mapM_eq_mapM_toList]
      rw [Sem.run_map, h2]
      rfl
    have hres : results fn a.tmps = (do
        let vs ← fn.results.mapM (resOne a.tmps)
        pure (if h : vs.size = 1 then vs[0] else .tuple vs)) := by
      unfold results
      congr 1
    rw [hres, Sem.run_bind, hm]
    simp only [Result.andThen_ok, Sem.run_pure]
    unfold packTV at h
    split at h
    · rename_i x
      cases h
      match us, h1 with
      | [u], h1 => exact ⟨u, by simp, h1.1⟩
    · rename_i hne
      cases hd : downAll vs with
      | none => rw [hd] at h; cases h
      | some ds =>
        rw [hd] at h
        cases h
        have hlen : us.length ≠ 1 := by
          intro hl
          rw [← h1.len] at hl
          match vs, hl with
          | [x], _ => exact hne x rfl
        exact ⟨.tuple us.toArray, by simp [hlen], us, rfl, downAll_r h1 hd⟩

end Go.Ab
