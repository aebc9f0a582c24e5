/-
  NEW ROWS AT NUMBERS THAT WERE KEPT: what the makers of slices do in a region where several rows are made in an open order. By an AI agent; nothing here is trusted.
-/
import Derived.Test.YtfhlhgnipmgfdaaAbK
namespace Go.Ab
set_option linter.unusedVariables false
set_option linter.unusedSimpArgs false

def killO : Option Nat → Heap → Heap
  | none, H => H
  | some i, H => H.put i .gone
theorem killO_n (o : Option Nat) (H : Heap) : (killO o H).n = H.n := by cases o <;> rfl
theorem killO_f (o : Option Nat) (H : Heap) (i : Nat) : (killO o H).f i = if o = some i then .gone else H.f i := by
  cases o with
  | none => simp [killO]
  | some j =>
    simp only [killO, put_f, Option.some.injEq]
    by_cases h : i = j
    · subst h; simp
    · rw [if_neg h, if_neg (fun e => h e.symm)]

/-- A new row at the heap's end may as well come to a number that was kept. -/
theorem OpSem.fill {P : Program} {o : Oper} {ev : Operand → TV} {H : Heap} {kill : Option Nat} {cs : List AV} {len n k : Nat} (h : OpSem P o ev H (.v (.sl H.n 0 len n)) ((killO kill H).alloc (.own cs))) (hk : k < H.n) (hh : H.f k = .hole) (hr : ∀ c ∈ cs, c.refs = []) (hkk : kill ≠ some k) :
    OpSem P o ev H (.v (.sl k 0 len n)) ((killO kill H).put k (.own cs)) := by
  intro β a w hs hv K Q hK
  refine h β a w hs hv K Q fun β' u w' hle hs' hu hf => ?_
  have n1 : ((killO kill H).alloc (.own cs)).n = H.n + 1 := by show (killO kill H).n + 1 = _; rw [killO_n]
  have n2 : ((killO kill H).put k (.own cs)).n = H.n := killO_n kill H
  have f1 : ∀ i, ((killO kill H).alloc (.own cs)).f i = if i = H.n then .own cs else if kill = some i then .gone else H.f i := fun i => by
    rw [alloc_f, killO_n, killO_f]
  have f2 : ∀ i, ((killO kill H).put k (.own cs)).f i = if i = k then .own cs else if kill = some i then .gone else H.f i := fun i => by
    rw [put_f, killO_f]
  have hkn : k ≠ H.n := Nat.ne_of_lt hk
  have hβk : β' k = none := by
    cases e : β' k with
    | none => rfl
    | some l =>
      have := hs'.row k l e
      rw [f1, if_neg hkn, if_neg hkk, hh] at this
      exact this.elim
  have hβ0 : β k = none := by
    cases e : β k with
    | none => rfl
    | some l => rw [hle k l e] at hβk; cases hβk
  obtain ⟨ln, hln⟩ := hs'.tot H.n (by rw [n1]; exact Nat.lt_succ_self _) (by rw [f1, if_pos rfl]; exact fun e => Blk.noConfusion e)
  let γ : Emb := fun i => if i = k then β' H.n else if i = H.n then none else β' i
  have γk : γ k = β' H.n := if_pos rfl
  have γn : γ H.n = none := by show (if H.n = k then _ else if H.n = H.n then none else _) = _; rw [if_neg (Ne.symm hkn), if_pos rfl]
  have γo : ∀ i, i ≠ k → i ≠ H.n → γ i = β' i := fun i h1 h2 => by show (if i = k then _ else if i = H.n then _ else _) = _; rw [if_neg h1, if_neg h2]
  have lt : ∀ i l, β i = some l → i < H.n := fun i l e => hs.lt e
  have hγ : Le β γ := fun i l e => by
    have h1 := lt i l e
    rw [γo i (fun e' => by rw [e', hβ0] at e; cases e) (Nat.ne_of_lt h1)]
    exact hle i l e
  -- a cell of a row that was there
  have cells : ∀ i, i ≠ k → i ≠ H.n → ∀ l, β' i = some l → ∀ b : Blk, (b = .gone ∨ b = H.f i) → RowR β' w' l b → RowR γ w' l b := by
    intro i h1 h2 l e b hb hrow
    rcases hb with rfl | rfl
    · exact hrow
    have old : ∀ (j : Nat) (v : AV), (H.f i).cs[j]? = some v → ∀ (ccs : Array Value) (base : Nat), (∃ u, ccs[base + j]? = some u ∧ VS β' v u) → ∃ u : Value, ccs[base + j]? = some u ∧ VS γ v u := by
      intro j v hj ccs base ⟨u, hu, hvs⟩
      refine ⟨u, hu, ?_, hvs.2⟩
      have hi : i < H.n + 1 := by have := hs'.lt e; rw [n1] at this; exact this
      have hne : H.f i ≠ .hole := fun e => by rw [e] at hj; simp [Blk.cs] at hj
      obtain ⟨li, hli⟩ := hs.tot i (by omega) hne
      obtain ⟨u0, _, hv0⟩ := cell_of hs hli hj
      have hrefs := VR_refs hv0.1
      have : v.ren (fun i => i) = v := by cases v <;> simp [AV.ren]
      refine VR.ren (β := β') (ρ := fun i => i) (by rw [this]; exact hvs.1) fun id hid => ?_
      obtain ⟨m, hm⟩ := hrefs id hid
      exact γo id (fun e' => by rw [e', hβ0] at hm; cases hm) (Nat.ne_of_lt (lt id m hm))
    cases hb : H.f i with
    | gone => trivial
    | hole => rw [hb] at hrow; exact hrow.elim
    | mp _ _ _ => rw [hb] at hrow; exact hrow
    | tab b o => rw [hb] at hrow; exact hrow
    | ro cs' =>
      rw [hb] at hrow old
      obtain ⟨ccs, t, fz, k1, k2⟩ := hrow
      exact ⟨ccs, t, fz, k1, fun j v hj => old j v hj ccs l.base (k2 j v hj)⟩
    | own cs' =>
      rw [hb] at hrow old
      obtain ⟨ccs, t, fz, k1, k2, k3⟩ := hrow
      exact ⟨ccs, t, fz, k1, fun j v hj => old j v hj ccs l.base (k2 j v hj), k3⟩
  have blk2 : ∀ i, i ≠ k → (((killO kill H).put k (.own cs)).f i = .gone ∨ ((killO kill H).put k (.own cs)).f i = H.f i) ∧ (i ≠ H.n → ((killO kill H).alloc (.own cs)).f i = ((killO kill H).put k (.own cs)).f i) := by
    intro i h1
    rw [f2, if_neg h1]
    refine ⟨by by_cases h : kill = some i; exact .inl (if_pos h); exact .inr (if_neg h), fun h2 => by rw [f1, if_neg h2]⟩
  have own2 : ∀ i l, γ i = some l → (((killO kill H).put k (.own cs)).f i).isOwn = true → ∃ i', β' i' = some l ∧ (((killO kill H).alloc (.own cs)).f i').isOwn = true ∧ i' = (if i = k then H.n else i) := by
    intro i l e ho
    by_cases h1 : i = k
    · subst h1
      exact ⟨H.n, by rw [← γk]; exact e, by rw [f1, if_pos rfl]; rfl, by rw [if_pos rfl]⟩
    · have h2 : i ≠ H.n := fun e' => by rw [e', γn] at e; cases e
      exact ⟨i, by rw [← γo i h1 h2]; exact e, by rw [(blk2 i h1).2 h2]; exact ho, by rw [if_neg h1]⟩
  refine hK γ u w' hγ ⟨fun i hi => ?_, fun i hi hne => ?_, fun i l e => ?_, fun i j li lj hij ei ej ho hg => ?_⟩ ?_ ⟨hf.os, hf.tape, hf.output, hf.size, hf.block, fun b hb ⟨i, l, e, ho, hl⟩ => ?_⟩
  · rw [n2] at hi
    by_cases h2 : i = H.n
    · rw [h2]; exact γn
    · rw [γo i (by omega) h2]; exact hs'.dom i (by rw [n1]; omega)
  · rw [n2] at hi
    by_cases h1 : i = k
    · exact ⟨ln, by rw [h1, γk]; exact hln⟩
    · have h2 : i ≠ H.n := Nat.ne_of_lt hi
      obtain ⟨l, hl⟩ := hs'.tot i (by rw [n1]; omega) (by rw [(blk2 i h1).2 h2]; exact hne)
      exact ⟨l, by rw [γo i h1 h2]; exact hl⟩
  · by_cases h1 : i = k
    · subst h1
      rw [γk] at e
      have hrow := hs'.row H.n l e
      rw [f1, if_pos rfl] at hrow
      rw [f2, if_pos rfl]
      obtain ⟨ccs, t, fz, k1, k2, k3⟩ := hrow
      refine ⟨ccs, t, fz, k1, fun j v hj => ?_, k3⟩
      obtain ⟨u', hu', hvs⟩ := k2 j v hj
      have hv0 := hr v (List.mem_of_getElem? hj)
      have : v.ren (fun i => i) = v := by cases v <;> simp [AV.ren]
      exact ⟨u', hu', VR.ren (β := β') (ρ := fun i => i) (by rw [this]; exact hvs.1) (fun id hid => by rw [hv0] at hid; cases hid), hvs.2⟩
    · have h2 : i ≠ H.n := fun e' => by rw [e', γn] at e; cases e
      rw [γo i h1 h2] at e
      have hrow := hs'.row i l e
      rw [(blk2 i h1).2 h2] at hrow
      exact cells i h1 h2 l e _ (blk2 i h1).1 hrow
  · obtain ⟨i', e1, o1, q1⟩ := own2 i li ei ho
    by_cases h1 : j = k
    · subst h1
      rw [γk] at ej
      refine hs'.apart i' H.n li lj (by rw [q1, if_neg hij]; exact fun e' => by rw [e', γn] at ei; cases ei) e1 ej o1 (by rw [f1, if_pos rfl]; rfl)
    · have h2 : j ≠ H.n := fun e' => by rw [e', γn] at ej; cases ej
      rw [γo j h1 h2] at ej
      refine hs'.apart i' j li lj ?_ e1 ej o1 (by rw [(blk2 j h1).2 h2]; exact hg)
      rw [q1]; split
      · exact Ne.symm h2
      · exact hij
  · obtain ⟨L, a', cap, e1, e2, e3, e4⟩ := hu
    exact ⟨L, a', cap, by rw [γk]; exact e1, e2, e3, e4⟩
  · obtain ⟨i', e1, o1, _⟩ := own2 i l e ho
    exact hf.owns b hb ⟨i', l, e1, o1, hl⟩

theorem StepR.fill {P : Program} {ops : List Oper} {s : Nat → TV} {o : Oper} {H : Heap} {kill : Option Nat} {cs : List AV} {len n k : Nat} (h : StepR P ops s H o (.v (.sl H.n 0 len n)) ((killO kill H).alloc (.own cs))) (hk : k < H.n) (hh : H.f k = .hole) (hr : ∀ c ∈ cs, c.refs = []) (hkk : kill ≠ some k) :
    StepR P ops s H o (.v (.sl k 0 len n)) ((killO kill H).put k (.own cs)) := by
  generalize hv : TV.v (.sl H.n 0 len n) = v at h
  generalize hH : (killO kill H).alloc (.own cs) = H' at h
  cases h with
  | plain hw h => subst hv; subst hH; exact .plain hw (h.fill hk hh hr hkk)
  | skip hg hy hne => cases hv

theorem heap_ext {H H' : Heap} (h1 : H.n = H'.n) (h2 : ∀ i, H.f i = H'.f i) : H = H' := by
  cases H; cases H'; simp only at h1 h2; subst h1; congr 1; exact funext h2
theorem refs0 {α : Type} {e : α → List AV} (h : ∀ x, ∀ c ∈ e x, c.refs = []) (l : List α) : ∀ c ∈ enc e l, c.refs = [] := by
  intro c hc
  obtain ⟨x, _, hx⟩ := List.mem_flatMap.1 hc
  exact h x c hx

theorem refs_int (k : IntKind) (x : Int) : ∀ c ∈ eInt k x, c.refs = [] := fun c hc => by
  obtain rfl := List.mem_singleton.1 hc; rfl
theorem refs_flt (k : FloatKind) (x : Nat) : ∀ c ∈ eFlt k x, c.refs = [] := fun c hc => by
  obtain rfl := List.mem_singleton.1 hc; rfl
theorem refs_bool (x : Bool) : ∀ c ∈ eBool x, c.refs = [] := fun c hc => by
  obtain rfl := List.mem_singleton.1 hc; rfl
theorem refs_str (x : List UInt8) : ∀ c ∈ eStr x, c.refs = [] := fun c hc => by
  obtain rfl := List.mem_singleton.1 hc; rfl
theorem refs_pair {α β : Type} {e : α → List AV} {f : β → List AV} (h : ∀ x, ∀ c ∈ e x, c.refs = []) (k : ∀ x, ∀ c ∈ f x, c.refs = []) (x : α × β) : ∀ c ∈ ePair e f x, c.refs = [] := fun c hc => by
  rcases List.mem_append.1 hc with hc | hc
  · exact h _ c hc
  · exact k _ c hc
theorem sl_nn {v : AV} {a b c d : Nat} (h : v = .sl a b c d) : v ≠ .nilsl := by rw [h]; exact fun e => AV.noConfusion e
/-! ### a call whose result reads no row: memory may be read as it was -/
theorem VR_nr {β γ : Emb} {x : AV} {u : Value} (h : VR β x u) (hr : x.refs = []) : VR γ x u := by
  have e : x.ren (fun i => i) = x := by cases x <;> simp [AV.ren]
  exact VR.ren (β := β) (ρ := fun i => i) (by rw [e]; exact h) fun id hid => by rw [hr] at hid; cases hid
theorem All2.imp {α β : Type} {R S : α → β → Prop} : ∀ {l : List α} {m : List β}, (∀ x ∈ l, ∀ y, R x y → S x y) → All2 R l m → All2 S l m
  | [], [], _, _ => trivial
  | x :: l, y :: m, h, ⟨h1, h2⟩ => ⟨h x (List.mem_cons_self ..) y h1, All2.imp (fun z hz => h z (List.mem_cons_of_mem _ hz)) h2⟩
theorem flat_nil {α β : Type} {f : α → List β} {l : List α} (h : l.flatMap f = []) : ∀ x ∈ l, f x = [] := fun x hx => List.flatMap_eq_nil_iff.1 h x hx
theorem TVR_nr {β γ : Emb} : ∀ {x : TV} {u : Value}, TVR β x u → x.refs = [] → TVR γ x u
  | .v _, _, h, hr => VR_nr h hr
  | .g cs, _, ⟨us, h1, h2⟩, hr => ⟨us, h1, h2.imp fun x hx y h => VR_nr h (flat_nil hr x hx)⟩
  | .t vs, _, ⟨us, h1, h2⟩, hr => ⟨us, h1, h2.imp fun x hx y h => by
      have hx := flat_nil hr x hx
      match x, h, hx with
      | .v _, h, hx => exact VR_nr h hx
      | .g cs, ⟨us, h1, h2⟩, hx => exact ⟨us, h1, h2.imp fun x hx2 y h => VR_nr h (flat_nil hx x hx2)⟩⟩
theorem Back.forget {β : Emb} {H : Heap} {w : World} {r : TV} {H2 : Heap} {e : Ending} {w' : World} (h0 : SR β H w) (h : Back β H w r H2 e w') (hn : H.n ≤ H2.n) (hk : ∀ i, i < H.n → H2.f i = H.f i) (hr : r.refs = []) : Back β H w r H e w' := by
  obtain ⟨rv, β2, he, hle, hs, hv, hf⟩ := h
  have cells : ∀ i l, β i = some l → RowR β w' l (H.f i) := by
    intro i l e
    have hi := h0.lt e
    have hrow := hs.row i l (hle i l e)
    rw [hk i hi] at hrow
    have old : ∀ (j : Nat) (v : AV), (H.f i).cs[j]? = some v → ∀ (ccs : Array Value) (base : Nat), (∃ u, ccs[base + j]? = some u ∧ VS β2 v u) → ∃ u : Value, ccs[base + j]? = some u ∧ VS β v u := by
      intro j v hj ccs base ⟨u, hu, hvs⟩
      refine ⟨u, hu, ?_, hvs.2⟩
      obtain ⟨u0, _, hv0⟩ := cell_of h0 e hj
      have hrefs := VR_refs hv0.1
      have : v.ren (fun i => i) = v := by cases v <;> simp [AV.ren]
      refine VR.ren (β := β2) (ρ := fun i => i) (by rw [this]; exact hvs.1) fun id hid => ?_
      obtain ⟨m, hm⟩ := hrefs id hid
      rw [hm, hle id m hm]
    cases hb : H.f i with
    | gone => trivial
    | hole => rw [hb] at hrow; exact hrow.elim
    | mp _ _ _ => rw [hb] at hrow; exact hrow
    | tab b o => rw [hb] at hrow; exact hrow
    | ro cs' =>
      rw [hb] at hrow old
      obtain ⟨ccs, t, fz, k1, k2⟩ := hrow
      exact ⟨ccs, t, fz, k1, fun j v hj => old j v hj ccs l.base (k2 j v hj)⟩
    | own cs' =>
      rw [hb] at hrow old
      obtain ⟨ccs, t, fz, k1, k2, k3⟩ := hrow
      exact ⟨ccs, t, fz, k1, fun j v hj => old j v hj ccs l.base (k2 j v hj), k3⟩
  refine ⟨rv, β, he, Le.refl β, ⟨h0.dom, h0.tot, cells, h0.apart⟩, TVR_nr hv hr, ⟨hf.os, hf.tape, hf.output, hf.size, hf.block, fun b _ h => h⟩⟩
theorem Ok.forget {P : Program} {f : FuncId} {args : List TV} {H : Heap} {r : TV} {H2 : Heap} (h : Ok P f args H r H2) (hn : H.n ≤ H2.n) (hk : ∀ i, i < H.n → H2.f i = H.f i) (hr : r.refs = []) : Ok P f args H r H := by
  intro β us w hs ha
  have h1 := h β us w hs ha
  split at h1
  · rename_i g cargs w1 e
    exact h1.mono fun e w' hb => hb.forget hs hn hk hr
  · rename_i v w1 e
    exact Back.forget hs h1 hn hk hr
  · exact h1.elim
/-- What came in. -/
def came (H : Heap) : List Pc := [.keep (fun i => i < H.n) fun H' => H.n ≤ H'.n ∧ ∀ i, i < H.n → H'.f i = H.f i]
theorem came_sep (H : Heap) : Sep H (came H) := ⟨⟨fun _ h => h, ⟨Nat.le_refl _, fun _ _ => rfl⟩, fun _ hn hf => ⟨hn, hf⟩⟩, fun _ hq => absurd hq (List.not_mem_nil), trivial⟩
theorem came_shows {H : Heap} {v : AV} {n : Nat} {cs : List AV} (h : Shows H v n cs) : ∀ H', Sep H' (came H) → Shows H' v n cs := fun H' hs => by
  have h1 : H.n ≤ H'.n ∧ ∀ i, i < H.n → H'.f i = H.f i := hs.1.2.1
  refine h.frame h1.1 fun off len e => h1.2 _ ?_
  rcases h with ⟨rfl, _⟩ | ⟨id, o, l, rfl, _, hr⟩
  · cases e
  · exact hr.lt
theorem came_ptat {H : Heap} {id off : Nat} {cs : List AV} (h : PtAt H id off cs) : ∀ H', Sep H' (came H) → PtAt H' id off cs := fun H' hs => by
  have h1 : H.n ≤ H'.n ∧ ∀ i, i < H.n → H'.f i = H.f i := hs.1.2.1
  refine ⟨Nat.lt_of_lt_of_le h.1 h1.1, fun j c hj => ?_⟩
  have h2 := h.2 j c hj
  rw [rdCell_eq] at h2 ⊢
  rw [h1.2 id h.1]; exact h2
theorem OkQ.forget {P : Program} {f : FuncId} {args : List TV} {H : Heap} {Q : TV → Heap → Prop} {R : TV → Prop} (h : OkQ P f args H Q) (hq : ∀ r H2, Q r H2 → Sep H2 (came H) ∧ r.refs = [] ∧ R r) : OkQ P f args H (fun r H2 => R r ∧ H = H2) := by
  obtain ⟨r, H2, h1, h2⟩ := h
  obtain ⟨h3, h4, h5⟩ := hq r H2 h2
  have hk : H.n ≤ H2.n ∧ ∀ i, i < H.n → H2.f i = H.f i := h3.1.2.1
  exact ⟨r, H, h1.forget hk.1 hk.2 h4, h5, rfl⟩
/-! ### pieces -/
theorem Sep.newHole {H : Heap} {l : List Pc} (h : Sep H l) : ∃ G k, G = H.alloc .hole ∧ k = H.n ∧ Sep G (.hole k :: l) :=
  ⟨_, _, rfl, rfl, h.add (Nat.le_succ _) (fun i hi => by rw [alloc_f, if_neg (Nat.ne_of_lt hi)]) ⟨Nat.lt_succ_self _, by rw [alloc_f, if_pos rfl]⟩ fun i hi => by cases hi; exact Nat.le_refl _⟩
theorem Sep.ofHole {H : Heap} {l : List Pc} (h : Sep H l) (j : Nat) {k : Nat} (hj : Go.Ab.nth l j = some (.hole k)) : k < H.n ∧ H.f k = .hole := h.nth hj
/-- A kept number is taken. -/
theorem Sep.fill {H : Heap} {l : List Pc} (h : Sep H l) (j : Nat) {k len n : Nat} {v : AV} (hj : Go.Ab.nth l j = some (.hole k)) (cs : List AV) (hl : cs.length = len * n) (hv : v = .sl k 0 len n) : ∃ G, G = H.put k (.own cs) ∧ Sep G (putP l j (.osl v n cs)) := by
  obtain ⟨h1, h2⟩ := h.ofHole j hj
  subst hv
  refine ⟨_, rfl, h.change hj rfl (Nat.le_refl _) (fun i hi hne => ?_) (.inr ⟨k, 0, len, [], rfl, rfl, hl, h1, by rw [put_f, if_pos rfl]; rfl⟩) fun i hi => ?_⟩
  · rw [put_f, if_neg]
    rintro rfl
    exact hne rfl
  · obtain ⟨_, _, _, hi⟩ := hi; cases hi; exact .inl rfl
/-- An own row is given up. -/
theorem Sep.kill {H : Heap} {l : List Pc} (h : Sep H l) (i1 : Nat) {v : AV} {n : Nat} {cs : List AV} (hi : Go.Ab.nth l i1 = some (.osl v n cs)) (hv : v ≠ .nilsl) : ∃ G, G = H.put v.id0 .gone ∧ Sep G (delP l i1) := by
  refine ⟨_, rfl, (h.del i1).frame (Nat.le_refl _) fun p hp i hpi => ?_⟩
  rw [put_f, if_neg]
  rintro rfl
  have hat : (Pc.osl v n cs).at v.id0 := by
    rcases h.nth hi with ⟨e, _⟩ | ⟨id, off, len, pre, rfl, _⟩
    · exact absurd e hv
    · exact ⟨off, len, n, rfl⟩
  exact apart_nth h hi p hp (.inl rfl) _ hat hpi
/-- Apart: the numbers differ. -/
theorem Sep.neH {H : Heap} {l : List Pc} (h : Sep H l) (i j : Nat) {k k' : Nat} (hi : Go.Ab.nth l i = some (.hole k)) (hj : Go.Ab.nth (delP l i) j = some (.hole k')) : k ≠ k' := by
  rintro rfl
  exact apart_nth h hi _ (nth_mem hj) (.inl rfl) k rfl rfl
theorem Sep.neS {H : Heap} {l : List Pc} (h : Sep H l) (i j : Nat) {k n : Nat} {v : AV} {cs : List AV} (hi : Go.Ab.nth l i = some (.hole k)) (hj : Go.Ab.nth (delP l i) j = some (.osl v n cs)) (hv : v ≠ .nilsl) : v.id0 ≠ k := by
  intro e
  have hat : (Pc.osl v n cs).at v.id0 := by
    rcases (h.del i).nth hj with ⟨e, _⟩ | ⟨id, off, len, pre, rfl, _⟩
    · exact absurd e hv
    · exact ⟨off, len, n, rfl⟩
  exact apart_nth h hi _ (nth_mem hj) (.inl rfl) k rfl (e ▸ hat)
theorem Sep.neSS {H : Heap} {l : List Pc} (h : Sep H l) (i j : Nat) {n n' : Nat} {v v' : AV} {cs cs' : List AV} (hi : Go.Ab.nth l i = some (.osl v n cs)) (hj : Go.Ab.nth (delP l i) j = some (.osl v' n' cs')) (hv : v ≠ .nilsl) (hv' : v' ≠ .nilsl) : v.id0 ≠ v'.id0 := by
  intro e
  have hat : ∀ {w : AV} {m : Nat} {ds : List AV}, (Pc.osl w m ds).holds H → w ≠ .nilsl → (Pc.osl w m ds).at w.id0 := fun {w m ds} h hw => by
    rcases h with ⟨e, _⟩ | ⟨id, off, len, pre, rfl, _⟩
    · exact absurd e hw
    · exact ⟨off, len, m, rfl⟩
  exact apart_nth h hi _ (nth_mem hj) (.inl rfl) v.id0 (hat (h.nth hi) hv) (e ▸ hat ((h.del i).nth hj) hv')

/-! ### the operations -/
section
variable {P : Program} {ops : List Oper} {s : Nat → TV} {G : Heap} {l : List Pc} {ty : TypeId} {pos : String} {after : Array Edge} {d : Tmp}
theorem step_of {o : Oper} {v : TV} {G' : Heap} (hd : o.dst = some d) (h : wops P false ops [o] 0 s G (fun s' H' => H' = G' ∧ s' d = v)) : StepR P ops s G o v G' := by
  obtain ⟨v', H', h1, rfl, h2⟩ := wops_one h
  rw [hd, aput_some, upd_same] at h2
  subst h2
  exact h1
theorem sm_make {t et : TypeId} {sz bys k : Nat} {x y : Operand} {n m : Int} {α : Type} {v : AV} (hs : Sep G l) (j : Nat) (hj : Go.Ab.nth l j = some (.hole k)) (e : α → List AV) (z0 : α) (h7 : 0 ≤ n ∧ n ≤ m ∧ m ≤ 2 ^ 40 ∧ m * bys ≤ 2 ^ 40) (hx : aeval s x = .v (.int .i64 n)) (hy : aeval s y = .v (.int .i64 m)) (h1 : telem P t = some et) (h2 : tsz P et = some sz) (h3 : tbytes P et = some bys) (h4 : tzero P et = some (e z0))
    (he : ∀ x, (e x).length = sz) (h6 : (e z0).all AV.stor = true) (hr : ∀ x, ∀ c ∈ e x, c.refs = []) (hv : v = .sl k 0 n.toNat sz) {G' : Heap} (hG : G' = G.put k (.own (enc e (List.replicate n.toNat z0)))) :
    StepR P ops s G { dst := some d, op := .makeSlice t x y, type := ty, pos, after, guard := none } (.v v) G' := by
  obtain ⟨k1, k2⟩ := hs.ofHole j hj
  subst hv; subst hG
  refine StepR.fill (kill := none) (step_of rfl (so_make hx hy h1 h2 h3 h4 (he z0) h6 h7 nofun (so_end ⟨?_, ?_⟩))) k1 k2 (refs0 hr _) nofun
  · rw [zerosOf_enc]; rfl
  · rw [aput_some, upd_same]
theorem sm_bslice {t et : TypeId} {n len k : Nat} {z : List AV} {ps : List (Nat × Operand)} {α : Type} {v : AV} (hs : Sep G l) (j : Nat) (hj : Go.Ab.nth l j = some (.hole k)) (en : α → List AV) (xs : List α) (css : List (List AV)) (h1 : telem P t = some et) (h2 : tsz P et = some n) (h3 : tzero P et = some z) (h4 : z.length = n)
    (hp : partsT (ps.map fun p => (p.1, aeval s p.2)) = some ((css.zipIdx 0).map fun p => (p.2, p.1))) (hxs : css = xs.map en) (hlen : xs.length = len) (he : ∀ x, (en x).length = n) (hst : (enc en xs).all AV.stor = true) (hb : len * n ≤ 2 ^ 24) (hr : ∀ x, ∀ c ∈ en x, c.refs = []) (hv : v = .sl k 0 len n) {G' : Heap} (hG : G' = G.put k (.own (enc en xs))) :
    StepR P ops s G { dst := some d, op := .buildSlice t len ps.toArray, type := ty, pos, after, guard := none } (.v v) G' := by
  obtain ⟨k1, k2⟩ := hs.ofHole j hj
  subst hv; subst hG
  have hf : css.flatten = enc en xs := by rw [hxs, enc, List.flatMap]
  refine StepR.fill (kill := none) (step_of rfl (so_bslice h1 h2 h3 h4 hp (by rw [hxs, List.length_map, hlen]) (fun c hc => ?_) (fun c hc => ?_) hb hf nofun (so_end ⟨rfl, ?_⟩))) k1 k2 (refs0 hr _) nofun
  · rw [hxs] at hc; obtain ⟨x, _, rfl⟩ := List.mem_map.1 hc; exact he x
  · rw [List.all_eq_true] at hst ⊢
    exact fun y hy => hst y (by rw [← hf]; exact List.mem_flatten.2 ⟨c, hc, hy⟩)
  · rw [aput_some, upd_same]
theorem sm_app {b0 b1 : TypeId} {x y : Operand} {n bytes k : Nat} {v w v' : AV} {α : Type} {e : α → List AV} {xs ys : List α} (hs : Sep G l) (j i1 : Nat) (hj : Go.Ab.nth l j = some (.hole k)) (hi : Go.Ab.nth l i1 = some (.osl v n (enc e xs))) (hnn : v ≠ .nilsl) (hw : Shows G w n (enc e ys)) (he : ∀ x, (e x).length = n) (hn : 0 < n) (ht : tapp P b0 b1 = some (n, bytes)) (h5 : bytes ≠ 0)
    (hb : (xs.length + ys.length) * bytes ≤ 2 ^ 40) (hx : aeval s x = .v v) (hy : aeval s y = .v w) (hr : ∀ x, ∀ c ∈ e x, c.refs = []) (hne : v.id0 ≠ k) (hv : v' = .sl k 0 (xs.length + ys.length) n) {G' : Heap} (hG : G' = (G.put v.id0 .gone).put k (.own (enc e (xs ++ ys)))) :
    StepR P ops s G { dst := some d, op := .call { callee := .builtin .append, args := [x, y].toArray, argTypes := [b0, b1].toArray }, type := ty, pos, after, guard := none } (.v v') G' := by
  obtain ⟨k1, k2⟩ := hs.ofHole j hj
  subst hv; subst hG
  have hp := hs.nth hi
  rcases hp with ⟨e1, _⟩ | ⟨id, off, len', pre, rfl, h1, h2, h3, h4⟩
  · exact absurd e1 hnn
  have hl : len' = xs.length := by
    rw [enc_length he] at h2
    exact (Nat.eq_of_mul_eq_mul_right hn h2).symm
  subst hl
  have harg : cellsOfArg G n w = some (ys.length, enc e ys) := by
    rcases hw.len he hn with ⟨rfl, rfl⟩ | ⟨id', off', rfl, hrow⟩
    · rfl
    · have hlen := enc_length he ys
      simp only [cellsOfArg, if_true]
      rw [rdCells_eq, ← hlen, if_pos hrow.2.1, hrow.2.2]; rfl
  have ha : aappend G n bytes (.sl id off xs.length n) w = some (.v (.sl G.n 0 (xs.length + ys.length) n), (G.put id .gone).alloc (.own ((pre ++ enc e xs).drop off ++ enc e ys))) :=
    aappend_sl h4 (by rw [List.length_append, h1, enc_length he]) harg hb h5
  have hd : (pre ++ enc e xs).drop off ++ enc e ys = enc e (xs ++ ys) := by rw [← h1, List.drop_left, enc_append]
  rw [hd] at ha
  refine StepR.fill (kill := some id) (step_of rfl (so_app hx hy ht ha nofun (so_end ⟨rfl, ?_⟩))) k1 k2 (refs0 hr _) (fun e => hne (Option.some.inj e))
  rw [aput_some, upd_same]
end

/-! ### the walk -/
def tblH (d : Heap) : List (List Bool × Heap) → List Bool → Heap
  | [], _ => d
  | (k, H) :: r, m => bif k == m then H else tblH d r m
section
variable {P : Program} {ops r : List Oper} {C : List Nat} {Hm : List Bool → Heap} {i : Nat} {s : Nat → TV} {K : (Nat → TV) → Heap → Prop} {o : Oper}
theorem wm_nil {t : List Item} {R : (Nat → TV) → Heap → Prop} {G : Heap} (e : Hm (C.map fun _ => true) = G) (h : Fin P t s G R) : wopm P ops C Hm [] i s (FinK P t R) := by
  show FinK P t R s (Hm _); rw [e]; exact h
theorem wm_pure {G : Heap} (hp : pureOp o.op = true) (hc : C.contains i = false) (h : wops P false ops [o] i s G (fun s' H' => wopm P ops C Hm r (i + 1) s' K)) : wopm P ops C Hm (o :: r) i s K := by
  obtain ⟨v, h1, h2⟩ := wops_onep hp h
  exact ⟨v, .inl ⟨hc, h1⟩, h2⟩
theorem wm_step {d : Tmp} (v : TV) (hd : o.dst = some d) {ms : List (List Bool)} (hm : statesM ops C i = ms) (h1 : ∀ m ∈ ms, StepR P ops s (Hm m) o v (Hm (nextM C i m))) (h : wopm P ops C Hm r (i + 1) (aput s (some d) v) K) : wopm P ops C Hm (o :: r) i s K :=
  ⟨v, .inr (by rw [hm]; exact h1), by rw [hd]; exact h⟩
end
end Go.Ab
