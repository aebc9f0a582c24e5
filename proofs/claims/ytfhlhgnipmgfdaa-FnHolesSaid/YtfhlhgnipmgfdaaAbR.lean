/-
  THE RELATION between the abstract run's values and rows and the machine's, and what the machine's small operations do to it. By an AI agent; nothing here is trusted.
-/
import Derived.Test.YtfhlhgnipmgfdaaAb
import Derived.Laws.World
import Derived.Laws.Sem
import Derived.Laws.BytesArg
import Derived.Below
namespace Go.Ab
set_option linter.unusedVariables false
set_option linter.unusedSimpArgs false

def All2 {α β : Type} (R : α → β → Prop) : List α → List β → Prop
  | [], [] => True
  | a :: as, b :: bs => R a b ∧ All2 R as bs
  | _, _ => False

theorem All2.len {α β : Type} {R : α → β → Prop} : ∀ {as : List α} {bs : List β}, All2 R as bs → as.length = bs.length
  | [], [], _ => rfl
  | _ :: _, _ :: _, h => by simp [All2.len h.2]
  | [], _ :: _, h => h.elim
  | _ :: _, [], h => h.elim

theorem All2.mono {α β : Type} {R S : α → β → Prop} (f : ∀ a b, R a b → S a b) : ∀ {as : List α} {bs : List β}, All2 R as bs → All2 S as bs
  | [], [], _ => trivial
  | _ :: _, _ :: _, h => ⟨f _ _ h.1, All2.mono f h.2⟩
  | [], _ :: _, h => h.elim
  | _ :: _, [], h => h.elim

theorem All2.get {α β : Type} {R : α → β → Prop} : ∀ {as : List α} {bs : List β}, All2 R as bs → ∀ (j : Nat) (a : α), as[j]? = some a → ∃ b, bs[j]? = some b ∧ R a b
  | [], [], _, j, a, h => by simp at h
  | x :: as, y :: bs, h, 0, a, e => by simp at e; subst e; exact ⟨y, by simp, h.1⟩
  | x :: as, y :: bs, h, j + 1, a, e => by
    simp at e
    obtain ⟨b, hb, hr⟩ := All2.get h.2 j a e
    exact ⟨b, by simpa using hb, hr⟩
  | [], _ :: _, h, _, _, _ => h.elim
  | _ :: _, [], h, _, _, _ => h.elim

theorem All2.of_get {α β : Type} {R : α → β → Prop} : ∀ {as : List α} {bs : List β}, as.length = bs.length → (∀ (j : Nat) a b, as[j]? = some a → bs[j]? = some b → R a b) → All2 R as bs
  | [], [], _, _ => trivial
  | x :: as, y :: bs, h, k => ⟨k 0 x y (by simp) (by simp), All2.of_get (by simpa using h) fun j a b ha hb => k (j + 1) a b (by simpa using ha) (by simpa using hb)⟩
  | [], _ :: _, h, _ => by simp at h
  | _ :: _, [], h, _ => by simp at h

theorem All2.append {α β : Type} {R : α → β → Prop} : ∀ {as : List α} {bs : List β} {cs : List α} {ds : List β}, All2 R as bs → All2 R cs ds → All2 R (as ++ cs) (bs ++ ds)
  | [], [], _, _, _, h => h
  | _ :: _, _ :: _, _, _, h, k => ⟨h.1, All2.append h.2 k⟩
  | [], _ :: _, _, _, h, _ => h.elim
  | _ :: _, [], _, _, h, _ => h.elim

theorem All2.take {α β : Type} {R : α → β → Prop} : ∀ {as : List α} {bs : List β} (n : Nat), All2 R as bs → All2 R (as.take n) (bs.take n)
  | _, _, 0, _ => by simp [All2]
  | [], [], n + 1, _ => by simp [All2]
  | _ :: _, _ :: _, n + 1, h => ⟨h.1, All2.take n h.2⟩
  | [], _ :: _, _ + 1, h => h.elim
  | _ :: _, [], _ + 1, h => h.elim

theorem All2.drop {α β : Type} {R : α → β → Prop} : ∀ {as : List α} {bs : List β} (n : Nat), All2 R as bs → All2 R (as.drop n) (bs.drop n)
  | _, _, 0, h => by simpa using h
  | [], [], n + 1, _ => by simp [All2]
  | _ :: _, _ :: _, n + 1, h => by simpa using All2.drop n h.2
  | [], _ :: _, _ + 1, h => h.elim
  | _ :: _, [], _ + 1, h => h.elim

theorem All2.map {α β γ : Type} {R : α → β → Prop} {f : γ → α} {g : γ → β} (h : ∀ c, R (f c) (g c)) : ∀ l : List γ, All2 R (l.map f) (l.map g)
  | [] => trivial
  | c :: l => ⟨h c, All2.map h l⟩

/-- Where a row lies: its block, the place of its first cell, how many cells are its own from there on. -/
structure Loc where
  blk : Nat
  base : Nat
  size : Nat

abbrev Emb := Nat → Option Loc

def ptrV (l : Loc) (off : Nat) : Value := .pointer (some ⟨l.blk, l.base + off, none⟩)

def IfR : IfV → Value → Prop
  | .nil, v => v = .nilIface
  | .num t k n, v => v = .iface t (.int k n)
  | .other, v => ∃ t p, v = .iface t p
theorem IfR.cases {e : IfV} {v : Value} (h : IfR e v) : (e.isNil = true ∧ v = .nilIface) ∨ (e.isNil = false ∧ ∃ t p, v = .iface t p) := by
  cases e with
  | nil => exact .inl ⟨rfl, h⟩
  | num t k n => exact .inr ⟨rfl, _, _, h⟩
  | other => exact .inr ⟨rfl, h⟩

def VR (β : Emb) : AV → Value → Prop
  | .bad, _ => True
  | .und, v => v = undef
  | .bool b, v => v = .bool b
  | .int k n, v => v = .int k n
  | .flt k c, v => ∃ b, v = .float k b ∧ cz k b = c
  | .str s, v => v = .string s
  | .nilptr, v => v = .pointer none
  | .ptr id off, v => ∃ l, β id = some l ∧ v = ptrV l off
  | .nilsl, v => v = .slice none 0 0
  | .sl id off len esz, v => ∃ l a cap, β id = some l ∧ v = .slice a len cap ∧ len ≤ cap ∧
      ((a = some ⟨l.blk, l.base + off, none⟩ ∧ off + cap * esz ≤ l.size) ∨ (len = 0 ∧ cap = 0))
  | .ifc e, v => IfR e v
  | .mref id, v => ∃ l, β id = some l ∧ v = .map (some l.blk)
  | .fn f caps, v => ∃ us : List Value, v = .func (.func f) #[] us.toArray ∧ All2 (fun (c : Nat × Nat) u => ∃ l, β c.1 = some l ∧ u = ptrV l c.2) caps us

def VS (β : Emb) (x : AV) (u : Value) : Prop := VR β x u ∧ x.stor = true

def TV0R (β : Emb) : TV0 → Value → Prop
  | .v x, u => VR β x u
  | .g cs, u => ∃ us : List Value, u = .agg us.toArray ∧ All2 (VR β) cs us

def TVR (β : Emb) : TV → Value → Prop
  | .v x, u => VR β x u
  | .g cs, u => ∃ us : List Value, u = .agg us.toArray ∧ All2 (VR β) cs us
  | .t vs, u => ∃ us : List Value, u = .tuple us.toArray ∧ All2 (TV0R β) vs us

def Le (β γ : Emb) : Prop := ∀ i l, β i = some l → γ i = some l

theorem Le.refl (β : Emb) : Le β β := fun _ _ h => h
theorem Le.trans {a b c : Emb} (h : Le a b) (k : Le b c) : Le a c := fun i l e => k i l (h i l e)

theorem VR.mono {β γ : Emb} (h : Le β γ) : ∀ {x : AV} {u : Value}, VR β x u → VR γ x u
  | .bad, _, _ => trivial
  | .und, _, e => e
  | .bool _, _, e => e
  | .int _ _, _, e => e
  | .flt _ _, _, e => e
  | .str _, _, e => e
  | .nilptr, _, e => e
  | .ifc _, _, e => e
  | .mref _, _, ⟨l, h1, h2⟩ => ⟨l, h _ _ h1, h2⟩
  | .ptr _ _, _, ⟨l, h1, h2⟩ => ⟨l, h _ _ h1, h2⟩
  | .nilsl, _, e => e
  | .sl _ _ _ _, _, ⟨l, a, c, h1, h2⟩ => ⟨l, a, c, h _ _ h1, h2⟩
  | .fn _ _, _, ⟨us, h1, h2⟩ => ⟨us, h1, h2.mono fun _ _ ⟨l, e1, e2⟩ => ⟨l, h _ _ e1, e2⟩⟩

theorem VS.mono {β γ : Emb} (h : Le β γ) {x : AV} {u : Value} (e : VS β x u) : VS γ x u := ⟨VR.mono h e.1, e.2⟩

theorem TV0R.mono {β γ : Emb} (h : Le β γ) : ∀ {x : TV0} {u : Value}, TV0R β x u → TV0R γ x u
  | .v _, _, e => VR.mono h e
  | .g _, _, ⟨us, h1, h2⟩ => ⟨us, h1, h2.mono fun _ _ => VR.mono h⟩

theorem TVR.mono {β γ : Emb} (h : Le β γ) : ∀ {x : TV} {u : Value}, TVR β x u → TVR γ x u
  | .v _, _, e => VR.mono h e
  | .g _, _, ⟨us, h1, h2⟩ => ⟨us, h1, h2.mono fun _ _ => VR.mono h⟩
  | .t _, _, ⟨us, h1, h2⟩ => ⟨us, h1, h2.mono fun _ _ => TV0R.mono h⟩

def Blk.isGone : Blk → Bool
  | .gone => true
  | _ => false

def CellsR (β : Emb) (cs : List AV) (ccs : Array Value) (base : Nat) : Prop :=
  ∀ (j : Nat) v, cs[j]? = some v → ∃ u, ccs[base + j]? = some u ∧ VS β v u

/-- No cell of the row is frozen. -/
def NF (fz : Nat × Nat) (n : Nat) : Prop := fz.1 = fz.2 ∨ n ≤ fz.1
theorem NF.not {fz : Nat × Nat} {n : Nat} (h : NF fz n) : ∀ j, j < n → ¬ (fz.1 ≤ j ∧ j < fz.2) := fun j hj => by rcases h with h | h <;> omega

/-- What a map's entries say, at whatever program in which the kinds are these. -/
def MapI (kk ek : IntKind) (m : List (Int × Int)) (es : Array MapEntry) (clock : Nat) : Prop :=
  ∃ (P : Program) (k e : TypeId), P.underlying k = some (.int kk) ∧ P.underlying e = some (.int ek) ∧ Go.WideElems.Fit (H := Unit) P k (plainElem P e) es clock ∧ es.size ≤ m.length ∧
    ∀ a, (Lit.int kk a).wf = true → (DataW.map ((es.toList.map (Go.WideElems.rg (H := Unit) P k (plainElem P e))).foldr DataW.insert [])).atKey (.int kk a) (.lit (.int ek 0)) = .lit (.int ek (mpGet m a))
theorem MapI.to {kk ek : IntKind} {m : List (Int × Int)} {es : Array MapEntry} {clock : Nat} (h : MapI kk ek m es clock) {P : Program} {k e : TypeId} (hk : P.underlying k = some (.int kk)) (he : P.underlying e = some (.int ek)) :
    Go.WideElems.Fit (H := Unit) P k (plainElem P e) es clock ∧ es.size ≤ m.length ∧
    ∀ a, (Lit.int kk a).wf = true → (DataW.map ((es.toList.map (Go.WideElems.rg (H := Unit) P k (plainElem P e))).foldr DataW.insert [])).atKey (.int kk a) (.lit (.int ek 0)) = .lit (.int ek (mpGet m a)) := by
  obtain ⟨P0, k0, e0, hk0, he0, h1, h2, h3⟩ := h
  have e1 : ∀ v, keyOf P k v = keyOf P0 k0 v := fun v => by
    simp only [keyOf, hk, hk0, mapKey]
  have e2 : plainElem (H := Unit) P e = plainElem (H := Unit) P0 e0 := by
    funext v
    simp only [plainElem, he, he0]
  have e3 : ∀ R, Go.WideElems.rd (H := Unit) P k R = Go.WideElems.rd (H := Unit) P0 k0 R := fun R => by
    funext x
    simp only [Go.WideElems.rd, e1]
  have e4 : Go.WideElems.rg (H := Unit) P k (plainElem P e) = Go.WideElems.rg (H := Unit) P0 k0 (plainElem P0 e0) := by
    funext x
    simp only [Go.WideElems.rg, e2, e3]
  exact ⟨⟨h1.size, h1.stamped, fun x hx => by rw [e2, e3]; exact h1.reads x hx⟩, h2, by rw [e4]; exact h3⟩

def RowR (β : Emb) (w : World) (l : Loc) : Blk → Prop
  | .gone => True
  | .ro cs => ∃ ccs e fz, w.heap[l.blk]? = some (.cells ccs e fz) ∧ CellsR β cs ccs l.base
  | .own cs => ∃ ccs e fz, w.heap[l.blk]? = some (.cells ccs e fz) ∧ CellsR β cs ccs l.base ∧
      l.base + l.size ≤ ccs.size ∧ cs.length ≤ l.size ∧ NF fz ccs.size
  | .tab b o => l.blk = b ∧ w.heap[b]? = some o
  | .hole => False
  | .mp kk ek m => ∃ es clock, w.heap[l.blk]? = some (.map es clock) ∧ MapI kk ek m es clock

structure SR (β : Emb) (H : Heap) (w : World) : Prop where
  dom : ∀ i, H.n ≤ i → β i = none
  tot : ∀ i, i < H.n → H.f i ≠ .hole → ∃ l, β i = some l
  row : ∀ i l, β i = some l → RowR β w l (H.f i)
  apart : ∀ i j li lj, i ≠ j → β i = some li → β j = some lj → (H.f i).isOwn = true → (H.f j).isGone = false → li.blk ≠ lj.blk

/-- The blocks that the run may write. -/
def Owns (β : Emb) (H : Heap) (b : Nat) : Prop := ∃ i l, β i = some l ∧ (H.f i).isOwn = true ∧ l.blk = b

/-- What stays as it was. -/
structure Fr (β : Emb) (H : Heap) (w : World) (β' : Emb) (H' : Heap) (w' : World) : Prop where
  os : w'.os = w.os
  tape : w'.tape = w.tape
  output : w'.output = w.output
  size : w.heap.size ≤ w'.heap.size
  block : ∀ b, b < w.heap.size → ¬ Owns β H b → w'.heap[b]? = w.heap[b]?
  owns : ∀ b, b < w.heap.size → Owns β' H' b → Owns β H b

theorem Fr.refl (β : Emb) (H : Heap) (w : World) : Fr β H w β H w := ⟨rfl, rfl, rfl, Nat.le_refl _, fun _ _ _ => rfl, fun _ _ h => h⟩

theorem Fr.trans {β β' β'' : Emb} {H H' H'' : Heap} {w w' w'' : World} (h : Fr β H w β' H' w') (k : Fr β' H' w' β'' H'' w'') : Fr β H w β'' H'' w'' :=
  ⟨k.os.trans h.os, k.tape.trans h.tape, k.output.trans h.output, Nat.le_trans h.size k.size,
   fun b hb hn => (k.block b (Nat.lt_of_lt_of_le hb h.size) (fun ho => hn (h.owns b hb ho))).trans (h.block b hb hn),
   fun b hb ho => h.owns b hb (k.owns b (Nat.lt_of_lt_of_le hb h.size) ho)⟩

/-! ### draws -/
theorem RowR.draw {β : Emb} {w : World} {l : Loc} {b : Blk} (n : Nat) (h : RowR β w l b) : RowR β { w with drawn := n } l b := by
  cases b <;> exact h
theorem SR.draw {β : Emb} {H : Heap} {w : World} (n : Nat) (h : SR β H w) : SR β H { w with drawn := n } :=
  ⟨h.dom, h.tot, fun i l e => (h.row i l e).draw n, h.apart⟩
theorem Fr.draw {β : Emb} {H : Heap} {w : World} (n : Nat) : Fr β H w β H { w with drawn := n } :=
  ⟨rfl, rfl, rfl, Nat.le_refl _, fun _ _ _ => rfl, fun _ _ h => h⟩

/-! ### what is new -/
def Emb.ext (β : Emb) (i : Nat) (l : Loc) : Emb := upd β i (some l)

theorem Le.ext {β : Emb} {i : Nat} {l : Loc} (h : β i = none) : Le β (β.ext i l) := fun j m e => by
  unfold Emb.ext upd
  split
  · rename_i hj; subst hj; rw [h] at e; cases e
  · exact e

theorem SR.lt {β : Emb} {H : Heap} {w : World} (h : SR β H w) {i : Nat} {l : Loc} (e : β i = some l) : i < H.n := by
  rcases Nat.lt_or_ge i H.n with h' | h'
  · exact h'
  · rw [h.dom i h'] at e; cases e

theorem RowR.blk_lt {β : Emb} {w : World} {l : Loc} {b : Blk} (h : RowR β w l b) (hg : b.isGone = false) : l.blk < w.heap.size := by
  have key : ∀ x : Obj, w.heap[l.blk]? = some x → l.blk < w.heap.size := fun x hx => by
    rcases Nat.lt_or_ge l.blk w.heap.size with h' | h'
    · exact h'
    · simp [Array.getElem?_eq_none h'] at hx
  cases b with
  | gone => simp [Blk.isGone] at hg
  | ro cs => obtain ⟨_, _, _, h1, _⟩ := h; exact key _ h1
  | own cs => obtain ⟨_, _, _, h1, _⟩ := h; exact key _ h1
  | tab b o => exact key o (h.1 ▸ h.2)
  | hole => exact h.elim
  | mp kk ek m => obtain ⟨_, _, h1, _⟩ := h; exact key _ h1

theorem CellsR.mono {β γ : Emb} (h : Le β γ) {cs : List AV} {ccs : Array Value} {base : Nat} (hc : CellsR β cs ccs base) : CellsR γ cs ccs base :=
  fun j v e => let ⟨u, h1, h2⟩ := hc j v e; ⟨u, h1, VS.mono h h2⟩

theorem RowR.mono {β γ : Emb} (h : Le β γ) {w w' : World} {l : Loc} {b : Blk} (hw : b.isGone = false → w'.heap[l.blk]? = w.heap[l.blk]?) (hr : RowR β w l b) : RowR γ w' l b := by
  cases b with
  | gone => trivial
  | ro cs => obtain ⟨ccs, e, fz, h1, h2⟩ := hr; exact ⟨ccs, e, fz, (hw rfl).trans h1, h2.mono h⟩
  | own cs => obtain ⟨ccs, e, fz, h1, h2, h3⟩ := hr; exact ⟨ccs, e, fz, (hw rfl).trans h1, h2.mono h, h3⟩
  | tab b o => obtain ⟨h1, h2⟩ := hr; subst h1; exact ⟨rfl, (hw rfl).trans h2⟩
  | hole => exact hr.elim
  | mp kk ek m => obtain ⟨es, clock, h1, h2⟩ := hr; exact ⟨es, clock, (hw rfl).trans h1, h2⟩

theorem CellsR.of_all2 {β : Emb} {cs : List AV} {us : List Value} (h : All2 (VS β) cs us) (rest : List Value) : CellsR β cs (us ++ rest).toArray 0 := fun j v e => by
  obtain ⟨u, h1, h2⟩ := h.get j v e
  refine ⟨u, ?_, h2⟩
  have hj : j < us.length := by
    rcases Nat.lt_or_ge j us.length with h' | h'
    · exact h'
    · rw [List.getElem?_eq_none h'] at h1; cases h1
  simp [List.getElem?_append_left hj, h1]

/-- A new block: a row of the run's own. -/
theorem SR.alloc {β : Emb} {H : Heap} {w : World} (h : SR β H w) {cs : List AV} {us rest : List Value} {t : TypeId} {fz : Nat × Nat} (hc : All2 (VS β) cs us)
    (hfz : NF fz (us.length + rest.length)) :
    SR (β.ext H.n ⟨w.heap.size, 0, us.length + rest.length⟩) (H.alloc (.own cs)) { w with heap := w.heap.push (.cells (us ++ rest).toArray t fz) } := by
  have hle : Le β (β.ext H.n ⟨w.heap.size, 0, us.length + rest.length⟩) := Le.ext (h.dom _ (Nat.le_refl _))
  have old : ∀ i l, i ≠ H.n → (β.ext H.n ⟨w.heap.size, 0, us.length + rest.length⟩) i = some l → β i = some l := fun i l hi e => by
    unfold Emb.ext upd at e; rw [if_neg hi] at e; exact e
  have new : ∀ l, (β.ext H.n ⟨w.heap.size, 0, us.length + rest.length⟩) H.n = some l → l = ⟨w.heap.size, 0, us.length + rest.length⟩ := fun l e => by
    unfold Emb.ext upd at e; rw [if_pos rfl] at e; exact (Option.some.inj e).symm
  refine ⟨fun i hi => ?_, fun i hi hh => ?_, fun i l e => ?_, fun i j li lj hij ei ej ho hg => ?_⟩
  · show upd β H.n _ i = none
    unfold upd
    rw [if_neg (by simp [Heap.alloc] at hi; omega)]
    exact h.dom i (by simp [Heap.alloc] at hi; omega)
  · show ∃ l, upd β H.n _ i = some l
    unfold upd
    split
    · exact ⟨_, rfl⟩
    · rename_i hne; exact h.tot i (by simp [Heap.alloc] at hi; omega) (by simpa [Heap.alloc, upd, hne] using hh)
  · by_cases hi : i = H.n
    · subst hi
      rw [new l e]
      show RowR _ _ _ (upd H.f H.n (.own cs) H.n)
      simp only [upd, if_true]
      refine ⟨(us ++ rest).toArray, t, fz, by simp, (CellsR.of_all2 hc rest).mono hle, by simp, by simp [hc.len], by simpa using hfz⟩
    · have e' := old i l hi e
      show RowR _ _ _ (upd H.f H.n (.own cs) i)
      simp only [upd, if_neg hi]
      refine (h.row i l e').mono hle fun hg => ?_
      have := (h.row i l e').blk_lt hg
      simp [Array.getElem?_push, Nat.ne_of_lt this]
  · have ho' : (upd H.f H.n (.own cs) i).isOwn = true := ho
    have hg' : (upd H.f H.n (.own cs) j).isGone = false := hg
    by_cases hi : i = H.n
    · subst hi
      have hj : j ≠ H.n := fun e => hij e.symm
      simp only [upd, if_neg hj] at hg'
      have := (h.row j lj (old j lj hj ej)).blk_lt hg'
      rw [new li ei]
      exact fun e => by simp at e; omega
    · simp only [upd, if_neg hi] at ho'
      by_cases hj : j = H.n
      · subst hj
        have := (h.row i li (old i li hi ei)).blk_lt (by cases hb : H.f i <;> simp_all [Blk.isOwn, Blk.isGone])
        rw [new lj ej]
        exact fun e => by simp at e; omega
      · simp only [upd, if_neg hj] at hg'
        exact h.apart i j li lj hij (old i li hi ei) (old j lj hj ej) ho' hg'

theorem Fr.alloc {β : Emb} {H : Heap} {w : World} (h : SR β H w) {cs : List AV} (o : Obj) (n : Nat) :
    Fr β H w (β.ext H.n ⟨w.heap.size, 0, n⟩) (H.alloc (.own cs)) { w with heap := w.heap.push o } := by
  refine ⟨rfl, rfl, rfl, by simp, fun b hb _ => by simp [Array.getElem?_push, Nat.ne_of_lt hb], fun b hb ⟨i, l, e, ho, hl⟩ => ?_⟩
  by_cases hi : i = H.n
  · subst hi
    unfold Emb.ext upd at e
    rw [if_pos rfl] at e
    have := Option.some.inj e
    subst this
    simp at hl
    omega
  · unfold Emb.ext upd at e
    rw [if_neg hi] at e
    refine ⟨i, l, e, ?_, hl⟩
    have : (upd H.f H.n (.own cs) i).isOwn = true := ho
    simpa only [upd, if_neg hi] using this

/-! ### cells -/
theorem addr_add (b o n : Nat) : (⟨b, o, none⟩ : Addr).add n = ⟨b, o + n, none⟩ := by
  unfold Addr.add
  split
  · rename_i h; subst h; rfl
  · rfl

theorem cell_of {β : Emb} {H : Heap} {w : World} (h : SR β H w) {id off : Nat} {l : Loc} {v : AV} (e : β id = some l) (hv : (H.f id).cs[off]? = some v) :
    ∃ u, w.cell? ⟨l.blk, l.base + off, none⟩ = some u ∧ VS β v u := by
  have hr := h.row id l e
  cases hb : H.f id with
  | gone => rw [hb] at hv; simp [Blk.cs] at hv
  | tab b o => rw [hb] at hv; simp [Blk.cs] at hv
  | hole => rw [hb] at hv; simp [Blk.cs] at hv
  | mp _ _ _ => rw [hb] at hv; simp [Blk.cs] at hv
  | ro cs =>
    rw [hb] at hv hr
    obtain ⟨ccs, t, fz, h1, h2⟩ := hr
    obtain ⟨u, hu, hvr⟩ := h2 off v hv
    exact ⟨u, by simp [World.cell?, h1, hu], hvr⟩
  | own cs =>
    rw [hb] at hv hr
    obtain ⟨ccs, t, fz, h1, h2, _⟩ := hr
    obtain ⟨u, hu, hvr⟩ := h2 off v hv
    exact ⟨u, by simp [World.cell?, h1, hu], hvr⟩

theorem run_loadCellsFrom {P : Program} {w : World} (b o : Nat) : ∀ (us : List Value) (i : Nat) (acc : Array Value),
    (∀ j u, us[j]? = some u → w.cell? ⟨b, o + (i + j), none⟩ = some u) →
    (loadCellsFrom ⟨b, o, none⟩ i us.length acc).run P w = .ok (acc ++ us.toArray) w
  | [], i, acc, _ => by simp [loadCellsFrom]
  | u :: us, i, acc, h => by
    have h0 := h 0 u (by simp)
    simp only [Nat.add_zero] at h0
    have ih := run_loadCellsFrom (P := P) (w := w) b o us (i + 1) (acc.push u) (fun j v hv => by
      have := h (j + 1) v (by simpa using hv)
      rw [show i + 1 + j = i + (j + 1) by omega]; exact this)
    simp only [List.length_cons, loadCellsFrom, Sem.run_bind, run_load, addr_add, h0, Result.andThen_ok]
    rw [ih]
    simp

theorem run_loadCells {P : Program} {w : World} (b o : Nat) (us : List Value) (h : ∀ j u, us[j]? = some u → w.cell? ⟨b, o + j, none⟩ = some u) :
    (loadCells ⟨b, o, none⟩ us.length).run P w = .ok us.toArray w := by
  unfold loadCells
  rw [run_loadCellsFrom b o us 0 #[] (fun j u hu => by simpa using h j u hu)]
  simp

/-- The machine's cells behind some of a row's. -/
theorem cells_of {β : Emb} {H : Heap} {w : World} (h : SR β H w) {id off n : Nat} {l : Loc} {cs : List AV} (e : β id = some l) (hr : rdCells H id off n = some cs) :
    ∃ us : List Value, us.length = n ∧ All2 (VS β) cs us ∧ ∀ j u, us[j]? = some u → w.cell? ⟨l.blk, l.base + off + j, none⟩ = some u := by
  unfold rdCells at hr
  split at hr
  · rename_i hle
    have hcs := (Option.some.inj hr).symm
    have key : ∀ m, m ≤ n → ∃ us : List Value, us.length = m ∧ All2 (VS β) (((H.f id).cs.drop off).take m) us ∧ ∀ j u, us[j]? = some u → w.cell? ⟨l.blk, l.base + off + j, none⟩ = some u := by
      intro m
      induction m with
      | zero => intro _; exact ⟨[], rfl, by simp [All2], fun j u hu => by simp at hu⟩
      | succ m ih =>
        intro hm
        obtain ⟨us, h1, h2, h3⟩ := ih (by omega)
        have hlt : off + m < (H.f id).cs.length := by omega
        have hv : (H.f id).cs[off + m]? = some (H.f id).cs[off + m] := List.getElem?_eq_getElem hlt
        obtain ⟨u, hu, hvr⟩ := cell_of h e hv
        refine ⟨us ++ [u], by simp [h1], ?_, fun j x hx => ?_⟩
        · rw [List.take_succ_eq_append_getElem (by simp; omega)]
          refine h2.append ⟨?_, trivial⟩
          simpa using hvr
        · rcases Nat.lt_or_ge j us.length with hj | hj
          · rw [List.getElem?_append_left hj] at hx; exact h3 j x hx
          · rw [List.getElem?_append_right hj] at hx
            have hj0 : j - us.length = 0 := by
              rcases Nat.eq_zero_or_pos (j - us.length) with h' | h'
              · exact h'
              · rw [List.getElem?_eq_none (by simp; omega)] at hx; cases hx
            rw [hj0] at hx
            simp at hx
            subst hx
            have : j = m := by omega
            subst this
            rw [Nat.add_assoc]; exact hu
    obtain ⟨us, h1, h2, h3⟩ := key n (Nat.le_refl _)
    exact ⟨us, h1, by rw [hcs]; exact h2, h3⟩
  · cases hr

theorem VS.one {β : Emb} {x : AV} {u : Value} (h : VS β x u) : u.oneCell' = true := by
  obtain ⟨h, hs⟩ := h
  cases x <;> simp only [VR, AV.stor] at h hs <;> first
    | (cases hs; done)
    | (subst h; rfl)
    | (obtain ⟨_, h, _⟩ := h; subst h; rfl)
    | (obtain ⟨_, _, h⟩ := h; subst h; rfl)
    | (obtain ⟨_, _, _, _, h, _⟩ := h; subst h; rfl)
    | (rcases IfR.cases h with ⟨_, h⟩ | ⟨_, _, _, h⟩ <;> (subst h; rfl))

/-- One block was written: some of its cells. -/
structure Wr (w w' : World) (b : Nat) (e : TypeId) (fz : Nat × Nat) (ccs : Array Value) (o : Nat) (us : List Value) : Prop where
  os : w'.os = w.os
  tape : w'.tape = w.tape
  output : w'.output = w.output
  size : w'.heap.size = w.heap.size
  other : ∀ c, c ≠ b → w'.heap[c]? = w.heap[c]?
  row : ∃ ccs' : Array Value, w'.heap[b]? = some (.cells ccs' e fz) ∧ ccs'.size = ccs.size ∧
    ∀ k, ccs'[k]? = if o ≤ k ∧ k < o + us.length then us[k - o]? else ccs[k]?

theorem run_storeCells {P : Program} (b o : Nat) (e : TypeId) (fz : Nat × Nat) : ∀ (us : List Value) (i : Nat) (w : World) (ccs : Array Value),
    (∀ u ∈ us, u.oneCell' = true) → w.heap[b]? = some (.cells ccs e fz) → o + i + us.length ≤ ccs.size → (∀ j, j < ccs.size → ¬ (fz.1 ≤ j ∧ j < fz.2)) →
    ∃ w', (storeCells ⟨b, o, none⟩ us i).run P w = .ok () w' ∧ Wr w w' b e fz ccs (o + i) us
  | [], i, w, ccs, _, hb, _, _ => ⟨w, by simp [storeCells], rfl, rfl, rfl, rfl, fun _ _ => rfl, ccs, hb, rfl, fun k => by
      rw [if_neg (by simp)]⟩
  | u :: us, i, w, ccs, h1, hb, hs, hf => by
    have hlt : o + i < ccs.size := by simp at hs; omega
    have hc : w.cell? ⟨b, o + i, none⟩ = some ccs[o + i] := by simp [World.cell?, hb, hlt]
    have hz : w.frozen? ⟨b, o + i, none⟩ = false := by
      have := hf (o + i) hlt
      simp only [World.frozen?, hb]
      rw [Bool.and_eq_false_iff]
      by_cases h : fz.1 ≤ o + i
      · right; simp; omega
      · left; simp; omega
    have hbl : b < w.heap.size := by
      rcases Nat.lt_or_ge b w.heap.size with h' | h'
      · exact h'
      · simp [Array.getElem?_eq_none h'] at hb
    have hb' : (w.setCell ⟨b, o + i, none⟩ u).heap[b]? = some (.cells (ccs.setIfInBounds (o + i) u) e fz) := by
      simp [World.setCell, Array.getElem?_modify, hb]
    obtain ⟨w', hr, hw⟩ := run_storeCells (P := P) b o e fz us (i + 1) (w.setCell ⟨b, o + i, none⟩ u) (ccs.setIfInBounds (o + i) u)
      (fun x hx => h1 x (List.mem_cons_of_mem _ hx)) hb' (by simp at hs ⊢; omega) (by simpa using hf)
    refine ⟨w', ?_, hw.os, hw.tape, hw.output, by rw [hw.size]; simp, fun c hcb => ?_, ?_⟩
    · simp only [storeCells, Sem.run_bind, addr_add]
      rw [run_store _ _ _ _ _ (h1 u (by simp)), hc]
      simp only [hz, Bool.false_eq_true, if_false, Result.andThen_ok]
      exact hr
    · rw [hw.other c hcb]
      simp [World.setCell, Array.getElem?_modify, Ne.symm hcb]
    · obtain ⟨ccs', e1, e2, e3⟩ := hw.row
      refine ⟨ccs', e1, by simpa using e2, fun k => ?_⟩
      rw [e3 k]
      by_cases hk : k = o + i
      · subst hk
        rw [if_neg (by omega), if_pos (by simp)]
        simp [hlt]
      · by_cases hk2 : o + (i + 1) ≤ k ∧ k < o + (i + 1) + us.length
        · rw [if_pos hk2, if_pos (by simp; omega)]
          rw [show k - (o + i) = (k - (o + (i + 1))) + 1 by omega]
          simp
        · rw [if_neg hk2, if_neg (by simp; omega)]
          rw [Array.getElem?_setIfInBounds_ne (by omega)]

theorem splice_get (cs new : List AV) (off : Nat) (h : off + new.length ≤ cs.length) (j : Nat) :
    (splice cs new off)[j]? = if off ≤ j ∧ j < off + new.length then new[j - off]? else cs[j]? := by
  unfold splice
  have hl : (cs.take off).length = off := by simp; omega
  rw [List.append_assoc]
  rcases Nat.lt_or_ge j off with h1 | h1
  · rw [List.getElem?_append_left (by omega), if_neg (by omega), List.getElem?_take_of_lt h1]
  · rw [List.getElem?_append_right (by omega), hl]
    rcases Nat.lt_or_ge (j - off) new.length with h2 | h2
    · rw [List.getElem?_append_left h2, if_pos (by omega)]
    · rw [List.getElem?_append_right h2, if_neg (by omega), List.getElem?_drop]
      congr 1; omega

theorem splice_len (cs new : List AV) (off : Nat) (h : off + new.length ≤ cs.length) : (splice cs new off).length = cs.length := by
  unfold splice; simp; omega

theorem RowR.other {β : Emb} {w w' : World} {l : Loc} {b : Blk} (hw : b.isGone = false → w'.heap[l.blk]? = w.heap[l.blk]?) (hr : RowR β w l b) : RowR β w' l b :=
  RowR.mono (Le.refl β) hw hr

/-- A new block, whatever it is. -/
theorem SR.allocB {β : Emb} {H : Heap} {w : World} (h : SR β H w) (o : Obj) (n : Nat) (bb : Blk) (hb : ∀ γ, RowR γ { w with heap := w.heap.push o } ⟨w.heap.size, 0, n⟩ bb) :
    SR (β.ext H.n ⟨w.heap.size, 0, n⟩) (H.alloc bb) { w with heap := w.heap.push o } := by
  have hle : Le β (β.ext H.n ⟨w.heap.size, 0, n⟩) := Le.ext (h.dom _ (Nat.le_refl _))
  have old : ∀ i l, i ≠ H.n → (β.ext H.n ⟨w.heap.size, 0, n⟩) i = some l → β i = some l := fun i l hi e => by
    unfold Emb.ext upd at e; rw [if_neg hi] at e; exact e
  have new : ∀ l, (β.ext H.n ⟨w.heap.size, 0, n⟩) H.n = some l → l = ⟨w.heap.size, 0, n⟩ := fun l e => by
    unfold Emb.ext upd at e; rw [if_pos rfl] at e; exact (Option.some.inj e).symm
  refine ⟨fun i hi => ?_, fun i hi hh => ?_, fun i l e => ?_, fun i j li lj hij ei ej ho hg => ?_⟩
  · show upd β H.n _ i = none
    unfold upd
    rw [if_neg (by simp [Heap.alloc] at hi; omega)]
    exact h.dom i (by simp [Heap.alloc] at hi; omega)
  · show ∃ l, upd β H.n _ i = some l
    unfold upd
    split
    · exact ⟨_, rfl⟩
    · rename_i hne; exact h.tot i (by simp [Heap.alloc] at hi; omega) (by simpa [Heap.alloc, upd, hne] using hh)
  · by_cases hi : i = H.n
    · subst hi
      rw [new l e]
      show RowR _ _ _ (upd H.f H.n bb H.n)
      simp only [upd, if_true]
      exact hb _
    · have e' := old i l hi e
      show RowR _ _ _ (upd H.f H.n bb i)
      simp only [upd, if_neg hi]
      refine (h.row i l e').mono hle fun hg => ?_
      have := (h.row i l e').blk_lt hg
      simp [Array.getElem?_push, Nat.ne_of_lt this]
  · have ho' : (upd H.f H.n bb i).isOwn = true := ho
    have hg' : (upd H.f H.n bb j).isGone = false := hg
    by_cases hi : i = H.n
    · subst hi
      have hj : j ≠ H.n := fun e => hij e.symm
      simp only [upd, if_neg hj] at hg'
      have := (h.row j lj (old j lj hj ej)).blk_lt hg'
      rw [new li ei]
      exact fun e => by simp at e; omega
    · simp only [upd, if_neg hi] at ho'
      by_cases hj : j = H.n
      · subst hj
        have := (h.row i li (old i li hi ei)).blk_lt (by cases hb : H.f i <;> simp_all [Blk.isOwn, Blk.isGone])
        rw [new lj ej]
        exact fun e => by simp at e; omega
      · simp only [upd, if_neg hj] at hg'
        exact h.apart i j li lj hij (old i li hi ei) (old j lj hj ej) ho' hg'

theorem Fr.allocB {β : Emb} {H : Heap} {w : World} (h : SR β H w) (bb : Blk) (o : Obj) (n : Nat) :
    Fr β H w (β.ext H.n ⟨w.heap.size, 0, n⟩) (H.alloc bb) { w with heap := w.heap.push o } := by
  refine ⟨rfl, rfl, rfl, by simp, fun b hb _ => by simp [Array.getElem?_push, Nat.ne_of_lt hb], fun b hb ⟨i, l, e, ho, hl⟩ => ?_⟩
  by_cases hi : i = H.n
  · subst hi
    unfold Emb.ext upd at e
    rw [if_pos rfl] at e
    have := Option.some.inj e
    subst this
    simp at hl
    omega
  · unfold Emb.ext upd at e
    rw [if_neg hi] at e
    refine ⟨i, l, e, ?_, hl⟩
    have : (upd H.f H.n bb i).isOwn = true := ho
    simpa only [upd, if_neg hi] using this
/-- An own block that has changed. -/
theorem SR.putB {β : Emb} {H : Heap} {w w' : World} (h : SR β H w) {id : Nat} {l : Loc} {bb : Blk} (e : β id = some l) (ho : (H.f id).isOwn = true) (hb : RowR β w' l bb) (hg : bb.isGone = false) (hne : bb ≠ .hole) (hoth : ∀ c, c < w.heap.size → c ≠ l.blk → w'.heap[c]? = w.heap[c]?) (hbo : bb.isOwn = true) : SR β (H.put id bb) w' := by
  have hfi : ∀ i, (H.put id bb).f i = if i = id then bb else H.f i := fun i => rfl
  refine ⟨h.dom, fun i hi hh => ?_, fun i li ei => ?_, fun i j li lj hij ei ej hoi hgj => ?_⟩
  · by_cases hid : i = id
    · exact ⟨l, by rw [hid]; exact e⟩
    · rw [hfi, if_neg hid] at hh; exact h.tot i hi hh
  · by_cases hid : i = id
    · subst hid
      rw [e] at ei
      cases ei
      rw [hfi, if_pos rfl]; exact hb
    · rw [hfi, if_neg hid]
      exact RowR.other (fun hgi => hoth _ ((h.row i li ei).blk_lt hgi) fun hc => h.apart id i l li (Ne.symm hid) e ei ho hgi hc.symm) (h.row i li ei)
  · rw [hfi] at hoi hgj
    have hoi' : (H.f i).isOwn = true := by
      by_cases hid : i = id
      · rw [hid]; exact ho
      · rw [if_neg hid] at hoi; exact hoi
    have hgj' : (H.f j).isGone = false := by
      by_cases hid : j = id
      · rw [hid]; cases hx : H.f id <;> rw [hx] at ho <;> first | rfl | (cases ho)
      · rw [if_neg hid] at hgj; exact hgj
    exact h.apart i j li lj hij ei ej hoi' hgj'
theorem Fr.putB {β : Emb} {H : Heap} {w w' : World} {id : Nat} {l : Loc} {bb : Blk} (e : β id = some l) (ho : (H.f id).isOwn = true) (h1 : w'.os = w.os) (h2 : w'.tape = w.tape) (h3 : w'.output = w.output) (h4 : w.heap.size ≤ w'.heap.size) (hoth : ∀ c, c < w.heap.size → c ≠ l.blk → w'.heap[c]? = w.heap[c]?) : Fr β H w β (H.put id bb) w' := by
  refine ⟨h1, h2, h3, h4, fun b hbs hn => hoth b hbs fun hc => hn ⟨id, l, e, ho, hc.symm⟩, fun b _ ⟨i, li, ei, hoi, hl⟩ => ?_⟩
  by_cases hid : i = id
  · subst hid; exact ⟨i, li, ei, ho, hl⟩
  · have : (if i = id then bb else H.f i).isOwn = true := hoi
    rw [if_neg hid] at this
    exact ⟨i, li, ei, this, hl⟩

theorem isOwn_of {b : Blk} {cs : List AV} (h : b = .own cs) : b.isOwn = true := by subst h; rfl
theorem isGone_of {b : Blk} {cs : List AV} (h : b = .own cs) : b.isGone = false := by subst h; rfl

theorem SR.store {β : Emb} {H : Heap} {w w' : World} (h : SR β H w) {id off : Nat} {l : Loc} {cs new : List AV} {us : List Value} {e : TypeId} {fz : Nat × Nat} {ccs : Array Value}
    (hl : β id = some l) (ho : H.f id = .own cs) (hb : w.heap[l.blk]? = some (.cells ccs e fz)) (hlen : off + new.length ≤ cs.length) (hn : All2 (VS β) new us)
    (hw : Wr w w' l.blk e fz ccs (l.base + off) us) : SR β (H.put id (.own (splice cs new off))) w' := by
  refine ⟨h.dom, fun i hi hh => ?_, fun i m ei => ?_, fun i j li lj hij ei ej hio hjg => ?_⟩
  · by_cases e : i = id
    · exact ⟨l, e ▸ hl⟩
    · exact h.tot i hi (by simpa [Heap.put, upd, e] using hh)
  · show RowR β w' m (upd H.f id (.own (splice cs new off)) i)
    by_cases hi : i = id
    · subst hi
      rw [hl] at ei
      have := Option.some.inj ei
      subst this
      simp only [upd, if_true]
      have hr := h.row i l hl
      rw [ho] at hr
      obtain ⟨ccs0, e0, fz0, g1, g2, g3, g4, g5⟩ := hr
      rw [hb] at g1
      obtain ⟨rfl, rfl, rfl⟩ : ccs = ccs0 ∧ e = e0 ∧ fz = fz0 := by
        have := Option.some.inj g1; simp at this; exact ⟨this.1, this.2.1, this.2.2⟩
      obtain ⟨ccs', k1, k2, k3⟩ := hw.row
      refine ⟨ccs', e, fz, k1, fun j v hv => ?_, by omega, by rw [splice_len cs new off hlen]; exact g4, by rw [k2]; exact g5⟩
      rw [splice_get cs new off hlen] at hv
      rw [k3]
      split at hv
      · rename_i hc
        obtain ⟨u, hu, hvs⟩ := hn.get _ _ hv
        refine ⟨u, ?_, hvs⟩
        rw [if_pos (by rw [← hn.len]; omega)]
        rw [show l.base + j - (l.base + off) = j - off by omega]
        exact hu
      · rename_i hc
        obtain ⟨u, hu, hvs⟩ := g2 j v hv
        exact ⟨u, by rw [if_neg (by rw [← hn.len]; omega)]; exact hu, hvs⟩
    · simp only [upd, if_neg hi]
      refine (h.row i m ei).other fun hg => hw.other _ ?_
      exact fun e' => h.apart id i l m (Ne.symm hi) hl ei (isOwn_of ho) hg e'.symm
  · have hio' : (H.f i).isOwn = true := by
      by_cases hi : i = id
      · subst hi; exact isOwn_of ho
      · have : (upd H.f id (.own (splice cs new off)) i).isOwn = true := hio
        simpa only [upd, if_neg hi] using this
    have hjg' : (H.f j).isGone = false := by
      by_cases hj : j = id
      · subst hj; exact isGone_of ho
      · have : (upd H.f id (.own (splice cs new off)) j).isGone = false := hjg
        simpa only [upd, if_neg hj] using this
    exact h.apart i j li lj hij ei ej hio' hjg'

theorem Fr.store {β : Emb} {H : Heap} {w w' : World} {id : Nat} {l : Loc} {cs cs' : List AV} {us : List Value} {e : TypeId} {fz : Nat × Nat} {ccs : Array Value} {o : Nat}
    (hl : β id = some l) (ho : H.f id = .own cs) (hw : Wr w w' l.blk e fz ccs o us) : Fr β H w β (H.put id (.own cs')) w' := by
  refine ⟨hw.os, hw.tape, hw.output, by rw [hw.size]; exact Nat.le_refl _, fun b hb hn => hw.other b fun e' => hn ⟨id, l, hl, isOwn_of ho, e'.symm⟩, fun b hb ⟨i, m, ei, hio, em⟩ => ?_⟩
  by_cases hi : i = id
  · subst hi; exact ⟨i, m, ei, isOwn_of ho, em⟩
  · refine ⟨i, m, ei, ?_, em⟩
    have : (upd H.f id (.own cs') i).isOwn = true := hio
    simpa only [upd, if_neg hi] using this

theorem CellsR.drop {β : Emb} {cs : List AV} {ccs : Array Value} {base : Nat} (off : Nat) (h : CellsR β cs ccs base) : CellsR β (cs.drop off) ccs (base + off) := fun j v hv => by
  rw [List.getElem?_drop] at hv
  obtain ⟨u, h1, h2⟩ := h _ v hv
  exact ⟨u, by rw [Nat.add_assoc]; exact h1, h2⟩

/-- A row that grows where it lies: it goes on under a new number. -/
theorem SR.grow {β : Emb} {H : Heap} {w w' : World} (h : SR β H w) {id off : Nat} {l : Loc} {cs new : List AV} {us : List Value} {e : TypeId} {fz : Nat × Nat} {ccs : Array Value}
    (hl : β id = some l) (ho : H.f id = .own cs) (hb : w.heap[l.blk]? = some (.cells ccs e fz)) (hoff : off ≤ cs.length) (hroom : cs.length + new.length ≤ l.size) (hn : All2 (VS β) new us)
    (hw : Wr w w' l.blk e fz ccs (l.base + cs.length) us) :
    SR (β.ext H.n ⟨l.blk, l.base + off, l.size - off⟩) ((H.put id .gone).alloc (.own (cs.drop off ++ new))) w' := by
  have hle : Le β (β.ext H.n ⟨l.blk, l.base + off, l.size - off⟩) := Le.ext (h.dom _ (Nat.le_refl _))
  have hid : id < H.n := h.lt hl
  have old : ∀ i m, i ≠ H.n → (β.ext H.n ⟨l.blk, l.base + off, l.size - off⟩) i = some m → β i = some m := fun i l hi e => by
    unfold Emb.ext upd at e; rw [if_neg hi] at e; exact e
  have new_ : ∀ m, (β.ext H.n ⟨l.blk, l.base + off, l.size - off⟩) H.n = some m → m = ⟨l.blk, l.base + off, l.size - off⟩ := fun l e => by
    unfold Emb.ext upd at e; rw [if_pos rfl] at e; exact (Option.some.inj e).symm
  have fnew : (((H.put id .gone).alloc (.own (cs.drop off ++ new))).f H.n) = .own (cs.drop off ++ new) := by simp [Heap.alloc, Heap.put, upd]
  have fid : (((H.put id .gone).alloc (.own (cs.drop off ++ new))).f id) = .gone := by simp [Heap.alloc, Heap.put, upd, Nat.ne_of_lt hid]
  have foth : ∀ i, i ≠ H.n → i ≠ id → (((H.put id .gone).alloc (.own (cs.drop off ++ new))).f i) = H.f i := fun i h1 h2 => by simp [Heap.alloc, Heap.put, upd, h1, h2]
  refine ⟨fun i hi => ?_, fun i hi hh => ?_, fun i m ei => ?_, fun i j li lj hij ei ej hio hjg => ?_⟩
  · simp only [Heap.alloc, Heap.put] at hi
    unfold Emb.ext upd
    rw [if_neg (by omega)]
    exact h.dom i (by omega)
  · simp only [Heap.alloc, Heap.put] at hi
    unfold Emb.ext upd
    split
    · exact ⟨_, rfl⟩
    · rename_i hne
      by_cases e : i = id
      · exact ⟨l, e ▸ hl⟩
      · exact h.tot i (by omega) (by simpa [Heap.alloc, Heap.put, upd, hne, e] using hh)
  · by_cases hi : i = H.n
    · subst hi
      rw [new_ m ei, fnew]
      have hr := h.row id l hl
      rw [ho] at hr
      obtain ⟨ccs0, e0, fz0, g1, g2, g3, g4, g5⟩ := hr
      rw [hb] at g1
      obtain ⟨rfl, rfl, rfl⟩ : ccs = ccs0 ∧ e = e0 ∧ fz = fz0 := by
        have := Option.some.inj g1; simp at this; exact ⟨this.1, this.2.1, this.2.2⟩
      obtain ⟨ccs', k1, k2, k3⟩ := hw.row
      refine ⟨ccs', e, fz, k1, fun j v hv => ?_, by simp; omega, by simp; omega, by rw [k2]; exact g5⟩
      simp only at *
      rw [k3]
      rcases Nat.lt_or_ge j (cs.drop off).length with hj | hj
      · rw [List.getElem?_append_left hj] at hv
        obtain ⟨u, hu, hvs⟩ := (g2.drop off) j v hv
        rw [List.length_drop] at hj
        exact ⟨u, by rw [if_neg (by omega)]; exact hu, VS.mono hle hvs⟩
      · rw [List.getElem?_append_right hj] at hv
        obtain ⟨u, hu, hvs⟩ := hn.get _ _ hv
        have hul : j - (cs.drop off).length < us.length := by
          rcases Nat.lt_or_ge (j - (cs.drop off).length) us.length with h' | h'
          · exact h'
          · rw [List.getElem?_eq_none h'] at hu; cases hu
        rw [List.length_drop] at hj hu hul
        refine ⟨u, ?_, VS.mono hle hvs⟩
        rw [if_pos (by omega), show l.base + off + j - (l.base + cs.length) = j - (cs.length - off) by omega]
        exact hu
    · have ei' := old i m hi ei
      by_cases hid' : i = id
      · subst hid'; rw [fid]; exact True.intro
      · rw [foth i hi hid']
        refine (h.row i m ei').mono hle fun hg => hw.other _ ?_
        exact fun e' => h.apart id i l m (Ne.symm hid') hl ei' (isOwn_of ho) hg e'.symm
  · by_cases hi : i = H.n
    · subst hi
      have hj : j ≠ H.n := fun e' => hij e'.symm
      have ej' := old j lj hj ej
      by_cases hjd : j = id
      · subst hjd; rw [fid] at hjg; simp [Blk.isGone] at hjg
      · rw [foth j hj hjd] at hjg
        rw [new_ li ei]
        exact h.apart id j l lj (Ne.symm hjd) hl ej' (isOwn_of ho) hjg
    · have ei' := old i li hi ei
      by_cases hid' : i = id
      · subst hid'; rw [fid] at hio; simp [Blk.isOwn] at hio
      · rw [foth i hi hid'] at hio
        by_cases hj : j = H.n
        · subst hj
          rw [new_ lj ej]
          exact h.apart i id li l hid' ei' hl hio (isGone_of ho)
        · have ej' := old j lj hj ej
          by_cases hjd : j = id
          · subst hjd; rw [fid] at hjg; simp [Blk.isGone] at hjg
          · rw [foth j hj hjd] at hjg
            exact h.apart i j li lj hij ei' ej' hio hjg

theorem Fr.grow {β : Emb} {H : Heap} {w w' : World} (h : SR β H w) {id b2 s2 : Nat} {l : Loc} {cs cs' : List AV} {us : List Value} {e : TypeId} {fz : Nat × Nat} {ccs : Array Value} {o : Nat}
    (hl : β id = some l) (ho : H.f id = .own cs) (hw : Wr w w' l.blk e fz ccs o us) : Fr β H w (β.ext H.n ⟨l.blk, b2, s2⟩) ((H.put id .gone).alloc (.own cs')) w' := by
  refine ⟨hw.os, hw.tape, hw.output, by rw [hw.size]; exact Nat.le_refl _, fun b hb hn => hw.other b fun e' => hn ⟨id, l, hl, isOwn_of ho, e'.symm⟩, fun b hb ⟨i, m, ei, hio, em⟩ => ?_⟩
  by_cases hi : i = H.n
  · subst hi
    unfold Emb.ext upd at ei
    rw [if_pos rfl] at ei
    have := Option.some.inj ei
    subst this
    exact ⟨id, l, hl, isOwn_of ho, em⟩
  · unfold Emb.ext upd at ei
    rw [if_neg hi] at ei
    have hio' : (upd (upd H.f id .gone) H.n (.own cs') i).isOwn = true := hio
    simp only [upd, if_neg hi] at hio'
    by_cases hid : i = id
    · subst hid; simp [Blk.isOwn] at hio'
    · rw [if_neg hid] at hio'
      exact ⟨i, m, ei, hio', em⟩

/-- A row is given up. -/
theorem SR.giveUp {β : Emb} {H : Heap} {w : World} (h : SR β H w) (id : Nat) (hid : H.f id ≠ .hole) : SR β (H.put id .gone) w := by
  refine ⟨h.dom, fun i hi hh => ?_, fun i m ei => ?_, fun i j li lj hij ei ej hio hjg => ?_⟩
  · by_cases e : i = id
    · exact h.tot i hi (e ▸ hid)
    · exact h.tot i hi (by simpa [Heap.put, upd, e] using hh)
  · show RowR β w m (upd H.f id .gone i)
    by_cases hi : i = id
    · subst hi; simp only [upd, if_true]; exact True.intro
    · simp only [upd, if_neg hi]; exact h.row i m ei
  · have hio' : (upd H.f id .gone i).isOwn = true := hio
    have hjg' : (upd H.f id .gone j).isGone = false := hjg
    by_cases hi : i = id
    · subst hi; simp [upd, Blk.isOwn] at hio'
    · by_cases hj : j = id
      · subst hj; simp [upd, Blk.isGone] at hjg'
      · simp only [upd, if_neg hi] at hio'
        simp only [upd, if_neg hj] at hjg'
        exact h.apart i j li lj hij ei ej hio' hjg'

theorem Fr.giveUp {β : Emb} {H : Heap} {w : World} (id : Nat) : Fr β H w β (H.put id .gone) w := by
  refine ⟨rfl, rfl, rfl, Nat.le_refl _, fun _ _ _ => rfl, fun b hb ⟨i, m, ei, hio, em⟩ => ?_⟩
  have hio' : (upd H.f id .gone i).isOwn = true := hio
  by_cases hi : i = id
  · subst hi; simp [upd, Blk.isOwn] at hio'
  · simp only [upd, if_neg hi] at hio'
    exact ⟨i, m, ei, hio', em⟩

end Go.Ab
