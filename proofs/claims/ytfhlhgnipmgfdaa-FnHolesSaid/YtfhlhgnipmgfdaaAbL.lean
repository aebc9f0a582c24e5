/-
  FRAME, first part: what a law is handed, read as rows that are never written. By an AI agent; nothing here is trusted.
-/
import Derived.Test.YtfhlhgnipmgfdaaAbC
import GoSem.ClaimChange
namespace Go.Ab
set_option linter.unusedVariables false
set_option linter.unusedSimpArgs false

/-- The shapes of plain values. -/
inductive Sh where
  | bool
  | int (k : IntKind)
  | flt (k : FloatKind)
  | str
  | sl (e : Sh)
  | unit
  | pair (a b : Sh)

def Sh.T : Sh → Type
  | .bool => Bool
  | .int _ => Int
  | .flt _ => Nat
  | .str => ByteArray
  | .sl e => List e.T
  | .unit => Unit
  | .pair a b => a.T × b.T

def Sh.size : Sh → Nat
  | .unit => 0
  | .pair a b => a.size + b.size
  | _ => 1

def Lies (H : Heap) : (s : Sh) → s.T → List AV → Prop
  | .bool, (b : Bool), cs => cs = [.bool b]
  | .int k, (n : Int), cs => cs = [.int k n] ∧ (Lit.int k n).wf = true
  | .flt k, (c : Nat), cs => cs = [.flt k c] ∧ ∃ b, (Lit.float k b).wf = true ∧ cz k b = c
  | .str, (x : ByteArray), cs => cs = [.str x] ∧ x.size ≤ maxLen
  | .sl e, (l : List e.T), cs => ∃ id parts, cs = [.sl id 0 l.length e.size] ∧ id < H.n ∧ l.length ≤ maxLen ∧ ((l = [] ∧ H.f id = .gone) ∨ H.f id = .ro parts.flatten) ∧ All2 (fun x c => Lies H e x c) l parts
  | .unit, _, cs => cs = []
  | .pair a b, (x : a.T × b.T), cs => ∃ c d, cs = c ++ d ∧ Lies H a x.1 c ∧ Lies H b x.2 d

theorem Lies.len {H : Heap} : ∀ {s : Sh} {x : s.T} {cs : List AV}, Lies H s x cs → cs.length = s.size
  | .bool, _, _, h => by cases h; rfl
  | .int _, _, _, ⟨h, _⟩ => by cases h; rfl
  | .flt _, _, _, ⟨h, _⟩ => by cases h; rfl
  | .str, _, _, ⟨h, _⟩ => by cases h; rfl
  | .sl _, _, _, ⟨_, _, h, _⟩ => by cases h; rfl
  | .unit, _, _, h => by cases h; rfl
  | .pair a b, x, _, ⟨c, d, h, h1, h2⟩ => by cases h; rw [List.length_append, h1.len, h2.len]; rfl

/-- Only rows came in. -/
def AllRo (H : Heap) : Prop := ∀ i, (H.f i).isOwn = false
def Ext (H H' : Heap) : Prop := H.n ≤ H'.n ∧ ∀ i, i < H.n → H'.f i = H.f i
theorem Ext.refl (H : Heap) : Ext H H := ⟨Nat.le_refl _, fun _ _ => rfl⟩
theorem Ext.trans {a b c : Heap} (h : Ext a b) (k : Ext b c) : Ext a c := ⟨Nat.le_trans h.1 k.1, fun i hi => (k.2 i (Nat.lt_of_lt_of_le hi h.1)).trans (h.2 i hi)⟩

theorem All2.mono2 {α β : Type} {R S : α → β → Prop} (f : ∀ a b, R a b → S a b) {as : List α} {bs : List β} (h : All2 R as bs) : All2 S as bs := h.mono f

theorem Lies.ext {H H' : Heap} (he : Ext H H') : ∀ {s : Sh} {x : s.T} {cs : List AV}, Lies H s x cs → Lies H' s x cs
  | .bool, _, _, h => h
  | .int _, _, _, h => h
  | .flt _, _, _, h => h
  | .str, _, _, h => h
  | .sl e, _, _, ⟨id, parts, h, hid, hm, hr, ha⟩ => ⟨id, parts, h, Nat.lt_of_lt_of_le hid he.1, hm, by rw [he.2 id hid]; exact hr, ha.mono fun _ _ h => h.ext he⟩
  | .unit, _, _, h => h
  | .pair a b, x, _, ⟨c, d, h, h1, h2⟩ => ⟨c, d, h, h1.ext he, h2.ext he⟩

theorem Lies.stor {H : Heap} : ∀ {s : Sh} {x : s.T} {cs : List AV}, Lies H s x cs → ∀ c ∈ cs, c.stor = true
  | .bool, _, _, h => by cases h; simp [AV.stor]
  | .int _, _, _, ⟨h, _⟩ => by cases h; simp [AV.stor]
  | .flt _, _, _, ⟨h, _⟩ => by cases h; simp [AV.stor]
  | .str, _, _, ⟨h, _⟩ => by cases h; simp [AV.stor]
  | .sl _, _, _, ⟨_, _, h, _⟩ => by cases h; simp [AV.stor]
  | .unit, _, _, h => by cases h; simp
  | .pair a b, x, _, ⟨c, d, h, h1, h2⟩ => by
    cases h
    intro y hy
    rcases List.mem_append.1 hy with hy | hy
    · exact h1.stor y hy
    · exact h2.stor y hy

def shapeFs (sh : TypeId → Option Sh) : Nat → List Field → Option Sh
  | _, [] => some .unit
  | o, f :: r => if f.offset = o then (sh f.type).bind fun s => (shapeFs sh (o + s.size) r).map (.pair s) else none

def shape0 (P : Program) (sh : TypeId → Option Sh) (t : TypeId) : Option Sh :=
  match P.underlying t with
  | some .bool => some .bool
  | some (.int k) => some (.int k)
  | some (.float k) => some (.flt k)
  | some .string => some .str
  | some (.slice e) => (sh e).map .sl
  | some (.struct fs) => shapeFs sh 0 fs.toList
  | _ => none

/-- The shape of a type. -/
def shape (P : Program) : Nat → TypeId → Option Sh
  | 0, _ => none
  | d + 1, t => (shape0 P (shape P d) t).bind fun s => if s.size = P.cellsOf t ∧ 0 < s.size then some s else none

theorem shape_size {P : Program} : ∀ {d : Nat} {t : TypeId} {s : Sh}, shape P d t = some s → s.size = P.cellsOf t ∧ 0 < s.size
  | 0, _, _, h => by cases h
  | d + 1, t, s, h => by
    simp only [shape, Option.bind_eq_some_iff] at h
    obtain ⟨s', _, h⟩ := h
    split at h
    · cases h; assumption
    · cases h

/-- A state read so far. -/
structure Rd (w : World) (β : Emb) (H : Heap) (β' : Emb) (H' : Heap) : Prop where
  le : Le β β'
  sr : SR β' H' w
  ro : AllRo H'
  ext : Ext H H'

theorem Rd.trans {w : World} {β β' β'' : Emb} {H H' H'' : Heap} (h : Rd w β H β' H') (k : Rd w β' H' β'' H'') : Rd w β H β'' H'' := ⟨h.le.trans k.le, k.sr, k.ro, h.ext.trans k.ext⟩

/-- A new row that came in. -/
theorem SR.addRow {β : Emb} {H : Heap} {w : World} (h : SR β H w) (hro : AllRo H) (l : Loc) (b : Blk) (hb : b.isOwn = false) (hr : RowR β w l b) :
    Rd w β H (fun i => if i = H.n then some l else β i) (H.alloc b) := by
  have hle : Le β (fun i => if i = H.n then some l else β i) := fun i l' e => by
    have := h.lt e
    show (if i = H.n then some l else β i) = some l'
    rw [if_neg (Nat.ne_of_lt this)]; exact e
  have hown : AllRo (H.alloc b) := fun i => by
    rw [alloc_f]; split
    · exact hb
    · exact hro i
  have hmono' : ∀ {l' : Loc} {b : Blk}, RowR β w l' b → RowR (fun i => if i = H.n then some l else β i) w l' b := fun {l' b'} hr => by
    cases b' with
    | gone => trivial
    | ro cs =>
      obtain ⟨ccs, e, fz, h1, h2⟩ := hr
      refine ⟨ccs, e, fz, h1, fun j v hv => ?_⟩
      obtain ⟨u, hu, hvs⟩ := h2 j v hv
      exact ⟨u, hu, hvs.1.mono hle, hvs.2⟩
    | own cs =>
      obtain ⟨ccs, e, fz, h1, h2, h3⟩ := hr
      refine ⟨ccs, e, fz, h1, fun j v hv => ?_, h3⟩
      obtain ⟨u, hu, hvs⟩ := h2 j v hv
      exact ⟨u, hu, hvs.1.mono hle, hvs.2⟩
    | tab b o => exact hr
    | hole => exact hr.elim
    | mp _ _ _ => exact hr
  refine ⟨hle, ⟨fun i hi => ?_, fun i hi hh => ?_, fun i l' e => ?_, fun i j li lj hij hi hj ho hg => ?_⟩, hown, Nat.le_succ _, fun i hi => by rw [alloc_f, if_neg (Nat.ne_of_lt hi)]⟩
  · have hi' : H.n + 1 ≤ i := hi
    show (if i = H.n then some l else β i) = none
    rw [if_neg (by omega)]; exact h.dom i (by omega)
  · have hi' : i < H.n + 1 := hi
    by_cases e : i = H.n
    · exact ⟨l, if_pos e⟩
    · obtain ⟨l', hl'⟩ := h.tot i (by omega) (by rw [alloc_f, if_neg e] at hh; exact hh)
      exact ⟨l', by show (if i = H.n then some l else β i) = some l'; rw [if_neg e]; exact hl'⟩
  · rw [alloc_f]
    by_cases e' : i = H.n
    · rw [if_pos e']
      have : (if i = H.n then some l else β i) = some l' := e
      rw [if_pos e'] at this
      cases this
      exact hmono' hr
    · rw [if_neg e']
      have : (if i = H.n then some l else β i) = some l' := e
      rw [if_neg e'] at this
      exact hmono' (h.row i l' this)
  · rw [hown i] at ho; cases ho

/-- What reading a row of cells as a value of this shape gives. -/
def Opens (w : World) (s : Sh) (cs : List Value) : Prop :=
  ∀ β H, SR β H w → AllRo H → ∃ β' H' x acs, Rd w β H β' H' ∧ All2 (VR β') acs cs ∧ Lies H' s x acs

/-- The same, of many. -/
theorem opens_list {w : World} {s : Sh} {ι : Type} (row : ι → List Value) : ∀ (is : List ι), (∀ i ∈ is, Opens w s (row i)) → ∀ β H, SR β H w → AllRo H →
    ∃ β' H' xs parts, Rd w β H β' H' ∧ All2 (fun p i => All2 (VR β') p (row i)) parts is ∧ All2 (fun x c => Lies H' s x c) xs parts
  | [], _, β, H, hs, hr => ⟨β, H, [], [], ⟨Le.refl β, hs, hr, Ext.refl H⟩, trivial, trivial⟩
  | i :: is, h, β, H, hs, hr => by
    obtain ⟨β1, H1, x, acs, r1, a1, l1⟩ := h i (List.mem_cons_self ..) β H hs hr
    obtain ⟨β2, H2, xs, parts, r2, a2, l2⟩ := opens_list row is (fun j hj => h j (List.mem_cons_of_mem _ hj)) β1 H1 r1.sr r1.ro
    exact ⟨β2, H2, x :: xs, acs :: parts, r1.trans r2, ⟨a1.mono fun _ _ h => h.mono r2.le, a2⟩, ⟨l1.ext r2.ext, l2⟩⟩

theorem mapM_some {α γ : Type} {f : α → Option γ} : ∀ {l : List α} {r : List γ}, l.mapM f = some r → r.length = l.length ∧ ∀ a ∈ l, ∃ c, f a = some c
  | [], r, h => by simp at h; subst h; exact ⟨rfl, by simp⟩
  | a :: l, r, h => by
    rw [List.mapM_cons] at h
    cases ha : f a with
    | none => rw [ha] at h; cases h
    | some c =>
      rw [ha] at h
      cases hl : l.mapM f with
      | none => rw [hl] at h; cases h
      | some cs =>
        rw [hl] at h
        cases h
        obtain ⟨h1, h2⟩ := mapM_some hl
        refine ⟨by simp [h1], fun b hb => ?_⟩
        rcases List.mem_cons.1 hb with rfl | hb
        · exact ⟨c, ha⟩
        · exact h2 b hb

theorem All2.flat {α β γ : Type} {R : α → β → Prop} {row : γ → List β} : ∀ {parts : List (List α)} {is : List γ}, All2 (fun p i => All2 R p (row i)) parts is → All2 R parts.flatten (is.flatMap row)
  | [], [], _ => trivial
  | p :: ps, i :: is, ⟨h, k⟩ => by
    rw [List.flatten_cons, List.flatMap_cons]
    exact All2.append h k.flat

/-- The cells of one place and the next ones. -/
theorem cells_row {w : World} {base : Nat} {a : Addr} {n : Nat} {vs : List Value} (h : w.cells? base a n = some vs) : vs.length = n ∧ ∀ j, j < n → w.cell? (a.add j) = vs[j]? := by
  unfold World.cells? at h
  split at h
  · have : ∀ (m k : Nat) (vs : List Value), ((List.range' k m).mapM fun i => w.cell? (a.add i)) = some vs → vs.length = m ∧ ∀ j, j < m → w.cell? (a.add (k + j)) = vs[j]? := by
      intro m
      induction m with
      | zero => intro k vs h; simp at h; subst h; exact ⟨rfl, fun j hj => absurd hj (Nat.not_lt_zero _)⟩
      | succ m ih =>
        intro k vs h
        rw [List.range'_succ, List.mapM_cons] at h
        cases h1 : w.cell? (a.add k) with
        | none => rw [h1] at h; cases h
        | some v =>
          rw [h1] at h
          cases h2 : (List.range' (k + 1) m).mapM fun i => w.cell? (a.add i) with
          | none => rw [h2] at h; cases h
          | some r =>
            rw [h2] at h
            cases h
            obtain ⟨e1, e2⟩ := ih (k + 1) r h2
            refine ⟨by simp [e1], fun j hj => ?_⟩
            cases j with
            | zero => simpa using h1
            | succ j =>
              have := e2 j (by omega)
              rw [List.getElem?_cons_succ, ← this]
              congr 2; omega
    rw [List.range_eq_range'] at h
    obtain ⟨e1, e2⟩ := this n 0 vs h
    exact ⟨e1, fun j hj => by simpa using e2 j hj⟩
  · cases h

theorem cell_at {w : World} {a : Addr} {j : Nat} {v : Value} (h : w.cell? (a.add j) = some v) : ∃ ccs e fz, w.heap[a.block]? = some (.cells ccs e fz) ∧ ccs[a.off + j]? = some v ∧ (j = 0 → a.spot = none) := by
  unfold World.cell? at h
  have hb : (a.add j).block = a.block := by unfold Addr.add; split <;> rfl
  have ho : (a.add j).off = a.off + j := by unfold Addr.add; split <;> simp_all
  rw [hb, ho] at h
  split at h
  · rename_i ccs e fz hh
    split at h
    · cases h
    · rename_i hn
      refine ⟨ccs, e, fz, hh, h, fun hj => ?_⟩
      subst hj
      simp only [Addr.add, if_true] at hn
      cases hs : a.spot with
      | none => rfl
      | some x => rw [hs] at hn; simp at hn
  · cases h

/-- A list of flat elements, as a row. -/
theorem Lies.row {H : Heap} {e : Sh} {f : e.T → List AV} (hf : ∀ x c, Lies H e x c → c = f x) {l : List e.T} {cs : List AV} (h : Lies H (.sl e) l cs) :
    ∃ id, cs = [.sl id 0 l.length e.size] ∧ Row H id 0 (enc f l) ∧ l.length ≤ maxLen := by
  obtain ⟨id, parts, h1, h2, h3, h4, h5⟩ := h
  have hp : ∀ (l : List e.T) (parts : List (List AV)), All2 (fun x c => Lies H e x c) l parts → parts.flatten = enc f l := by
    intro l
    induction l with
    | nil => intro parts h; cases parts with
      | nil => rfl
      | cons _ _ => cases h
    | cons x l ih => intro parts h; cases parts with
      | nil => cases h
      | cons c ps => rw [List.flatten_cons, ih ps h.2, hf x c h.1]; rfl
  refine ⟨id, h1, ?_, h3⟩
  rcases h4 with ⟨rfl, hg⟩ | hg
  · exact ⟨h2, by rw [hg]; exact Nat.zero_le _, rfl⟩
  · exact Row.of_f h2 (by rw [hg]; exact hp l parts h5)
theorem enc_map {α β : Type} (e : β → List AV) (g : α → β) (l : List α) : enc e (l.map g) = enc (fun x => e (g x)) l := by
  simp [enc, List.flatMap_map]

theorem addr_adds (a : Addr) (x y : Nat) : (a.add x).add y = a.add (x + y) := by
  unfold Addr.add
  by_cases hx : x = 0
  · subst hx; simp
  · by_cases hy : y = 0
    · subst hy; simp
    · have : ¬ x + y = 0 := by omega
      simp [hx, hy, this, Nat.add_assoc]

theorem rows_at {w : World} {a : Addr} {n : Nat} (row : Nat → List Value) : ∀ (m k : Nat), (∀ i, k ≤ i → i < k + m → w.cells? 0 (a.add (i * n)) n = some (row i)) →
    ∀ (j : Nat) (u : Value), ((List.range' k m).flatMap row)[j]? = some u → w.cell? (a.add (k * n + j)) = some u
  | 0, k, _, j, u, h => by simp at h
  | m + 1, k, hr, j, u, h => by
    rw [List.range'_succ, List.flatMap_cons] at h
    obtain ⟨hl, hc⟩ := cells_row (hr k (Nat.le_refl _) (by omega))
    by_cases hj : j < n
    · rw [List.getElem?_append_left (by omega)] at h
      rw [← addr_adds, hc j hj, h]
    · rw [List.getElem?_append_right (by omega), hl] at h
      have := rows_at row m (k + 1) (fun i h1 h2 => hr i (by omega) (by omega)) (j - n) u h
      rw [Nat.succ_mul] at this
      rw [← this]
      congr 2; omega

theorem opens_fields {w : World} {sh : TypeId → Option Sh} {P : Program} (hsz : ∀ t s, sh t = some s → s.size = P.cellsOf t) (cs : List Value) : ∀ (fs : List Field) (o : Nat) (s : Sh), shapeFs sh o fs = some s → cs.length = o + s.size →
    (∀ f ∈ fs, ∀ s, sh f.type = some s → Opens w s ((cs.drop f.offset).take (P.cellsOf f.type))) → Opens w s (cs.drop o)
  | [], o, s, h, hl, _ => by
    cases h
    intro β H hs hr
    refine ⟨β, H, (), [], ⟨Le.refl β, hs, hr, Ext.refl H⟩, ?_, rfl⟩
    have : cs.drop o = [] := List.drop_eq_nil_of_le (by simp [Sh.size] at hl; omega)
    rw [this]; trivial
  | f :: r, o, s, h, hl, hf => by
    unfold shapeFs at h
    split at h
    · rename_i ho
      cases h1 : sh f.type with
      | none => rw [h1] at h; cases h
      | some s1 =>
        rw [h1] at h
        cases h2 : shapeFs sh (o + s1.size) r with
        | none => rw [Option.bind_some, h2] at h; cases h
        | some s2 =>
          rw [Option.bind_some, h2] at h
          cases h
          have hz := hsz _ _ h1
          have k1 := hf f (List.mem_cons_self ..) s1 h1
          have hl' : cs.length = o + s1.size + s2.size := by rw [hl]; simp [Sh.size]; omega
          have k2 := opens_fields hsz cs r (o + s1.size) s2 h2 hl' fun g hg => hf g (List.mem_cons_of_mem _ hg)
          intro β H hs hr
          obtain ⟨β1, H1, x, acs, r1, a1, l1⟩ := k1 β H hs hr
          obtain ⟨β2, H2, y, bcs, r2, a2, l2⟩ := k2 β1 H1 r1.sr r1.ro
          refine ⟨β2, H2, (x, y), acs ++ bcs, r1.trans r2, ?_, ⟨acs, bcs, rfl, l1.ext r2.ext, l2⟩⟩
          have e : cs.drop o = (cs.drop f.offset).take (P.cellsOf f.type) ++ cs.drop (o + s1.size) := by
            rw [ho, ← hz, ← List.drop_drop, List.take_append_drop]
          rw [e]
          exact All2.append (a1.mono fun _ _ h => h.mono r2.le) a2
    · cases h

theorem opens_nil {w : World} {s : Sh} {a : Option Addr} {cap : Nat} (h : a = none ∧ cap = 0 ∨ (∃ b, a = some b ∧ b.spot = none) ∨ cap = 0) : Opens w (.sl s) [.slice a 0 cap] := by
  intro β H hs hr
  have r := SR.addRow hs hr ⟨((a.map (·.block)).getD 0), ((a.map (·.off)).getD 0), cap * s.size⟩ .gone rfl trivial
  refine ⟨_, _, ([] : List s.T), [.sl H.n 0 0 s.size], r, ⟨⟨_, a, cap, if_pos rfl, rfl, Nat.zero_le _, ?_⟩, trivial⟩, ⟨H.n, [], rfl, Nat.lt_succ_self _, Nat.zero_le _, .inl ⟨rfl, by rw [alloc_f, if_pos rfl]⟩, trivial⟩⟩
  rcases h with ⟨rfl, rfl⟩ | ⟨b, rfl, hb⟩ | rfl
  · exact .inr ⟨rfl, rfl⟩
  · left
    refine ⟨?_, by simp⟩
    cases b; simp at hb; subst hb; rfl
  · exact .inr ⟨rfl, rfl⟩

theorem opens_slice {w : World} {s : Sh} {a : Addr} {len cap : Nat} {row : Nat → List Value} (hn : 0 < s.size) (hlen : 0 < len) (hc : len ≤ cap) (hm : cap ≤ maxLen)
    (hrow : ∀ i, i < len → w.cells? 0 (a.add (i * s.size)) s.size = some (row i)) (ho : ∀ i, i < len → Opens w s (row i)) : Opens w (.sl s) [.slice (some a) len cap] := by
  intro β H hs hr
  obtain ⟨β1, H1, xs, parts, r1, a1, l1⟩ := opens_list row (List.range len) (fun i hi => ho i (List.mem_range.1 hi)) β H hs hr
  have hlen1 : parts.length = len := by have := a1.len; simpa using this
  have hlen2 : xs.length = len := by rw [l1.len, hlen1]
  have hfl := a1.flat
  have hat : ∀ (j : Nat) (u : Value), ((List.range len).flatMap row)[j]? = some u → w.cell? (a.add j) = some u := by
    intro j u h
    rw [List.range_eq_range'] at h
    have := rows_at row len 0 (fun i _ h2 => hrow i (by omega)) j u h
    simpa using this
  obtain ⟨hl0, hc0⟩ := cells_row (hrow 0 hlen)
  obtain ⟨u0, hu0⟩ : ∃ u, (row 0)[0]? = some u := ⟨(row 0)[0]'(by omega), by rw [List.getElem?_eq_getElem]⟩
  have h00 := hc0 0 hn
  rw [hu0] at h00
  simp only [Nat.zero_mul] at h00
  have h00' : w.cell? (a.add 0) = some u0 := by rw [addr_adds] at h00; exact h00
  obtain ⟨ccs, e, fz, hheap, _, hspot⟩ := cell_at h00'
  have hspot := hspot rfl
  have hrowR : RowR β1 w ⟨a.block, a.off, cap * s.size⟩ (.ro parts.flatten) := by
    refine ⟨ccs, e, fz, hheap, fun j v hv => ?_⟩
    obtain ⟨u, hu, hvr⟩ := hfl.get j v hv
    obtain ⟨ccs', e', fz', hh', hcc, _⟩ := cell_at (hat j u hu)
    rw [hheap] at hh'
    cases hh'
    refine ⟨u, hcc, hvr, ?_⟩
    obtain ⟨p, hp, hvp⟩ := List.mem_flatten.1 (List.mem_of_getElem? hv)
    obtain ⟨k, hk, rfl⟩ := List.getElem_of_mem hp
    obtain ⟨x, hx⟩ : ∃ x, xs[k]? = some x := ⟨xs[k]'(by omega), by rw [List.getElem?_eq_getElem]⟩
    obtain ⟨p', hp', hl⟩ := l1.get k x hx
    rw [List.getElem?_eq_getElem hk] at hp'
    cases hp'
    exact hl.stor v hvp
  have r2 := SR.addRow r1.sr r1.ro ⟨a.block, a.off, cap * s.size⟩ (.ro parts.flatten) rfl hrowR
  refine ⟨_, _, xs, [.sl H1.n 0 xs.length s.size], r1.trans r2, ⟨⟨_, some a, cap, if_pos rfl, by rw [hlen2], by rw [hlen2]; exact hc, .inl ⟨?_, by simp⟩⟩, trivial⟩,
    ⟨H1.n, parts, rfl, Nat.lt_succ_self _, by rw [hlen2]; omega, .inr (by rw [alloc_f, if_pos rfl]), l1.mono fun _ _ h => h.ext r2.ext⟩⟩
  cases a; simp at hspot; subst hspot; rfl

theorem trod_opens {U : Type} {enc : TypeId × Value → U} {P : Program} {w : World} {held : Bool} : ∀ (d : Nat) (t : TypeId) (s : Sh), shape P d t = some s → ∀ fuel cs dat ps, DataW.trod enc P w 0 (fun _ => true) held fuel t cs = some (dat, ps) → Opens w s cs
  | 0, _, _, h, _, _, _, _, _ => by cases h
  | d + 1, t, s, h, 0, cs, dat, ps, ht => by cases ht
  | d + 1, t, s, h, fuel + 1, cs, dat, ps, ht => by
    have hsz := shape_size h
    simp only [shape, Option.bind_eq_some_iff] at h
    obtain ⟨s', h0, h⟩ := h
    split at h
    case isFalse => cases h
    cases h
    unfold shape0 at h0
    unfold DataW.trod at ht
    split at h0
    case h_1 hu =>
      cases h0
      rw [hu] at ht
      obtain ⟨b, rfl⟩ : ∃ b, cs = [.bool b] := by
        split at ht <;> simp_all
      exact fun β H hs hr => ⟨β, H, b, [.bool b], ⟨Le.refl β, hs, hr, Ext.refl H⟩, ⟨rfl, trivial⟩, rfl⟩
    case h_2 k hu =>
      cases h0
      rw [hu] at ht
      obtain ⟨n, rfl, hw⟩ : ∃ n, cs = [.int k n] ∧ (Lit.int k n).wf = true := by
        split at ht <;> simp_all
      exact fun β H hs hr => ⟨β, H, n, [.int k n], ⟨Le.refl β, hs, hr, Ext.refl H⟩, ⟨rfl, trivial⟩, rfl, hw⟩
    case h_3 k hu =>
      cases h0
      rw [hu] at ht
      obtain ⟨b, rfl, hw⟩ : ∃ b, cs = [.float k b] ∧ (Lit.float k b).wf = true := by
        split at ht <;> simp_all
      exact fun β H hs hr => ⟨β, H, cz k b, [.flt k (cz k b)], ⟨Le.refl β, hs, hr, Ext.refl H⟩, ⟨⟨b, rfl, rfl⟩, trivial⟩, rfl, b, hw, rfl⟩
    case h_4 hu =>
      cases h0
      rw [hu] at ht
      obtain ⟨x, rfl, hw⟩ : ∃ x, cs = [.string x] ∧ x.size ≤ maxLen := by
        split at ht <;> simp_all
      exact fun β H hs hr => ⟨β, H, x, [.str x], ⟨Le.refl β, hs, hr, Ext.refl H⟩, ⟨rfl, trivial⟩, rfl, hw⟩
    case h_5 e hu =>
      rw [hu] at ht
      cases hse : shape P d e with
      | none => rw [hse] at h0; cases h0
      | some se =>
        rw [hse] at h0
        cases h0
        have hez := shape_size hse
        have hcs : (cs = [.slice none 0 0]) ∨ ∃ a len cap, cs = [.slice (some a) len cap] := by
          split at ht <;> simp_all
        rcases hcs with rfl | ⟨a, len, cap, rfl⟩
        · exact opens_nil (.inl ⟨rfl, rfl⟩)
        · simp only at ht
          split at ht
          case isFalse => cases ht
          rename_i hcond
          obtain ⟨_, hlc, hcm⟩ := hcond
          rw [Option.bind_eq_some_iff] at ht
          obtain ⟨elems, hel, ht⟩ := ht
          rw [if_pos trivial] at ht
          rw [Option.map_eq_some_iff] at ht
          obtain ⟨rest, hrest, _⟩ := ht
          have he := (mapM_some hel).2
          have hr := (mapM_some hrest).2
          rcases Nat.eq_zero_or_pos len with rfl | hlen
          · rcases Nat.eq_zero_or_pos cap with rfl | hcap
            · exact opens_nil (.inr (.inr rfl))
            · refine opens_nil (.inr (.inl ⟨a, rfl, ?_⟩))
              obtain ⟨c, hc⟩ := hr 0 (List.mem_range.2 (by omega))
              rw [Option.bind_eq_some_iff] at hc
              obtain ⟨vs, hvs, _⟩ := hc
              obtain ⟨hl, hcell⟩ := cells_row hvs
              have h0 := hcell 0 (by omega)
              rw [addr_adds, List.getElem?_eq_getElem (by omega)] at h0
              simp only [Nat.add_zero, Nat.zero_mul] at h0
              obtain ⟨_, _, _, _, _, hs⟩ := cell_at h0
              exact hs rfl
          · have hrow : ∀ i, i < len → ∃ vs, w.cells? 0 (a.add (i * se.size)) se.size = some vs ∧ Opens w se vs := by
              intro i hi
              obtain ⟨c, hc⟩ := he i (List.mem_range.2 hi)
              rw [Option.bind_eq_some_iff] at hc
              obtain ⟨vs, hvs, hc⟩ := hc
              rw [← hez.1] at hvs
              exact ⟨vs, hvs, trod_opens d e se hse _ vs c.1 c.2 hc⟩
            refine opens_slice (row := fun i => (w.cells? 0 (a.add (i * se.size)) se.size).getD []) hez.2 hlen hlc hcm (fun i hi => ?_) fun i hi => ?_
            · obtain ⟨vs, hvs, _⟩ := hrow i hi
              rw [hvs]; rfl
            · obtain ⟨vs, hvs, ho⟩ := hrow i hi
              rw [hvs]; exact ho
    case h_6 fs hu =>
      rw [hu] at ht
      simp only at ht
      split at ht
      case isFalse => cases ht
      rename_i hlen
      rw [Option.map_eq_some_iff] at ht
      have hm := ht.imp fun _ h => h.1
      obtain ⟨xs, hm⟩ := hm
      have := opens_fields (w := w) (P := P) (fun t s h => (shape_size h).1) cs fs.toList 0 s h0 (by rw [hlen, ← hsz.1, Nat.zero_add]) fun f hf sf hsf => by
        obtain ⟨c, hc⟩ := (mapM_some hm).2 f hf
        exact trod_opens d f.type sf hsf fuel _ c.1 c.2 hc
      simpa using this
    case h_7 => cases h0

end Go.Ab
