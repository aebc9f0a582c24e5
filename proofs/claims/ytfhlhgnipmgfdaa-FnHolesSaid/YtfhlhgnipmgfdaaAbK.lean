/-
  SLICES OF WHAT HOLDS SLICES, OWN: a row of elements and the rows that they lead to, as one piece. By an AI agent; nothing here is trusted.
-/
import Derived.Test.YtfhlhgnipmgfdaaAbU
namespace Go.Ab
set_option linter.unusedVariables false
set_option linter.unusedSimpArgs false

def rowOf (v : AV) (i : Nat) : Prop := ∃ off len n, v = .sl i off len n
/-- The slice in an element: its piece. -/
abbrev Inn (α : Type) := α → List AV → Pc
def noInn {α : Type} : Inn α := fun _ _ => .osl .nilsl 0 []
/-- An own row of elements, and the own rows that they lead to, which lie in S. I: the piece that an element leads to. -/
structure DOwn {α : Type} (v : AV) (n : Nat) (R : Heap → α → List AV → Prop) (I : Inn α) (xs : List α) (ws : List (List AV)) (S : Nat → Prop) (H : Heap) : Prop where
  own : (v = .nilsl ∧ enc id ws = []) ∨ ∃ id' off len pre, v = .sl id' off len n ∧ pre.length = off ∧ (enc id ws).length = len * n ∧ id' < H.n ∧ H.f id' = .own (pre ++ enc id ws)
  size : ∀ c ∈ ws, c.length = n
  low : ∀ i, S i → i < H.n
  off : ∀ i, rowOf v i → ¬ S i
  len : xs.length = ws.length
  loc : ∀ (j : Nat) x c, xs[j]? = some x → ws[j]? = some c → ∀ H' : Heap, H.n ≤ H'.n → (∀ i, (I x c).at i → H'.f i = H.f i) → R H' x c
  inn : Sep H (List.zipWith I xs ws)
  ins : ∀ p ∈ List.zipWith I xs ws, p.isOwn = true ∧ ∀ i, p.at i → S i
theorem mem_zip {α β γ : Type} {f : α → β → γ} : ∀ {xs : List α} {ws : List β} {j : Nat} {x : α} {c : β}, xs[j]? = some x → ws[j]? = some c → f x c ∈ List.zipWith f xs ws
  | _ :: _, _ :: _, 0, _, _, h1, h2 => by cases h1; cases h2; exact List.mem_cons_self ..
  | _ :: xs, _ :: ws, j + 1, _, _, h1, h2 => List.mem_cons_of_mem _ (mem_zip (xs := xs) (ws := ws) (j := j) h1 h2)
  | [], _, _, _, _, h1, _ => by simp at h1
  | _ :: _, [], _, _, _, _, h2 => by simp at h2
theorem All2.of_at {α β : Type} {Q : α → β → Prop} : ∀ {xs : List α} {ws : List β}, xs.length = ws.length → (∀ (j : Nat) x c, xs[j]? = some x → ws[j]? = some c → Q x c) → All2 Q xs ws
  | [], [], _, _ => trivial
  | x :: xs, c :: ws, hl, h => ⟨h 0 x c rfl rfl, All2.of_at (xs := xs) (ws := ws) (by simpa using hl) fun j y d h1 h2 => h (j + 1) y d h1 h2⟩
  | [], _ :: _, hl, _ => by simp at hl
  | _ :: _, [], hl, _ => by simp at hl
theorem DOwn.all {α : Type} {v : AV} {n : Nat} {R : Heap → α → List AV → Prop} {I : Inn α} {xs : List α} {ws : List (List AV)} {S : Nat → Prop} {H : Heap} (h : DOwn v n R I xs ws S H) (H' : Heap) (hn : H.n ≤ H'.n) (hf : ∀ i, S i → H'.f i = H.f i) : All2 (R H') xs ws :=
  All2.of_at h.len fun j x c h1 h2 => h.loc j x c h1 h2 H' hn fun i hi => hf i ((h.ins _ (mem_zip h1 h2)).2 i hi)
/-- The piece. -/
def dpc {α : Type} (v : AV) (n : Nat) (R : Heap → α → List AV → Prop) (I : Inn α) (xs : List α) (ws : List (List AV)) (S : Nat → Prop) : Pc := .ex (fun i => rowOf v i ∨ S i) (DOwn v n R I xs ws S)
theorem DOwn.frame {α : Type} {v : AV} {n : Nat} {R : Heap → α → List AV → Prop} {I : Inn α} {xs : List α} {ws : List (List AV)} {S : Nat → Prop} {H H' : Heap} (h : DOwn v n R I xs ws S H) (hn : H.n ≤ H'.n) (hf : ∀ i, rowOf v i ∨ S i → H'.f i = H.f i) : DOwn v n R I xs ws S H' := by
  refine ⟨?_, h.size, fun i hi => Nat.lt_of_lt_of_le (h.low i hi) hn, h.off, h.len, fun j x c h1 h2 H2 hn2 hf2 => h.loc j x c h1 h2 H2 (Nat.le_trans hn hn2) fun i hi => (hf2 i hi).trans (hf i (.inr ((h.ins _ (mem_zip h1 h2)).2 i hi))), h.inn.frame hn fun p hp i hi => hf i (.inr ((h.ins p hp).2 i hi)), h.ins⟩
  rcases h.own with h1 | ⟨id', off, len, pre, h1, h2, h3, h4, h5⟩
  · exact .inl h1
  · exact .inr ⟨id', off, len, pre, h1, h2, h3, Nat.lt_of_lt_of_le h4 hn, by rw [hf id' (.inl ⟨_, _, _, h1⟩)]; exact h5⟩
theorem DOwn.holds {α : Type} {v : AV} {n : Nat} {R : Heap → α → List AV → Prop} {I : Inn α} {xs : List α} {ws : List (List AV)} {S : Nat → Prop} {H : Heap} (h : DOwn v n R I xs ws S H) : (dpc v n R I xs ws S).holds H := by
  refine ⟨fun i hi => ?_, h, fun H' hn hf => h.frame hn hf⟩
  rcases hi with ⟨_, _, _, hi⟩ | hi
  · rcases h.own with ⟨h1, _⟩ | ⟨_, _, _, _, h1, _, _, h2, _⟩
    · rw [h1] at hi; cases hi
    · rw [h1] at hi; cases hi; exact h2
  · exact h.low i hi
/-! ### lists of pieces -/
theorem sep_put {H : Heap} : ∀ {l : List Pc} (j : Nat) {p : Pc}, Sep H l → p.holds H → (∀ k q, k ≠ j → l[k]? = some q → p.apart q) → Sep H (l.set j p)
  | [], _, _, _, _, _ => trivial
  | q :: l, 0, p, h, hp, ha => ⟨hp, fun r hr => by
      obtain ⟨k, hk, rfl⟩ := List.mem_iff_getElem.1 hr
      exact ha (k + 1) _ (by omega) (by rw [List.getElem?_cons_succ, List.getElem?_eq_getElem hk]), h.2.2⟩
  | q :: l, j + 1, p, h, hp, ha => by
    rw [List.set_cons_succ]
    refine ⟨h.1, fun r hr => ?_, sep_put (l := l) j h.2.2 hp fun k r hk hr => ha (k + 1) r (by omega) (by rw [List.getElem?_cons_succ]; exact hr)⟩
    rcases List.mem_or_eq_of_mem_set hr with hr | rfl
    · exact h.2.1 r hr
    · exact (ha 0 q (by omega) rfl).symm
theorem sep_app {H : Heap} {p : Pc} : ∀ {l : List Pc}, Sep H l → p.holds H → (∀ q ∈ l, p.apart q) → Sep H (l ++ [p])
  | [], _, hp, _ => ⟨hp, fun _ hq => absurd hq (List.not_mem_nil), trivial⟩
  | q :: l, h, hp, ha => ⟨h.1, fun r hr => by
      rcases List.mem_append.1 hr with hr | hr
      · exact h.2.1 r hr
      · rw [List.mem_singleton.1 hr]; exact (ha q (List.mem_cons_self ..)).symm, sep_app (l := l) h.2.2 hp fun r hr => ha r (List.mem_cons_of_mem _ hr)⟩
theorem sep_apart {H : Heap} : ∀ {l : List Pc} {j k : Nat} {p q : Pc}, Sep H l → j ≠ k → l[j]? = some p → l[k]? = some q → p.apart q
  | x :: l, 0, k + 1, p, q, h, _, h1, h2 => by
    cases h1
    exact h.2.1 q (List.mem_of_getElem? (by rw [List.getElem?_cons_succ] at h2; exact h2))
  | x :: l, j + 1, 0, p, q, h, _, h1, h2 => by
    cases h2
    exact (h.2.1 p (List.mem_of_getElem? (by rw [List.getElem?_cons_succ] at h1; exact h1))).symm
  | x :: l, j + 1, k + 1, p, q, h, hne, h1, h2 => sep_apart (l := l) (j := j) (k := k) h.2.2 (by omega) (by rw [List.getElem?_cons_succ] at h1; exact h1) (by rw [List.getElem?_cons_succ] at h2; exact h2)
  | x :: l, 0, 0, _, _, _, hne, _, _ => absurd rfl hne
  | [], _, _, _, _, _, _, h1, _ => by simp at h1
theorem zip_get {α β γ : Type} {f : α → β → γ} {xs : List α} {ws : List β} {j : Nat} {y : γ} (h : (List.zipWith f xs ws)[j]? = some y) : ∃ x c, xs[j]? = some x ∧ ws[j]? = some c ∧ y = f x c := by
  rw [List.getElem?_zipWith] at h
  split at h
  · rename_i x c h1 h2
    cases h
    exact ⟨x, c, h1, h2, rfl⟩
  · cases h
theorem zip_set {α β γ : Type} {f : α → β → γ} : ∀ (xs : List α) (ws : List β) (j : Nat) (x : α) (c : β), List.zipWith f (xs.set j x) (ws.set j c) = (List.zipWith f xs ws).set j (f x c)
  | [], ws, j, x, c => by simp
  | a :: xs, [], j, x, c => by cases j <;> simp
  | a :: xs, b :: ws, 0, x, c => rfl
  | a :: xs, b :: ws, j + 1, x, c => by
    rw [List.set_cons_succ, List.set_cons_succ, List.zipWith_cons_cons, List.zipWith_cons_cons, List.set_cons_succ, zip_set xs ws j x c]
theorem set_self {α : Type} {l : List α} {j : Nat} {x : α} (h : l[j]? = some x) : l.set j x = l := by
  apply List.ext_getElem?
  intro k
  rw [List.getElem?_set]
  split
  · rename_i hjk
    subst hjk
    split
    · exact h.symm
    · rename_i hlt
      rw [List.getElem?_eq_none (by omega)]
  · rfl

section
variable {α : Type} {v : AV} {n : Nat} {R : Heap → α → List AV → Prop} {I : Inn α} {xs : List α} {ws : List (List AV)} {S : Nat → Prop} {H : Heap} {l : List Pc}
theorem DOwn.shows (h : DOwn v n R I xs ws S H) : DSh H v n R xs ws := ⟨.of_own (n := n) h.own, h.size, h.all H (Nat.le_refl _) fun _ _ => rfl⟩
theorem Sep.dshows (h : Sep H l) (k : Nat) (hk : Go.Ab.nth l k = some (dpc v n R I xs ws S)) : DSh H v n R xs ws := DOwn.shows (h.nth hk).2.1
theorem dlen (hc : ∀ c ∈ ws, c.length = n) : (enc id ws).length = ws.length * n := by
  induction ws with
  | nil => simp [enc]
  | cons c l ih =>
    rw [enc_cons, List.length_append, ih fun c hc' => hc c (List.mem_cons_of_mem _ hc'), List.length_cons, Nat.succ_mul]
    have : (id c : List AV).length = n := hc c (List.mem_cons_self ..)
    omega
/-- Nothing yet. -/
theorem Sep.dnil (h : Sep H l) (n : Nat) (R : Heap → α → List AV → Prop) (I : Inn α) : Sep H (dpc .nilsl n R I [] [] (fun _ => False) :: l) := by
  refine h.add (Nat.le_refl _) (fun _ _ => rfl) (DOwn.holds ⟨.inl ⟨rfl, rfl⟩, fun c hc => absurd hc (List.not_mem_nil), fun _ h => h.elim, fun _ _ h => h, rfl, fun j x c h => by simp at h, trivial, fun p hp => absurd hp (List.not_mem_nil)⟩) fun i hi => ?_
  rcases hi with ⟨_, _, _, hi⟩ | hi
  · cases hi
  · exact hi.elim
/-- What is zero in each place. -/
theorem Sep.dmake (h : Sep H l) (z : α) (zc : List AV) (m : Nat) (R : Heap → α → List AV → Prop) (I : Inn α) (hz : zc.length = n) (hR : ∀ H, R H z zc) (hI : ∃ m0, I z zc = .osl .nilsl m0 []) :
    Sep (H.alloc (.own (zerosOf zc m))) (dpc (.sl H.n 0 m n) n R I (List.replicate m z) (List.replicate m zc) (fun _ => False) :: l) := by
  obtain ⟨m0, hI⟩ := hI
  have e : zerosOf zc m = enc id (List.replicate m zc) := zerosOf_enc (α := List AV) id zc m
  have hsz : ∀ c ∈ List.replicate m zc, c.length = n := fun c hc => by rw [(List.mem_replicate.1 hc).2]; exact hz
  have hzw : ∀ m, List.zipWith I (List.replicate m z) (List.replicate m zc) = List.replicate m (.osl .nilsl m0 []) := fun m => by
    induction m with
    | zero => rfl
    | succ m ih => rw [List.replicate_succ, List.replicate_succ, List.zipWith_cons_cons, ih, hI, ← List.replicate_succ]
  have hnil : ∀ i, ¬ (Pc.osl .nilsl m0 []).at i := fun i ⟨_, _, _, h⟩ => by cases h
  have hsep : ∀ (H : Heap) m, Sep H (List.replicate m (.osl .nilsl m0 [])) := fun H m => by
    induction m with
    | zero => trivial
    | succ m ih => rw [List.replicate_succ]; exact ⟨.inl ⟨rfl, rfl⟩, fun q hq _ i h1 _ => hnil i h1, ih⟩
  have hins : ∀ p ∈ List.zipWith I (List.replicate m z) (List.replicate m zc), p.isOwn = true ∧ ∀ i, p.at i → False := fun p hp => by
    rw [hzw] at hp
    rw [(List.mem_replicate.1 hp).2]
    exact ⟨rfl, fun i hi => absurd hi (hnil i)⟩
  have hloc : ∀ (j : Nat) x c, (List.replicate m z)[j]? = some x → (List.replicate m zc)[j]? = some c → ∀ H' : Heap, (H.alloc (.own (zerosOf zc m))).n ≤ H'.n → (∀ i, (I x c).at i → H'.f i = (H.alloc (.own (zerosOf zc m))).f i) → R H' x c := fun j x c h1 h2 H' _ _ => by
    obtain rfl := (List.mem_replicate.1 (List.mem_of_getElem? h1)).2
    obtain rfl := (List.mem_replicate.1 (List.mem_of_getElem? h2)).2
    exact hR H'
  have hl := dlen hsz
  rw [List.length_replicate] at hl
  refine h.add (Nat.le_succ _) (fun i hi => by rw [alloc_f, if_neg (Nat.ne_of_lt hi)]) (DOwn.holds ⟨.inr ⟨H.n, 0, m, [], rfl, rfl, hl, Nat.lt_succ_self _, by rw [alloc_f, if_pos rfl, e]; rfl⟩, hsz, fun _ h => h.elim, fun _ _ h => h, by rw [List.length_replicate, List.length_replicate], hloc, by rw [hzw]; exact hsep _ m, hins⟩) fun i hi => ?_
  rcases hi with ⟨_, _, _, hi⟩ | hi
  · cases hi; exact Nat.le_refl _
  · exact hi.elim
theorem All2.set {γ δ : Type} {Q : γ → δ → Prop} : ∀ {as : List γ} {bs : List δ} (i : Nat) {a : γ} {b : δ}, All2 Q as bs → Q a b → All2 Q (as.set i a) (bs.set i b)
  | [], [], _, _, _, _, _ => trivial
  | _ :: _, _ :: _, 0, _, _, h, k => ⟨k, h.2⟩
  | _ :: as, _ :: bs, i + 1, _, _, h, k => ⟨h.1, All2.set (as := as) (bs := bs) i h.2 k⟩
  | [], _ :: _, _, _, _, h, _ => h.elim
  | _ :: _, [], _, _, _, h, _ => h.elim
theorem dsplice (hc : ∀ c ∈ ws, c.length = n) (i : Nat) (hi : i < ws.length) (c : List AV) (hcn : c.length = n) : splice (enc id ws) c (i * n) = enc id (ws.set i c) := by
  induction ws generalizing i with
  | nil => simp at hi
  | cons w ws ih =>
    have hw : (id w : List AV).length = n := hc w (List.mem_cons_self ..)
    cases i with
    | zero =>
      rw [Nat.zero_mul, splice_zero, List.set_cons_zero, enc_cons, enc_cons, hcn, ← hw, List.drop_left]; rfl
    | succ i =>
      rw [enc_cons, List.set_cons_succ, enc_cons, Nat.succ_mul, Nat.add_comm, splice_pre _ _ _ _ _ hw, ih (fun c h => hc c (List.mem_cons_of_mem _ h)) i (by simpa using hi)]
/-- Two own pieces of which one comes to hold the other. -/
theorem Sep.join {H' : Heap} {p q r : Pc} (k : Nat) (h : Sep H (p :: l)) (hk : Go.Ab.nth l k = some q) (hp : p.isOwn = true) (ho : q.isOwn = true) (hn : H.n ≤ H'.n) (hf : ∀ i, i < H.n → ¬ p.at i → ¬ q.at i → H'.f i = H.f i) (hr : r.holds H') (hat : ∀ i, r.at i → p.at i ∨ q.at i ∨ H.n ≤ i) : Sep H' (putP l k r) := by
  -- p is laid to q first
  have hpq : p.apart q := h.2.1 q (nth_mem hk)
  have h1 : Sep H (putP l k (.ex (fun i => p.at i ∨ q.at i) fun _ => True)) := by
    have key : ∀ {l : List Pc} {k : Nat}, Sep H l → Go.Ab.nth l k = some q → (∀ x ∈ l, p.apart x) → Sep H (putP l k (.ex (fun i => p.at i ∨ q.at i) fun _ => True)) := by
      intro l
      induction l with
      | nil => intro k _ hk; cases hk
      | cons x l ih =>
        intro k hs hk hx
        cases k with
        | zero =>
          cases hk
          refine ⟨⟨fun i hi => ?_, trivial, fun _ _ _ => trivial⟩, fun y hy _ i h1 h2 => ?_, hs.2.2⟩
          · rcases hi with hi | hi
            · exact Pc.at_lt h.1 hi
            · exact Pc.at_lt hs.1 hi
          · rcases h1 with h1 | h1
            · exact hx y (List.mem_cons_of_mem _ hy) (.inl hp) i h1 h2
            · exact hs.2.1 y hy (.inl ho) i h1 h2
        | succ k =>
          refine ⟨hs.1, fun y hy => ?_, ih (k := k) hs.2.2 hk fun y hy => hx y (List.mem_cons_of_mem _ hy)⟩
          have : y = .ex (fun i => p.at i ∨ q.at i) (fun _ => True) ∨ y ∈ l := by
            clear ih hk hx hs
            induction l generalizing k with
            | nil => cases hy
            | cons z l ih2 =>
              cases k with
              | zero => rcases List.mem_cons.1 hy with hy | hy; exact .inl hy; exact .inr (List.mem_cons_of_mem _ hy)
              | succ k =>
                rcases List.mem_cons.1 hy with hy | hy
                · exact .inr (hy ▸ List.mem_cons_self ..)
                · rcases ih2 k hy with h2 | h2
                  · exact .inl h2
                  · exact .inr (List.mem_cons_of_mem _ h2)
          rcases this with rfl | hy'
          · intro _ i h1 h2
            rcases h2 with h2 | h2
            · exact hx x (List.mem_cons_self ..) (.inl hp) i h2 h1
            · exact hs.2.1 q (nth_mem (l := l) (k := k) hk) (.inr ho) i h1 h2
          · exact hs.2.1 y hy'
    exact key h.2.2 hk h.2.1
  have hnth : ∀ {l : List Pc} {k : Nat} {x y : Pc}, Go.Ab.nth l k = some x → Go.Ab.nth (putP l k y) k = some y := by
    intro l
    induction l with
    | nil => intro k x y h; cases h
    | cons z l ih => intro k x y h; cases k with
      | zero => rfl
      | succ k => exact ih (k := k) h
  have hput : ∀ {l : List Pc} {k : Nat} {x y : Pc}, putP (putP l k x) k y = putP l k y := by
    intro l
    induction l with
    | nil => intro k x y; rfl
    | cons z l ih => intro k x y; cases k with
      | zero => rfl
      | succ k => show z :: _ = z :: _; rw [ih]
  have h2 := h1.change (k := k) (q := r) (hnth hk) rfl hn (fun i hi hne => hf i hi (fun c => hne (.inl c)) (fun c => hne (.inr c))) hr (fun i hi => by
    rcases hat i hi with h | h | h
    · exact .inl (.inl h)
    · exact .inl (.inr h)
    · exact .inr h)
  rw [hput] at h2
  exact h2

variable {P : Program} {q : Bool} {ops r : List Oper} {i : Nat} {s : Nat → TV} {K : (Nat → TV) → Heap → Prop} {dst : Option Tmp} {ty : TypeId} {pos : String} {after : Array Edge}
/-- An element with one own slice in it is stored. -/
theorem Sep.dset {u : AV} {m : Nat} {cs : List AV} (hs : Sep H (.osl u m cs :: l)) (k : Nat) (hk : Go.Ab.nth l k = some (dpc v n R I xs ws S)) {z : Int} (h0 : 0 ≤ z ∧ z < xs.length) (x : α) (c : List AV) (hcn : c.length = n) (hn : 0 < n) (hst : c.all AV.stor = true) (hR : ∀ H', Shows H' u m cs → R H' x c) (hI : I x c = .osl u m cs) :
    ∃ H', wrCells H v.id0 (v.of0 + z.toNat * n) c = some H' ∧ Sep H' (putP l k (dpc v n R I (xs.set z.toNat x) (ws.set z.toNat c) (fun i => S i ∨ rowOf u i))) := by
  have hp := hs.hd
  have hq : (dpc v n R I xs ws S).holds H := hs.tl.nth hk
  have hd : DOwn v n R I xs ws S H := hq.2.1
  have hap : Pc.apart (.osl u m cs) (dpc v n R I xs ws S) := hs.2.1 _ (nth_mem hk)
  have hl : xs.length = ws.length := (hd.all H (Nat.le_refl _) fun _ _ => rfl).len
  have h1 : z.toNat < ws.length := by omega
  rcases hd.own with ⟨h2, h3⟩ | ⟨id', off, len, pre, h2, h3, h4, h5, h6⟩
  · have := dlen hd.size
    rw [h3, List.length_nil] at this
    have : ws.length * n ≠ 0 := Nat.mul_ne_zero (by omega) (by omega)
    omega
  · subst h2
    have hm : z.toNat * n + n ≤ ws.length * n := by rw [← Nat.succ_mul]; exact Nat.mul_le_mul_right _ h1
    refine ⟨_, wrCells_own h6 (by show off + z.toNat * n + _ ≤ _; rw [List.length_append, dlen hd.size, hcn]; omega) hst, ?_⟩
    show Sep (H.put id' (.own (splice (pre ++ enc id ws) c (off + z.toNat * n)))) _
    rw [splice_pre pre _ c off _ h3, dsplice hd.size _ h1 c hcn]
    have hsz : ∀ c' ∈ ws.set z.toNat c, c'.length = n := fun c' hc' => by
      rcases List.mem_or_eq_of_mem_set hc' with h | h
      · exact hd.size c' h
      · rw [h]; exact hcn
    have hne : ∀ i, rowOf u i → i ≠ id' := fun i hi e => by
      subst e
      exact hap (.inl rfl) i hi (.inl ⟨_, _, _, rfl⟩)
    have hSne : ∀ i, S i → i ≠ id' := fun i hi e => hd.off id' ⟨_, _, _, rfl⟩ (e ▸ hi)
    have hput : ∀ i, i ≠ id' → (H.put id' (.own (pre ++ enc id (ws.set z.toNat c)))).f i = H.f i := fun i h => by rw [put_f, if_neg h]
    have huap : ∀ p ∈ List.zipWith I xs ws, (Pc.osl u m cs).apart p := fun p hp _ i hi hp' => hap (.inl rfl) i hi (.inr ((hd.ins p hp).2 i hp'))
    have hinn : Sep (H.put id' (.own (pre ++ enc id (ws.set z.toNat c)))) (List.zipWith I (xs.set z.toNat x) (ws.set z.toNat c)) := by
      rw [zip_set, hI]
      have h0 : Sep (H.put id' (.own (pre ++ enc id (ws.set z.toNat c)))) (List.zipWith I xs ws) := hd.inn.frame (Nat.le_refl _) fun p hp i hi => hput i (hSne i ((hd.ins p hp).2 i hi))
      exact sep_put _ h0 (Pc.frame hp (Nat.le_refl _) fun i hi => hput i (hne i hi)) fun k q _ hq => huap q (List.mem_of_getElem? hq)
    have hins : ∀ p ∈ List.zipWith I (xs.set z.toNat x) (ws.set z.toNat c), p.isOwn = true ∧ ∀ i, p.at i → S i ∨ rowOf u i := fun p hp => by
      rw [zip_set, hI] at hp
      rcases List.mem_or_eq_of_mem_set hp with hp | rfl
      · exact ⟨(hd.ins p hp).1, fun i hi => .inl ((hd.ins p hp).2 i hi)⟩
      · exact ⟨rfl, fun i hi => .inr hi⟩
    have hloc : ∀ (j : Nat) y d, (xs.set z.toNat x)[j]? = some y → (ws.set z.toNat c)[j]? = some d → ∀ H' : Heap, H.n ≤ H'.n → (∀ i, (I y d).at i → H'.f i = (H.put id' (.own (pre ++ enc id (ws.set z.toNat c)))).f i) → R H' y d := fun j y d h1' h2' H' hn' hf' => by
      by_cases hj : z.toNat = j
      · subst hj
        rw [List.getElem?_set_self (by omega)] at h1' h2'
        cases h1'; cases h2'
        rw [hI] at hf'
        refine hR H' ((Shows.of_own hp).frame hn' fun off' len' e => ?_)
        have hr : rowOf u u.id0 := ⟨off', len', m, e⟩
        rw [hf' _ hr, hput _ (hne _ hr)]
      · rw [List.getElem?_set_ne hj] at h1' h2'
        refine hd.loc j y d h1' h2' H' hn' fun i hi => ?_
        rw [hf' i hi, hput i (hSne i ((hd.ins _ (mem_zip h1' h2')).2 i hi))]
    refine Sep.join k hs hk rfl rfl (Nat.le_refl _) (fun i hi _ hq' => ?_) (DOwn.holds ⟨.inr ⟨id', off, len, pre, rfl, h3, ?_, h5, by rw [put_f, if_pos rfl]⟩, hsz, fun i hi => ?_, fun i hi hS => ?_, by rw [List.length_set, List.length_set]; exact hl, hloc, hinn, hins⟩) (fun i hi => ?_)
    · rw [put_f, if_neg]
      rintro rfl
      exact hq' (.inl ⟨_, _, _, rfl⟩)
    · rw [dlen hsz, List.length_set, ← dlen hd.size]; exact h4
    · rcases hi with hi | hi
      · exact hd.low i hi
      · exact Pc.at_lt hp hi
    · obtain ⟨_, _, _, hi⟩ := hi
      cases hi
      rcases hS with hS | hS
      · exact hd.off id' ⟨_, _, _, rfl⟩ hS
      · exact hne id' hS rfl
    · rcases hi with hi | hi | hi
      · exact .inr (.inl (.inl hi))
      · exact .inr (.inl (.inr hi))
      · exact .inl hi
/-- An element with one own slice in it is appended. -/
theorem Sep.dapp {u w : AV} {m bytes : Nat} {cs : List AV} (hs : Sep H (.osl u m cs :: l)) (k : Nat) (hk : Go.Ab.nth l k = some (dpc v n R I xs ws S)) (x : α) (c : List AV) (hw : Shows H w n (enc id [c])) (hcn : c.length = n) (hn : 0 < n) (hR : ∀ H', Shows H' u m cs → R H' x c) (hI : I x c = .osl u m cs)
    (hb : (xs.length + 1) * bytes ≤ 2 ^ 40) (h5 : bytes ≠ 0) : ∃ v' H', aappend H n bytes v w = some (.v v', H') ∧ Sep H' (putP l k (dpc v' n R I (xs ++ [x]) (ws ++ [c]) (fun i => S i ∨ rowOf u i))) := by
  have hp := hs.hd
  have hq : (dpc v n R I xs ws S).holds H := hs.tl.nth hk
  have hd : DOwn v n R I xs ws S H := hq.2.1
  have hap : Pc.apart (.osl u m cs) (dpc v n R I xs ws S) := hs.2.1 _ (nth_mem hk)
  have hl : xs.length = ws.length := (hd.all H (Nat.le_refl _) fun _ _ => rfl).len
  have he1 : enc id [c] = c := by show c ++ [] = c; simp
  have harg : cellsOfArg H n w = some (1, c) := by
    rw [he1] at hw
    rcases hw with ⟨_, h2⟩ | ⟨id', off, len, rfl, h2, h3⟩
    · rw [h2] at hcn; simp at hcn; omega
    · have : len = 1 := Nat.eq_of_mul_eq_mul_right hn (by rw [← h2, hcn, Nat.one_mul])
      subst this
      refine arg_sl ?_
      rw [rdCells_eq, ← h2, if_pos h3.2.1, h3.2.2]
  have hsz : ∀ c' ∈ ws ++ [c], c'.length = n := fun c' hc' => by
    rcases List.mem_append.1 hc' with h | h
    · exact hd.size c' h
    · rw [List.mem_singleton.1 h]; exact hcn
  have hea : enc id (ws ++ [c]) = enc id ws ++ c := by rw [enc_append, he1]
  have hlow : ∀ i, (S i ∨ rowOf u i) → i < H.n := fun i hi => by
    rcases hi with hi | hi
    · exact hd.low i hi
    · exact Pc.at_lt hp hi
  -- the end is the same for both beginnings
  have fin : ∀ (H' : Heap) (len' : Nat), H'.n = H.n + 1 → H'.f H.n = .own (enc id ws ++ c) → (∀ i, i < H.n → ¬ rowOf v i → H'.f i = H.f i) → (enc id ws ++ c).length = len' * n → Sep H' (putP l k (dpc (.sl H.n 0 len' n) n R I (xs ++ [x]) (ws ++ [c]) (fun i => S i ∨ rowOf u i))) := by
    intro H' len' hn' hf0 hfo hlen'
    have hnv : ∀ i, rowOf u i → ¬ rowOf v i := fun i hi hv => hap (.inl rfl) i hi (.inl hv)
    have hput : ∀ i, i < H.n → ¬ rowOf v i → H'.f i = H.f i := hfo
    have hzw : List.zipWith I (xs ++ [x]) (ws ++ [c]) = List.zipWith I xs ws ++ [.osl u m cs] := by rw [List.zipWith_append hd.len, List.zipWith_cons_cons, List.zipWith_nil_left, hI]
    have huap : ∀ p ∈ List.zipWith I xs ws, (Pc.osl u m cs).apart p := fun p hp _ i hi hp' => hap (.inl rfl) i hi (.inr ((hd.ins p hp).2 i hp'))
    have hSv : ∀ i, S i → H'.f i = H.f i := fun i hi => hfo i (hd.low i hi) fun hv => hd.off i hv hi
    have hinn : Sep H' (List.zipWith I (xs ++ [x]) (ws ++ [c])) := by
      rw [hzw]
      exact sep_app (hd.inn.frame (by omega) fun p hp i hi => hSv i ((hd.ins p hp).2 i hi)) (Pc.frame hp (by omega) fun i hi => hfo i (Pc.at_lt hp hi) (hnv i hi)) fun q hq => huap q hq
    have hins : ∀ p ∈ List.zipWith I (xs ++ [x]) (ws ++ [c]), p.isOwn = true ∧ ∀ i, p.at i → S i ∨ rowOf u i := fun p hp => by
      rw [hzw] at hp
      rcases List.mem_append.1 hp with hp | hp
      · exact ⟨(hd.ins p hp).1, fun i hi => .inl ((hd.ins p hp).2 i hi)⟩
      · rw [List.mem_singleton.1 hp]; exact ⟨rfl, fun i hi => .inr hi⟩
    have hloc : ∀ (j : Nat) y d, (xs ++ [x])[j]? = some y → (ws ++ [c])[j]? = some d → ∀ H2 : Heap, H'.n ≤ H2.n → (∀ i, (I y d).at i → H2.f i = H'.f i) → R H2 y d := fun j y d h1' h2' H2 hn2 hf2 => by
      by_cases hj : j < xs.length
      · rw [List.getElem?_append_left hj] at h1'
        rw [List.getElem?_append_left (by have := hd.len; omega)] at h2'
        refine hd.loc j y d h1' h2' H2 (by omega) fun i hi => ?_
        rw [hf2 i hi, hSv i ((hd.ins _ (mem_zip h1' h2')).2 i hi)]
      · rw [List.getElem?_append_right (by omega)] at h1'
        rw [List.getElem?_append_right (by have := hd.len; omega)] at h2'
        obtain rfl := List.mem_singleton.1 (List.mem_of_getElem? h1')
        obtain rfl := List.mem_singleton.1 (List.mem_of_getElem? h2')
        rw [hI] at hf2
        refine hR H2 ((Shows.of_own hp).frame (by omega) fun off' len2 e => ?_)
        have hr : rowOf u u.id0 := ⟨off', len2, m, e⟩
        rw [hf2 _ hr, hfo _ (Pc.at_lt hp hr) (hnv _ hr)]
    refine Sep.join k hs hk rfl rfl (by omega) (fun i hi _ hq' => hfo i hi fun hv => hq' (.inl hv)) (DOwn.holds ⟨.inr ⟨H.n, 0, len', [], rfl, rfl, by rw [hea]; exact hlen', by omega, by rw [hf0, hea]; rfl⟩, hsz, fun i hi => by have := hlow i hi; omega, fun i hi hS => ?_, by rw [List.length_append, List.length_append]; have := hd.len; simp only [List.length_cons, List.length_nil]; omega, hloc, hinn, hins⟩) (fun i hi => ?_)
    · obtain ⟨_, _, _, hi⟩ := hi
      cases hi
      have := hlow _ hS
      omega
    · rcases hi with ⟨_, _, _, hi⟩ | hi | hi
      · cases hi; exact .inr (.inr (Nat.le_refl _))
      · exact .inr (.inl (.inr hi))
      · exact .inl hi
  rcases hd.own with ⟨h2, h3⟩ | ⟨id', off, len, pre, h2, h3, h4, h6, h7⟩
  · subst h2
    have hw0 : ws.length = 0 := by
      have := dlen hd.size
      rw [h3, List.length_nil] at this
      rcases Nat.mul_eq_zero.1 this.symm with h | h <;> omega
    refine ⟨_, _, aappend_nil harg (by decide) (by rw [hl, hw0] at hb; simpa using hb) h5, ?_⟩
    refine fin _ 1 rfl (by rw [alloc_f, if_pos rfl, h3]; rfl) (fun i hi _ => by rw [alloc_f, if_neg (Nat.ne_of_lt hi)]) (by rw [h3, List.nil_append, hcn, Nat.one_mul])
  · subst h2
    have hlen : len = xs.length := by
      rw [dlen hd.size, ← hl] at h4
      exact (Nat.eq_of_mul_eq_mul_right hn h4).symm
    refine ⟨_, _, aappend_sl h7 (by rw [List.length_append]; omega) harg (by rw [hlen]; exact hb) h5, ?_⟩
    rw [← h3, List.drop_left]
    refine fin _ (len + 1) rfl (by rw [alloc_f]; exact if_pos rfl) (fun i hi hv => ?_) (by rw [List.length_append, h4, hcn, Nat.succ_mul])
    have hne : i ≠ id' := fun e => hv (by subst e; exact ⟨_, _, _, rfl⟩)
    rw [alloc_f, if_neg (by show i ≠ H.n; omega), put_f, if_neg hne]

variable {P : Program} {q : Bool} {ops r : List Oper} {i : Nat} {s : Nat → TV} {K : (Nat → TV) → Heap → Prop} {dst : Option Tmp} {ty : TypeId} {pos : String} {after : Array Edge}
theorem sk_make {t e : TypeId} {bys : Nat} {x y : Operand} {a b : Int} (hs : Sep H l) (z : α) (zc : List AV) (R : Heap → α → List AV → Prop) (I : Inn α) (h7 : 0 ≤ a ∧ a ≤ b ∧ b ≤ 2 ^ 40 ∧ b * bys ≤ 2 ^ 40) (hR : ∀ H, R H z zc) (hI : ∃ m0, I z zc = .osl .nilsl m0 []) (hx : aeval s x = .v (.int .i64 a)) (hy : aeval s y = .v (.int .i64 b)) (h1 : telem P t = some e) (h2 : tsz P e = some n) (h3 : tbytes P e = some bys) (h4 : tzero P e = some zc) (hz : zc.length = n)
    (h6 : zc.all AV.stor = true) (hq : q = true → barrier ops i = true) (h : ∀ v ws S H', v ≠ .nilsl → Sep H' (dpc v n R I (List.replicate a.toNat z) ws S :: l) → wops P q ops r (i + 1) (aput s dst (.v v)) H' K) :
    wops P q ops ({ dst, op := .makeSlice t x y, type := ty, pos, after, guard := none } :: r) i s H K :=
  so_make hx hy h1 h2 h3 h4 hz h6 h7 (fun hh => .inr (hq hh)) (h _ _ _ _ (by simp) (hs.dmake z zc a.toNat R I hz hR hI))
theorem sk_empty {t e : TypeId} {z : List AV} (hs : Sep H l) (R : Heap → α → List AV → Prop) (I : Inn α) (h1 : telem P t = some e) (h2 : tsz P e = some n) (h3 : tzero P e = some z) (h4 : z.length = n) (hq : q = true → barrier ops i = true)
    (h : ∀ v ws S H', v ≠ .nilsl → Sep H' (dpc v n R I ([] : List α) ws S :: l) → wops P q ops r (i + 1) (aput s dst (.v v)) H' K) :
    wops P q ops ({ dst, op := .buildSlice t 0 ([] : List (Nat × Operand)).toArray, type := ty, pos, after, guard := none } :: r) i s H K := by
  refine so_bslice (css := []) (cs := []) h1 h2 h3 h4 rfl rfl (fun c hc => absurd hc (List.not_mem_nil)) (fun c hc => absurd hc (List.not_mem_nil)) (by omega) rfl (fun hh => .inr (hq hh)) (h _ [] (fun _ => False) _ (by simp) ?_)
  refine hs.add (Nat.le_succ _) (fun i hi => by rw [alloc_f, if_neg (Nat.ne_of_lt hi)]) (DOwn.holds ⟨.inr ⟨H.n, 0, 0, [], rfl, rfl, by simp [enc], Nat.lt_succ_self _, by rw [alloc_f, if_pos rfl]; rfl⟩, fun c hc => absurd hc (List.not_mem_nil), fun _ h => h.elim, fun _ _ h => h, rfl, fun j x c h => by simp at h, trivial, fun p hp => absurd hp (List.not_mem_nil)⟩) fun i hi => ?_
  rcases hi with ⟨_, _, _, hi⟩ | hi
  · cases hi; exact Nat.le_refl _
  · exact hi.elim
theorem sk_set {t : TypeId} {a y : Operand} {u : AV} {m : Nat} {cs : List AV} (hs : Sep H (.osl u m cs :: l)) (k : Nat) {z : Int} {w : TV} (hk : nth l k = some (dpc v n R I xs ws S)) (h0 : 0 ≤ z ∧ z < xs.length) (x : α) (c : List AV) (hR : ∀ H', Shows H' u m cs → R H' x c) (hI : I x c = .osl u m cs) (hcn : c.length = n) (hn : 0 < n) (hst : c.all AV.stor = true)
    (hx : aeval s a = .v (.ptr v.id0 (v.of0 + z.toNat * n))) (hy : aeval s y = w) (hc : w.cells = some c) (ht : tsz P t = some n) (hq : q = true → barrier ops i = true)
    (h : ∀ ws S H', Sep H' (putP l k (dpc v n R I (xs.set z.toNat x) ws S)) → wops P q ops r (i + 1) (aput s dst (.v .und)) H' K) :
    wops P q ops ({ dst, op := .store t a y, type := ty, pos, after, guard := none } :: r) i s H K := by
  obtain ⟨H', h1, h2⟩ := hs.dset k hk h0 x c hcn hn hst hR hI
  exact so_store hx hy hc ht hcn h1 (fun hh => .inr (hq hh)) (h _ _ H' h2)
theorem sk_app {b0 b1 : TypeId} {x y : Operand} {u w : AV} {m bytes : Nat} {cs : List AV} (hs : Sep H (.osl u m cs :: l)) (k : Nat) (hk : nth l k = some (dpc v n R I xs ws S)) (x0 : α) (c : List AV) (hw : Shows H w n (enc id [c])) (hR : ∀ H', Shows H' u m cs → R H' x0 c) (hI : I x0 c = .osl u m cs) (hcn : c.length = n) (hn : 0 < n) (ht : tapp P b0 b1 = some (n, bytes)) (h5 : bytes ≠ 0)
    (hb : (xs.length + ([x0] : List α).length) * bytes ≤ 2 ^ 40) (hx : aeval s x = .v v) (hy : aeval s y = .v w) (hq : q = true → barrier ops i = true)
    (h : ∀ v' ws S H', Sep H' (putP l k (dpc v' n R I (xs ++ [x0]) ws S)) → wops P q ops r (i + 1) (aput s dst (.v v')) H' K) :
    wops P q ops ({ dst, op := .call { callee := .builtin .append, args := [x, y].toArray, argTypes := [b0, b1].toArray }, type := ty, pos, after, guard := none } :: r) i s H K := by
  obtain ⟨v', H', h1, h2⟩ := hs.dapp k hk x0 c hw hcn hn hR hI hb h5
  exact so_app hx hy ht h1 (fun hh => .inr (hq hh)) (h v' _ _ H' h2)
end

/-! ### what an element leads to, lent and given back; a cell of an element -/
section
variable {α : Type} {v : AV} {n : Nat} {R : Heap → α → List AV → Prop} {I : Inn α} {xs : List α} {ws : List (List AV)} {S : Nat → Prop} {H : Heap} {l : List Pc}
/-- All but what element z leads to. -/
def lpc {α : Type} (v : AV) (n : Nat) (R : Heap → α → List AV → Prop) (I : Inn α) (xs : List α) (ws : List (List AV)) (S : Nat → Prop) (z : Nat) (w : AV) (m : Nat) : Pc :=
  .ex (fun i => (rowOf v i ∨ S i) ∧ ¬ rowOf w i) (fun H => ∀ H' : Heap, H.n ≤ H'.n → (∀ i, (rowOf v i ∨ S i) ∧ ¬ rowOf w i → H'.f i = H.f i) → ∀ x' cs', I x' (ws.getD z []) = .osl w m cs' → (∀ H'', Shows H'' w m cs' → R H'' x' (ws.getD z [])) → (Pc.osl w m cs').holds H' → DOwn v n R I (xs.set z x') ws S H')
theorem mem_putP {q : Pc} : ∀ {l : List Pc} {k : Nat} {y : Pc}, y ∈ putP l k q → y = q ∨ y ∈ delP l k
  | [], k, y, h => absurd h (by cases k <;> exact List.not_mem_nil)
  | x :: l, 0, y, h => by
    rcases List.mem_cons.1 h with h | h
    · exact .inl h
    · exact .inr h
  | x :: l, k + 1, y, h => by
    rcases List.mem_cons.1 h with h | h
    · exact .inr (h ▸ List.mem_cons_self ..)
    · rcases mem_putP (l := l) (k := k) h with h | h
      · exact .inl h
      · exact .inr (List.mem_cons_of_mem _ h)
theorem Sep.lend (h : Sep H l) (k : Nat) (hk : Go.Ab.nth l k = some (dpc v n R I xs ws S)) {z : Int} (h0 : 0 ≤ z ∧ z < xs.length) (d : α) {w : AV} {m : Nat} {cs : List AV} (hI : I (xs.getD z.toNat d) (ws.getD z.toNat []) = .osl w m cs) :
    Sep H (.osl w m cs :: putP l k (lpc v n R I xs ws S z.toNat w m)) := by
  have hd : DOwn v n R I xs ws S H := (h.nth hk).2.1
  have hlen := hd.len
  obtain ⟨h1, h2⟩ := getD_lt h0 d
  obtain ⟨h3, h4⟩ := getD_lt (xs := ws) (z := z) ⟨h0.1, by omega⟩ ([] : List AV)
  have ex : xs[z.toNat]? = some (xs.getD z.toNat d) := by rw [h2, List.getElem?_eq_getElem h1]
  have ew : ws[z.toNat]? = some (ws.getD z.toNat []) := by rw [h4, List.getElem?_eq_getElem h3]
  have hmem : Pc.osl w m cs ∈ List.zipWith I xs ws := hI ▸ mem_zip ex ew
  have hz : (List.zipWith I xs ws)[z.toNat]? = some (.osl w m cs) := by rw [List.getElem?_zipWith, ex, ew, ← hI]
  have hp : (Pc.osl w m cs).holds H := hd.inn.mem _ hmem
  have hat : ∀ i, (Pc.osl w m cs).at i → S i := (hd.ins _ hmem).2
  have wand : ∀ H' : Heap, H.n ≤ H'.n → (∀ i, (rowOf v i ∨ S i) ∧ ¬ rowOf w i → H'.f i = H.f i) → ∀ x' cs', I x' (ws.getD z.toNat []) = .osl w m cs' → (∀ H'', Shows H'' w m cs' → R H'' x' (ws.getD z.toNat [])) → (Pc.osl w m cs').holds H' → DOwn v n R I (xs.set z.toNat x') ws S H' := by
    intro H' hn hf x' cs' e1 e2 e3
    have ezs : ws.set z.toNat (ws.getD z.toNat []) = ws := set_self ew
    have ezw : List.zipWith I (xs.set z.toNat x') ws = (List.zipWith I xs ws).set z.toNat (.osl w m cs') := by
      conv => lhs; rw [← ezs]
      rw [zip_set, e1]
    have other : ∀ j q, j ≠ z.toNat → (List.zipWith I xs ws)[j]? = some q → q.isOwn = true ∧ ∀ i, q.at i → S i ∧ ¬ rowOf w i := fun j q hj hq =>
      ⟨(hd.ins q (List.mem_of_getElem? hq)).1, fun i hi => ⟨(hd.ins q (List.mem_of_getElem? hq)).2 i hi, fun hw => sep_apart hd.inn hj hq hz (.inr rfl) i hi hw⟩⟩
    refine ⟨?_, hd.size, fun i hi => Nat.lt_of_lt_of_le (hd.low i hi) hn, hd.off, by rw [List.length_set]; exact hlen, fun j x c hx hc H2 hn2 hf2 => ?_, ?_, fun p hp2 => ?_⟩
    · rcases hd.own with g1 | ⟨id', off, len, pre, g1, g2, g3, g4, g5⟩
      · exact .inl g1
      · have hv : rowOf v id' := ⟨_, _, _, g1⟩
        exact .inr ⟨id', off, len, pre, g1, g2, g3, Nat.lt_of_lt_of_le g4 hn, by rw [hf id' ⟨.inl hv, fun hw => hd.off id' hv (hat id' hw)⟩]; exact g5⟩
    · by_cases hj : z.toNat = j
      · subst hj
        rw [List.getElem?_set_self h1] at hx
        rw [ew] at hc
        cases hx; cases hc
        rw [e1] at hf2
        refine e2 H2 ((Shows.of_own e3).frame hn2 fun off len e => hf2 _ ⟨off, len, m, e⟩)
      · rw [List.getElem?_set_ne hj] at hx
        have hq : (List.zipWith I xs ws)[j]? = some (I x c) := by rw [List.getElem?_zipWith, hx, hc]
        refine hd.loc j x c hx hc H2 (Nat.le_trans hn hn2) fun i hi => ?_
        have := (other j _ (Ne.symm hj) hq).2 i hi
        rw [hf2 i hi, hf i ⟨.inr this.1, this.2⟩]
    · rw [ezw]
      -- the others lie as they did; piece z is as it is given
      have key : ∀ (L : List Pc) (j0 : Nat), Sep H L → (∀ j q, j ≠ j0 → L[j]? = some q → ∀ i, q.at i → H'.f i = H.f i) → L[j0]? = some (.osl w m cs) → Sep H' (L.set j0 (.osl w m cs')) := by
        intro L
        induction L with
        | nil => intro j0 _ _ hq; simp at hq
        | cons p L ih =>
          intro j0 hs ho hq
          cases j0 with
          | zero =>
            cases hq
            refine ⟨e3, fun q hq2 ho2 i hi hi2 => hs.2.1 q hq2 (.inl rfl) i hi hi2, hs.2.2.frame hn fun q hq2 i hi => ?_⟩
            obtain ⟨j, hj, rfl⟩ := List.mem_iff_getElem.1 hq2
            exact ho (j + 1) _ (by omega) (by rw [List.getElem?_cons_succ, List.getElem?_eq_getElem hj]) i hi
          | succ j0 =>
            rw [List.set_cons_succ]
            rw [List.getElem?_cons_succ] at hq
            refine ⟨Pc.frame hs.1 hn (ho 0 p (by omega) rfl), fun q hq2 => ?_, ih j0 hs.2.2 (fun j q hj hq3 => ho (j + 1) q (by omega) (by rw [List.getElem?_cons_succ]; exact hq3)) hq⟩
            rcases List.mem_or_eq_of_mem_set hq2 with hq2 | rfl
            · exact hs.2.1 q hq2
            · intro ho2 i hi hi2
              exact hs.2.1 (.osl w m cs) (List.mem_of_getElem? hq) (.inr rfl) i hi hi2
      exact key _ _ hd.inn (fun j q hj hq i hi => by
        have := (other j q hj hq).2 i hi
        exact hf i ⟨.inr this.1, this.2⟩) hz
    · rw [ezw] at hp2
      rcases List.mem_or_eq_of_mem_set hp2 with hp2 | rfl
      · exact hd.ins p hp2
      · exact ⟨rfl, hat⟩
  have hb : Sep H (putP l k (lpc v n R I xs ws S z.toNat w m)) := by
    refine h.change hk rfl (Nat.le_refl _) (fun _ _ _ => rfl) ⟨fun i hi => Pc.at_lt (h.nth hk) hi.1, ?_, fun H' hn hf H2 hn2 hf2 x' cs' e1 e2 e3 => ?_⟩ (fun i hi => .inl hi.1)
    · intro H' hn hf x' cs' e1 e2 e3
      exact wand H' hn hf x' cs' e1 e2 e3
    · exact wand H2 (Nat.le_trans hn hn2) (fun i hi => (hf2 i hi).trans (hf i hi)) x' cs' e1 e2 e3
  refine ⟨hp, fun q hq ho i h5 h6 => ?_, hb⟩
  rcases mem_putP hq with rfl | hq
  · exact h6.2 h5
  · exact apart_nth h hk q hq (.inl rfl) i (.inr (hat i h5)) h6
theorem Sep.give {w : AV} {m : Nat} {cs' : List AV} {z : Nat} (h : Sep H (.osl w m cs' :: l)) (k : Nat) (hk : Go.Ab.nth l k = some (lpc v n R I xs ws S z w m)) (x' : α) (hI : I x' (ws.getD z []) = .osl w m cs') (hR : ∀ H'', Shows H'' w m cs' → R H'' x' (ws.getD z [])) :
    Sep H (putP l k (dpc v n R I (xs.set z x') ws S)) := by
  have hq := (h.tl.nth hk).2.1
  have hd := hq H (Nat.le_refl _) (fun _ _ => rfl) x' cs' hI hR h.hd
  refine Sep.join k h hk rfl rfl (Nat.le_refl _) (fun _ _ _ _ => rfl) (DOwn.holds hd) fun i hi => ?_
  rcases Classical.em (rowOf w i) with hw | hw
  · exact .inl hw
  · exact .inr (.inl ⟨hi, hw⟩)
theorem denc_at (hc : ∀ c ∈ ws, c.length = n) {k : Nat} (hk : k < ws.length) : ((enc id ws).drop (k * n)).take n = ws.getD k [] := by
  induction ws generalizing k with
  | nil => simp at hk
  | cons c l ih =>
    have hcn : (id c : List AV).length = n := hc c (List.mem_cons_self ..)
    cases k with
    | zero => rw [Nat.zero_mul, List.drop_zero, enc_cons, ← hcn, List.take_left]; rfl
    | succ k =>
      rw [enc_cons, Nat.succ_mul, Nat.add_comm, ← List.drop_drop]
      rw [show ((id c : List AV) ++ enc id l).drop n = enc id l by rw [← hcn, List.drop_left]]
      rw [ih (fun c hc' => hc c (List.mem_cons_of_mem _ hc')) (by simpa using hk)]
      rfl
/-- A cell of an element is changed; what the element leads to is as it was. -/
theorem Sep.dsetf (hs : Sep H l) (k : Nat) (hk : Go.Ab.nth l k = some (dpc v n R I xs ws S)) {z : Int} (h0 : 0 ≤ z ∧ z < xs.length) (d x : α) (j : Nat) {w : AV} {c' : List AV} (hj : j < n) (hst : w.stor = true) (hc : splice (ws.getD z.toNat []) [w] j = c') (hR : ∀ H', R H' (xs.getD z.toNat d) (ws.getD z.toNat []) → R H' x c') (hI : I x c' = I (xs.getD z.toNat d) (ws.getD z.toNat [])) :
    ∃ H', wrCells H v.id0 (v.of0 + z.toNat * n + j) [w] = some H' ∧ Sep H' (putP l k (dpc v n R I (xs.set z.toNat x) (ws.set z.toNat c') S)) := by
  have hd : DOwn v n R I xs ws S H := (hs.nth hk).2.1
  have hl := hd.len
  obtain ⟨g1, g2⟩ := getD_lt h0 d
  obtain ⟨g3, g4⟩ := getD_lt (xs := ws) (z := z) ⟨h0.1, by omega⟩ ([] : List AV)
  have ex : xs[z.toNat]? = some (xs.getD z.toNat d) := by rw [g2, List.getElem?_eq_getElem g1]
  have ew : ws[z.toNat]? = some (ws.getD z.toNat []) := by rw [g4, List.getElem?_eq_getElem g3]
  have hcl : (ws.getD z.toNat []).length = n := hd.size _ (List.mem_of_getElem? ew)
  have hcn : c'.length = n := by rw [← hc, splice_len _ _ _ (by rw [hcl]; exact hj), hcl]
  have hsz : ∀ c ∈ ws.set z.toNat c', c.length = n := fun c hc' => by
    rcases List.mem_or_eq_of_mem_set hc' with h | h
    · exact hd.size c h
    · rw [h]; exact hcn
  have hm : z.toNat * n + n ≤ ws.length * n := by rw [← Nat.succ_mul]; exact Nat.mul_le_mul_right _ g3
  rcases hd.own with ⟨h2, h3⟩ | ⟨id', off, len, pre, h2, h3, h4, h5, h6⟩
  · have := dlen hd.size
    rw [h3, List.length_nil] at this
    omega
  · subst h2
    refine ⟨_, wrCells_own h6 (by show off + z.toNat * n + j + _ ≤ _; rw [List.length_append, dlen hd.size]; simp; omega) (by simp [hst]), ?_⟩
    show Sep (H.put id' (.own (splice (pre ++ enc id ws) [w] (off + z.toNat * n + j)))) _
    rw [Nat.add_assoc, splice_pre pre _ _ off _ h3, splice_mid _ _ _ n j (by rw [dlen hd.size]; exact hm) (by simp; omega), denc_at hd.size g3, hc, dsplice hd.size _ g3 c' hcn]
    have hput : ∀ i, i ≠ id' → (H.put id' (.own (pre ++ enc id (ws.set z.toNat c')))).f i = H.f i := fun i h => by rw [put_f, if_neg h]
    have hSne : ∀ i, S i → i ≠ id' := fun i hi e => hd.off id' ⟨_, _, _, rfl⟩ (e ▸ hi)
    have ezw : List.zipWith I (xs.set z.toNat x) (ws.set z.toNat c') = List.zipWith I xs ws := by
      rw [zip_set, hI]
      exact set_self (by rw [List.getElem?_zipWith, ex, ew])
    have hnew : DOwn (.sl id' off len n) n R I (xs.set z.toNat x) (ws.set z.toNat c') S (H.put id' (.own (pre ++ enc id (ws.set z.toNat c')))) := by
      refine ⟨.inr ⟨id', off, len, pre, rfl, h3, ?_, h5, by rw [put_f, if_pos rfl]⟩, hsz, hd.low, hd.off, by rw [List.length_set, List.length_set]; exact hl, fun j2 y c hx hc2 H2 hn2 hf2 => ?_, ?_, fun p hp => ?_⟩
      · rw [dlen hsz, List.length_set, ← dlen hd.size]; exact h4
      · by_cases hj2 : z.toNat = j2
        · subst hj2
          rw [List.getElem?_set_self g1] at hx
          rw [List.getElem?_set_self g3] at hc2
          cases hx; cases hc2
          rw [hI] at hf2
          refine hR H2 (hd.loc _ _ _ ex ew H2 hn2 fun i hi => ?_)
          rw [hf2 i hi, hput i (hSne i ((hd.ins _ (mem_zip ex ew)).2 i hi))]
        · rw [List.getElem?_set_ne hj2] at hx hc2
          refine hd.loc j2 y c hx hc2 H2 hn2 fun i hi => ?_
          rw [hf2 i hi, hput i (hSne i ((hd.ins _ (mem_zip hx hc2)).2 i hi))]
      · rw [ezw]; exact hd.inn.frame (Nat.le_refl _) fun p hp i hi => hput i (hSne i ((hd.ins p hp).2 i hi))
      · rw [ezw] at hp; exact hd.ins p hp
    refine hs.change hk rfl (Nat.le_refl _) (fun i hi hne => hput i fun e => hne (.inl (e ▸ ⟨_, _, _, rfl⟩))) (DOwn.holds hnew) fun i hi => .inl hi
variable {P : Program} {q : Bool} {ops r : List Oper} {i : Nat} {s : Nat → TV} {K : (Nat → TV) → Heap → Prop} {dst : Option Tmp} {ty : TypeId} {pos : String} {after : Array Edge}
theorem sk_setf {t : TypeId} {a y : Operand} (hs : Sep H l) (k : Nat) (hk : nth l k = some (dpc v n R I xs ws S)) {z : Int} (h0 : 0 ≤ z ∧ z < xs.length) (d x : α) (j : Nat) {w : AV} {c' : List AV} (hj : j < n) (hst : w.stor = true) (hc : splice (ws.getD z.toNat []) [w] j = c') (hR : ∀ H', R H' (xs.getD z.toNat d) (ws.getD z.toNat []) → R H' x c') (hI : I x c' = I (xs.getD z.toNat d) (ws.getD z.toNat []))
    (hx : aeval s a = .v (.ptr v.id0 (v.of0 + z.toNat * n + j))) (hy : aeval s y = .v w) (ht : tsz P t = some 1) (hq : q = true → barrier ops i = true)
    (h : ∀ H', Sep H' (putP l k (dpc v n R I (xs.set z.toNat x) (ws.set z.toNat c') S)) → wops P q ops r (i + 1) (aput s dst (.v .und)) H' K) :
    wops P q ops ({ dst, op := .store t a y, type := ty, pos, after, guard := none } :: r) i s H K := by
  obtain ⟨H', h1, h2⟩ := hs.dsetf k hk h0 d x j hj hst hc hR hI
  exact so_store hx hy rfl ht rfl h1 (fun hh => .inr (hq hh)) (h H' h2)
end
end Go.Ab
