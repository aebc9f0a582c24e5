/-
  SLICES OF WHAT HOLDS SLICES, OWN: a row of elements and the rows that they lead to, as one piece. By an AI agent; nothing here is trusted.
-/
import Derived.Test.YtmbkjkcolmoioaaGreatDoorAbU
namespace Go.Ab
set_option linter.unusedVariables false
set_option linter.unusedSimpArgs false

def rowOf (v : AV) (i : Nat) : Prop := ∃ off len n, v = .sl i off len n
/-- An own row of elements; what they lead to lies in S. -/
structure DOwn {α : Type} (v : AV) (n : Nat) (R : Heap → α → List AV → Prop) (xs : List α) (ws : List (List AV)) (S : Nat → Prop) (H : Heap) : Prop where
  own : (v = .nilsl ∧ enc id ws = []) ∨ ∃ id' off len pre, v = .sl id' off len n ∧ pre.length = off ∧ (enc id ws).length = len * n ∧ id' < H.n ∧ H.f id' = .own (pre ++ enc id ws)
  size : ∀ c ∈ ws, c.length = n
  low : ∀ i, S i → i < H.n
  off : ∀ i, rowOf v i → ¬ S i
  all : ∀ H' : Heap, H.n ≤ H'.n → (∀ i, S i → H'.f i = H.f i) → All2 (R H') xs ws
/-- The piece. -/
def dpc {α : Type} (v : AV) (n : Nat) (R : Heap → α → List AV → Prop) (xs : List α) (ws : List (List AV)) (S : Nat → Prop) : Pc := .ex (fun i => rowOf v i ∨ S i) (DOwn v n R xs ws S)
theorem DOwn.holds {α : Type} {v : AV} {n : Nat} {R : Heap → α → List AV → Prop} {xs : List α} {ws : List (List AV)} {S : Nat → Prop} {H : Heap} (h : DOwn v n R xs ws S H) : (dpc v n R xs ws S).holds H := by
  refine ⟨fun i hi => ?_, h, fun H' hn hf => ⟨?_, h.size, fun i hi => Nat.lt_of_lt_of_le (h.low i hi) hn, h.off, fun H2 hn2 hf2 => h.all H2 (Nat.le_trans hn hn2) fun i hi => (hf2 i hi).trans (hf i (.inr hi))⟩⟩
  · rcases hi with ⟨_, _, _, hi⟩ | hi
    · rcases h.own with ⟨h1, _⟩ | ⟨_, _, _, _, h1, _, _, h2, _⟩
      · rw [h1] at hi; cases hi
      · rw [h1] at hi; cases hi; exact h2
    · exact h.low i hi
  · rcases h.own with h1 | ⟨id', off, len, pre, h1, h2, h3, h4, h5⟩
    · exact .inl h1
    · exact .inr ⟨id', off, len, pre, h1, h2, h3, Nat.lt_of_lt_of_le h4 hn, by rw [hf id' (.inl ⟨_, _, _, h1⟩)]; exact h5⟩

section
variable {α : Type} {v : AV} {n : Nat} {R : Heap → α → List AV → Prop} {xs : List α} {ws : List (List AV)} {S : Nat → Prop} {H : Heap} {l : List Pc}
theorem DOwn.shows (h : DOwn v n R xs ws S H) : DSh H v n R xs ws := ⟨.of_own (n := n) h.own, h.size, h.all H (Nat.le_refl _) fun _ _ => rfl⟩
theorem Sep.dshows (h : Sep H l) (k : Nat) (hk : Go.Ab.nth l k = some (dpc v n R xs ws S)) : DSh H v n R xs ws := DOwn.shows (h.nth hk).2.1
theorem dlen (hc : ∀ c ∈ ws, c.length = n) : (enc id ws).length = ws.length * n := by
  induction ws with
  | nil => simp [enc]
  | cons c l ih =>
    rw [enc_cons, List.length_append, ih fun c hc' => hc c (List.mem_cons_of_mem _ hc'), List.length_cons, Nat.succ_mul]
    have : (id c : List AV).length = n := hc c (List.mem_cons_self ..)
    omega
/-- Nothing yet. -/
theorem Sep.dnil (h : Sep H l) (n : Nat) (R : Heap → α → List AV → Prop) : Sep H (dpc .nilsl n R [] [] (fun _ => False) :: l) := by
  refine h.add (Nat.le_refl _) (fun _ _ => rfl) (DOwn.holds ⟨.inl ⟨rfl, rfl⟩, fun c hc => absurd hc (List.not_mem_nil), fun _ h => h.elim, fun _ _ h => h, fun _ _ _ => trivial⟩) fun i hi => ?_
  rcases hi with ⟨_, _, _, hi⟩ | hi
  · cases hi
  · exact hi.elim
/-- What is zero in each place. -/
theorem Sep.dmake (h : Sep H l) (z : α) (zc : List AV) (m : Nat) (R : Heap → α → List AV → Prop) (hz : zc.length = n) (hR : ∀ H, R H z zc) :
    Sep (H.alloc (.own (zerosOf zc m))) (dpc (.sl H.n 0 m n) n R (List.replicate m z) (List.replicate m zc) (fun _ => False) :: l) := by
  have e : zerosOf zc m = enc id (List.replicate m zc) := zerosOf_enc (α := List AV) id zc m
  have hsz : ∀ c ∈ List.replicate m zc, c.length = n := fun c hc => by rw [(List.mem_replicate.1 hc).2]; exact hz
  have hall : ∀ m, ∀ H, All2 (R H) (List.replicate m z) (List.replicate m zc) := fun m H => by
    induction m with
    | zero => trivial
    | succ m ih => rw [List.replicate_succ, List.replicate_succ]; exact ⟨hR H, ih⟩
  have hl := dlen hsz
  rw [List.length_replicate] at hl
  refine h.add (Nat.le_succ _) (fun i hi => by rw [alloc_f, if_neg (Nat.ne_of_lt hi)]) (DOwn.holds ⟨.inr ⟨H.n, 0, m, [], rfl, rfl, hl, Nat.lt_succ_self _, by rw [alloc_f, if_pos rfl, e]; rfl⟩, hsz, fun _ h => h.elim, fun _ _ h => h, fun H' _ _ => hall m H'⟩) fun i hi => ?_
  rcases hi with ⟨_, _, _, hi⟩ | hi
  · cases hi; exact Nat.le_refl _
  · exact hi.elim
theorem All2.set {γ δ : Type} {Q : γ → δ → Prop} : ∀ {as : List γ} {bs : List δ} (i : Nat) {a : γ} {b : δ}, All2 Q as bs → Q a b → All2 Q (as.set i a) (bs.set i b)
  | [], [], _, _, _, _, _ => trivial
  | _ :: _, _ :: _, 0, _, _, h, k => ⟨k, h.2⟩
  | _ :: as, _ :: bs, i + 1, _, _, h, k => ⟨h.1, All2.set (as := as) (bs := bs) i h.2 k⟩
  | [], _ :: _, _, _, _, h, _ => h.elim
  | _ :: _, [], _, _, _, h, _ => h.elim
theorem dsplice (hc : ∀ c ∈ ws, c.length = n) (i : Nat) (hi : i < ws.length) (c : List AV) (hcn : c.length = n) : splice (enc id ws) c (i * n) = enc id (ws.set i c) := by
  induction ws generalizing i with
  | nil => simp at hi
  | cons w ws ih =>
    have hw : (id w : List AV).length = n := hc w (List.mem_cons_self ..)
    cases i with
    | zero =>
      rw [Nat.zero_mul, splice_zero, List.set_cons_zero, enc_cons, enc_cons, hcn, ← hw, List.drop_left]; rfl
    | succ i =>
      rw [enc_cons, List.set_cons_succ, enc_cons, Nat.succ_mul, Nat.add_comm, splice_pre _ _ _ _ _ hw, ih (fun c h => hc c (List.mem_cons_of_mem _ h)) i (by simpa using hi)]
/-- Two own pieces of which one comes to hold the other. -/
theorem Sep.join {H' : Heap} {p q r : Pc} (k : Nat) (h : Sep H (p :: l)) (hk : Go.Ab.nth l k = some q) (hp : p.isOwn = true) (ho : q.isOwn = true) (hn : H.n ≤ H'.n) (hf : ∀ i, i < H.n → ¬ p.at i → ¬ q.at i → H'.f i = H.f i) (hr : r.holds H') (hat : ∀ i, r.at i → p.at i ∨ q.at i ∨ H.n ≤ i) : Sep H' (putP l k r) := by
  -- p is laid to q first
  have hpq : p.apart q := h.2.1 q (nth_mem hk)
  have h1 : Sep H (putP l k (.ex (fun i => p.at i ∨ q.at i) fun _ => True)) := by
    have key : ∀ {l : List Pc} {k : Nat}, Sep H l → Go.Ab.nth l k = some q → (∀ x ∈ l, p.apart x) → Sep H (putP l k (.ex (fun i => p.at i ∨ q.at i) fun _ => True)) := by
      intro l
      induction l with
      | nil => intro k _ hk; cases hk
      | cons x l ih =>
        intro k hs hk hx
        cases k with
        | zero =>
          cases hk
          refine ⟨⟨fun i hi => ?_, trivial, fun _ _ _ => trivial⟩, fun y hy _ i h1 h2 => ?_, hs.2.2⟩
          · rcases hi with hi | hi
            · exact Pc.at_lt h.1 hi
            · exact Pc.at_lt hs.1 hi
          · rcases h1 with h1 | h1
            · exact hx y (List.mem_cons_of_mem _ hy) (.inl hp) i h1 h2
            · exact hs.2.1 y hy (.inl ho) i h1 h2
        | succ k =>
          refine ⟨hs.1, fun y hy => ?_, ih (k := k) hs.2.2 hk fun y hy => hx y (List.mem_cons_of_mem _ hy)⟩
          have : y = .ex (fun i => p.at i ∨ q.at i) (fun _ => True) ∨ y ∈ l := by
            clear ih hk hx hs
            induction l generalizing k with
            | nil => cases hy
            | cons z l ih2 =>
              cases k with
              | zero => rcases List.mem_cons.1 hy with hy | hy; exact .inl hy; exact .inr (List.mem_cons_of_mem _ hy)
              | succ k =>
                rcases List.mem_cons.1 hy with hy | hy
                · exact .inr (hy ▸ List.mem_cons_self ..)
                · rcases ih2 k hy with h2 | h2
                  · exact .inl h2
                  · exact .inr (List.mem_cons_of_mem _ h2)
          rcases this with rfl | hy'
          · intro _ i h1 h2
            rcases h2 with h2 | h2
            · exact hx x (List.mem_cons_self ..) (.inl hp) i h2 h1
            · exact hs.2.1 q (nth_mem (l := l) (k := k) hk) (.inr ho) i h1 h2
          · exact hs.2.1 y hy'
    exact key h.2.2 hk h.2.1
  have hnth : ∀ {l : List Pc} {k : Nat} {x y : Pc}, Go.Ab.nth l k = some x → Go.Ab.nth (putP l k y) k = some y := by
    intro l
    induction l with
    | nil => intro k x y h; cases h
    | cons z l ih => intro k x y h; cases k with
      | zero => rfl
      | succ k => exact ih (k := k) h
  have hput : ∀ {l : List Pc} {k : Nat} {x y : Pc}, putP (putP l k x) k y = putP l k y := by
    intro l
    induction l with
    | nil => intro k x y; rfl
    | cons z l ih => intro k x y; cases k with
      | zero => rfl
      | succ k => show z :: _ = z :: _; rw [ih]
  have h2 := h1.change (k := k) (q := r) (hnth hk) rfl hn (fun i hi hne => hf i hi (fun c => hne (.inl c)) (fun c => hne (.inr c))) hr (fun i hi => by
    rcases hat i hi with h | h | h
    · exact .inl (.inl h)
    · exact .inl (.inr h)
    · exact .inr h)
  rw [hput] at h2
  exact h2

variable {P : Program} {q : Bool} {ops r : List Oper} {i : Nat} {s : Nat → TV} {K : (Nat → TV) → Heap → Prop} {dst : Option Tmp} {ty : TypeId} {pos : String} {after : Array Edge}
/-- An element with one own slice in it is stored. -/
theorem Sep.dset {u : AV} {m : Nat} {cs : List AV} (hs : Sep H (.osl u m cs :: l)) (k : Nat) (hk : Go.Ab.nth l k = some (dpc v n R xs ws S)) {z : Int} (h0 : 0 ≤ z ∧ z < xs.length) (x : α) (c : List AV) (hcn : c.length = n) (hn : 0 < n) (hst : c.all AV.stor = true) (hR : ∀ H', Shows H' u m cs → R H' x c) :
    ∃ H', wrCells H v.id0 (v.of0 + z.toNat * n) c = some H' ∧ Sep H' (putP l k (dpc v n R (xs.set z.toNat x) (ws.set z.toNat c) (fun i => S i ∨ rowOf u i))) := by
  have hp := hs.hd
  have hq : (dpc v n R xs ws S).holds H := hs.tl.nth hk
  have hd : DOwn v n R xs ws S H := hq.2.1
  have hap : Pc.apart (.osl u m cs) (dpc v n R xs ws S) := hs.2.1 _ (nth_mem hk)
  have hl : xs.length = ws.length := (hd.all H (Nat.le_refl _) fun _ _ => rfl).len
  have h1 : z.toNat < ws.length := by omega
  rcases hd.own with ⟨h2, h3⟩ | ⟨id', off, len, pre, h2, h3, h4, h5, h6⟩
  · have := dlen hd.size
    rw [h3, List.length_nil] at this
    have : ws.length * n ≠ 0 := Nat.mul_ne_zero (by omega) (by omega)
    omega
  · subst h2
    have hm : z.toNat * n + n ≤ ws.length * n := by rw [← Nat.succ_mul]; exact Nat.mul_le_mul_right _ h1
    refine ⟨_, wrCells_own h6 (by show off + z.toNat * n + _ ≤ _; rw [List.length_append, dlen hd.size, hcn]; omega) hst, ?_⟩
    show Sep (H.put id' (.own (splice (pre ++ enc id ws) c (off + z.toNat * n)))) _
    rw [splice_pre pre _ c off _ h3, dsplice hd.size _ h1 c hcn]
    have hsz : ∀ c' ∈ ws.set z.toNat c, c'.length = n := fun c' hc' => by
      rcases List.mem_or_eq_of_mem_set hc' with h | h
      · exact hd.size c' h
      · rw [h]; exact hcn
    have hne : ∀ i, rowOf u i → i ≠ id' := fun i hi e => by
      subst e
      exact hap (.inl rfl) i hi (.inl ⟨_, _, _, rfl⟩)
    have hSne : ∀ i, S i → i ≠ id' := fun i hi e => hd.off id' ⟨_, _, _, rfl⟩ (e ▸ hi)
    refine Sep.join k hs hk rfl rfl (Nat.le_refl _) (fun i hi _ hq' => ?_) (DOwn.holds ⟨.inr ⟨id', off, len, pre, rfl, h3, ?_, h5, by rw [put_f, if_pos rfl]⟩, hsz, fun i hi => ?_, fun i hi hS => ?_, fun H' hn' hf' => ?_⟩) (fun i hi => ?_)
    · rw [put_f, if_neg]
      rintro rfl
      exact hq' (.inl ⟨_, _, _, rfl⟩)
    · rw [dlen hsz, List.length_set, ← dlen hd.size]; exact h4
    · rcases hi with hi | hi
      · exact hd.low i hi
      · exact Pc.at_lt hp hi
    · obtain ⟨_, _, _, hi⟩ := hi
      cases hi
      rcases hS with hS | hS
      · exact hd.off id' ⟨_, _, _, rfl⟩ hS
      · exact hne id' hS rfl
    · refine All2.set _ (hd.all H' hn' fun i hi => ?_) (hR H' ((Shows.of_own hp).frame hn' fun off' len' e => ?_))
      · rw [hf' i (.inl hi), put_f, if_neg (hSne i hi)]
      · have hr : rowOf u u.id0 := ⟨off', len', m, e⟩
        rw [hf' _ (.inr hr), put_f, if_neg (hne _ hr)]
    · rcases hi with hi | hi | hi
      · exact .inr (.inl (.inl hi))
      · exact .inr (.inl (.inr hi))
      · exact .inl hi
/-- An element with one own slice in it is appended. -/
theorem Sep.dapp {u w : AV} {m bytes : Nat} {cs : List AV} (hs : Sep H (.osl u m cs :: l)) (k : Nat) (hk : Go.Ab.nth l k = some (dpc v n R xs ws S)) (x : α) (c : List AV) (hw : Shows H w n (enc id [c])) (hcn : c.length = n) (hn : 0 < n) (hR : ∀ H', Shows H' u m cs → R H' x c)
    (hb : (xs.length + 1) * bytes ≤ 2 ^ 40) (h5 : bytes ≠ 0) : ∃ v' H', aappend H n bytes v w = some (.v v', H') ∧ Sep H' (putP l k (dpc v' n R (xs ++ [x]) (ws ++ [c]) (fun i => S i ∨ rowOf u i))) := by
  have hp := hs.hd
  have hq : (dpc v n R xs ws S).holds H := hs.tl.nth hk
  have hd : DOwn v n R xs ws S H := hq.2.1
  have hap : Pc.apart (.osl u m cs) (dpc v n R xs ws S) := hs.2.1 _ (nth_mem hk)
  have hl : xs.length = ws.length := (hd.all H (Nat.le_refl _) fun _ _ => rfl).len
  have he1 : enc id [c] = c := by show c ++ [] = c; simp
  have harg : cellsOfArg H n w = some (1, c) := by
    rw [he1] at hw
    rcases hw with ⟨_, h2⟩ | ⟨id', off, len, rfl, h2, h3⟩
    · rw [h2] at hcn; simp at hcn; omega
    · have : len = 1 := Nat.eq_of_mul_eq_mul_right hn (by rw [← h2, hcn, Nat.one_mul])
      subst this
      refine arg_sl ?_
      rw [rdCells_eq, ← h2, if_pos h3.2.1, h3.2.2]
  have hsz : ∀ c' ∈ ws ++ [c], c'.length = n := fun c' hc' => by
    rcases List.mem_append.1 hc' with h | h
    · exact hd.size c' h
    · rw [List.mem_singleton.1 h]; exact hcn
  have hea : enc id (ws ++ [c]) = enc id ws ++ c := by rw [enc_append, he1]
  have hlow : ∀ i, (S i ∨ rowOf u i) → i < H.n := fun i hi => by
    rcases hi with hi | hi
    · exact hd.low i hi
    · exact Pc.at_lt hp hi
  -- the end is the same for both beginnings
  have fin : ∀ (H' : Heap) (len' : Nat), H'.n = H.n + 1 → H'.f H.n = .own (enc id ws ++ c) → (∀ i, i < H.n → ¬ rowOf v i → H'.f i = H.f i) → (enc id ws ++ c).length = len' * n → Sep H' (putP l k (dpc (.sl H.n 0 len' n) n R (xs ++ [x]) (ws ++ [c]) (fun i => S i ∨ rowOf u i))) := by
    intro H' len' hn' hf0 hfo hlen'
    have hnv : ∀ i, rowOf u i → ¬ rowOf v i := fun i hi hv => hap (.inl rfl) i hi (.inl hv)
    refine Sep.join k hs hk rfl rfl (by omega) (fun i hi _ hq' => hfo i hi fun hv => hq' (.inl hv)) (DOwn.holds ⟨.inr ⟨H.n, 0, len', [], rfl, rfl, by rw [hea]; exact hlen', by omega, by rw [hf0, hea]; rfl⟩, hsz, fun i hi => by have := hlow i hi; omega, fun i hi hS => ?_, fun H2 hn2 hf2 => ?_⟩) (fun i hi => ?_)
    · obtain ⟨_, _, _, hi⟩ := hi
      cases hi
      have := hlow _ hS
      omega
    · refine All2.append (hd.all H2 (by omega) fun i hi => ?_) ⟨hR H2 ((Shows.of_own hp).frame (by omega) fun off' len2 e => ?_), trivial⟩
      · rw [hf2 i (.inl hi), hfo i (hd.low i hi) fun hv => hd.off i hv hi]
      · have hr : rowOf u u.id0 := ⟨off', len2, m, e⟩
        rw [hf2 _ (.inr hr), hfo _ (Pc.at_lt hp hr) (hnv _ hr)]
    · rcases hi with ⟨_, _, _, hi⟩ | hi | hi
      · cases hi; exact .inr (.inr (Nat.le_refl _))
      · exact .inr (.inl (.inr hi))
      · exact .inl hi
  rcases hd.own with ⟨h2, h3⟩ | ⟨id', off, len, pre, h2, h3, h4, h6, h7⟩
  · subst h2
    have hw0 : ws.length = 0 := by
      have := dlen hd.size
      rw [h3, List.length_nil] at this
      rcases Nat.mul_eq_zero.1 this.symm with h | h <;> omega
    refine ⟨_, _, aappend_nil harg (by decide) (by rw [hl, hw0] at hb; simpa using hb) h5, ?_⟩
    refine fin _ 1 rfl (by rw [alloc_f, if_pos rfl, h3]; rfl) (fun i hi _ => by rw [alloc_f, if_neg (Nat.ne_of_lt hi)]) (by rw [h3, List.nil_append, hcn, Nat.one_mul])
  · subst h2
    have hlen : len = xs.length := by
      rw [dlen hd.size, ← hl] at h4
      exact (Nat.eq_of_mul_eq_mul_right hn h4).symm
    refine ⟨_, _, aappend_sl h7 (by rw [List.length_append]; omega) harg (by rw [hlen]; exact hb) h5, ?_⟩
    rw [← h3, List.drop_left]
    refine fin _ (len + 1) rfl (by rw [alloc_f]; exact if_pos rfl) (fun i hi hv => ?_) (by rw [List.length_append, h4, hcn, Nat.succ_mul])
    have hne : i ≠ id' := fun e => hv (by subst e; exact ⟨_, _, _, rfl⟩)
    rw [alloc_f, if_neg (by show i ≠ H.n; omega), put_f, if_neg hne]

variable {P : Program} {q : Bool} {ops r : List Oper} {i : Nat} {s : Nat → TV} {K : (Nat → TV) → Heap → Prop} {dst : Option Tmp} {ty : TypeId} {pos : String} {after : Array Edge}
theorem sk_make {t e : TypeId} {bys : Nat} {x y : Operand} {a b : Int} (hs : Sep H l) (z : α) (zc : List AV) (R : Heap → α → List AV → Prop) (h7 : 0 ≤ a ∧ a ≤ b ∧ b ≤ 2 ^ 40 ∧ b * bys ≤ 2 ^ 40) (hR : ∀ H, R H z zc) (hx : aeval s x = .v (.int .i64 a)) (hy : aeval s y = .v (.int .i64 b)) (h1 : telem P t = some e) (h2 : tsz P e = some n) (h3 : tbytes P e = some bys) (h4 : tzero P e = some zc) (hz : zc.length = n)
    (h6 : zc.all AV.stor = true) (hq : q = true → barrier ops i = true) (h : ∀ v ws S H', v ≠ .nilsl → Sep H' (dpc v n R (List.replicate a.toNat z) ws S :: l) → wops P q ops r (i + 1) (aput s dst (.v v)) H' K) :
    wops P q ops ({ dst, op := .makeSlice t x y, type := ty, pos, after, guard := none } :: r) i s H K :=
  so_make hx hy h1 h2 h3 h4 hz h6 h7 (fun hh => .inr (hq hh)) (h _ _ _ _ (by simp) (hs.dmake z zc a.toNat R hz hR))
theorem sk_empty {t e : TypeId} {z : List AV} (hs : Sep H l) (R : Heap → α → List AV → Prop) (h1 : telem P t = some e) (h2 : tsz P e = some n) (h3 : tzero P e = some z) (h4 : z.length = n) (hq : q = true → barrier ops i = true)
    (h : ∀ v ws S H', v ≠ .nilsl → Sep H' (dpc v n R ([] : List α) ws S :: l) → wops P q ops r (i + 1) (aput s dst (.v v)) H' K) :
    wops P q ops ({ dst, op := .buildSlice t 0 ([] : List (Nat × Operand)).toArray, type := ty, pos, after, guard := none } :: r) i s H K := by
  refine so_bslice (css := []) (cs := []) h1 h2 h3 h4 rfl rfl (fun c hc => absurd hc (List.not_mem_nil)) (fun c hc => absurd hc (List.not_mem_nil)) (by omega) rfl (fun hh => .inr (hq hh)) (h _ [] (fun _ => False) _ (by simp) ?_)
  refine hs.add (Nat.le_succ _) (fun i hi => by rw [alloc_f, if_neg (Nat.ne_of_lt hi)]) (DOwn.holds ⟨.inr ⟨H.n, 0, 0, [], rfl, rfl, by simp [enc], Nat.lt_succ_self _, by rw [alloc_f, if_pos rfl]; rfl⟩, fun c hc => absurd hc (List.not_mem_nil), fun _ h => h.elim, fun _ _ h => h, fun H' _ _ => trivial⟩) fun i hi => ?_
  rcases hi with ⟨_, _, _, hi⟩ | hi
  · cases hi; exact Nat.le_refl _
  · exact hi.elim
theorem sk_set {t : TypeId} {a y : Operand} {u : AV} {m : Nat} {cs : List AV} (hs : Sep H (.osl u m cs :: l)) (k : Nat) {z : Int} {w : TV} (hk : nth l k = some (dpc v n R xs ws S)) (h0 : 0 ≤ z ∧ z < xs.length) (x : α) (c : List AV) (hR : ∀ H', Shows H' u m cs → R H' x c) (hcn : c.length = n) (hn : 0 < n) (hst : c.all AV.stor = true)
    (hx : aeval s a = .v (.ptr v.id0 (v.of0 + z.toNat * n))) (hy : aeval s y = w) (hc : w.cells = some c) (ht : tsz P t = some n) (hq : q = true → barrier ops i = true)
    (h : ∀ ws S H', Sep H' (putP l k (dpc v n R (xs.set z.toNat x) ws S)) → wops P q ops r (i + 1) (aput s dst (.v .und)) H' K) :
    wops P q ops ({ dst, op := .store t a y, type := ty, pos, after, guard := none } :: r) i s H K := by
  obtain ⟨H', h1, h2⟩ := hs.dset k hk h0 x c hcn hn hst hR
  exact so_store hx hy hc ht hcn h1 (fun hh => .inr (hq hh)) (h _ _ H' h2)
theorem sk_app {b0 b1 : TypeId} {x y : Operand} {u w : AV} {m bytes : Nat} {cs : List AV} (hs : Sep H (.osl u m cs :: l)) (k : Nat) (hk : nth l k = some (dpc v n R xs ws S)) (x0 : α) (c : List AV) (hw : Shows H w n (enc id [c])) (hR : ∀ H', Shows H' u m cs → R H' x0 c) (hcn : c.length = n) (hn : 0 < n) (ht : tapp P b0 b1 = some (n, bytes)) (h5 : bytes ≠ 0)
    (hb : (xs.length + ([x0] : List α).length) * bytes ≤ 2 ^ 40) (hx : aeval s x = .v v) (hy : aeval s y = .v w) (hq : q = true → barrier ops i = true)
    (h : ∀ v' ws S H', Sep H' (putP l k (dpc v' n R (xs ++ [x0]) ws S)) → wops P q ops r (i + 1) (aput s dst (.v v')) H' K) :
    wops P q ops ({ dst, op := .call { callee := .builtin .append, args := [x, y].toArray, argTypes := [b0, b1].toArray }, type := ty, pos, after, guard := none } :: r) i s H K := by
  obtain ⟨v', H', h1, h2⟩ := hs.dapp k hk x0 c hw hcn hn hR hb h5
  exact so_app hx hy ht h1 (fun hh => .inr (hq hh)) (h v' _ _ H' h2)
end

end Go.Ab
