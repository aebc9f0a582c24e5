/-
  OWN ROWS AND KEPT ROWS, told apart: a list of pieces of memory, and what each operation makes of it. By an AI agent; nothing here is trusted.
-/
import Derived.Test.YtfhlhgnipmgfdaaAbQ
namespace Go.Ab
set_option linter.unusedVariables false
set_option linter.unusedSimpArgs false

def AV.id0 : AV → Nat
  | .sl id _ _ _ => id
  | .ptr id _ => id
  | _ => 0
def AV.of0 : AV → Nat
  | .sl _ off _ _ => off
  | .ptr _ off => off
  | _ => 0

/-- A slice of n-cell elements, or nil, that shows these cells. -/
def Shows (H : Heap) (v : AV) (n : Nat) (cs : List AV) : Prop := (v = .nilsl ∧ cs = []) ∨ ∃ id off len, v = .sl id off len n ∧ cs.length = len * n ∧ Row H id off cs

inductive Pc where
  | osl (v : AV) (n : Nat) (cs : List AV)
  | box (id : Nat) (cs : List AV)
  | keep (S : Nat → Prop) (φ : Heap → Prop)
  | ex (S : Nat → Prop) (φ : Heap → Prop)
  | hole (id : Nat)
  | mp (id : Nat) (kk ek : IntKind) (m : List (Int × Int))

def Pc.isOwn : Pc → Bool
  | .keep .. => false
  | _ => true
def Pc.at : Pc → Nat → Prop
  | .osl v _ _, i => ∃ off len n, v = .sl i off len n
  | .box id _, i => i = id
  | .keep S _, i => S i
  | .ex S _, i => S i
  | .hole id, i => i = id
  | .mp id _ _ _, i => i = id
def Pc.holds (H : Heap) : Pc → Prop
  | .osl v n cs => (v = .nilsl ∧ cs = []) ∨ ∃ id off len pre, v = .sl id off len n ∧ pre.length = off ∧ cs.length = len * n ∧ id < H.n ∧ H.f id = .own (pre ++ cs)
  | .box id cs => id < H.n ∧ H.f id = .own cs
  | .keep S φ => (∀ i, S i → i < H.n) ∧ φ H ∧ ∀ H' : Heap, H.n ≤ H'.n → (∀ i, S i → H'.f i = H.f i) → φ H'
  | .ex S φ => (∀ i, S i → i < H.n) ∧ φ H ∧ ∀ H' : Heap, H.n ≤ H'.n → (∀ i, S i → H'.f i = H.f i) → φ H'
  | .hole id => id < H.n ∧ H.f id = .hole
  | .mp id kk ek m => id < H.n ∧ H.f id = .mp kk ek m

def Pc.apart (p q : Pc) : Prop := (p.isOwn = true ∨ q.isOwn = true) → ∀ i, p.at i → q.at i → False

theorem Pc.apart.symm {p q : Pc} (h : p.apart q) : q.apart p := fun ho i hq hp => h ho.symm i hp hq

def Sep (H : Heap) : List Pc → Prop
  | [] => True
  | p :: l => p.holds H ∧ (∀ q ∈ l, p.apart q) ∧ Sep H l

def nth : List Pc → Nat → Option Pc
  | [], _ => none
  | p :: _, 0 => some p
  | _ :: l, k + 1 => nth l k
def putP : List Pc → Nat → Pc → List Pc
  | [], _, _ => []
  | _ :: l, 0, q => q :: l
  | p :: l, k + 1, q => p :: putP l k q
def delP : List Pc → Nat → List Pc
  | [], _ => []
  | _ :: l, 0 => l
  | p :: l, k + 1 => p :: delP l k

theorem Pc.at_lt {H : Heap} {p : Pc} (h : p.holds H) {i : Nat} (hi : p.at i) : i < H.n := by
  cases p with
  | osl v n cs =>
    obtain ⟨off, len, m, rfl⟩ := hi
    rcases h with ⟨h, _⟩ | ⟨id, off', len', pre, h, _, _, h2, _⟩
    · cases h
    · cases h; exact h2
  | box id cs => cases hi; exact h.1
  | keep S φ => exact h.1 i hi
  | ex S φ => exact h.1 i hi
  | hole id => cases hi; exact h.1
  | mp id _ _ _ => cases hi; exact h.1

theorem Pc.frame {H H' : Heap} {p : Pc} (h : p.holds H) (hn : H.n ≤ H'.n) (hf : ∀ i, p.at i → H'.f i = H.f i) : p.holds H' := by
  cases p with
  | osl v n cs =>
    rcases h with h | ⟨id, off, len, pre, rfl, h1, h2, h3, h4⟩
    · exact .inl h
    · exact .inr ⟨id, off, len, pre, rfl, h1, h2, Nat.lt_of_lt_of_le h3 hn, by rw [hf id ⟨_, _, _, rfl⟩]; exact h4⟩
  | box id cs => exact ⟨Nat.lt_of_lt_of_le h.1 hn, by rw [hf id rfl]; exact h.2⟩
  | keep S φ =>
    exact ⟨fun i hi => Nat.lt_of_lt_of_le (h.1 i hi) hn, h.2.2 H' hn hf, fun H2 hn2 hf2 => h.2.2 H2 (Nat.le_trans hn hn2) fun i hi => (hf2 i hi).trans (hf i hi)⟩
  | ex S φ =>
    exact ⟨fun i hi => Nat.lt_of_lt_of_le (h.1 i hi) hn, h.2.2 H' hn hf, fun H2 hn2 hf2 => h.2.2 H2 (Nat.le_trans hn hn2) fun i hi => (hf2 i hi).trans (hf i hi)⟩
  | hole id => exact ⟨Nat.lt_of_lt_of_le h.1 hn, by rw [hf id rfl]; exact h.2⟩
  | mp id kk ek m => exact ⟨Nat.lt_of_lt_of_le h.1 hn, by rw [hf id rfl]; exact h.2⟩

theorem Sep.hd {H : Heap} {p : Pc} {l : List Pc} (h : Sep H (p :: l)) : p.holds H := h.1
theorem Sep.tl {H : Heap} {p : Pc} {l : List Pc} (h : Sep H (p :: l)) : Sep H l := h.2.2
theorem Sep.mem {H : Heap} : ∀ {l : List Pc}, Sep H l → ∀ p ∈ l, p.holds H
  | _ :: l, h, p, hp => by
    rcases List.mem_cons.1 hp with rfl | hp
    · exact h.1
    · exact Sep.mem h.2.2 p hp
theorem nth_mem : ∀ {l : List Pc} {k : Nat} {p : Pc}, nth l k = some p → p ∈ l
  | _ :: _, 0, p, h => by cases h; exact List.mem_cons_self ..
  | _ :: l, k + 1, p, h => List.mem_cons_of_mem _ (nth_mem (l := l) (k := k) h)
theorem Sep.nth {H : Heap} {l : List Pc} (h : Sep H l) {k : Nat} {p : Pc} (hk : nth l k = some p) : p.holds H := h.mem p (nth_mem hk)
theorem delP_mem : ∀ {l : List Pc} {k : Nat} {q : Pc}, q ∈ delP l k → q ∈ l
  | p :: l, 0, q, h => List.mem_cons_of_mem _ h
  | p :: l, k + 1, q, h => by
    rcases List.mem_cons.1 h with rfl | h
    · exact List.mem_cons_self ..
    · exact List.mem_cons_of_mem _ (delP_mem (l := l) h)
theorem Sep.del {H : Heap} : ∀ {l : List Pc} (k : Nat), Sep H l → Sep H (delP l k)
  | [], k, _ => trivial
  | p :: l, 0, h => h.2.2
  | p :: l, k + 1, h => ⟨h.1, fun q hq => h.2.1 q (delP_mem hq), Sep.del k h.2.2⟩
theorem Sep.dropn {H : Heap} : ∀ {l : List Pc} (k : Nat), Sep H l → Sep H (l.drop k)
  | [], 0, _ => trivial
  | [], k + 1, _ => trivial
  | p :: l, 0, h => h
  | p :: l, k + 1, h => Sep.dropn (l := l) k h.2.2
theorem apart_nth {H : Heap} : ∀ {l : List Pc} {k : Nat} {p : Pc}, Sep H l → Go.Ab.nth l k = some p → ∀ q ∈ delP l k, p.apart q
  | _ :: l, 0, p, h, hk, q, hq => by cases hk; exact h.2.1 q hq
  | x :: l, k + 1, p, h, hk, q, hq => by
    rcases List.mem_cons.1 hq with rfl | hq
    · exact (h.2.1 p (nth_mem (l := l) (k := k) hk)).symm
    · exact apart_nth (l := l) (k := k) h.2.2 hk q hq
theorem Sep.front {H : Heap} {l : List Pc} {p : Pc} (k : Nat) (h : Sep H l) (hk : Go.Ab.nth l k = some p) : Sep H (p :: delP l k) := ⟨h.nth hk, apart_nth h hk, h.del k⟩

/-- Another heap, in which all but piece k lies as it was. -/
theorem Sep.frame {H H' : Heap} : ∀ {l : List Pc}, Sep H l → H.n ≤ H'.n → (∀ p ∈ l, ∀ i, p.at i → H'.f i = H.f i) → Sep H' l
  | [], _, _, _ => trivial
  | p :: l, h, hn, hf => ⟨Pc.frame h.1 hn (hf p (List.mem_cons_self ..)), h.2.1, Sep.frame h.2.2 hn fun q hq => hf q (List.mem_cons_of_mem _ hq)⟩

theorem Sep.add {H H' : Heap} {l : List Pc} {q : Pc} (h : Sep H l) (hn : H.n ≤ H'.n) (hf : ∀ i, i < H.n → H'.f i = H.f i) (hq : q.holds H') (hat : ∀ i, q.at i → H.n ≤ i) : Sep H' (q :: l) :=
  ⟨hq, fun p hp _ i h1 h2 => absurd (Pc.at_lt (h.mem p hp) h2) (Nat.not_lt.2 (hat i h1)), h.frame hn fun p hp i hi => hf i (Pc.at_lt (h.mem p hp) hi)⟩

theorem mem_put {q : Pc} : ∀ {l : List Pc} {k : Nat} {y : Pc}, y ∈ putP l k q → y = q ∨ y ∈ l
  | [], k, y, h => absurd h (by cases k <;> exact List.not_mem_nil)
  | x :: l, 0, y, h => by
    rcases List.mem_cons.1 h with h | h
    · exact .inl h
    · exact .inr (List.mem_cons_of_mem _ h)
  | x :: l, k + 1, y, h => by
    rcases List.mem_cons.1 h with h | h
    · exact .inr (h ▸ List.mem_cons_self ..)
    · rcases mem_put (l := l) (k := k) h with h | h
      · exact .inl h
      · exact .inr (List.mem_cons_of_mem _ h)
theorem Sep.change {H H' : Heap} {l : List Pc} {k : Nat} {p q : Pc} (h : Sep H l) (hk : Go.Ab.nth l k = some p) (ho : p.isOwn = true) (hn : H.n ≤ H'.n) (hf : ∀ i, i < H.n → ¬ p.at i → H'.f i = H.f i) (hq : q.holds H') (hat : ∀ i, q.at i → p.at i ∨ H.n ≤ i) : Sep H' (putP l k q) := by
  induction l generalizing k with
  | nil => cases hk
  | cons x l ih =>
    cases k with
    | zero =>
      cases hk
      refine ⟨hq, fun r hr _ i h1 h2 => ?_, Sep.frame h.2.2 hn fun r hr i hi => hf i (Pc.at_lt (Sep.mem h.2.2 r hr) hi) fun hx => h.2.1 r hr (.inl ho) i hx hi⟩
      rcases hat i h1 with h3 | h3
      · exact h.2.1 r hr (.inl ho) i h3 h2
      · exact absurd (Pc.at_lt (Sep.mem h.2.2 r hr) h2) (Nat.not_lt.2 h3)
    | succ k =>
      have hk' : Go.Ab.nth l k = some p := hk
      have hxp := h.2.1 p (nth_mem hk')
      refine ⟨Pc.frame h.1 hn fun i hi => hf i (Pc.at_lt h.1 hi) fun hx => hxp (.inr ho) i hi hx, fun r hr => ?_, ih h.2.2 hk'⟩
      rcases mem_put hr with rfl | hr'
      · intro _ i h1 h2
        rcases hat i h2 with h3 | h3
        · exact hxp (.inr ho) i h1 h3
        · exact absurd (Pc.at_lt h.1 h1) (Nat.not_lt.2 h3)
      · exact h.2.1 r hr'

/-! ### what is read -/
theorem Shows.of_own {H : Heap} {v : AV} {n : Nat} {cs : List AV} (h : (Pc.osl v n cs).holds H) : Shows H v n cs := by
  rcases h with ⟨h1, h2⟩ | ⟨id, off, len, pre, rfl, h1, h2, h3, h4⟩
  · exact .inl ⟨h1, h2⟩
  · refine .inr ⟨id, off, len, rfl, h2, h3, by rw [h4, cs_own, List.length_append]; omega, ?_⟩
    rw [h4, cs_own, ← h1, List.drop_left, List.take_length]
theorem Sep.shows {H : Heap} {l : List Pc} (h : Sep H l) (k : Nat) {v : AV} {n : Nat} {cs : List AV} (hk : Go.Ab.nth l k = some (.osl v n cs)) : Shows H v n cs := .of_own (h.nth hk)
theorem Shows.frame {H H' : Heap} {v : AV} {n : Nat} {cs : List AV} (h : Shows H v n cs) (hn : H.n ≤ H'.n) (hf : ∀ off len, v = .sl v.id0 off len n → H'.f v.id0 = H.f v.id0) : Shows H' v n cs := by
  rcases h with h | ⟨id, off, len, rfl, h1, h2⟩
  · exact .inl h
  · exact .inr ⟨id, off, len, rfl, h1, h2.mono hn (hf off len rfl)⟩
/-- An own slice becomes one that is only read. -/
theorem Sep.freeze {H : Heap} {l : List Pc} (h : Sep H l) (k : Nat) {v : AV} {n : Nat} {cs : List AV} (hk : Go.Ab.nth l k = some (.osl v n cs)) :
    Sep H (putP l k (.keep (fun i => ∃ off len n, v = .sl i off len n) fun H => Shows H v n cs)) := by
  refine Sep.change h hk rfl (Nat.le_refl _) (fun _ _ _ => rfl) ⟨fun i hi => Pc.at_lt (h.nth hk) hi, h.shows k hk, fun H' hn hf => ?_⟩ (fun i hi => .inl hi)
  refine (h.shows k hk).frame hn fun off len e => hf _ ⟨off, len, n, e⟩

section
variable {α : Type} {e : α → List AV} {n : Nat}
theorem Shows.len {H : Heap} {v : AV} {xs : List α} (he : ∀ x, (e x).length = n) (h : Shows H v n (enc e xs)) (hn : 0 < n) : (v = .nilsl ∧ xs = []) ∨ ∃ id off, v = .sl id off xs.length n ∧ Row H id off (enc e xs) := by
  rcases h with ⟨h1, h2⟩ | ⟨id, off, len, rfl, h1, h2⟩
  · refine .inl ⟨h1, ?_⟩
    cases xs with
    | nil => rfl
    | cons x xs =>
      have := congrArg List.length h2
      rw [enc_length he, List.length_cons, List.length_nil, Nat.succ_mul] at this
      omega
  · rw [enc_length he] at h1
    have : xs.length = len := Nat.eq_of_mul_eq_mul_right hn h1
    subst this
    exact .inr ⟨id, off, rfl, h2⟩
theorem Shows.at {H : Heap} {v : AV} {xs : List α} (he : ∀ x, (e x).length = n) (h : Shows H v n (enc e xs)) (hn : 0 < n) {z : Int} (h0 : 0 ≤ z ∧ z < xs.length) : v = .sl v.id0 v.of0 xs.length n ∧ Row H v.id0 v.of0 (enc e xs) := by
  rcases h.len he hn with ⟨_, rfl⟩ | ⟨id, off, rfl, h1⟩
  · simp at h0; omega
  · exact ⟨rfl, h1⟩
theorem getD_lt {xs : List α} {z : Int} (h0 : 0 ≤ z ∧ z < xs.length) (d : α) : ∃ h : z.toNat < xs.length, xs.getD z.toNat d = xs[z.toNat] := ⟨by omega, by rw [List.getD_eq_getElem?_getD, List.getElem?_eq_getElem (by omega)]; rfl⟩
theorem Shows.cell {H : Heap} {v : AV} {xs : List α} (he : ∀ x, (e x).length = n) (h : Shows H v n (enc e xs)) {z : Int} (h0 : 0 ≤ z ∧ z < xs.length) (d : α) {j : Nat} {c : α → AV} (hj : ∀ x, (e x)[j]? = some (c x)) :
    rdCell H v.id0 (v.of0 + z.toNat * n + j) = some (c (xs.getD z.toNat d)) := by
  obtain ⟨h1, h2⟩ := getD_lt h0 d
  have hjn : j < n := by
    have := hj (xs.getD z.toNat d)
    obtain ⟨h3, _⟩ := List.getElem?_eq_some_iff.1 this
    rw [he] at h3; exact h3
  obtain ⟨_, h4⟩ := h.at he (by omega) h0
  rw [rdCell_eq, Nat.add_assoc, h4.cell he h1 hjn, hj, h2]
theorem Shows.elem {H : Heap} {v : AV} {xs : List α} (he : ∀ x, (e x).length = n) (h : Shows H v n (enc e xs)) (hn : 0 < n) {z : Int} (h0 : 0 ≤ z ∧ z < xs.length) (d : α) :
    rdCells H v.id0 (v.of0 + z.toNat * n) n = some (e (xs.getD z.toNat d)) := by
  obtain ⟨h1, h2⟩ := getD_lt h0 d
  obtain ⟨_, h4⟩ := h.at he hn h0
  have := h4.agg he h1
  rw [rdCells_eq, if_pos (by rw [Nat.add_assoc, this.1]; trivial), this.2, h2]
/-- A part of a slice. -/
def AV.cut (n a b : Nat) : AV → AV
  | .sl id off _ _ => .sl id (off + a * n) (b - a) n
  | v => v
theorem Shows.cut {H : Heap} {v : AV} {xs : List α} (he : ∀ x, (e x).length = n) (h : Shows H v n (enc e xs)) (hn : 0 < n) {a b : Nat} (hab : a ≤ b ∧ b ≤ xs.length) : Shows H (v.cut n a b) n (enc e ((xs.drop a).take (b - a))) := by
  rcases h.len he hn with ⟨rfl, rfl⟩ | ⟨id, off, rfl, h1⟩
  · exact .inl ⟨rfl, by simp [enc]⟩
  · refine .inr ⟨id, off + a * n, b - a, rfl, ?_, h1.slice he (by omega)⟩
    rw [enc_length he, List.length_take, List.length_drop, Nat.min_eq_left (by omega)]
end

/-! ### what is changed -/
theorem Sep.alloc {H : Heap} {l : List Pc} (h : Sep H l) (cs : List AV) : Sep (H.alloc (.own cs)) (.box H.n cs :: l) :=
  h.add (Nat.le_succ _) (fun i hi => by rw [alloc_f, if_neg (Nat.ne_of_lt hi)]) ⟨Nat.lt_succ_self _, by rw [alloc_f, if_pos rfl]⟩ fun i hi => by cases hi; exact Nat.le_refl _
theorem Sep.allocS {H : Heap} {l : List Pc} (h : Sep H l) {len n : Nat} {cs : List AV} (hc : cs.length = len * n) : Sep (H.alloc (.own cs)) (.osl (.sl H.n 0 len n) n cs :: l) :=
  h.add (Nat.le_succ _) (fun i hi => by rw [alloc_f, if_neg (Nat.ne_of_lt hi)]) (.inr ⟨H.n, 0, len, [], rfl, rfl, hc, Nat.lt_succ_self _, by rw [alloc_f, if_pos rfl]; rfl⟩) fun i hi => by obtain ⟨_, _, _, hi⟩ := hi; cases hi; exact Nat.le_refl _
theorem Sep.nil {H : Heap} {l : List Pc} (h : Sep H l) (n : Nat) : Sep H (.osl .nilsl n [] :: l) :=
  h.add (Nat.le_refl _) (fun _ _ => rfl) (.inl ⟨rfl, rfl⟩) fun i hi => by obtain ⟨_, _, _, hi⟩ := hi; cases hi
theorem splice_pre (pre cs new : List AV) (off j : Nat) (h : pre.length = off) : splice (pre ++ cs) new (off + j) = pre ++ splice cs new j := by
  subst h
  rw [splice, splice, List.take_append, List.take_of_length_le (by omega), show pre.length + j - pre.length = j by omega, List.append_assoc, List.append_assoc]
  congr 1
  rw [List.append_assoc, show pre.length + j + new.length = pre.length + (j + new.length) by omega, List.drop_append]
  rw [List.drop_eq_nil_of_le (show pre.length ≤ pre.length + (j + new.length) by omega), show pre.length + (j + new.length) - pre.length = j + new.length by omega, List.nil_append]
/-- Cells are written. -/
theorem Sep.write {H : Heap} {l : List Pc} (h : Sep H l) (k : Nat) {v : AV} {n j : Nat} {cs new : List AV} (hk : Go.Ab.nth l k = some (.osl v n cs)) (hj : j + new.length ≤ cs.length) (h0 : 0 < new.length) (hs : new.all AV.stor = true) :
    ∃ H', wrCells H v.id0 (v.of0 + j) new = some H' ∧ Sep H' (putP l k (.osl v n (splice cs new j))) := by
  have hp := h.nth hk
  rcases hp with ⟨rfl, rfl⟩ | ⟨id, off, len, pre, rfl, h1, h2, h3, h4⟩
  · rw [List.length_nil] at hj; omega
  · refine ⟨_, wrCells_own h4 (by show off + j + _ ≤ _; rw [List.length_append]; omega) hs, ?_⟩
    show Sep (H.put id (.own (splice (pre ++ cs) new (off + j)))) _
    rw [splice_pre pre cs new off j h1]
    refine h.change hk rfl (Nat.le_refl _) (fun i hi hne => ?_) (.inr ⟨id, off, len, pre, rfl, h1, by rw [splice_len _ _ _ hj]; exact h2, h3, by rw [put_f, if_pos rfl]⟩) fun i hi => .inl hi
    rw [put_f, if_neg]
    rintro rfl
    exact hne ⟨_, _, _, rfl⟩
theorem Sep.set {α : Type} {e : α → List AV} {n : Nat} {H : Heap} {l : List Pc} (h : Sep H l) (k : Nat) {v : AV} {xs : List α} (hk : Go.Ab.nth l k = some (.osl v n (enc e xs))) (he : ∀ x, (e x).length = n) (hn : 0 < n) {z : Int} (h0 : 0 ≤ z ∧ z < xs.length) (x : α) (hs : (e x).all AV.stor = true) :
    ∃ H', wrCells H v.id0 (v.of0 + z.toNat * n) (e x) = some H' ∧ Sep H' (putP l k (.osl v n (enc e (xs.set z.toNat x)))) := by
  obtain ⟨h1, _⟩ := getD_lt h0 x
  have hm : z.toNat * n + n ≤ xs.length * n := by rw [← Nat.succ_mul]; exact Nat.mul_le_mul_right _ h1
  obtain ⟨H', h2, h3⟩ := h.write k hk (j := z.toNat * n) (new := e x) (by rw [he, enc_length he]; exact hm) (by rw [he]; exact hn) hs
  exact ⟨H', h2, by rw [enc_splice he xs _ x h1] at h3; exact h3⟩
theorem splice_mid (cs new : List AV) (i n j : Nat) (h : i + n ≤ cs.length) (hj : j + new.length ≤ n) : splice cs new (i + j) = splice cs (splice ((cs.drop i).take n) new j) i := by
  have hl : ((cs.drop i).take n).length = n := by rw [List.length_take, List.length_drop]; omega
  have hl2 : (splice ((cs.drop i).take n) new j).length = n := by rw [splice_len _ _ _ (by rw [hl]; exact hj), hl]
  apply List.ext_getElem?
  intro k
  rw [splice_get cs new (i + j) (by omega), splice_get cs _ i (by rw [hl2]; exact h), hl2]
  by_cases h1 : i ≤ k ∧ k < i + n
  · rw [if_pos h1, splice_get _ _ _ (by rw [hl]; exact hj)]
    by_cases h2 : i + j ≤ k ∧ k < i + j + new.length
    · rw [if_pos h2, if_pos (by omega)]; congr 1; omega
    · rw [if_neg h2, if_neg (by omega), List.getElem?_take, if_pos (by omega), List.getElem?_drop]; congr 1; omega
  · rw [if_neg h1, if_neg (by omega)]
/-- One cell of an element is written. -/
theorem Sep.setf {α : Type} {e : α → List AV} {n : Nat} {H : Heap} {l : List Pc} (h : Sep H l) (k : Nat) {v : AV} {xs : List α} (hk : Go.Ab.nth l k = some (.osl v n (enc e xs))) (he : ∀ x, (e x).length = n) {z : Int} (h0 : 0 ≤ z ∧ z < xs.length) (d y : α) {j : Nat} {c : AV} (hj : j < n)
    (hy : splice (e (xs.getD z.toNat d)) [c] j = e y) (hs : c.stor = true) :
    ∃ H', wrCells H v.id0 (v.of0 + z.toNat * n + j) [c] = some H' ∧ Sep H' (putP l k (.osl v n (enc e (xs.set z.toNat y)))) := by
  obtain ⟨h1, h2⟩ := getD_lt h0 d
  have hm : z.toNat * n + n ≤ xs.length * n := by rw [← Nat.succ_mul]; exact Nat.mul_le_mul_right _ h1
  obtain ⟨H', h3, h4⟩ := h.write k hk (j := z.toNat * n + j) (new := [c]) (by rw [enc_length he]; simp; omega) (by simp) (by simp [hs])
  refine ⟨H', by rw [Nat.add_assoc]; exact h3, ?_⟩
  rw [splice_mid _ _ _ n j (by rw [enc_length he]; exact hm) (by simp; omega), enc_at he h1, ← h2, hy, enc_splice he xs _ y h1] at h4
  exact h4
/-- Cells behind a pointer. -/
theorem Sep.ld {H : Heap} {l : List Pc} (h : Sep H l) (k : Nat) {id j : Nat} {cs : List AV} {c : AV} (hk : Go.Ab.nth l k = some (.box id cs)) (hc : cs[j]? = some c) : rdCell H id j = some c := by
  have hp := h.nth hk
  rw [rdCell_eq, hp.2, cs_own]; exact hc
theorem Sep.lds {H : Heap} {l : List Pc} (h : Sep H l) (k : Nat) {id j m : Nat} {cs c : List AV} (hk : Go.Ab.nth l k = some (.box id cs)) (hl : j + m ≤ cs.length) (hc : (cs.drop j).take m = c) : rdCells H id j m = some c := by
  have hp := h.nth hk
  rw [rdCells_eq, hp.2, cs_own, if_pos hl, hc]
theorem Sep.st {H : Heap} {l : List Pc} (h : Sep H l) (k : Nat) {id j : Nat} {cs new cs' : List AV} (hk : Go.Ab.nth l k = some (.box id cs)) (hl : j + new.length ≤ cs.length) (hs : new.all AV.stor = true) (hc : splice cs new j = cs') :
    ∃ H', wrCells H id j new = some H' ∧ Sep H' (putP l k (.box id cs')) := by
  have hp := h.nth hk
  refine ⟨_, wrCells_own hp.2 hl hs, ?_⟩
  rw [hc]
  refine h.change hk rfl (Nat.le_refl _) (fun i hi hne => ?_) ⟨hp.1, by rw [put_f, if_pos rfl]⟩ fun i hi => .inl hi
  rw [put_f, if_neg]
  rintro rfl
  exact hne rfl
/-- Something is appended. -/
theorem Sep.app {H : Heap} {l : List Pc} (h : Sep H l) (k : Nat) {v x : AV} {n m len bytes : Nat} {cs new : List AV} (hk : Go.Ab.nth l k = some (.osl v n cs)) (hl : cs.length = len * n) (hn : 0 < n) (hx : cellsOfArg H n x = some (m, new)) (hm : new.length = m * n)
    (hb : (len + m) * bytes ≤ 2 ^ 40) (h5 : bytes ≠ 0) : ∃ v' H', aappend H n bytes v x = some (.v v', H') ∧ (v ≠ .nilsl → v' ≠ .nilsl) ∧ Sep H' (putP l k (.osl v' n (cs ++ new))) := by
  have hp := h.nth hk
  rcases hp with ⟨rfl, rfl⟩ | ⟨id, off, len', pre, rfl, h1, h2, h3, h4⟩
  · have hl0 : len = 0 := by
      cases len with
      | zero => rfl
      | succ len => rw [Nat.succ_mul] at hl; simp at hl; omega
    subst hl0
    by_cases h0 : m = 0
    · subst h0
      refine ⟨.nilsl, H, by simp [aappend, h5, hx], fun c => c, ?_⟩
      have : new = [] := List.eq_nil_of_length_eq_zero (by rw [hm, Nat.zero_mul])
      subst this
      exact h.change hk rfl (Nat.le_refl _) (fun _ _ _ => rfl) (.inl ⟨rfl, rfl⟩) fun i hi => .inl hi
    · refine ⟨_, _, aappend_nil hx h0 (by rw [Nat.zero_add] at hb; exact hb) h5, fun c => absurd rfl c, ?_⟩
      refine h.change hk rfl (Nat.le_succ _) (fun i hi _ => by rw [alloc_f, if_neg (Nat.ne_of_lt hi)]) (.inr ⟨H.n, 0, m, [], rfl, rfl, hm, Nat.lt_succ_self _, by rw [alloc_f, if_pos rfl]; rfl⟩) fun i hi => ?_
      obtain ⟨_, _, _, hi⟩ := hi
      cases hi
      exact .inr (Nat.le_refl _)
  · have e : len = len' := Nat.eq_of_mul_eq_mul_right hn (hl.symm.trans h2)
    subst e
    refine ⟨_, _, aappend_sl h4 (by rw [List.length_append]; omega) hx hb h5, (fun _ c => by cases c), ?_⟩
    rw [← h1, List.drop_left]
    refine h.change hk rfl (Nat.le_succ _) (fun i hi hne => ?_) (.inr ⟨H.n, 0, len + m, [], rfl, rfl, by rw [List.length_append, h2, hm, Nat.add_mul], Nat.lt_succ_self _, by rw [alloc_f]; exact if_pos rfl⟩) fun i hi => ?_
    · have hne' : i ≠ id := fun e => hne (by subst e; exact ⟨_, _, _, rfl⟩)
      rw [alloc_f, if_neg (by show i ≠ H.n; omega), put_f, if_neg hne']
    · obtain ⟨_, _, _, hi⟩ := hi
      cases hi
      exact .inr (Nat.le_refl _)
theorem Shows.arg {α : Type} {e : α → List AV} {n : Nat} {H : Heap} {x : AV} {ys : List α} (he : ∀ x, (e x).length = n) (hn : 0 < n) (h : Shows H x n (enc e ys)) : cellsOfArg H n x = some (ys.length, enc e ys) := by
  rcases h.len he hn with ⟨rfl, rfl⟩ | ⟨id, off, rfl, h1⟩
  · rfl
  · refine arg_sl ?_
    have hl := enc_length he ys
    rw [rdCells_eq, ← hl, if_pos h1.2.1, h1.2.2]
theorem Sep.append {α : Type} {e : α → List AV} {n bytes : Nat} {H : Heap} {l : List Pc} (h : Sep H l) (k : Nat) {v x : AV} {xs ys : List α} (hk : Go.Ab.nth l k = some (.osl v n (enc e xs))) (he : ∀ x, (e x).length = n) (hn : 0 < n) (hx : Shows H x n (enc e ys))
    (hb : (xs.length + ys.length) * bytes ≤ 2 ^ 40) (h5 : bytes ≠ 0) : ∃ v' H', aappend H n bytes v x = some (.v v', H') ∧ (v ≠ .nilsl → v' ≠ .nilsl) ∧ Sep H' (putP l k (.osl v' n (enc e (xs ++ ys)))) := by
  rw [enc_append]
  exact h.app k hk (enc_length he xs) hn (hx.arg he hn) (enc_length he ys) hb h5

end Go.Ab
