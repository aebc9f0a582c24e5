/-
  IDIOMS: rows of cells, a rule for loops, and ends. By an AI agent; nothing here is trusted.
-/
import Derived.Test.YtfhlhgnipmgfdaaAbB
namespace Go.Ab
set_option linter.unusedVariables false
set_option linter.unusedSimpArgs false

/-- From place off on, row id holds these cells. -/
def Row (H : Heap) (id off : Nat) (cs : List AV) : Prop := id < H.n ∧ off + cs.length ≤ (H.f id).cs.length ∧ ((H.f id).cs.drop off).take cs.length = cs

theorem Row.lt {H : Heap} {id off : Nat} {cs : List AV} (h : Row H id off cs) : id < H.n := h.1
theorem Row.rd {H : Heap} {id off : Nat} {cs : List AV} (h : Row H id off cs) {j : Nat} (hj : j < cs.length) : (H.f id).cs[off + j]? = cs[j]? := by
  obtain ⟨_, h1, h2⟩ := h
  conv => rhs; rw [← h2]
  rw [List.getElem?_take, if_pos hj, List.getElem?_drop]
theorem Row.rds {H : Heap} {id off : Nat} {cs : List AV} (h : Row H id off cs) {j n : Nat} (hj : j + n ≤ cs.length) : (((H.f id).cs.drop (off + j)).take n) = (cs.drop j).take n := by
  obtain ⟨_, h1, h2⟩ := h
  conv => rhs; rw [← h2]
  rw [List.drop_take, List.take_take, List.drop_drop, Nat.min_eq_left (by omega)]
theorem Row.le {H : Heap} {id off : Nat} {cs : List AV} (h : Row H id off cs) : off + cs.length ≤ (H.f id).cs.length := h.2.1
theorem Row.mono {H H' : Heap} {id off : Nat} {cs : List AV} (h : Row H id off cs) (hn : H.n ≤ H'.n) (hf : H'.f id = H.f id) : Row H' id off cs := by
  obtain ⟨h0, h1, h2⟩ := h
  exact ⟨by omega, by rw [hf]; exact h1, by rw [hf]; exact h2⟩
theorem Row.of_f {H : Heap} {id : Nat} {cs : List AV} (h0 : id < H.n) (h : (H.f id).cs = cs) : Row H id 0 cs := by
  refine ⟨h0, by rw [h]; omega, ?_⟩
  rw [h, List.drop_zero, List.take_length]
theorem Row.alloc {H : Heap} {id off : Nat} {cs : List AV} (h : Row H id off cs) (b : Blk) : Row (H.alloc b) id off cs :=
  h.mono (Nat.le_succ _) (by rw [alloc_f, if_neg (Nat.ne_of_lt h.1)])
theorem Row.put {H : Heap} {id off j : Nat} {cs : List AV} (h : Row H id off cs) (b : Blk) (hj : id ≠ j) : Row (H.put j b) id off cs :=
  h.mono (Nat.le_refl _) (by rw [put_f, if_neg hj])
theorem alloc_put (H : Heap) (a b : Blk) : (H.alloc a).put H.n b = H.alloc b := by
  simp only [Heap.alloc, Heap.put, Heap.mk.injEq, true_and]
  funext j; simp only [upd]; split <;> rfl

/-! ### elements of one, two and three cells -/
def enc {α : Type} (e : α → List AV) (l : List α) : List AV := l.flatMap e
theorem enc_one {α : Type} (c : α → AV) (l : List α) : enc (fun x => [c x]) l = l.map c := by
  induction l with
  | nil => rfl
  | cons x l ih => rw [enc, List.flatMap_cons, List.map_cons]; rw [enc] at ih; rw [ih]; rfl
theorem enc_nil {α : Type} (e : α → List AV) : enc e [] = [] := rfl
theorem enc_cons {α : Type} (e : α → List AV) (x : α) (l : List α) : enc e (x :: l) = e x ++ enc e l := rfl
theorem enc_append {α : Type} (e : α → List AV) (l m : List α) : enc e (l ++ m) = enc e l ++ enc e m := by simp [enc]
theorem enc_length {α : Type} {e : α → List AV} {n : Nat} (he : ∀ x, (e x).length = n) (l : List α) : (enc e l).length = l.length * n := by
  induction l with
  | nil => simp [enc]
  | cons x l ih => rw [enc_cons, List.length_append, ih, he, List.length_cons, Nat.succ_mul]; omega
theorem enc_drop {α : Type} {e : α → List AV} {n : Nat} (he : ∀ x, (e x).length = n) : ∀ (l : List α) (i : Nat), (enc e l).drop (i * n) = enc e (l.drop i)
  | l, 0 => by simp
  | [], i + 1 => by simp [enc]
  | x :: l, i + 1 => by
    rw [enc_cons, List.drop_succ_cons, ← enc_drop he l i, Nat.succ_mul, Nat.add_comm, ← List.drop_drop, ← he x, List.drop_left]
theorem enc_take {α : Type} {e : α → List AV} {n : Nat} (he : ∀ x, (e x).length = n) : ∀ (l : List α) (i : Nat), (enc e l).take (i * n) = enc e (l.take i)
  | l, 0 => by simp [enc]
  | [], i + 1 => by simp [enc]
  | x :: l, i + 1 => by
    rw [enc_cons, List.take_succ_cons, enc_cons, ← enc_take he l i, Nat.succ_mul, Nat.add_comm, List.take_add, ← he x, List.take_left, List.drop_left]
theorem enc_at {α : Type} {e : α → List AV} {n : Nat} (he : ∀ x, (e x).length = n) {l : List α} {i : Nat} (h : i < l.length) : ((enc e l).drop (i * n)).take n = e l[i] := by
  rw [enc_drop he, List.drop_eq_getElem_cons h, enc_cons, ← he l[i], List.take_left]
theorem Row.elem {α : Type} {e : α → List AV} {n : Nat} (he : ∀ x, (e x).length = n) {H : Heap} {id off : Nat} {l : List α} (h : Row H id off (enc e l)) {i : Nat} (hi : i < l.length) :
    Row H id (off + i * n) (e l[i]) := by
  have hl := enc_length he l
  have hm : i * n + n ≤ l.length * n := by rw [← Nat.succ_mul]; exact Nat.mul_le_mul_right _ hi
  refine ⟨h.1, by have := h.2.1; rw [he]; omega, ?_⟩
  rw [he, h.rds (by omega), enc_at he hi]
theorem Row.slice {α : Type} {e : α → List AV} {n : Nat} (he : ∀ x, (e x).length = n) {H : Heap} {id off : Nat} {l : List α} (h : Row H id off (enc e l)) {a b : Nat} (hb : a + b ≤ l.length) :
    Row H id (off + a * n) (enc e ((l.drop a).take b)) := by
  have hl := enc_length he l
  have hm : a * n + b * n ≤ l.length * n := by rw [← Nat.add_mul]; exact Nat.mul_le_mul_right _ hb
  have hl2 : ((l.drop a).take b).length = b := by rw [List.length_take, List.length_drop]; omega
  have hl3 : (enc e ((l.drop a).take b)).length = b * n := by rw [enc_length he, hl2]
  refine ⟨h.1, by have := h.2.1; omega, ?_⟩
  rw [hl3, h.rds (by omega), enc_drop he, enc_take he]
theorem zerosOf_enc {α : Type} (e : α → List AV) (z : α) (n : Nat) : zerosOf (e z) n = enc e (List.replicate n z) := by
  induction n with
  | zero => rfl
  | succ n ih => rw [zerosOf, List.replicate_succ, enc_cons, ih]
theorem enc_splice {α : Type} {e : α → List AV} {n : Nat} (he : ∀ x, (e x).length = n) (l : List α) (i : Nat) (x : α) (h : i < l.length) : splice (enc e l) (e x) (i * n) = enc e (l.set i x) := by
  rw [splice, enc_take he, he, ← Nat.succ_mul, enc_drop he, List.set_eq_take_append_cons_drop, if_pos h, enc_append, enc_cons, List.append_assoc]
theorem enc_refs {α : Type} {e : α → List AV} (he : ∀ x, ∀ c ∈ e x, c.refs = []) (l : List α) : ∀ c ∈ enc e l, c.refs = [] := by
  intro c hc
  simp only [enc, List.mem_flatMap] at hc
  obtain ⟨x, _, h⟩ := hc
  exact he x c h

theorem Row.agg {α : Type} {e : α → List AV} {n : Nat} (he : ∀ x, (e x).length = n) {H : Heap} {id off : Nat} {l : List α} (h : Row H id off (enc e l)) {i : Nat} (hi : i < l.length) :
    (off + (i * n + n) ≤ (H.f id).cs.length) = True ∧ ((H.f id).cs.drop (off + i * n)).take n = e l[i] := by
  have r := h.elem he hi
  have h1 := r.2.1; have h2 := r.2.2
  rw [he] at h1 h2
  exact ⟨eq_true (by omega), h2⟩
theorem Row.cell {α : Type} {e : α → List AV} {n : Nat} (he : ∀ x, (e x).length = n) {H : Heap} {id off : Nat} {l : List α} (h : Row H id off (enc e l)) {i : Nat} (hi : i < l.length) {j : Nat} (hj : j < n) :
    (H.f id).cs[off + (i * n + j)]? = (e l[i])[j]? := by
  rw [← Nat.add_assoc, (h.elem he hi).rd (by rw [he]; exact hj)]
theorem Row.cell0 {α : Type} {e : α → List AV} {n : Nat} (he : ∀ x, (e x).length = n) {H : Heap} {id off : Nat} {l : List α} (h : Row H id off (enc e l)) {i : Nat} (hi : i < l.length) (hj : 0 < n) :
    (H.f id).cs[off + i * n]? = (e l[i])[0]? := h.cell he hi hj
theorem wrB_enc {α : Type} {e : α → List AV} {n : Nat} (he : ∀ x, (e x).length = n) (hs : ∀ x, (e x).all AV.stor = true) {H : Heap} {id : Nat} {l : List α} {i : Nat} (hi : i < l.length) (x : α) :
    wrB H id (i * n) (e x) (.own (enc e l)) = some (H.put id (.own (enc e (l.set i x)))) := by
  have hm : i * n + n ≤ l.length * n := by rw [← Nat.succ_mul]; exact Nat.mul_le_mul_right _ hi
  rw [wrB_own, if_pos ⟨by rw [he, enc_length he]; exact hm, hs x⟩, enc_splice he l i x hi]
theorem set_fill {α : Type} {l : List α} {i m : Nat} (z : α) (h : i + m = l.length) (hi : i < l.length) : (l.take i ++ List.replicate m z).set i l[i] = l.take (i + 1) ++ List.replicate (m - 1) z := by
  obtain ⟨m, rfl⟩ : ∃ k, m = k + 1 := ⟨m - 1, by omega⟩
  rw [List.set_append_right _ _ (by rw [List.length_take]; omega), List.length_take, Nat.min_eq_left (by omega), Nat.sub_self, List.replicate_succ, List.set_cons_zero, List.take_succ_eq_append_getElem hi, List.append_assoc]
  rfl
theorem wrap_i64 {n : Int} (h1 : -9223372036854775808 ≤ n) (h2 : n < 9223372036854775808) : IntKind.i64.wrap n = n := by
  simp only [IntKind.wrap, IntKind.signed, IntKind.bits]
  simp
  omega
theorem wrap_succ {i : Nat} (h : i < 9223372036854775807) : IntKind.i64.wrap ((i : Int) + 1) = ((i + 1 : Nat) : Int) := by rw [wrap_i64 (by omega) (by omega)]; rfl

/-! ### a rule for loops -/
/-- A loop is left if each round leads, under an invariant with a measure, to a lesser one or away. -/
theorem Fin_rule {P : Program} {c : Code} {t : List Item} {s : Nat → TV} {H : Heap} {K : (Nat → TV) → Heap → Prop} (I : Nat → (Nat → TV) → Heap → Prop) (n : Nat) (h0 : I n s H)
    (step : ∀ n s H, I n s H → (∀ m s' H', m < n → I m s' H' → Fin P (.inLoop c :: t) s' H' K) → Fin P (.code c :: .inLoop c :: t) s H K) : Fin P (.inLoop c :: t) s H K := by
  induction n using Nat.strongRecOn generalizing s H with
  | ind n ih =>
    rw [Fin_inLoop]
    exact step n s H h0 fun m s' H' hm hI => ih m hm hI

end Go.Ab
