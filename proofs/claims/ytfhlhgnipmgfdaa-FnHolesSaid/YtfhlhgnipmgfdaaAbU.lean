/-
  POINTERS, RESULTS IN CELLS, FUNCTIONS WITHOUT A BODY, SLICES OF SLICES. By an AI agent; nothing here is trusted.
-/
import Derived.Test.YtfhlhgnipmgfdaaAbV
namespace Go.Ab
set_option linter.unusedVariables false
set_option linter.unusedSimpArgs false

/-! ### what may be stored -/
theorem Shows.stor {H : Heap} {v : AV} {n : Nat} {cs : List AV} (h : Shows H v n cs) : v.stor = true := by
  rcases h with ⟨rfl, _⟩ | ⟨_, _, _, rfl, _⟩ <;> simp [AV.stor]
theorem stc {c : AV} {l : List AV} (h : c.stor = true) (k : l.all AV.stor = true) : (c :: l).all AV.stor = true := by simp [h, k]
theorem stn : ([] : List AV).all AV.stor = true := rfl

/-! ### cells behind a pointer that are only read -/
def PtAt (H : Heap) (id off : Nat) (cs : List AV) : Prop := id < H.n ∧ ∀ j c, cs[j]? = some c → rdCell H id (off + j) = some c
theorem PtAt.many {H : Heap} {id off : Nat} {cs : List AV} (h : PtAt H id off cs) (j m : Nat) {c : List AV} (hl : j + m ≤ cs.length) (h0 : 0 < m) (hc : (cs.drop j).take m = c) : rdCells H id (off + j) m = some c := by
  have key : ∀ i, i < m → (H.f id).cs[off + j + i]? = cs[j + i]? := fun i hi => by
    have h1 : cs[j + i]? = some cs[j + i] := List.getElem?_eq_getElem (by omega)
    have := h.2 (j + i) _ h1
    rw [rdCell_eq] at this
    rw [h1, ← this, Nat.add_assoc]
  have hlen : off + j + m ≤ (H.f id).cs.length := by
    have := key (m - 1) (by omega)
    rw [List.getElem?_eq_getElem (by omega : j + (m - 1) < cs.length)] at this
    have := (List.getElem?_eq_some_iff.1 this).1
    omega
  rw [rdCells_eq, if_pos hlen, ← hc]
  congr 1
  apply List.ext_getElem?
  intro i
  rw [List.getElem?_take, List.getElem?_take]
  by_cases hi : i < m
  · rw [if_pos hi, if_pos hi, List.getElem?_drop, List.getElem?_drop, key i hi]
  · rw [if_neg hi, if_neg hi]
theorem PtAt.sub {H : Heap} {id off : Nat} {cs : List AV} (h : PtAt H id off cs) (j m : Nat) {c : List AV} (hc : (cs.drop j).take m = c) : PtAt H id (off + j) c := ⟨h.1, fun i x hx => by
  rw [← hc, List.getElem?_take] at hx
  by_cases hi : i < m
  · rw [if_pos hi, List.getElem?_drop] at hx
    have := h.2 (j + i) x hx
    rw [← Nat.add_assoc] at this; exact this
  · rw [if_neg hi] at hx; cases hx⟩
theorem Sep.ptat {H : Heap} {l : List Pc} (h : Sep H l) (k : Nat) {id : Nat} {cs : List AV} (hk : Go.Ab.nth l k = some (.box id cs)) : PtAt H id 0 cs := ⟨Pc.at_lt (h.nth hk) rfl, fun j c hc => by rw [Nat.zero_add]; exact h.ld k hk hc⟩
theorem Sep.ptats {H : Heap} {l : List Pc} (h : Sep H l) (k j m : Nat) {id : Nat} {cs c : List AV} (hk : Go.Ab.nth l k = some (.box id cs)) (hc : (cs.drop j).take m = c) : PtAt H id j c := by
  have := (h.ptat k hk).sub j m hc
  rw [Nat.zero_add] at this; exact this
theorem Shows.ptat {α : Type} {e : α → List AV} {n : Nat} {H : Heap} {v : AV} {xs : List α} (h : Shows H v n (enc e xs)) {z : Int} (h0 : 0 ≤ z ∧ z < xs.length) (d : α) (he : ∀ x, (e x).length = n) (hn : 0 < n) : PtAt H v.id0 (v.of0 + z.toNat * n) (e (xs.getD z.toNat d)) := by
  obtain ⟨h1, h2⟩ := getD_lt h0 d
  obtain ⟨h3, h4⟩ := h.at he hn h0
  refine ⟨h4.lt, fun j c hc => ?_⟩
  have hjn : j < n := by rw [← he (xs.getD z.toNat d)]; exact (List.getElem?_eq_some_iff.1 hc).1
  rw [rdCell_eq, Nat.add_assoc, h4.cell he h1 hjn, ← h2, hc]

section
variable {P : Program} {q : Bool} {ops r : List Oper} {i : Nat} {s : Nat → TV} {H : Heap} {K : (Nat → TV) → Heap → Prop} {dst : Option Tmp} {ty : TypeId} {pos : String} {after : Array Edge} {l : List Pc}
theorem su_ld {t : TypeId} {x : Operand} {id off : Nat} {cs : List AV} (hp : PtAt H id off cs) (j : Nat) {c : AV} (hc : cs[j]? = some c) (hx : aeval s x = .v (.ptr id (off + j))) (ht : tagg P t = some false) (h : wops P q ops r (i + 1) (aput s dst (.v c)) H K) :
    wops P q ops ({ dst, op := .load t x, type := ty, pos, after, guard := none } :: r) i s H K := so_load hx ht (hp.2 j c hc) h
theorem su_lds {t : TypeId} {x : Operand} {id off : Nat} {cs : List AV} (hp : PtAt H id off cs) (j m : Nat) {c : List AV} (hl : j + m ≤ cs.length) (h0 : 0 < m) (hc : (cs.drop j).take m = c) (hx : aeval s x = .v (.ptr id (off + j))) (ht : tagg P t = some true) (hn : tsz P t = some m)
    (h : wops P q ops r (i + 1) (aput s dst (.g c)) H K) : wops P q ops ({ dst, op := .load t x, type := ty, pos, after, guard := none } :: r) i s H K := so_loadg hx ht hn (hp.many j m hl h0 hc) h
end

/-! ### results -/
section
variable {P : Program} {s : Nat → TV} {H : Heap} {r : List ResultVar} {vs : List TV}
theorem ar_nil : aresults P s H [] = some [] := rfl
theorem ar_tmp {t : Nat} {v : TV} (hv : s t = v) (h : aresults P s H r = some vs) : aresults P s H (.tmp t :: r) = some (v :: vs) := by rw [aresults_tmp, h, hv]; rfl
theorem ar_cell {a : Nat} {t : TypeId} {id off : Nat} {c : AV} (hx : s a = .v (.ptr id off)) (ht : tagg P t = some false) (hc : rdCell H id off = some c) (h : aresults P s H r = some vs) : aresults P s H (.cell a t :: r) = some (.v c :: vs) := by
  rw [aresults_cell, hx, tload_cell ht hc, h]; rfl
theorem ar_cells {a : Nat} {t : TypeId} {id off n : Nat} {c : List AV} (hx : s a = .v (.ptr id off)) (ht : tagg P t = some true) (hn : tsz P t = some n) (hc : rdCells H id off n = some c) (h : aresults P s H r = some vs) : aresults P s H (.cell a t :: r) = some (.g c :: vs) := by
  rw [aresults_cell, hx, tload_agg ht hn hc, h]; rfl
theorem res_mk {fn : Func} {x : TV} (h : aresults P s H fn.results.toList = some vs) (hp : packTV vs = some x) : resultOf P fn s H = some x := by rw [resultOf, h]; exact hp
end

/-! ### functions without a body -/
theorem callFunc_ext {P : Program} {f : FuncId} {fn : Func} {e : Array Value → Sem Value} (hf : P.funcs[f]? = some fn) (hn : (fn.name == "runtime.NumGoroutine") = false) (hb : fn.body = none) (h1 : (Extern.findNext fn).isNone = true) (h2 : Extern.find fn = some e) (as : Array Value) (w : World) {v : Value} (hv : e as = pure v) :
    (callFunc f as).run P w = .ok (.value v) w := by
  have h1' := Option.isNone_iff_eq_none.1 h1
  have hb' : fn.body.isNone = true := by rw [hb]; rfl
  unfold callFunc
  simp only [program, Sem.run_bind]
  have hn' : ¬ fn.name = "runtime.NumGoroutine" := by simpa using hn
  simp [Sem.run, hf, hn', hb, h1', h2, hv, mark]


/-- What a number is not. -/
def num (k : FloatKind) (x : Nat) : Bool := !(k.decode x).isNaN
theorem num_cz {k : FloatKind} {b x : Nat} (h : cz k b = x) (hx : num k x = true) : b = x := by
  unfold cz at h
  split at h
  · rename_i hb
    subst h
    exfalso
    cases k <;> revert hx <;> decide +kernel
  · exact h
section
variable {P : Program} {f : FuncId} {fn : Func} {H : Heap}
theorem ext_ok {e : Array Value → Sem Value} (hf : P.funcs[f]? = some fn) (hn : (fn.name == "runtime.NumGoroutine") = false) (hb : fn.body = none) (h1 : (Extern.findNext fn).isNone = true) (h2 : Extern.find fn = some e) {args : List TV} {r : TV}
    (h : ∀ β us, All2 (TVR β) args us → ∃ v, e us.toArray = pure v ∧ TVR β r v) : Ok P f args H r H := by
  intro β us w hs ha
  obtain ⟨v, h3, h4⟩ := h β us ha
  rw [callFunc_ext hf hn hb h1 h2 us.toArray w h3]
  exact ⟨v, β, rfl, Le.refl β, hs, h4, Fr.refl β H w⟩
theorem f32bits_ok (hf : P.funcs[f]? = some fn) (hn : (fn.name == "runtime.NumGoroutine") = false) (hb : fn.body = none) (h1 : (Extern.findNext fn).isNone = true) (h2 : Extern.find fn = some Extern.MathFloatBits.float32bits) (x : Nat) (hx : num .f32 x = true) : Ok P f [.v (.flt .f32 x)] H (.v (.int .u32 (x : Int))) H := by
  refine ext_ok hf hn hb h1 h2 fun β us ha => ?_
  match us, ha with
  | [u], ⟨⟨b, hu, hc⟩, _⟩ =>
    subst hu
    have := num_cz hc hx
    subst this
    exact ⟨_, rfl, rfl⟩
theorem f64bits_ok (hf : P.funcs[f]? = some fn) (hn : (fn.name == "runtime.NumGoroutine") = false) (hb : fn.body = none) (h1 : (Extern.findNext fn).isNone = true) (h2 : Extern.find fn = some Extern.MathFloatBits.float64bits) (x : Nat) (hx : num .f64 x = true) : Ok P f [.v (.flt .f64 x)] H (.v (.int .u64 (x : Int))) H := by
  refine ext_ok hf hn hb h1 h2 fun β us ha => ?_
  match us, ha with
  | [u], ⟨⟨b, hu, hc⟩, _⟩ =>
    subst hu
    have := num_cz hc hx
    subst this
    exact ⟨_, rfl, rfl⟩
theorem f32from_ok (hf : P.funcs[f]? = some fn) (hn : (fn.name == "runtime.NumGoroutine") = false) (hb : fn.body = none) (h1 : (Extern.findNext fn).isNone = true) (h2 : Extern.find fn = some Extern.MathFloatBits.float32frombits) (n : Int) : Ok P f [.v (.int .u32 n)] H (.v (.flt .f32 (cz .f32 n.toNat))) H := by
  refine ext_ok hf hn hb h1 h2 fun β us ha => ?_
  match us, ha with
  | [u], ⟨hu, _⟩ =>
    have hu' : u = .int .u32 n := hu
    subst hu'
    exact ⟨_, rfl, _, rfl, rfl⟩
theorem f64from_ok (hf : P.funcs[f]? = some fn) (hn : (fn.name == "runtime.NumGoroutine") = false) (hb : fn.body = none) (h1 : (Extern.findNext fn).isNone = true) (h2 : Extern.find fn = some Extern.MathFloatBits.float64frombits) (n : Int) : Ok P f [.v (.int .u64 n)] H (.v (.flt .f64 (cz .f64 n.toNat))) H := by
  refine ext_ok hf hn hb h1 h2 fun β us ha => ?_
  match us, ha with
  | [u], ⟨hu, _⟩ =>
    have hu' : u = .int .u64 n := hu
    subst hu'
    exact ⟨_, rfl, _, rfl, rfl⟩
end

/-! ### slices of what holds slices -/
/-- What the cells of an element say. -/
def rFlat {α : Type} (e : α → List AV) (_ : Heap) (x : α) (c : List AV) : Prop := c = e x
def rSl {α : Type} (n : Nat) (e : α → List AV) (H : Heap) (xs : List α) (c : List AV) : Prop := ∃ w, c = [w] ∧ Shows H w n (enc e xs)
def rPair {α β : Type} (n : Nat) (R : Heap → α → List AV → Prop) (S : Heap → β → List AV → Prop) (H : Heap) (x : α × β) (c : List AV) : Prop := R H x.1 (c.take n) ∧ S H x.2 (c.drop n)
structure DSh {α : Type} (H : Heap) (v : AV) (n : Nat) (R : Heap → α → List AV → Prop) (xs : List α) (ws : List (List AV)) : Prop where
  shows : Shows H v n (enc id ws)
  size : ∀ c ∈ ws, c.length = n
  all : All2 (R H) xs ws
theorem DSh.stor {α : Type} {H : Heap} {v : AV} {n : Nat} {R : Heap → α → List AV → Prop} {xs : List α} {ws : List (List AV)} (h : DSh H v n R xs ws) : v.stor = true := h.1.stor
theorem DSh.at {α : Type} {H : Heap} {v : AV} {n : Nat} {R : Heap → α → List AV → Prop} {xs : List α} {ws : List (List AV)} (h : DSh H v n R xs ws) (hn : 0 < n) {z : Int} (h0 : 0 ≤ z ∧ z < xs.length) (d : α) :
    v = .sl v.id0 v.of0 xs.length n ∧ R H (xs.getD z.toNat d) (ws.getD z.toNat []) ∧ PtAt H v.id0 (v.of0 + z.toNat * n) (ws.getD z.toNat []) := by
  obtain ⟨h1, h2⟩ := getD_lt h0 d
  have hl := h.all.len
  have h0' : 0 ≤ z ∧ z < ws.length := by rw [← hl]; exact h0
  obtain ⟨h3, h4⟩ := getD_lt h0' ([] : List AV)
  obtain ⟨b, h5, h6⟩ := h.all.get z.toNat _ (List.getElem?_eq_getElem h1)
  have h7 : ws.getD z.toNat [] = b := by rw [List.getD_eq_getElem?_getD, h5]; rfl
  -- the cells of all elements, one after another
  have hlen : ∀ (l : List (List AV)), (∀ c ∈ l, c.length = n) → (enc id l).length = l.length * n := by
    intro l
    induction l with
    | nil => intro _; simp [enc]
    | cons c l ih =>
      intro hc
      rw [enc_cons, List.length_append, ih fun c hc' => hc c (List.mem_cons_of_mem _ hc'), List.length_cons, Nat.succ_mul]
      have : (id c : List AV).length = n := hc c (List.mem_cons_self ..)
      omega
  have hrow : ∀ (l : List (List AV)) (k : Nat), (∀ c ∈ l, c.length = n) → k < l.length → ((enc id l).drop (k * n)).take n = l.getD k [] := by
    intro l
    induction l with
    | nil => intro k _ hk; simp at hk
    | cons c l ih =>
      intro k hc hk
      have hcn : (id c : List AV).length = n := hc c (List.mem_cons_self ..)
      cases k with
      | zero => rw [Nat.zero_mul, List.drop_zero, enc_cons, ← hcn, List.take_left]; rfl
      | succ k =>
        rw [enc_cons, Nat.succ_mul, Nat.add_comm, ← List.drop_drop]
        rw [show ((id c : List AV) ++ enc id l).drop n = enc id l by rw [← hcn, List.drop_left]]
        rw [ih k (fun c hc' => hc c (List.mem_cons_of_mem _ hc')) (by simpa using hk)]
        rfl
  rcases h.shows with ⟨rfl, he⟩ | ⟨id', off, len, rfl, h8, h9⟩
  · have := hlen ws h.size
    rw [he, List.length_nil] at this
    have : ws.length * n ≠ 0 := Nat.mul_ne_zero (by omega) (by omega)
    omega
  · rw [hlen ws h.size] at h8
    have : ws.length = len := Nat.eq_of_mul_eq_mul_right hn h8
    subst this
    refine ⟨by rw [hl]; rfl, by rw [h2, h7]; exact h6, h9.lt, fun j c hc => ?_⟩
    have hm : z.toNat * n + n ≤ ws.length * n := by rw [← Nat.succ_mul]; exact Nat.mul_le_mul_right _ h3
    have hsz : (ws.getD z.toNat []).length = n := h.size _ (by rw [h4]; exact List.getElem_mem h3)
    have hj : j < n := by rw [← hsz]; exact (List.getElem?_eq_some_iff.1 hc).1
    show (H.f id').cs[off + z.toNat * n + j]? = some c
    rw [Nat.add_assoc, h9.rd (by rw [hlen ws h.size]; omega), ← hc, ← hrow ws z.toNat h.size h3, List.getElem?_take, if_pos hj, List.getElem?_drop]
theorem DSh.len {α : Type} {H : Heap} {v : AV} {n : Nat} {R : Heap → α → List AV → Prop} {xs : List α} {ws : List (List AV)} (h : DSh H v n R xs ws) (hn : 0 < n) : (v = .nilsl ∧ xs.length = 0) ∨ ∃ id off, v = .sl id off xs.length n := by
  rcases Nat.eq_zero_or_pos xs.length with h0 | h0
  · rcases h.shows with ⟨rfl, _⟩ | ⟨id', off, len, rfl, h8, h9⟩
    · exact .inl ⟨rfl, h0⟩
    · have hw : ws = [] := List.eq_nil_of_length_eq_zero (by rw [← h.all.len]; exact h0)
      subst hw
      have : len * n = 0 := h8.symm
      have : len = 0 := by rcases Nat.mul_eq_zero.1 this with h | h <;> omega
      subst this
      exact .inr ⟨id', off, by rw [h0]⟩
  · cases xs with
    | nil => simp at h0
    | cons x xs => exact .inr ⟨_, _, (h.at hn (z := 0) ⟨Int.le_refl _, by rw [List.length_cons]; omega⟩ x).1⟩
section
variable {P : Program} {q : Bool} {ops r : List Oper} {i : Nat} {s : Nat → TV} {H : Heap} {K : (Nat → TV) → Heap → Prop} {dst : Option Tmp} {ty : TypeId} {pos : String} {after : Array Edge} {l : List Pc}
theorem sd_len {b0 : TypeId} {x : Operand} {v : AV} {α : Type} {R : Heap → α → List AV → Prop} {xs : List α} {ws : List (List AV)} {n : Nat} (hv : DSh H v n R xs ws) (hn : 0 < n) (hx : aeval s x = .v v) (ht : (telem P b0).isSome = true) (h : wops P q ops r (i + 1) (aput s dst (.v (.int .i64 (xs.length : Int)))) H K) :
    wops P q ops ({ dst, op := .call { callee := .builtin .len, args := [x].toArray, argTypes := [b0].toArray }, type := ty, pos, after, guard := none } :: r) i s H K := by
  refine so_to wops_builtin (v := .v (.int .i64 (xs.length : Int))) (H' := H) ?_ (fun _ => .inl rfl) h
  simp only [List.map_cons, List.map_nil, hx]
  rcases hv.len hn with ⟨rfl, h0⟩ | ⟨id, off, rfl⟩
  · rw [h0]; exact alen_nil ht
  · exact alen_sl ht
theorem enc_sub {n : Nat} (L : List {c : List AV // c.length = n}) : enc id (L.map Subtype.val) = enc Subtype.val L := by
  induction L with
  | nil => rfl
  | cons a L ih => rw [List.map_cons, enc_cons, enc_cons, ih]; rfl
theorem as_sub {n : Nat} : ∀ (ws : List (List AV)), (∀ c ∈ ws, c.length = n) → ∃ L : List {c : List AV // c.length = n}, L.map Subtype.val = ws
  | [], _ => ⟨[], rfl⟩
  | c :: ws, h => by
    obtain ⟨L, hL⟩ := as_sub ws fun x hx => h x (List.mem_cons_of_mem _ hx)
    exact ⟨⟨c, h c (List.mem_cons_self ..)⟩ :: L, by rw [List.map_cons, hL]⟩
theorem All2.dropt {γ δ : Type} {Q : γ → δ → Prop} : ∀ (k : Nat) {as : List γ} {bs : List δ}, All2 Q as bs → All2 Q (as.drop k) (bs.drop k)
  | 0, as, bs, h => by rw [List.drop_zero, List.drop_zero]; exact h
  | k + 1, [], [], _ => trivial
  | k + 1, _ :: as, _ :: bs, h => All2.dropt k (as := as) (bs := bs) h.2
  | _ + 1, [], _ :: _, h => h.elim
  | _ + 1, _ :: _, [], h => h.elim
theorem All2.taket {γ δ : Type} {Q : γ → δ → Prop} : ∀ (k : Nat) {as : List γ} {bs : List δ}, All2 Q as bs → All2 Q (as.take k) (bs.take k)
  | 0, as, bs, h => by rw [List.take_zero, List.take_zero]; trivial
  | k + 1, [], [], _ => trivial
  | k + 1, _ :: as, _ :: bs, h => ⟨h.1, All2.taket k (as := as) (bs := bs) h.2⟩
  | _ + 1, [], _ :: _, h => h.elim
  | _ + 1, _ :: _, [], h => h.elim
theorem DSh.cut {α : Type} {H : Heap} {v : AV} {n : Nat} {R : Heap → α → List AV → Prop} {xs : List α} {ws : List (List AV)} (h : DSh H v n R xs ws) (hn : 0 < n) {a b : Nat} (hab : a ≤ b ∧ b ≤ xs.length) : DSh H (v.cut n a b) n R ((xs.drop a).take (b - a)) ((ws.drop a).take (b - a)) := by
  have hl := h.all.len
  obtain ⟨L, rfl⟩ := as_sub ws h.size
  have h1 := h.shows
  rw [enc_sub] at h1
  have h2 := h1.cut (fun x => x.2) hn (a := a) (b := b) (by rw [List.length_map] at hl; omega)
  rw [← enc_sub, List.map_take, List.map_drop] at h2
  exact ⟨h2, fun c hc => h.size c (List.mem_of_mem_drop (List.mem_of_mem_take hc)), (h.all.dropt a).taket _⟩
theorem sd_slice {t : TypeId} {x : Operand} {lo hi : Option Operand} {v : AV} {α : Type} {R : Heap → α → List AV → Prop} {xs : List α} {ws : List (List AV)} {n : Nat} {l h' : Option Int} (hv : DSh H v n R xs ws) {a b : Int} (h0 : 0 ≤ a ∧ a ≤ b ∧ b ≤ xs.length) (hn : 0 < n) (hx : aeval s x = .v v) (hl : optAV (lo.map (aeval s)) = some l) (hh : optAV (hi.map (aeval s)) = some h')
    (ha : l.getD 0 = a) (hb : h'.getD xs.length = b) (ht : (telem P t).bind (tsz P) = some n)
    (h : wops P q ops r (i + 1) (aput s dst (.v (v.cut n a.toNat b.toNat))) H K) : wops P q ops ({ dst, op := .slice t x lo hi none, type := ty, pos, after, guard := none } :: r) i s H K := by
  refine so_to (wops_slice.trans (by rw [hx, hl, hh])) (v := .v (v.cut n a.toNat b.toNat)) (H' := H) ?_ (fun _ => .inl rfl) h
  have hbd : slBounds xs.length l h' = some (a.toNat, b.toNat) := by simp only [slBounds, ha, hb]; rw [if_pos h0]
  rcases hv.len hn with ⟨rfl, h1⟩ | ⟨id, off, rfl⟩
  · simp only [tslice, ht, Option.isSome_some, if_true, AV.cut]
    rw [h1] at hbd
    rw [hbd]; rfl
  · exact tslice_sl ht hbd
theorem sd_idx {t : TypeId} {x y : Operand} {v : AV} {α : Type} {R : Heap → α → List AV → Prop} {xs : List α} {ws : List (List AV)} {n : Nat} {k : IntKind} {z : Int} (hv : DSh H v n R xs ws) (h0 : 0 ≤ z ∧ z < xs.length) (d : α) (hn : 0 < n) (hx : aeval s x = .v v) (hy : aeval s y = .v (.int k z)) (ht : (telem P t).bind (tsz P) = some n)
    (h : wops P q ops r (i + 1) (aput s dst (.v (.ptr v.id0 (v.of0 + z.toNat * n)))) H K) :
    wops P q ops ({ dst, op := .indexAddr t x y, type := ty, pos, after, guard := none } :: r) i s H K := by
  obtain ⟨h1, _⟩ := hv.at hn h0 d
  refine so_to (wops_indexAddr.trans (by rw [hx, hy])) (v := .v (.ptr v.id0 (v.of0 + z.toNat * n))) (H' := H) ?_ (fun _ => .inl rfl) h
  conv => lhs; rw [h1]
  exact tindexAddr_sl ht h0.1 h0.2
theorem sd_bslice {t e : TypeId} {n len : Nat} {z : List AV} {ps : List (Nat × Operand)} (hs : Sep H l) (css : List (List AV)) (h1 : telem P t = some e) (h2 : tsz P e = some n) (h3 : tzero P e = some z) (h4 : z.length = n)
    (hp : partsT (ps.map fun p => (p.1, aeval s p.2)) = some ((css.zipIdx 0).map fun p => (p.2, p.1))) (hlen : css.length = len) (hc : ∀ c ∈ css, c.length = n) (hst : ∀ c ∈ css, c.all AV.stor = true) (hb : len * n ≤ 2 ^ 24) (hlc : (enc id css).length = len * n)
    (hq : q = true → barrier ops i = true) (h : ∀ v H', v ≠ .nilsl → Sep H' (.osl v n (enc id css) :: l) → wops P q ops r (i + 1) (aput s dst (.v v)) H' K) :
    wops P q ops ({ dst, op := .buildSlice t len ps.toArray, type := ty, pos, after, guard := none } :: r) i s H K := by
  refine so_bslice h1 h2 h3 h4 hp hlen hc hst hb (cs := enc id css) ?_ (fun hh => .inr (hq hh)) (h _ _ (by simp) (hs.allocS hlc))
  rw [enc, List.flatMap_id]
end
theorem whole {c cs : List AV} {m : Nat} (e : c = cs) (hm : cs.length = m) : (c.drop 0).take m = cs := by subst e; rw [List.drop_zero, ← hm, List.take_length]
theorem lenc {c cs : List AV} {m : Nat} (e : c = cs) (hm : m ≤ cs.length) : 0 + m ≤ c.length := by subst e; omega

end Go.Ab
namespace Go.Ab
theorem cut_nn {v : AV} {n a b : Nat} (h : v ≠ .nilsl) : v.cut n a b ≠ .nilsl := by
  cases v <;> first | (exact absurd rfl h) | (intro c; cases c)
theorem cutok {a b : Int} {n : Nat} (h : 0 ≤ a ∧ a ≤ b ∧ b ≤ (n : Int)) : a.toNat ≤ b.toNat ∧ b.toNat ≤ n := by omega
theorem ptre {H : Heap} {id off : Nat} {c cs : List AV} (e : c = cs) (h : PtAt H id off c) : PtAt H id off cs := e ▸ h
end Go.Ab
namespace Go.Ab
theorem leb {a b : Nat} (h : Nat.ble a b = true) : a ≤ b := Nat.le_of_ble_eq_true h
end Go.Ab
namespace Go.Ab
theorem fac {α : Type} {p : α → Prop} {x : α} {l : List α} (h : p x) (k : ∀ y ∈ l, p y) : ∀ y ∈ x :: l, p y := fun y hy => (List.mem_cons.1 hy).elim (fun e => e ▸ h) (k y)
theorem fan {α : Type} {p : α → Prop} : ∀ y ∈ ([] : List α), p y := fun _ hy => absurd hy (List.not_mem_nil)
end Go.Ab
