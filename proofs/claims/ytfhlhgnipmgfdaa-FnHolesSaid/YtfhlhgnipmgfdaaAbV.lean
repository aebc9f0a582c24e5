/-
  STEPS OVER PIECES: the operations that read or change memory, over the list of pieces. By an AI agent; nothing here is trusted.
-/
import Derived.Test.YtfhlhgnipmgfdaaAbY
namespace Go.Ab
set_option linter.unusedVariables false
set_option linter.unusedSimpArgs false

/-! ### elements -/
def eInt (k : IntKind) (n : Int) : List AV := [.int k n]
def eFlt (k : FloatKind) (b : Nat) : List AV := [.flt k b]
def eBool (b : Bool) : List AV := [.bool b]
def eStr (l : List UInt8) : List AV := [.str (pk l)]
/-- A number with the other sign. -/
def fneg (f : FloatKind) (b : Nat) : Nat := cz f (Op.negFloat f b)
theorem au_fneg' {f : FloatKind} {x : Nat} : aun .neg (.flt f x) = some (.flt f (fneg f x)) := rfl
def ePair {α β : Type} (e : α → List AV) (f : β → List AV) (x : α × β) : List AV := e x.1 ++ f x.2

section
variable {P : Program} {q : Bool} {ops r : List Oper} {i : Nat} {s : Nat → TV} {H : Heap} {K : (Nat → TV) → Heap → Prop} {dst : Option Tmp} {ty : TypeId} {pos : String} {after : Array Edge} {l : List Pc}

theorem sv_idx {t : TypeId} {x y : Operand} {v : AV} {α : Type} {e : α → List AV} {xs : List α} {n : Nat} {k : IntKind} {z : Int} (hv : Shows H v n (enc e xs)) (h0 : 0 ≤ z ∧ z < xs.length) (he : ∀ x, (e x).length = n) (hn : 0 < n) (hx : aeval s x = .v v) (hy : aeval s y = .v (.int k z)) (ht : (telem P t).bind (tsz P) = some n)
    (h : wops P q ops r (i + 1) (aput s dst (.v (.ptr v.id0 (v.of0 + z.toNat * n)))) H K) :
    wops P q ops ({ dst, op := .indexAddr t x y, type := ty, pos, after, guard := none } :: r) i s H K := so_idx hx hy ht he hn hv h0 h
theorem sv_cell {t : TypeId} {x : Operand} {v : AV} {α : Type} {e : α → List AV} {xs : List α} {n : Nat} {z : Int} (hv : Shows H v n (enc e xs)) (h0 : 0 ≤ z ∧ z < xs.length) (d : α) (j : Nat) (c : α → AV) (he : ∀ x, (e x).length = n) (hj : ∀ x, (e x)[j]? = some (c x))
    (hx : aeval s x = .v (.ptr v.id0 (v.of0 + z.toNat * n + j))) (ht : tagg P t = some false) (h : wops P q ops r (i + 1) (aput s dst (.v (c (xs.getD z.toNat d)))) H K) :
    wops P q ops ({ dst, op := .load t x, type := ty, pos, after, guard := none } :: r) i s H K := so_load hx ht (hv.cell he h0 d hj) h
theorem sv_elem {t : TypeId} {x : Operand} {v : AV} {α : Type} {e : α → List AV} {xs : List α} {n : Nat} {z : Int} (hv : Shows H v n (enc e xs)) (h0 : 0 ≤ z ∧ z < xs.length) (d : α) (he : ∀ x, (e x).length = n) (hn : 0 < n)
    (hx : aeval s x = .v (.ptr v.id0 (v.of0 + z.toNat * n))) (ht : tagg P t = some true) (ht2 : tsz P t = some n) (h : wops P q ops r (i + 1) (aput s dst (.g (e (xs.getD z.toNat d)))) H K) :
    wops P q ops ({ dst, op := .load t x, type := ty, pos, after, guard := none } :: r) i s H K := so_loadg hx ht ht2 (hv.elem he hn h0 d) h
theorem sv_set {t : TypeId} {a y : Operand} (hs : Sep H l) (k : Nat) {v : AV} {α : Type} {e : α → List AV} {xs : List α} {n : Nat} {z : Int} {w : TV} (hk : nth l k = some (.osl v n (enc e xs))) (h0 : 0 ≤ z ∧ z < xs.length) (x : α) (he : ∀ x, (e x).length = n) (hn : 0 < n) (hst : (e x).all AV.stor = true)
    (hx : aeval s a = .v (.ptr v.id0 (v.of0 + z.toNat * n))) (hy : aeval s y = w) (hc : w.cells = some (e x)) (ht : tsz P t = some n) (hq : q = true → barrier ops i = true)
    (h : ∀ H', Sep H' (putP l k (.osl v n (enc e (xs.set z.toNat x)))) → wops P q ops r (i + 1) (aput s dst (.v .und)) H' K) :
    wops P q ops ({ dst, op := .store t a y, type := ty, pos, after, guard := none } :: r) i s H K := by
  obtain ⟨H', h1, h2⟩ := hs.set k hk he hn h0 x hst
  exact so_store hx hy hc ht (he x) h1 (fun hh => .inr (hq hh)) (h H' h2)
theorem sv_setf {t : TypeId} {a y : Operand} (hs : Sep H l) (k : Nat) {v : AV} {α : Type} {e : α → List AV} {xs : List α} {n : Nat} {z : Int} {w : AV} (hk : nth l k = some (.osl v n (enc e xs))) (h0 : 0 ≤ z ∧ z < xs.length) (d x : α) (j : Nat) (he : ∀ x, (e x).length = n) (hj : j < n)
    (hx : aeval s a = .v (.ptr v.id0 (v.of0 + z.toNat * n + j))) (hy : aeval s y = .v w) (hw : splice (e (xs.getD z.toNat d)) [w] j = e x) (hst : w.stor = true) (ht : tsz P t = some 1) (hq : q = true → barrier ops i = true)
    (h : ∀ H', Sep H' (putP l k (.osl v n (enc e (xs.set z.toNat x)))) → wops P q ops r (i + 1) (aput s dst (.v .und)) H' K) :
    wops P q ops ({ dst, op := .store t a y, type := ty, pos, after, guard := none } :: r) i s H K := by
  obtain ⟨H', h1, h2⟩ := hs.setf k hk he h0 d x hj hw hst
  exact so_store hx hy rfl ht rfl h1 (fun hh => .inr (hq hh)) (h H' h2)
theorem sv_ld {t : TypeId} {x : Operand} (hs : Sep H l) (k : Nat) {id j : Nat} {cs : List AV} {c : AV} (hk : nth l k = some (.box id cs)) (hx : aeval s x = .v (.ptr id j)) (hc : cs[j]? = some c) (ht : tagg P t = some false) (h : wops P q ops r (i + 1) (aput s dst (.v c)) H K) :
    wops P q ops ({ dst, op := .load t x, type := ty, pos, after, guard := none } :: r) i s H K := so_load hx ht (hs.ld k hk hc) h
theorem sv_lds {t : TypeId} {x : Operand} (hs : Sep H l) (k : Nat) {id j m : Nat} {cs c : List AV} (hk : nth l k = some (.box id cs)) (hx : aeval s x = .v (.ptr id j)) (hl : j + m ≤ cs.length) (hc : (cs.drop j).take m = c) (ht : tagg P t = some true) (ht2 : tsz P t = some m) (h : wops P q ops r (i + 1) (aput s dst (.g c)) H K) :
    wops P q ops ({ dst, op := .load t x, type := ty, pos, after, guard := none } :: r) i s H K := so_loadg hx ht ht2 (hs.lds k hk hl hc) h
theorem sv_st {t : TypeId} {a y : Operand} (hs : Sep H l) (k : Nat) {id j m : Nat} {cs c cs' : List AV} {w : TV} (hk : nth l k = some (.box id cs)) (hx : aeval s a = .v (.ptr id j)) (hy : aeval s y = w) (hc : w.cells = some c) (ht : tsz P t = some m) (hm : c.length = m) (hst : c.all AV.stor = true) (hl : j + c.length ≤ cs.length) (hsp : splice cs c j = cs')
    (hq : q = true → barrier ops i = true) (h : ∀ H', Sep H' (putP l k (.box id cs')) → wops P q ops r (i + 1) (aput s dst (.v .und)) H' K) :
    wops P q ops ({ dst, op := .store t a y, type := ty, pos, after, guard := none } :: r) i s H K := by
  obtain ⟨H', h1, h2⟩ := hs.st k hk hl hst hsp
  exact so_store hx hy hc ht hm h1 (fun hh => .inr (hq hh)) (h H' h2)
theorem sv_alloc {t : TypeId} {z : List AV} (hs : Sep H l) (ht : tzero P t = some z) (hst : z.all AV.stor = true) (hq : q = true → barrier ops i = true) (h : ∀ id H', Sep H' (.box id z :: l) → wops P q ops r (i + 1) (aput s dst (.v (.ptr id 0))) H' K) :
    wops P q ops ({ dst, op := .alloc t, type := ty, pos, after, guard := none } :: r) i s H K := so_alloc ht hst (fun hh => .inr (hq hh)) (h _ _ (hs.alloc z))
theorem sv_box {t : TypeId} {x : Operand} {v : TV} {c : List AV} (hs : Sep H l) (hx : aeval s x = v) (hc : v.cells = some c) (ht : (P.info? t).isSome = true) (hst : c.all AV.stor = true) (hq : q = true → barrier ops i = true) (h : ∀ id H', Sep H' (.box id c :: l) → wops P q ops r (i + 1) (aput s dst (.v (.ptr id 0))) H' K) :
    wops P q ops ({ dst, op := .box t x, type := ty, pos, after, guard := none } :: r) i s H K := so_box hx hc ht hst (fun hh => .inr (hq hh)) (h _ _ (hs.alloc c))
theorem sv_make {t e : TypeId} {sz bys : Nat} {z : List AV} {x y : Operand} {n m : Int} {α : Type} (hs : Sep H l) (en : α → List AV) (z0 : α) (h7 : 0 ≤ n ∧ n ≤ m ∧ m ≤ 2 ^ 40 ∧ m * bys ≤ 2 ^ 40) (he : ∀ x, (en x).length = sz) (hx : aeval s x = .v (.int .i64 n)) (hy : aeval s y = .v (.int .i64 m)) (h1 : telem P t = some e) (h2 : tsz P e = some sz) (h3 : tbytes P e = some bys) (h4 : tzero P e = some z) (hz : z = en z0)
    (h6 : z.all AV.stor = true) (hq : q = true → barrier ops i = true) (h : ∀ v H', v ≠ .nilsl → Sep H' (.osl v sz (enc en (List.replicate n.toNat z0)) :: l) → wops P q ops r (i + 1) (aput s dst (.v v)) H' K) :
    wops P q ops ({ dst, op := .makeSlice t x y, type := ty, pos, after, guard := none } :: r) i s H K := by
  subst hz
  refine so_make hx hy h1 h2 h3 h4 (he z0) h6 h7 (fun hh => .inr (hq hh)) ?_
  rw [zerosOf_enc]
  exact h _ _ (by simp) (hs.allocS (by rw [enc_length he, List.length_replicate]))
theorem sv_bslice {t e : TypeId} {n len : Nat} {z : List AV} {ps : List (Nat × Operand)} {α : Type} (hs : Sep H l) (en : α → List AV) (xs : List α) (css : List (List AV)) (h1 : telem P t = some e) (h2 : tsz P e = some n) (h3 : tzero P e = some z) (h4 : z.length = n)
    (hp : partsT (ps.map fun p => (p.1, aeval s p.2)) = some ((css.zipIdx 0).map fun p => (p.2, p.1))) (hxs : css = xs.map en) (hlen : xs.length = len) (he : ∀ x, (en x).length = n) (hst : (enc en xs).all AV.stor = true) (hb : len * n ≤ 2 ^ 24)
    (hq : q = true → barrier ops i = true) (h : ∀ v H', v ≠ .nilsl → Sep H' (.osl v n (enc en xs) :: l) → wops P q ops r (i + 1) (aput s dst (.v v)) H' K) :
    wops P q ops ({ dst, op := .buildSlice t len ps.toArray, type := ty, pos, after, guard := none } :: r) i s H K := by
  have hf : css.flatten = enc en xs := by rw [hxs, enc, List.flatMap]
  refine so_bslice h1 h2 h3 h4 hp (by rw [hxs, List.length_map, hlen]) (fun c hc => ?_) (fun c hc => ?_) hb hf (fun hh => .inr (hq hh)) (h _ _ (by simp) (hs.allocS (by rw [enc_length he, hlen])))
  · rw [hxs] at hc; obtain ⟨x, _, rfl⟩ := List.mem_map.1 hc; exact he x
  · rw [List.all_eq_true] at hst ⊢
    exact fun y hy => hst y (by rw [← hf]; exact List.mem_flatten.2 ⟨c, hc, hy⟩)
theorem sv_app {b0 b1 : TypeId} {x y : Operand} {n bytes : Nat} {v w : AV} {α : Type} {e : α → List AV} {xs ys : List α} (hs : Sep H l) (k : Nat) (hk : nth l k = some (.osl v n (enc e xs))) (hw : Shows H w n (enc e ys)) (he : ∀ x, (e x).length = n) (hn : 0 < n) (ht : tapp P b0 b1 = some (n, bytes)) (h5 : bytes ≠ 0)
    (hb : (xs.length + ys.length) * bytes ≤ 2 ^ 40) (hx : aeval s x = .v v) (hy : aeval s y = .v w) (hq : q = true → barrier ops i = true)
    (h : ∀ v' H', (v ≠ .nilsl → v' ≠ .nilsl) → Sep H' (putP l k (.osl v' n (enc e (xs ++ ys)))) → wops P q ops r (i + 1) (aput s dst (.v v')) H' K) :
    wops P q ops ({ dst, op := .call { callee := .builtin .append, args := [x, y].toArray, argTypes := [b0, b1].toArray }, type := ty, pos, after, guard := none } :: r) i s H K := by
  obtain ⟨v', H', h1, h3, h2⟩ := hs.append k hk he hn hw hb h5
  exact so_app hx hy ht h1 (fun hh => .inr (hq hh)) (h v' H' h3 h2)
/-- The bytes of a text as numbers. -/
def nums (l : List UInt8) : List Int := l.map fun b => (b.toNat : Int)
theorem nums_enc (l : List UInt8) : (pk l).data.toList.map (fun b => AV.int .u8 b.toNat) = enc (eInt .u8) (nums l) := by
  rw [pk_data]
  have := enc_one (AV.int .u8) (nums l)
  rw [show enc (eInt .u8) (nums l) = _ from this, nums, List.map_map]; rfl
theorem sv_apps {b0 b1 : TypeId} {x y : Operand} {bytes : Nat} {v : AV} {xs : List Int} {ys : List UInt8} (hs : Sep H l) (k : Nat) (hk : nth l k = some (.osl v 1 (enc (eInt .u8) xs))) (ht : tapp P b0 b1 = some (1, bytes)) (h5 : bytes ≠ 0)
    (hb : (xs.length + ys.length) * bytes ≤ 2 ^ 40) (hx : aeval s x = .v v) (hy : aeval s y = .v (.str (pk ys))) (hq : q = true → barrier ops i = true)
    (h : ∀ v' H', (v ≠ .nilsl → v' ≠ .nilsl) → Sep H' (putP l k (.osl v' 1 (enc (eInt .u8) (xs ++ nums ys)))) → wops P q ops r (i + 1) (aput s dst (.v v')) H' K) :
    wops P q ops ({ dst, op := .call { callee := .builtin .append, args := [x, y].toArray, argTypes := [b0, b1].toArray }, type := ty, pos, after, guard := none } :: r) i s H K := by
  have he : ∀ x, (eInt .u8 x).length = 1 := fun _ => rfl
  obtain ⟨v', H', h1, h3, h2⟩ := hs.app k hk (len := xs.length) (by rw [enc_length he]) (by decide) (x := .str (pk ys)) (m := ys.length) (new := enc (eInt .u8) (nums ys)) (bytes := bytes) (by rw [arg_str, pk_size, nums_enc]) (by rw [enc_length he, nums, List.length_map]) hb h5
  rw [← enc_append] at h2
  exact so_app hx hy ht h1 (fun hh => .inr (hq hh)) (h v' H' h3 h2)
theorem sv_len {b0 : TypeId} {x : Operand} {v : AV} {α : Type} {e : α → List AV} {xs : List α} {n : Nat} (hv : Shows H v n (enc e xs)) (he : ∀ x, (e x).length = n) (hn : 0 < n) (hx : aeval s x = .v v) (ht : (telem P b0).isSome = true) (h : wops P q ops r (i + 1) (aput s dst (.v (.int .i64 (xs.length : Int)))) H K) :
    wops P q ops ({ dst, op := .call { callee := .builtin .len, args := [x].toArray, argTypes := [b0].toArray }, type := ty, pos, after, guard := none } :: r) i s H K := so_len hx ht he hn hv h
theorem sv_slice {t : TypeId} {x : Operand} {lo hi : Option Operand} {v : AV} {α : Type} {e : α → List AV} {xs : List α} {n : Nat} {l1 h1 : Option Int} (hv : Shows H v n (enc e xs)) {a b : Int} (h0 : 0 ≤ a ∧ a ≤ b ∧ b ≤ xs.length) (he : ∀ x, (e x).length = n) (hn : 0 < n) (hx : aeval s x = .v v) (hl : optAV (lo.map (aeval s)) = some l1) (hh : optAV (hi.map (aeval s)) = some h1)
    (ha : l1.getD 0 = a) (hb : h1.getD xs.length = b) (ht : (telem P t).bind (tsz P) = some n) (h : wops P q ops r (i + 1) (aput s dst (.v (v.cut n a.toNat b.toNat))) H K) :
    wops P q ops ({ dst, op := .slice t x lo hi none, type := ty, pos, after, guard := none } :: r) i s H K := so_slice hx hl hh ht he hn hv ha hb h0 h
/-! ### maps from integers to integers -/
theorem wf_i64 {a : Int} (h : -9223372036854775808 ≤ a ∧ a ≤ 9223372036854775807) : (Lit.int .i64 a).wf = true := by
  simp only [Lit.wf, Bool.and_eq_true, decide_eq_true_eq]
  exact h
theorem sv_makeMap {t : TypeId} {kk ek : IntKind} (hs : Sep H l) (ht : tmapi P t = some (kk, ek)) (hq : q = true → barrier ops i = true) (h : ∀ id H', Sep H' (.mp id kk ek [] :: l) → wops P q ops r (i + 1) (aput s dst (.v (.mref id))) H' K) :
    wops P q ops ({ dst, op := .makeMap t none, type := ty, pos, after, guard := none } :: r) i s H K :=
  so_to (wops_op rfl) (v := .v (.mref H.n)) (H' := H.alloc (.mp kk ek [])) (by simp only [astep, ht, Option.map_some]) (fun hh => .inr (hq hh)) (h H.n _ (hs.add (Nat.le_succ _) (fun i hi => by rw [alloc_f, if_neg (Nat.ne_of_lt hi)]) ⟨Nat.lt_succ_self _, by rw [alloc_f, if_pos rfl]⟩ fun i hi => by cases hi; exact Nat.le_refl _))
theorem sv_lookup {t : TypeId} {x y : Operand} {kk ek : IntKind} {id : Nat} {m : List (Int × Int)} {a : Int} (hs : Sep H l) (k : Nat) (hk : nth l k = some (.mp id kk ek m)) (ht : tmapi P t = some (kk, ek)) (hx : aeval s x = .v (.mref id)) (hy : aeval s y = .v (.int kk a)) (hw : (Lit.int kk a).wf = true)
    (h : wops P q ops r (i + 1) (aput s dst (.v (.int ek (mpGet m a)))) H K) : wops P q ops ({ dst, op := .lookup t x y false, type := ty, pos, after, guard := none } :: r) i s H K := by
  have hf : H.f id = .mp kk ek m := (hs.nth hk).2
  refine so_to (wops_op rfl) (v := .v (.int ek (mpGet m a))) (H' := H) ?_ (fun _ => .inl rfl) h
  simp only [astep, hx, hy, ht, hf, hw, and_self, if_true]
theorem sv_mapUpdate {t : TypeId} {x y z : Operand} {kk ek : IntKind} {id : Nat} {m : List (Int × Int)} {a b : Int} (hs : Sep H l) (k : Nat) (hk : nth l k = some (.mp id kk ek m)) (ht : tmapi P t = some (kk, ek)) (hx : aeval s x = .v (.mref id)) (hy : aeval s y = .v (.int kk a)) (hz : aeval s z = .v (.int ek b)) (hw : (Lit.int kk a).wf = true) (hw2 : (Lit.int ek b).wf = true) (hl : m.length < 2 ^ 40) (hq : q = true → barrier ops i = true)
    (h : ∀ H', Sep H' (putP l k (.mp id kk ek ((a, b) :: m))) → wops P q ops r (i + 1) (aput s dst (.v .und)) H' K) : wops P q ops ({ dst, op := .mapUpdate t x y z, type := ty, pos, after, guard := none } :: r) i s H K := by
  have hp := hs.nth hk
  have hf : H.f id = .mp kk ek m := hp.2
  refine so_to (wops_op rfl) (v := .v .und) (H' := H.put id (.mp kk ek ((a, b) :: m))) ?_ (fun hh => .inr (hq hh)) (h _ (hs.change hk rfl (Nat.le_refl _) (fun i hi hne => by rw [put_f, if_neg (show ¬ i = id from hne)]) ⟨hp.1, by rw [put_f, if_pos rfl]⟩ fun i hi => .inl hi))
  simp only [astep, hx, hy, hz, ht, hf, hw, hw2, hl, and_self, if_true]
/-! ### arrays: a variable that holds one is a row of its cells -/
theorem sv_allocA {t : TypeId} {z : List AV} {α : Type} {n : Nat} (hs : Sep H l) (N : Nat) (en : α → List AV) (z0 : α) (he : ∀ x, (en x).length = n) (ht : tzero P t = some z) (hz : z = enc en (List.replicate N z0)) (hst : z.all AV.stor = true) (hq : q = true → barrier ops i = true)
    (h : ∀ v H', v ≠ .nilsl → v = .sl v.id0 0 N n → Sep H' (.osl v n (enc en (List.replicate N z0)) :: l) → wops P q ops r (i + 1) (aput s dst (.v (.ptr v.id0 0))) H' K) :
    wops P q ops ({ dst, op := .alloc t, type := ty, pos, after, guard := none } :: r) i s H K := by
  subst hz
  exact so_alloc ht hst (fun hh => .inr (hq hh)) (h (.sl H.n 0 N n) _ (by simp) rfl (hs.allocS (by rw [enc_length he, List.length_replicate])))
theorem arr_len {v : AV} {N n k : Nat} {α : Type} {e : α → List AV} {xs : List α} (hs : Sep H l) (hk : nth l k = some (.osl v n (enc e xs))) (hv : v = .sl v.id0 0 N n) (he : ∀ x, (e x).length = n) (hn : 0 < n) : xs.length = N ∧ H.f v.id0 = .own (enc e xs) := by
  rcases hs.nth hk with ⟨h1, _⟩ | ⟨id, off, len, pre, h1, h2, h3, h4, h5⟩
  · rw [h1] at hv; cases hv
  · rw [h1] at hv
    cases hv
    rw [enc_length he] at h3
    rw [List.length_eq_zero_iff.1 h2] at h5
    rw [h1]
    exact ⟨Nat.eq_of_mul_eq_mul_right hn h3, h5⟩
theorem sv_idxA {t et : TypeId} {x y : Operand} {v : AV} {α : Type} {e : α → List AV} {xs : List α} {N n : Nat} {k : IntKind} {z : Int} (hs : Sep H l) (j : Nat) (hj : nth l j = some (.osl v n (enc e xs))) (hv : v = .sl v.id0 0 N n) (h0 : 0 ≤ z ∧ z < xs.length) (he : ∀ x, (e x).length = n) (hn : 0 < n) (hx : aeval s x = .v (.ptr v.id0 0)) (hy : aeval s y = .v (.int k z)) (ht : tarr P t = some (N, et)) (ht2 : tsz P et = some n)
    (h : wops P q ops r (i + 1) (aput s dst (.v (.ptr v.id0 (v.of0 + z.toNat * n)))) H K) :
    wops P q ops ({ dst, op := .indexAddr t x y, type := ty, pos, after, guard := none } :: r) i s H K := by
  obtain ⟨hl, _⟩ := arr_len hs hj hv he hn
  refine so_to (wops_indexAddr.trans (by rw [hx, hy])) (v := .v (.ptr v.id0 (v.of0 + z.toNat * n))) (H' := H) ?_ (fun _ => .inl rfl) h
  rw [tindexAddr_arr ht ht2 h0.1 (by rw [← hl]; exact h0.2)]
  have : v.of0 = 0 := by rw [hv]; rfl
  rw [this]
theorem sv_sliceA {t et : TypeId} {x : Operand} {lo hi : Option Operand} {v : AV} {α : Type} {e : α → List AV} {xs : List α} {N n : Nat} {l1 h1 : Option Int} (hs : Sep H l) (j : Nat) (hj : nth l j = some (.osl v n (enc e xs))) (hv : v = .sl v.id0 0 N n) {a b : Int} (h0 : 0 ≤ a ∧ a ≤ b ∧ b ≤ xs.length) (he : ∀ x, (e x).length = n) (hn : 0 < n) (hx : aeval s x = .v (.ptr v.id0 0)) (hl : optAV (lo.map (aeval s)) = some l1) (hh : optAV (hi.map (aeval s)) = some h1)
    (ha : l1.getD 0 = a) (hb : h1.getD xs.length = b) (ht : tarr P t = some (N, et)) (ht2 : tsz P et = some n) (h : wops P q ops r (i + 1) (aput s dst (.v (v.cut n a.toNat b.toNat))) H K) :
    wops P q ops ({ dst, op := .slice t x lo hi none, type := ty, pos, after, guard := none } :: r) i s H K := by
  obtain ⟨hN, ho⟩ := arr_len hs hj hv he hn
  refine so_to (wops_slice.trans (by rw [hx, hl, hh])) (v := .v (v.cut n a.toNat b.toNat)) (H' := H) ?_ (fun _ => .inl rfl) h
  have hbd : slBounds N l1 h1 = some (a.toNat, b.toNat) := by rw [← hN]; simp only [slBounds, ha, hb]; rw [if_pos h0]
  rw [tslice_arr ht ht2 ho (by rw [enc_length he, hN]; omega) hbd, hv]
  rfl
theorem sv_call {f : Operand} {as : List Operand} {tys : Array TypeId} {g : FuncId} {args : List TV} {Q : TV → Heap → Prop} (ho : OkQ P g args H Q) (hf : aeval s f = .v (.fn g [])) (ha : as.map (aeval s) = args) (hq : q = true → barrier ops i = true)
    (h : ∀ v H', Q v H' → wops P q ops r (i + 1) (aput s dst v) H' K) : wops P q ops ({ dst, op := .call { callee := .value f, args := as.toArray, argTypes := tys }, type := ty, pos, after, guard := none } :: r) i s H K := by
  obtain ⟨v, H', h1, h2⟩ := ho
  exact so_call hf ha h1 (fun hh => .inr (hq hh)) (h v H' h2)
theorem sv_callS {f : Operand} {as : List Operand} {tys : Array TypeId} {g : FuncId} {args : List TV} {Q : TV → Heap → Prop} (ho : OkQ P g args H Q) (hQ : ∀ v H', Q v H' → H = H') (hf : aeval s f = .v (.fn g [])) (ha : as.map (aeval s) = args)
    (h : ∀ v H', Q v H' → wops P q ops r (i + 1) (aput s dst v) H' K) : wops P q ops ({ dst, op := .call { callee := .value f, args := as.toArray, argTypes := tys }, type := ty, pos, after, guard := none } :: r) i s H K := by
  obtain ⟨v, H', h1, h2⟩ := ho
  exact so_call hf ha h1 (fun _ => .inl (hQ v H' h2).symm) (h v H' h2)
theorem so_callc {f : Operand} {as : List Operand} {tys : Array TypeId} {g : FuncId} {caps : List (Nat × Nat)} {args : List TV} {v : TV} {H' : Heap} (hf : aeval s f = .v (.fn g caps)) (ha : as.map (aeval s) ++ caps.map (fun p => TV.v (.ptr p.1 p.2)) = args) (ho : Ok P g args H v H') (hq : q = true → H' = H ∨ barrier ops i = true)
    (h : wops P q ops r (i + 1) (aput s dst v) H' K) : wops P q ops ({ dst, op := .call { callee := .value f, args := as.toArray, argTypes := tys }, type := ty, pos, after, guard := none } :: r) i s H K := by
  rw [wops_call, hf]
  refine ⟨v, H', by rw [ha]; exact ho, ?_⟩
  exact ⟨hq, h⟩
theorem sv_callc {f : Operand} {as : List Operand} {tys : Array TypeId} {g : FuncId} {caps : List (Nat × Nat)} {args : List TV} {Q : TV → Heap → Prop} (ho : OkQ P g args H Q) (hf : aeval s f = .v (.fn g caps)) (ha : as.map (aeval s) ++ caps.map (fun p => TV.v (.ptr p.1 p.2)) = args) (hq : q = true → barrier ops i = true)
    (h : ∀ v H', Q v H' → wops P q ops r (i + 1) (aput s dst v) H' K) : wops P q ops ({ dst, op := .call { callee := .value f, args := as.toArray, argTypes := tys }, type := ty, pos, after, guard := none } :: r) i s H K := by
  obtain ⟨v, H', h1, h2⟩ := ho
  exact so_callc hf ha h1 (fun hh => .inr (hq hh)) (h v H' h2)
theorem sv_callcS {f : Operand} {as : List Operand} {tys : Array TypeId} {g : FuncId} {caps : List (Nat × Nat)} {args : List TV} {Q : TV → Heap → Prop} (ho : OkQ P g args H Q) (hQ : ∀ v H', Q v H' → H = H') (hf : aeval s f = .v (.fn g caps)) (ha : as.map (aeval s) ++ caps.map (fun p => TV.v (.ptr p.1 p.2)) = args)
    (h : ∀ v H', Q v H' → wops P q ops r (i + 1) (aput s dst v) H' K) : wops P q ops ({ dst, op := .call { callee := .value f, args := as.toArray, argTypes := tys }, type := ty, pos, after, guard := none } :: r) i s H K := by
  obtain ⟨v, H', h1, h2⟩ := ho
  exact so_callc hf ha h1 (fun _ => .inl (hQ v H' h2).symm) (h v H' h2)
theorem so_makeFunc {f : FuncId} {cs : List Operand} {c : List (Nat × Nat)} (hc : capsOf (aeval s) cs = some c) (h : wops P q ops r (i + 1) (aput s dst (.v (.fn f c))) H K) :
    wops P q ops ({ dst, op := .makeFunc (.func f) #[] cs.toArray, type := ty, pos, after, guard := none } :: r) i s H K := by
  refine so_to (wops_op rfl) (v := .v (.fn f c)) (H' := H) ?_ (fun _ => .inl rfl) h
  have e : (#[] : Array Operand).size = 0 := rfl
  show (if (#[] : Array Operand).size = 0 then (capsOf (aeval s) cs.toArray.toList).map fun c => (TV.v (.fn f c), H) else none) = _
  rw [if_pos e]
  show (capsOf (aeval s) cs).map (fun c => (TV.v (.fn f c), H)) = _
  rw [hc]; rfl
/-- A call that leaves memory as it was (for regions whose order is open). -/
theorem sv_callp {f : Operand} {as : List Operand} {tys : Array TypeId} {g : FuncId} {args : List TV} {v : TV} (ho : Ok P g args H v H) (hf : aeval s f = .v (.fn g [])) (ha : as.map (aeval s) = args)
    (h : wops P q ops r (i + 1) (aput s dst v) H K) : wops P q ops ({ dst, op := .call { callee := .value f, args := as.toArray, argTypes := tys }, type := ty, pos, after, guard := none } :: r) i s H K := so_call hf ha ho (fun _ => .inl rfl) h

/-! ### conversions -/
theorem sv_ii {src d : TypeId} {x : Operand} {k k' : IntKind} {n : Int} (hx : aeval s x = .v (.int k n)) (h1 : (P.underlying src).isSome = true) (h2 : tint P d = some k') (h : wops P q ops r (i + 1) (aput s dst (.v (.int k' (k'.wrap n)))) H K) :
    wops P q ops ({ dst, op := .convert src d x, type := ty, pos, after, guard := none } :: r) i s H K := so_conv hx (tconv_int h1 h2) (fun _ => .inl rfl) h
/-- An integer as a number. -/
def itof (f : FloatKind) (n : Int) : Nat := cz f (floatOfInt f n)
theorem sv_if {src d : TypeId} {x : Operand} {k : IntKind} {f : FloatKind} {n : Int} (hx : aeval s x = .v (.int k n)) (h1 : (P.underlying src).isSome = true) (h2 : tint P d = none) (h3 : tflt P d = some f) (h : wops P q ops r (i + 1) (aput s dst (.v (.flt f (itof f n)))) H K) :
    wops P q ops ({ dst, op := .convert src d x, type := ty, pos, after, guard := none } :: r) i s H K := so_conv hx (tconv_itof h1 h2 h3) (fun _ => .inl rfl) h
/-- A number as an integer. -/
def ftoi (f : FloatKind) (b : Nat) (k : IntKind) : Int := (floatToIntVal f b k).getD 0
theorem sv_fi {src d : TypeId} {x : Operand} {k : IntKind} {f : FloatKind} {b : Nat} (hc : (floatToIntVal f b k).isSome = true) (hx : aeval s x = .v (.flt f b)) (h1 : (P.underlying src).isSome = true) (h2 : tint P d = some k) (h : wops P q ops r (i + 1) (aput s dst (.v (.int k (ftoi f b k)))) H K) :
    wops P q ops ({ dst, op := .convert src d x, type := ty, pos, after, guard := none } :: r) i s H K := by
  obtain ⟨n, hn⟩ := Option.isSome_iff_exists.1 hc
  have : ftoi f b k = n := by rw [ftoi, hn]; rfl
  rw [this] at h
  exact so_conv hx (tconv_ftoi h1 h2 hn) (fun _ => .inl rfl) h
theorem sv_ffs {src d : TypeId} {x : Operand} {f : FloatKind} {b : Nat} (hx : aeval s x = .v (.flt f b)) (h1 : (P.underlying src).isSome = true) (h2 : tint P d = none) (h3 : tflt P d = some f) (h : wops P q ops r (i + 1) (aput s dst (.v (.flt f b))) H K) :
    wops P q ops ({ dst, op := .convert src d x, type := ty, pos, after, guard := none } :: r) i s H K := so_conv hx (tconv_ftof_same h1 h2 h3) (fun _ => .inl rfl) h
theorem sv_ffw {src d : TypeId} {x : Operand} {b : Nat} (hx : aeval s x = .v (.flt .f32 b)) (h1 : (P.underlying src).isSome = true) (h2 : tint P d = none) (h3 : tflt P d = some .f64) (h : wops P q ops r (i + 1) (aput s dst (.v (.flt .f64 (widen b)))) H K) :
    wops P q ops ({ dst, op := .convert src d x, type := ty, pos, after, guard := none } :: r) i s H K := so_conv hx (tconv_ftof h1 h2 h3 (widen_eq b)) (fun _ => .inl rfl) h
/-- A number narrowed. -/
def narrow (b : Nat) : Nat := (fconv .f64 b .f32).getD 0
theorem sv_ffn {src d : TypeId} {x : Operand} {b : Nat} (hc : (fconv .f64 b .f32).isSome = true) (hx : aeval s x = .v (.flt .f64 b)) (h1 : (P.underlying src).isSome = true) (h2 : tint P d = none) (h3 : tflt P d = some .f32) (h : wops P q ops r (i + 1) (aput s dst (.v (.flt .f32 (narrow b)))) H K) :
    wops P q ops ({ dst, op := .convert src d x, type := ty, pos, after, guard := none } :: r) i s H K := by
  obtain ⟨n, hn⟩ := Option.isSome_iff_exists.1 hc
  have : narrow b = n := by rw [narrow, hn]; rfl
  rw [this] at h
  exact so_conv hx (tconv_ftof h1 h2 h3 hn) (fun _ => .inl rfl) h
theorem sv_ss {src d : TypeId} {x : Operand} {m : ByteArray} (hx : aeval s x = .v (.str m)) (h1 : (P.underlying src).isSome = true) (h2 : tstr P d = true) (h : wops P q ops r (i + 1) (aput s dst (.v (.str m))) H K) :
    wops P q ops ({ dst, op := .convert src d x, type := ty, pos, after, guard := none } :: r) i s H K := so_conv hx (tconv_str h1 h2) (fun _ => .inl rfl) h
theorem sv_sb {src d e : TypeId} {x : Operand} {m : List UInt8} (hs : Sep H l) (hx : aeval s x = .v (.str (pk m))) (h1 : (P.underlying src).isSome = true) (h2 : tstr P d = false) (h3 : telem P d = some e) (h4 : tint P e = some .u8) (hq : q = true → barrier ops i = true)
    (h : ∀ v H', v ≠ .nilsl → Sep H' (.osl v 1 (enc (eInt .u8) (nums m)) :: l) → wops P q ops r (i + 1) (aput s dst (.v v)) H' K) :
    wops P q ops ({ dst, op := .convert src d x, type := ty, pos, after, guard := none } :: r) i s H K := by
  refine so_conv hx (tconv_bytes h1 h2 h3 h4) (fun hh => .inr (hq hh)) ?_
  rw [nums_enc]
  exact h _ _ (by simp) (hs.allocS (by rw [enc_length (n := 1) (fun _ => rfl), nums, List.length_map, pk_size]))
/-- Numbers as bytes. -/
def byts (l : List Int) : List UInt8 := l.map fun n => UInt8.ofNat n.toNat
theorem strOf_byts : ∀ l : List Int, strOfCells (enc (eInt .u8) l) = some (byts l)
  | [] => rfl
  | n :: l => by
    have : enc (eInt .u8) (n :: l) = AV.int .u8 n :: enc (eInt .u8) l := rfl
    rw [this, strOfCells, strOf_byts l]; rfl
theorem sv_bs {src d e : TypeId} {x : Operand} {v : AV} {xs : List Int} (hv : Shows H v 1 (enc (eInt .u8) xs)) (hnil : v ≠ .nilsl) (hx : aeval s x = .v v) (h1 : telem P src = some e) (h2 : tint P e = some .u8) (h3 : tstr P d = true) (h : wops P q ops r (i + 1) (aput s dst (.v (.str (pk (byts xs))))) H K) :
    wops P q ops ({ dst, op := .convert src d x, type := ty, pos, after, guard := none } :: r) i s H K := by
  rcases hv.len (n := 1) (fun _ => rfl) (by decide) with ⟨rfl, _⟩ | ⟨id, off, rfl, h4⟩
  · exact absurd rfl hnil
  · refine so_conv hx (tconv_string h1 h2 h3 (cs := enc (eInt .u8) xs) ?_ (strOf_byts xs)) (fun _ => .inl rfl) h
    have hl := enc_length (e := eInt .u8) (n := 1) (fun _ => rfl) xs
    rw [Nat.mul_one] at hl
    rw [rdCells_eq, ← hl, if_pos h4.2.1, h4.2.2]

theorem sv_bb {t e : TypeId} {x : Operand} {v : AV} {xs : List Int} (hs : Sep H l) (k : Nat) (hk : nth l k = some (.osl v 1 (enc (eInt .u8) xs))) (hnil : 0 < xs.length) (hx : aeval s x = .v v) (h1 : telem P t = some e) (h2 : tint P e = some .u8) (h3 : tstr P t = false) (h : wops P q ops r (i + 1) (aput s dst (.v v)) H K) :
    wops P q ops ({ dst, op := .convert t t x, type := ty, pos, after, guard := none } :: r) i s H K := by
  rcases hs.nth hk with ⟨_, h0⟩ | ⟨id, off, len, pre, rfl, h4, h5, h6, h7⟩
  · have := enc_length (e := eInt .u8) (n := 1) (fun _ => rfl) xs
    rw [h0, List.length_nil] at this; omega
  · have hl := enc_length (e := eInt .u8) (n := 1) (fun _ => rfl) xs
    refine so_conv hx (v := .v (.sl id off len 1)) (H' := H) ?_ (fun _ => .inl rfl) h
    have hb : (H.f id).isRow = true := by rw [h7]; rfl
    have hlen : 0 < len := by omega
    simp [tconv, h1, h2, h3, hb, hlen]

/-! ### the greater and the less -/
def mxI (a b : Int) : Int := if b > a then b else a
def mnI (a b : Int) : Int := if b < a then b else a
theorem sv_max {x y : Operand} {tys : Array TypeId} {k : IntKind} {a b : Int} (hx : aeval s x = .v (.int k a)) (hy : aeval s y = .v (.int k b)) (h : wops P q ops r (i + 1) (aput s dst (.v (.int k (mxI a b)))) H K) :
    wops P q ops ({ dst, op := .call { callee := .builtin .max, args := [x, y].toArray, argTypes := tys }, type := ty, pos, after, guard := none } :: r) i s H K :=
  so_to wops_builtin (by simp [hx, hy, abuiltin, argsAV, foldMM, minMax2]; rfl) (fun _ => .inl rfl) h
theorem sv_min {x y : Operand} {tys : Array TypeId} {k : IntKind} {a b : Int} (hx : aeval s x = .v (.int k a)) (hy : aeval s y = .v (.int k b)) (h : wops P q ops r (i + 1) (aput s dst (.v (.int k (mnI a b)))) H K) :
    wops P q ops ({ dst, op := .call { callee := .builtin .min, args := [x, y].toArray, argTypes := tys }, type := ty, pos, after, guard := none } :: r) i s H K :=
  so_to wops_builtin (by simp [hx, hy, abuiltin, argsAV, foldMM, minMax2]; rfl) (fun _ => .inl rfl) h
end

/-! ### bodies -/
theorem of_body {P : Program} {f : FuncId} {args : List TV} {H : Heap} {Q : TV → Heap → Prop} (fn : Func) {c : Code} (hm : P.follows .mixedOrders = true) (hf : P.funcs[f]? = some fn) (hb : fn.body = some c)
    (hcall : ∀ (as : Array Value) (w : World), (callFunc f as).run P w = .ok (.enter f as) w) (hok : codeOK fn.ntmps c = true) (hn : args.length ≤ fn.ntmps)
    (h : Fin P [.code c] (init args) H fun s' H' => ∃ r', resultOf P fn s' H' = some r' ∧ Q r' H') : OkQ P f args H Q := OkQ.of_fin hm hf hb hcall hok hn h
theorem by_ret {P : Program} {fn : Func} {Q : TV → Heap → Prop} {t : List Item} {s : Nat → TV} {H : Heap} {r : TV} (hr : resultOf P fn s H = some r) (h : Q r H) : Fin P (.code .ret :: t) s H fun s' H' => ∃ r', resultOf P fn s' H' = some r' ∧ Q r' H' := fi_ret ⟨r, hr, h⟩
theorem by_end {P : Program} {fn : Func} {Q : TV → Heap → Prop} {s : Nat → TV} {H : Heap} {r : TV} (hr : resultOf P fn s H = some r) (h : Q r H) : Fin P [] s H fun s' H' => ∃ r', resultOf P fn s' H' = some r' ∧ Q r' H' := by rw [Fin_nil]; exact ⟨r, hr, h⟩

end Go.Ab
namespace Go.Ab
theorem ofP {p A B : Prop} (h : (p → A) ∧ (¬p → B)) : (p ∧ A) ∨ (¬p ∧ B) := (Classical.em p).elim (fun c => .inl ⟨c, h.1 c⟩) (fun c => .inr ⟨c, h.2 c⟩)
theorem ofT {b : Bool} {A B : Prop} (h : (b = true → A) ∧ (b = false → B)) : (b = true ∧ A) ∨ (b = false ∧ B) := by
  cases b with
  | true => exact .inl ⟨rfl, h.1 rfl⟩
  | false => exact .inr ⟨rfl, h.2 rfl⟩
end Go.Ab
