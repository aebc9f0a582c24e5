/-
  STEPS: one rule for each operation and each turn of the code, as the walk's printer uses them. By an AI agent; nothing here is trusted.
-/
import Derived.Test.YtfhlhgnipmgfdaaAbZ
namespace Go.Ab
set_option linter.unusedVariables false
set_option linter.unusedSimpArgs false

section
variable {P : Program} {t : List Item} {s : Nat → TV} {H : Heap} {R : (Nat → TV) → Heap → Prop}
theorem fi_seq {a b : Code} (h : Fin P (.code a :: .code b :: t) s H R) : Fin P (.code (.seq a b) :: t) s H R := by rw [Fin_seq]; exact h
theorem fi_skip (h : Fin P t s H R) : Fin P (.code .skip :: t) s H R := by rw [Fin_skip]; exact h
theorem fi_label {l : Nat} (h : Fin P t s H R) : Fin P (.code (.label l) :: t) s H R := by rw [Fin_label]; exact h
theorem fi_block {id : Nat} {c : Code} (h : Fin P (.code c :: .inBlock id :: t) s H R) : Fin P (.code (.block id c) :: t) s H R := by rw [Fin_block]; exact h
theorem fi_inBlock {id : Nat} (h : Fin P t s H R) : Fin P (.inBlock id :: t) s H R := by rw [Fin_inBlock]; exact h
theorem fi_inLoop {c : Code} (h : Fin P (.code c :: .inLoop c :: t) s H R) : Fin P (.inLoop c :: t) s H R := by rw [Fin_inLoop]; exact h
theorem fi_loop {c : Code} (h : Fin P (.inLoop c :: t) s H R) : Fin P (.code (.loop c) :: t) s H R := by rw [Fin_loop]; exact h
theorem fi_ret (h : R s H) : Fin P (.code .ret :: t) s H R := by rw [Fin_ret]; exact h
theorem fi_exit {id : Nat} {t' : List Item} (e : exitTo id t = some t') (h : Fin P t' s H R) : Fin P (.code (.exit id) :: t) s H R := by rw [Fin_exit, e]; exact h
theorem fi_region {id : Nat} {ops : List Oper} {d : Bool} (h : wops P d ops ops 0 s H (FinK P t R)) : Fin P (.code (.region id ops.toArray d) :: t) s H R := by rw [Fin_region]; exact .inl h
theorem fi_free (F : List Nat) {id : Nat} {ops : List Oper} (h : wopf P F ops ops 0 [] [] 0 s H (FinK P t R)) : Fin P (.code (.region id ops.toArray true) :: t) s H R := by rw [Fin_region]; exact .inr ⟨rfl, .inl ⟨F, h⟩⟩
theorem fi_many (C : List Nat) (Hm : List Bool → Heap) (nh : Nat) {id : Nat} {ops : List Oper} (hC : ∀ k ∈ C, k < ops.length) (hH : Hm (C.map fun _ => false) = holes nh H) (h : wopm P ops C Hm ops 0 s (FinK P t R)) : Fin P (.code (.region id ops.toArray true) :: t) s H R := by rw [Fin_region]; exact .inr ⟨rfl, .inr ⟨C, Hm, nh, hC, hH, h⟩⟩
theorem fi_cond {c : Operand} {a b : Code} {x : Bool} (hx : aeval s c = .v (.bool x)) (h1 : x = true → Fin P (.code a :: t) s H R) (h2 : x = false → Fin P (.code b :: t) s H R) : Fin P (.code (.cond c a b) :: t) s H R := by
  rw [Fin_cond, hx, condC_dec]
  cases x with
  | true => exact h1 rfl
  | false => exact h2 rfl
theorem fi_true {c : Operand} {a b : Code} {x : Bool} (hx : aeval s c = .v (.bool x)) (hb : x = true) (h1 : Fin P (.code a :: t) s H R) : Fin P (.code (.cond c a b) :: t) s H R := by
  subst hb; rw [Fin_cond, hx, condC_true]; exact h1
theorem fi_false {c : Operand} {a b : Code} {x : Bool} (hx : aeval s c = .v (.bool x)) (hb : x = false) (h1 : Fin P (.code b :: t) s H R) : Fin P (.code (.cond c a b) :: t) s H R := by
  subst hb; rw [Fin_cond, hx, condC_false]; exact h1

/-- A state known at some places. -/
def updL (s : Nat → TV) : List (Nat × TV) → Nat → TV
  | [] => s
  | p :: l => upd (updL s l) p.1 p.2
def agrees (s : Nat → TV) : List (Nat × TV) → Prop
  | [] => True
  | p :: l => s p.1 = p.2 ∧ agrees s l
theorem updL_self : ∀ {s : Nat → TV} {l : List (Nat × TV)}, agrees s l → updL s l = s
  | s, [], _ => rfl
  | s, p :: l, h => by
    rw [updL, updL_self h.2]
    funext j
    simp only [upd]
    split
    · rename_i e; subst e; exact h.1.symm
    · rfl
theorem fi_at (l : List (Nat × TV)) (hl : agrees s l) (h : Fin P t (updL s l) H R) : Fin P t s H R := by rw [updL_self hl] at h; exact h
end

theorem ofB {c : Prop} [Decidable c] : decide c = true → c := of_decide_eq_true
theorem not_t {b : Bool} (h : b = false) : (!b) = true := by rw [h]; rfl
theorem not_f {b : Bool} (h : b = true) : (!b) = false := by rw [h]; rfl

section
variable {P : Program} {q : Bool} {ops r : List Oper} {i : Nat} {s : Nat → TV} {H : Heap} {K : (Nat → TV) → Heap → Prop} {dst : Option Tmp} {ty : TypeId} {pos : String} {after : Array Edge}

theorem so_nil {t : List Item} {R : (Nat → TV) → Heap → Prop} (h : Fin P t s H R) : wops P q ops [] i s H (FinK P t R) := h
theorem so_move {x : Operand} {v : TV} (hx : aeval s x = v) (h : wops P q ops r (i + 1) (aput s dst v) H K) : wops P q ops ({ dst, op := .move x, type := ty, pos, after, guard := none } :: r) i s H K := by rw [wops_move, hx]; exact h
theorem so_assign {x : Operand} {v : TV} (hx : aeval s x = v) (h : wops P q ops r (i + 1) (aput s dst v) H K) : wops P q ops ({ dst, op := .assign x, type := ty, pos, after, guard := none } :: r) i s H K := by rw [wops_assign, hx]; exact h
theorem so_pick_t {c x y : Operand} {b : Bool} {v : TV} (hc : aeval s c = .v (.bool b)) (hb : b = true) (hx : aeval s x = v) (h : wops P q ops r (i + 1) (aput s dst v) H K) : wops P q ops ({ dst, op := .pick c x y, type := ty, pos, after, guard := none } :: r) i s H K := by
  subst hb; rw [wops_pick, hc, tpick_bool, if_pos rfl, stepV_some, hx]; exact h
theorem so_pick_f {c x y : Operand} {b : Bool} {v : TV} (hc : aeval s c = .v (.bool b)) (hb : b = false) (hx : aeval s y = v) (h : wops P q ops r (i + 1) (aput s dst v) H K) : wops P q ops ({ dst, op := .pick c x y, type := ty, pos, after, guard := none } :: r) i s H K := by
  subst hb; rw [wops_pick, hc, tpick_bool, if_neg (by simp), stepV_some, hx]; exact h
theorem so_bin {op : BinOp} {t t2 : TypeId} {x y : Operand} {a b c : AV} (hx : aeval s x = .v a) (hy : aeval s y = .v b) (he : abin P op t a b = some c) (h : wops P q ops r (i + 1) (aput s dst (.v c)) H K) :
    wops P q ops ({ dst, op := .binOp op t x y t2, type := ty, pos, after, guard := none } :: r) i s H K := by
  rw [wops_bin, hx, hy]; simp only [tbin, he, Option.some_or, Option.map_some, stepV_some]; exact h
theorem so_ifc_eq {t t2 : TypeId} {x : Operand} {c : Value} {a : IfV} (hx : aeval s x = .v (.ifc a)) (hc : ofConst c = .v (.ifc .nil)) (ht : tif P t = true) (h : wops P q ops r (i + 1) (aput s dst (.v (.bool a.isNil))) H K) :
    wops P q ops ({ dst, op := .binOp .eql t x (.const c) t2, type := ty, pos, after, guard := none } :: r) i s H K := by
  have hy : aeval s (.const c) = .v (.ifc .nil) := hc
  rw [wops_bin, hx, hy]; simp only [tbin, abin, aifc, ht, if_true, Option.none_or, Option.map_some, stepV_some]; exact h
theorem so_ifc_ne {t t2 : TypeId} {x : Operand} {c : Value} {a : IfV} (hx : aeval s x = .v (.ifc a)) (hc : ofConst c = .v (.ifc .nil)) (ht : tif P t = true) (h : wops P q ops r (i + 1) (aput s dst (.v (.bool (!a.isNil)))) H K) :
    wops P q ops ({ dst, op := .binOp .neq t x (.const c) t2, type := ty, pos, after, guard := none } :: r) i s H K := by
  have hy : aeval s (.const c) = .v (.ifc .nil) := hc
  rw [wops_bin, hx, hy]; simp only [tbin, abin, aifc, ht, if_true, Option.none_or, Option.map_some, stepV_some]; exact h
theorem so_un {op : UnOp} {t : TypeId} {x : Operand} {a c : AV} (hx : aeval s x = .v a) (he : aun op a = some c) (h : wops P q ops r (i + 1) (aput s dst (.v c)) H K) :
    wops P q ops ({ dst, op := .unOp op t x, type := ty, pos, after, guard := none } :: r) i s H K := by
  rw [wops_un, hx]; simp only [tun, he, Option.map_some, stepV_some]; exact h
theorem so_to {o : Oper} {v : TV} {H' : Heap} {z : Option (TV × Heap)} (hw : wops P q ops (o :: r) i s H K = stepTo P q ops r i s dst H K z) (hz : z = some (v, H')) (hq : q = true → H' = H ∨ barrier ops i = true) (h : wops P q ops r (i + 1) (aput s dst v) H' K) : wops P q ops (o :: r) i s H K := by
  rw [hw, hz]; exact ⟨hq, h⟩
theorem so_mkif {t : TypeId} {x : Operand} {k : IntKind} {n : Int} (hx : aeval s x = .v (.int k n)) (ht : tint P t = some k) (h : wops P q ops r (i + 1) (aput s dst (.v (.ifc (.num t k n)))) H K) :
    wops P q ops ({ dst, op := .makeInterface t x, type := ty, pos, after, guard := none } :: r) i s H K :=
  so_to (wops_op rfl) (by simp only [astep, hx, ht, if_true]) (fun _ => .inl rfl) h
theorem so_conv {src d : TypeId} {x : Operand} {a v : TV} {H' : Heap} (hx : aeval s x = a) (hz : tconv P src d H a = some (v, H')) (hq : q = true → H' = H ∨ barrier ops i = true) (h : wops P q ops r (i + 1) (aput s dst v) H' K) :
    wops P q ops ({ dst, op := .convert src d x, type := ty, pos, after, guard := none } :: r) i s H K := so_to (wops_conv.trans (by rw [hx])) hz hq h
theorem so_load {t : TypeId} {x : Operand} {id off : Nat} {c : AV} (hx : aeval s x = .v (.ptr id off)) (ht : tagg P t = some false) (hc : rdCell H id off = some c) (h : wops P q ops r (i + 1) (aput s dst (.v c)) H K) :
    wops P q ops ({ dst, op := .load t x, type := ty, pos, after, guard := none } :: r) i s H K := so_to (wops_load.trans (by rw [hx])) (tload_cell ht hc) (fun _ => .inl rfl) h
theorem so_loadg {t : TypeId} {x : Operand} {id off n : Nat} {c : List AV} (hx : aeval s x = .v (.ptr id off)) (ht : tagg P t = some true) (hn : tsz P t = some n) (hc : rdCells H id off n = some c) (h : wops P q ops r (i + 1) (aput s dst (.g c)) H K) :
    wops P q ops ({ dst, op := .load t x, type := ty, pos, after, guard := none } :: r) i s H K := so_to (wops_load.trans (by rw [hx])) (tload_agg ht hn hc) (fun _ => .inl rfl) h
theorem so_store {t : TypeId} {x y : Operand} {id off n : Nat} {v : TV} {c : List AV} {H' : Heap} (hx : aeval s x = .v (.ptr id off)) (hy : aeval s y = v) (hc : v.cells = some c) (hn : tsz P t = some n) (hl : c.length = n) (hw : wrCells H id off c = some H')
    (hq : q = true → H' = H ∨ barrier ops i = true) (h : wops P q ops r (i + 1) (aput s dst (.v .und)) H' K) : wops P q ops ({ dst, op := .store t x y, type := ty, pos, after, guard := none } :: r) i s H K :=
  so_to (wops_store.trans (by rw [hx, hy])) (tstore_some hc hn hl hw) hq h
theorem so_nilCheck {x : Operand} {id off : Nat} (hx : aeval s x = .v (.ptr id off)) (h : wops P q ops r (i + 1) (aput s dst (.v (.ptr id off))) H K) : wops P q ops ({ dst, op := .nilCheck x, type := ty, pos, after, guard := none } :: r) i s H K :=
  so_to (wops_nilCheck.trans (by rw [hx])) tnilCheck_ptr (fun _ => .inl rfl) h
theorem so_nilCheckf {x : Operand} {f : FuncId} {c : List (Nat × Nat)} (hx : aeval s x = .v (.fn f c)) (h : wops P q ops r (i + 1) (aput s dst (.v (.fn f c))) H K) : wops P q ops ({ dst, op := .nilCheck x, type := ty, pos, after, guard := none } :: r) i s H K :=
  so_to (wops_nilCheck.trans (by rw [hx])) tnilCheck_fn (fun _ => .inl rfl) h
theorem so_idx {t : TypeId} {x y : Operand} {v : AV} {α : Type} {e : α → List AV} {xs : List α} {n : Nat} {k : IntKind} {z : Int} (hx : aeval s x = .v v) (hy : aeval s y = .v (.int k z)) (ht : (telem P t).bind (tsz P) = some n) (he : ∀ x, (e x).length = n) (hn : 0 < n)
    (hv : Shows H v n (enc e xs)) (h0 : 0 ≤ z ∧ z < xs.length) (h : wops P q ops r (i + 1) (aput s dst (.v (.ptr v.id0 (v.of0 + z.toNat * n)))) H K) :
    wops P q ops ({ dst, op := .indexAddr t x y, type := ty, pos, after, guard := none } :: r) i s H K := by
  obtain ⟨h1, _⟩ := hv.at he hn h0
  refine so_to (wops_indexAddr.trans (by rw [hx, hy])) (v := .v (.ptr v.id0 (v.of0 + z.toNat * n))) (H' := H) ?_ (fun _ => .inl rfl) h
  conv => lhs; rw [h1]
  exact tindexAddr_sl ht h0.1 h0.2
theorem so_extract {j : Nat} {x : Operand} {vs : List TV0} {z : TV0} {v : TV} (hx : aeval s x = .t vs) (hz : vs[j]? = some z) (hv : z.up = v) (h : wops P q ops r (i + 1) (aput s dst v) H K) : wops P q ops ({ dst, op := .extract x j, type := ty, pos, after, guard := none } :: r) i s H K :=
  so_to (wops_extract.trans (by rw [hx])) (by simp only [textract, hz, Option.map_some, hv]) (fun _ => .inl rfl) h
theorem so_fieldAddr {st : TypeId} {f o n : Nat} {b : Bool} {x : Operand} {id off : Nat} (hx : aeval s x = .v (.ptr id off)) (ht : tfield P st f = some (o, n, b)) (h : wops P q ops r (i + 1) (aput s dst (.v (.ptr id (off + o)))) H K) :
    wops P q ops ({ dst, op := .fieldAddr st x f, type := ty, pos, after, guard := none } :: r) i s H K := so_to (wops_fieldAddr.trans (by rw [hx])) (tfieldAddr_some ht) (fun _ => .inl rfl) h
theorem so_field {st : TypeId} {f o n : Nat} {x : Operand} {cs : List AV} {c : AV} (hx : aeval s x = .g cs) (ht : tfield P st f = some (o, n, false)) (hc : cs[o]? = some c) (h : wops P q ops r (i + 1) (aput s dst (.v c)) H K) :
    wops P q ops ({ dst, op := .field st x f, type := ty, pos, after, guard := none } :: r) i s H K := so_to (wops_field.trans (by rw [hx])) (tfieldV_cell ht hc) (fun _ => .inl rfl) h
theorem so_fieldg {st : TypeId} {f o n : Nat} {x : Operand} {cs c : List AV} (hx : aeval s x = .g cs) (ht : tfield P st f = some (o, n, true)) (hl : o + n ≤ cs.length) (hc : (cs.drop o).take n = c) (h : wops P q ops r (i + 1) (aput s dst (.g c)) H K) :
    wops P q ops ({ dst, op := .field st x f, type := ty, pos, after, guard := none } :: r) i s H K := so_to (wops_field.trans (by rw [hx])) (by rw [tfieldV_agg ht hl, hc]) (fun _ => .inl rfl) h
theorem so_alloc {t : TypeId} {z : List AV} (ht : tzero P t = some z) (hs : z.all AV.stor = true) (hq : q = true → H.alloc (.own z) = H ∨ barrier ops i = true) (h : wops P q ops r (i + 1) (aput s dst (.v (.ptr H.n 0))) (H.alloc (.own z)) K) :
    wops P q ops ({ dst, op := .alloc t, type := ty, pos, after, guard := none } :: r) i s H K := so_to wops_alloc (al_ ht hs) hq h
theorem so_box {t : TypeId} {x : Operand} {v : TV} {c : List AV} (hx : aeval s x = v) (hc : v.cells = some c) (ht : (P.info? t).isSome = true) (hs : c.all AV.stor = true) (hq : q = true → H.alloc (.own c) = H ∨ barrier ops i = true)
    (h : wops P q ops r (i + 1) (aput s dst (.v (.ptr H.n 0))) (H.alloc (.own c)) K) : wops P q ops ({ dst, op := .box t x, type := ty, pos, after, guard := none } :: r) i s H K :=
  so_to wops_box (by rw [hx]; simp only [tbox, hc, Option.bind_some, ht, hs, and_self, if_true]) hq h
theorem so_make {t e : TypeId} {sz bys : Nat} {z : List AV} {x y : Operand} {n m : Int} (hx : aeval s x = .v (.int .i64 n)) (hy : aeval s y = .v (.int .i64 m)) (h1 : telem P t = some e) (h2 : tsz P e = some sz) (h3 : tbytes P e = some bys) (h4 : tzero P e = some z) (h5 : z.length = sz) (h6 : z.all AV.stor = true)
    (h7 : 0 ≤ n ∧ n ≤ m ∧ m ≤ 2 ^ 40 ∧ m * bys ≤ 2 ^ 40) (hq : q = true → H.alloc (.own (zerosOf z n.toNat)) = H ∨ barrier ops i = true) (h : wops P q ops r (i + 1) (aput s dst (.v (.sl H.n 0 n.toNat sz))) (H.alloc (.own (zerosOf z n.toNat))) K) :
    wops P q ops ({ dst, op := .makeSlice t x y, type := ty, pos, after, guard := none } :: r) i s H K :=
  so_to (wops_makeSlice.trans (by rw [hx, hy])) (mk_ h1 h2 h3 h4 h5 h6 n m h7.1 h7.2.1 h7.2.2.1 h7.2.2.2) hq h

theorem fill_all {n : Nat} {z : List AV} (hz : z.length = n) : ∀ (css : List (List AV)) (k : Nat) (done : List AV), done.length = k * n → (∀ c ∈ css, c.length = n) →
    fillParts (fun i => some (i * n, n)) (done ++ zerosOf z css.length) ((css.zipIdx k).map fun p => (p.2, p.1)) = some (done ++ css.flatten)
  | [], k, done, _, _ => by simp [fillParts, zerosOf]
  | c :: css, k, done, hd, hc => by
    have hcl := hc c (List.mem_cons_self ..)
    have hl : (zerosOf z (css.length + 1)).length = (css.length + 1) * n := by
      have : ∀ m, (zerosOf z m).length = m * n := fun m => by
        induction m with
        | zero => simp [zerosOf]
        | succ m ih => rw [zerosOf, List.length_append, ih, hz, Nat.succ_mul]; omega
      exact this _
    simp only [List.zipIdx_cons, List.map_cons, fillParts, List.length_cons]
    rw [if_pos ⟨hcl, by rw [List.length_append, hl, hd, hcl, Nat.succ_mul]; omega⟩]
    have e : splice (done ++ zerosOf z (css.length + 1)) c (k * n) = (done ++ c) ++ zerosOf z css.length := by
      have := splice_pre done (zerosOf z (css.length + 1)) c (k * n) 0 hd
      have this : splice (done ++ zerosOf z (css.length + 1)) c (k * n) = done ++ splice (zerosOf z (css.length + 1)) c 0 := this
      rw [this, splice_zero, zerosOf, hcl, ← hz, List.drop_left, List.append_assoc]
    rw [e, fill_all hz css (k + 1) (done ++ c) (by rw [List.length_append, hd, hcl, Nat.succ_mul]) fun c hc' => hc c (List.mem_cons_of_mem _ hc')]
    simp
theorem so_bslice {t e : TypeId} {n len : Nat} {z : List AV} {ps : List (Nat × Operand)} {css : List (List AV)} {cs : List AV} (h1 : telem P t = some e) (h2 : tsz P e = some n) (h3 : tzero P e = some z) (h4 : z.length = n)
    (hp : partsT (ps.map fun p => (p.1, aeval s p.2)) = some ((css.zipIdx 0).map fun p => (p.2, p.1))) (hlen : css.length = len) (hc : ∀ c ∈ css, c.length = n) (hs : ∀ c ∈ css, c.all AV.stor = true) (hb : len * n ≤ 2 ^ 24) (hf : css.flatten = cs)
    (hq : q = true → H.alloc (.own cs) = H ∨ barrier ops i = true) (h : wops P q ops r (i + 1) (aput s dst (.v (.sl H.n 0 len n))) (H.alloc (.own cs)) K) :
    wops P q ops ({ dst, op := .buildSlice t len ps.toArray, type := ty, pos, after, guard := none } :: r) i s H K := by
  refine so_to wops_buildSlice (v := .v (.sl H.n 0 len n)) (H' := H.alloc (.own cs)) ?_ hq h
  have h7 := fill_all h4 css 0 [] (by simp) hc
  rw [List.nil_append, hlen, List.nil_append] at h7
  have h8 : ((css.zipIdx 0).map fun p => (p.2, p.1)).all (fun p => p.2.all AV.stor) = true := by
    rw [List.all_eq_true]
    intro p hp'
    obtain ⟨x, hx, rfl⟩ := List.mem_map.1 hp'
    exact hs x.1 (by have := List.mem_zipIdx hx; rw [this.2.2]; simp)
  have h9 : css.flatten.all AV.stor = true := by
    rw [List.all_eq_true]
    intro c hc'
    obtain ⟨l, hl, hcl⟩ := List.mem_flatten.1 hc'
    exact List.all_eq_true.1 (hs l hl) c hcl
  subst hf
  simp only [tbs, h1, h2, h3, hp]
  rw [if_pos ⟨hb, h4, h8⟩, h7, Option.bind_some, if_pos h9]
def places (P : Program) : List Field → Option (List (Nat × Nat))
  | [] => some []
  | f :: r => match tsz P f.type, places P r with
    | some n, some rs => some ((f.offset, n) :: rs)
    | _, _ => none
def bplan (P : Program) (t : TypeId) : Option (List AV × List (Nat × Nat)) :=
  match tzero P t, tfields P t with
  | some z, some fs => match places P fs with
    | some pl => some (z, pl)
    | none => none
  | _, _ => none
theorem places_all {P : Program} : ∀ {fs : List Field} {pl : List (Nat × Nat)}, places P fs = some pl → fs.all (fun f => (tsz P f.type).isSome) = true ∧ ∀ (i : Nat) p, pl[i]? = some p → structPlaces P fs i = some p
  | [], pl, h => by cases h; exact ⟨rfl, fun i p h => by simp at h⟩
  | f :: r, pl, h => by
    simp only [places] at h
    split at h
    · rename_i n rs h1 h2
      cases h
      obtain ⟨a, b⟩ := places_all h2
      refine ⟨by simp only [List.all_cons, h1, a, Option.isSome_some, Bool.and_self], fun i p hp => ?_⟩
      cases i with
      | zero => simp only [List.getElem?_cons_zero, Option.some.injEq] at hp; subst hp; simp [structPlaces, h1]
      | succ i => simp only [List.getElem?_cons_succ] at hp; have := b i p hp; simpa [structPlaces] using this
    · cases h
theorem fill_le {p1 p2 : Nat → Option (Nat × Nat)} (hp : ∀ i p, p1 i = some p → p2 i = some p) : ∀ {ps : List (Nat × List AV)} {z c : List AV}, fillParts p1 z ps = some c → fillParts p2 z ps = some c
  | [], z, c, h => h
  | (i, v) :: r, z, c, h => by
    simp only [fillParts] at h ⊢
    cases h1 : p1 i with
    | none => rw [h1] at h; cases h
    | some p =>
      rw [h1] at h; rw [hp i p h1]
      simp only at h ⊢
      split at h
      · rename_i hc; rw [if_pos hc]; exact fill_le hp h
      · cases h
theorem so_build {t : TypeId} {ps : List (Nat × Operand)} {z c : List AV} {pl : List (Nat × Nat)} {cps : List (Nat × List AV)} (hb : bplan P t = some (z, pl)) (hp : partsT (ps.map fun p => (p.1, aeval s p.2)) = some cps) (hs : ∀ x ∈ cps.map (·.2), x.all AV.stor = true)
    (hf : fillParts (fun i => pl[i]?) z cps = some c) (h : wops P q ops r (i + 1) (aput s dst (.g c)) H K) :
    wops P q ops ({ dst, op := .build t ps.toArray, type := ty, pos, after, guard := none } :: r) i s H K := by
  refine so_to wops_build (v := .g c) (H' := H) ?_ (fun _ => .inl rfl) h
  have e : partsOf (aeval s) ps = some cps := by rw [partsT_eq]; exact hp
  simp only [bplan] at hb
  split at hb
  · rename_i z' fs h1 h2
    split at hb
    · rename_i pl' h3
      cases hb
      obtain ⟨ha, hq⟩ := places_all h3
      have h8 : cps.all (fun p => p.2.all AV.stor) = true := by
        rw [List.all_eq_true]
        intro p hp'
        exact hs p.2 (List.mem_map.2 ⟨p, hp', rfl⟩)
      simp only [astep, h1, h2, e]
      rw [if_pos ⟨ha, h8⟩, fill_le hq hf, Option.map_some]
    · cases hb
  · cases hb
theorem so_app {b0 b1 : TypeId} {x y : Operand} {n bytes : Nat} {v w v' : AV} {H' : Heap} (hx : aeval s x = .v v) (hy : aeval s y = .v w) (ht : tapp P b0 b1 = some (n, bytes)) (ha : aappend H n bytes v w = some (.v v', H')) (hq : q = true → H' = H ∨ barrier ops i = true)
    (h : wops P q ops r (i + 1) (aput s dst (.v v')) H' K) : wops P q ops ({ dst, op := .call { callee := .builtin .append, args := [x, y].toArray, argTypes := [b0, b1].toArray }, type := ty, pos, after, guard := none } :: r) i s H K :=
  so_to wops_builtin (by simp only [List.map_cons, List.map_nil, hx, hy]; rw [aappend_to ht]; exact ha) hq h
theorem so_len {b0 : TypeId} {x : Operand} {v : AV} {α : Type} {e : α → List AV} {xs : List α} {n : Nat} (hx : aeval s x = .v v) (ht : (telem P b0).isSome = true) (he : ∀ x, (e x).length = n) (hn : 0 < n) (hv : Shows H v n (enc e xs)) (h : wops P q ops r (i + 1) (aput s dst (.v (.int .i64 (xs.length : Int)))) H K) :
    wops P q ops ({ dst, op := .call { callee := .builtin .len, args := [x].toArray, argTypes := [b0].toArray }, type := ty, pos, after, guard := none } :: r) i s H K := by
  refine so_to wops_builtin (v := .v (.int .i64 (xs.length : Int))) (H' := H) ?_ (fun _ => .inl rfl) h
  simp only [List.map_cons, List.map_nil, hx]
  rcases hv.len he hn with ⟨rfl, rfl⟩ | ⟨id, off, rfl, _⟩
  · exact alen_nil ht
  · exact alen_sl ht
theorem so_slens {b0 : TypeId} {x : Operand} {l : ByteArray} (hx : aeval s x = .v (.str l)) (ht : tstr P b0 = true) (h : wops P q ops r (i + 1) (aput s dst (.v (.int .i64 (l.size : Int)))) H K) :
    wops P q ops ({ dst, op := .call { callee := .builtin .len, args := [x].toArray, argTypes := [b0].toArray }, type := ty, pos, after, guard := none } :: r) i s H K :=
  so_to wops_builtin (by simp only [List.map_cons, List.map_nil, hx]; exact alen_str ht) (fun _ => .inl rfl) h
theorem so_slice {t : TypeId} {x : Operand} {lo hi : Option Operand} {v : AV} {α : Type} {e : α → List AV} {xs : List α} {n : Nat} {l h' : Option Int} {a b : Int} (hx : aeval s x = .v v) (hl : optAV (lo.map (aeval s)) = some l) (hh : optAV (hi.map (aeval s)) = some h')
    (ht : (telem P t).bind (tsz P) = some n) (he : ∀ x, (e x).length = n) (hn : 0 < n) (hv : Shows H v n (enc e xs)) (ha : l.getD 0 = a) (hb : h'.getD xs.length = b) (h0 : 0 ≤ a ∧ a ≤ b ∧ b ≤ xs.length)
    (h : wops P q ops r (i + 1) (aput s dst (.v (v.cut n a.toNat b.toNat))) H K) : wops P q ops ({ dst, op := .slice t x lo hi none, type := ty, pos, after, guard := none } :: r) i s H K := by
  refine so_to (wops_slice.trans (by rw [hx, hl, hh])) (v := .v (v.cut n a.toNat b.toNat)) (H' := H) ?_ (fun _ => .inl rfl) h
  have hbd : slBounds xs.length l h' = some (a.toNat, b.toNat) := by simp only [slBounds, ha, hb]; rw [if_pos h0]
  rcases hv.len he hn with ⟨rfl, rfl⟩ | ⟨id, off, rfl, _⟩
  · simp only [tslice, ht, Option.isSome_some, if_true, AV.cut]
    rw [List.length_nil] at hbd
    rw [hbd]; rfl
  · exact tslice_sl ht hbd
theorem so_call {f : Operand} {as : List Operand} {tys : Array TypeId} {g : FuncId} {args : List TV} {v : TV} {H' : Heap} (hf : aeval s f = .v (.fn g [])) (ha : as.map (aeval s) = args) (ho : Ok P g args H v H') (hq : q = true → H' = H ∨ barrier ops i = true)
    (h : wops P q ops r (i + 1) (aput s dst v) H' K) : wops P q ops ({ dst, op := .call { callee := .value f, args := as.toArray, argTypes := tys }, type := ty, pos, after, guard := none } :: r) i s H K := by
  rw [wops_call, hf, ha]; exact callG_intro ho ⟨hq, h⟩
theorem so_gyes {op : Op} {j : Nat} {want b : Bool} (hy : ayield ops s j = some (some b)) (hb : b = want) (h : wops P q ops ({ dst, op, type := ty, pos, after, guard := none } :: r) i s H K) :
    wops P q ops ({ dst, op, type := ty, pos, after, guard := some (j, want) } :: r) i s H K := by
  rw [wops_guard, hy]; simp only [guardC, hb, if_true]; exact h
theorem so_gno {op : Op} {j : Nat} {want b : Bool} (hy : ayield ops s j = some (some b)) (hb : b = !want) (h : wops P q ops r (i + 1) (aput s dst (.v .und)) H K) :
    wops P q ops ({ dst, op, type := ty, pos, after, guard := some (j, want) } :: r) i s H K := by
  rw [wops_guard, hy]; subst hb; cases want <;> exact h
theorem so_gund {op : Op} {j : Nat} {want : Bool} (hy : ayield ops s j = some none) (h : wops P q ops r (i + 1) (aput s dst (.v .und)) H K) :
    wops P q ops ({ dst, op, type := ty, pos, after, guard := some (j, want) } :: r) i s H K := by
  rw [wops_guard, hy]; exact h
end

/-! ### what operations yield -/
section
variable {P : Program} {t : TypeId} {k : IntKind} {f : FloatKind} {a b : Int} {x y : Nat}
theorem ab_add : abin P .add t (.int k a) (.int k b) = some (.int k (k.wrap (a + b))) := by simp [abin, iop]
theorem ab_sub : abin P .sub t (.int k a) (.int k b) = some (.int k (k.wrap (a - b))) := by simp [abin, iop]
theorem ab_mul : abin P .mul t (.int k a) (.int k b) = some (.int k (k.wrap (a * b))) := by simp [abin, iop]
theorem ab_quo (h : b ≠ 0) : abin P .quo t (.int k a) (.int k b) = some (.int k (k.wrap (a.tdiv b))) := by simp [abin, iop, h]
theorem ab_rem (h : b ≠ 0) : abin P .rem t (.int k a) (.int k b) = some (.int k (a.tmod b)) := by simp [abin, iop, h]
theorem ab_and : abin P .and t (.int k a) (.int k b) = some (.int k (ibits .and k a b)) := by simp [abin, iop]
theorem ab_or : abin P .or t (.int k a) (.int k b) = some (.int k (ibits .or k a b)) := by simp [abin, iop]
theorem ab_xor : abin P .xor t (.int k a) (.int k b) = some (.int k (ibits .xor k a b)) := by simp [abin, iop]
theorem ab_andNot : abin P .andNot t (.int k a) (.int k b) = some (.int k (ibits .andNot k a b)) := by simp [abin, iop]
theorem ab_eql : abin P .eql t (.int k a) (.int k b) = some (.bool (decide (a = b))) := by simp [abin, iop]; rfl
theorem ab_neq : abin P .neq t (.int k a) (.int k b) = some (.bool (!decide (a = b))) := by simp [abin, iop]; rfl
theorem ab_lss : abin P .lss t (.int k a) (.int k b) = some (.bool (decide (a < b))) := by simp [abin, iop]
theorem ab_leq : abin P .leq t (.int k a) (.int k b) = some (.bool (decide (a ≤ b))) := by simp [abin, iop]
theorem ab_gtr : abin P .gtr t (.int k a) (.int k b) = some (.bool (decide (b < a))) := by simp [abin, iop]
theorem ab_geq : abin P .geq t (.int k a) (.int k b) = some (.bool (decide (b ≤ a))) := by simp [abin, iop]
theorem ab_shl {k2 : IntKind} (h : 0 ≤ b) : abin P .shl t (.int k a) (.int k2 b) = some (.int k (k.wrap (a * 2 ^ (min b.toNat k.bits)))) := by simp [abin, ishift, Int.not_lt.2 h]
theorem ab_shr {k2 : IntKind} (h : 0 ≤ b) : abin P .shr t (.int k a) (.int k2 b) = some (.int k (a.fdiv (2 ^ (min b.toNat k.bits)))) := by simp [abin, ishift, Int.not_lt.2 h]
theorem ab_fadd : abin P .add t (.flt f x) (.flt f y) = some (.flt f (fop .add f x y)) := by simp [abin]
theorem ab_fsub : abin P .sub t (.flt f x) (.flt f y) = some (.flt f (fop .sub f x y)) := by simp [abin]
theorem ab_fmul : abin P .mul t (.flt f x) (.flt f y) = some (.flt f (fop .mul f x y)) := by simp [abin]
theorem ab_fquo : abin P .quo t (.flt f x) (.flt f y) = some (.flt f (fop .quo f x y)) := by simp [abin]
theorem ab_feql : abin P .eql t (.flt f x) (.flt f y) = some (.bool (fcmp .eql f x y)) := by simp [abin]
theorem ab_fneq : abin P .neq t (.flt f x) (.flt f y) = some (.bool (fcmp .neq f x y)) := by simp [abin]
theorem ab_flss : abin P .lss t (.flt f x) (.flt f y) = some (.bool (fcmp .lss f x y)) := by simp [abin]
theorem ab_fleq : abin P .leq t (.flt f x) (.flt f y) = some (.bool (fcmp .leq f x y)) := by simp [abin]
theorem ab_fgtr : abin P .gtr t (.flt f x) (.flt f y) = some (.bool (fcmp .gtr f x y)) := by simp [abin]
theorem ab_fgeq : abin P .geq t (.flt f x) (.flt f y) = some (.bool (fcmp .geq f x y)) := by simp [abin]
theorem ab_beql {c d : Bool} (h : tbool P t = true) : abin P .eql t (.bool c) (.bool d) = some (.bool (c == d)) := by simp [abin, h]
theorem ab_bneq {c d : Bool} (h : tbool P t = true) : abin P .neq t (.bool c) (.bool d) = some (.bool (!(c == d))) := by simp [abin, h]
theorem au_neg : aun .neg (.int k a) = some (.int k (k.wrap (0 - a))) := rfl
theorem au_fneg : aun .neg (.flt f x) = some (.flt f (cz f (Op.negFloat f x))) := rfl
theorem au_not {b : Bool} : aun .not (.bool b) = some (.bool (!b)) := rfl
end

/-! ### strings as lists of bytes -/
def pk (l : List UInt8) : ByteArray := ⟨l.toArray⟩
theorem pk_size (l : List UInt8) : (pk l).size = l.length := by simp [pk, ByteArray.size]
theorem pk_data (l : List UInt8) : (pk l).data.toList = l := by simp [pk]
theorem pk_inj {l m : List UInt8} (h : pk l = pk m) : l = m := by rw [← pk_data l, h, pk_data]
theorem pk_of (s : ByteArray) : pk s.data.toList = s := by simp [pk]
theorem pk_append (l m : List UInt8) : pk l ++ pk m = pk (l ++ m) := by
  apply ByteArray.ext; simp [pk]
/-- A byte of a text. -/
def bt (l : List UInt8) (z : Int) : Int := ((l.getD z.toNat 0).toNat : Int)
theorem toList_data (s : ByteArray) : s.toList = s.data.toList := by
  have key : ∀ (i : Nat) (r : List UInt8), ByteArray.toList.loop s i r = r.reverse ++ s.data.toList.drop i := by
    intro i
    generalize hd : s.size - i = d
    induction d generalizing i with
    | zero =>
      intro r
      rw [ByteArray.toList.loop]
      rw [if_neg (by omega), List.drop_eq_nil_of_le (by simp only [Array.length_toList]; have : s.data.size = s.size := rfl; omega), List.append_nil]
    | succ d ih =>
      intro r
      have hi : i < s.size := by omega
      rw [ByteArray.toList.loop, if_pos hi, ih (i + 1) (by omega)]
      have hl : i < s.data.toList.length := by simp only [Array.length_toList]; exact hi
      rw [List.drop_eq_getElem_cons hl, List.reverse_cons, List.append_assoc]
      congr 1
      have : s.get! i = s.data.toList[i] := by
        cases s with
        | mk a => simp only [ByteArray.get!, Array.getElem_toList]; exact getElem!_pos a i (by simpa using hl)
      rw [this]; rfl
  rw [ByteArray.toList, key]; simp
section
variable {P : Program} {q : Bool} {ops r : List Oper} {i : Nat} {s : Nat → TV} {H : Heap} {K : (Nat → TV) → Heap → Prop} {dst : Option Tmp} {ty : TypeId} {pos : String} {after : Array Edge} {t : TypeId} {l m : List UInt8}
theorem ab_seql : abin P .eql t (.str (pk l)) (.str (pk m)) = some (.bool (decide (l = m))) := by
  simp only [abin, sop, toList_data, pk_data]
  congr 2
  by_cases h : l = m <;> simp [h]
theorem ab_sneq : abin P .neq t (.str (pk l)) (.str (pk m)) = some (.bool (!decide (l = m))) := by
  simp only [abin, sop, toList_data, pk_data]
  congr 3
  by_cases h : l = m <;> simp [h]
theorem ab_sadd (h : (l.length : Int) + m.length ≤ 9223372036854775807) : abin P .add t (.str (pk l)) (.str (pk m)) = some (.str (pk (l ++ m))) := by
  have h' : (pk l).size + (pk m).size ≤ 9223372036854775807 := by rw [pk_size, pk_size]; omega
  simp only [abin, sop, h', if_true, pk_append]
theorem so_slen {b0 : TypeId} {x : Operand} (hx : aeval s x = .v (.str (pk l))) (ht : tstr P b0 = true) (h : wops P q ops r (i + 1) (aput s dst (.v (.int .i64 (l.length : Int)))) H K) :
    wops P q ops ({ dst, op := .call { callee := .builtin .len, args := [x].toArray, argTypes := [b0].toArray }, type := ty, pos, after, guard := none } :: r) i s H K := by
  refine so_slens hx ht ?_
  rw [pk_size]; exact h
theorem so_index {x y : Operand} {k : IntKind} {z : Int} (hx : aeval s x = .v (.str (pk l))) (hy : aeval s y = .v (.int k z)) (ht : tstr P t = true) (h0 : 0 ≤ z ∧ z < l.length) (h : wops P q ops r (i + 1) (aput s dst (.v (.int .u8 (bt l z)))) H K) :
    wops P q ops ({ dst, op := .index t x y, type := ty, pos, after, guard := none } :: r) i s H K := by
  obtain ⟨h1, h2⟩ := getD_lt h0 (0 : UInt8)
  refine so_to (wops_index.trans (by rw [hx, hy])) (tindex_str ht h0.1 (b := l.getD z.toNat 0) ?_) (fun _ => .inl rfl) h
  have hsz : z.toNat < (pk l).size := by rw [pk_size]; exact h1
  rw [getElem?_pos (pk l) z.toNat hsz, h2]
  rfl
theorem pk_extract (a b : Nat) : (pk l).extract a b = pk ((l.drop a).take (b - a)) := by
  apply ByteArray.ext
  simp [pk, ByteArray.extract, ByteArray.copySlice]
theorem so_sslice {x : Operand} {lo hi : Option Operand} {l1 h1 : Option Int} {a b : Int} (hx : aeval s x = .v (.str (pk l))) (hl : optAV (lo.map (aeval s)) = some l1) (hh : optAV (hi.map (aeval s)) = some h1) (ht : tstr P t = true)
    (ha : l1.getD 0 = a) (hb : h1.getD l.length = b) (h0 : 0 ≤ a ∧ a ≤ b ∧ b ≤ l.length) (h : wops P q ops r (i + 1) (aput s dst (.v (.str (pk ((l.drop a.toNat).take (b.toNat - a.toNat)))))) H K) :
    wops P q ops ({ dst, op := .slice t x lo hi none, type := ty, pos, after, guard := none } :: r) i s H K := by
  refine so_to (wops_slice.trans (by rw [hx, hl, hh])) (tslice_str ht (a := a.toNat) (b := b.toNat) ?_) (fun _ => .inl rfl) (by rw [pk_extract]; exact h)
  rw [pk_size]; simp only [slBounds, ha, hb]; rw [if_pos h0]
end

/-! ### regions in which some operations are free -/
section
variable {P : Program} {F : List Nat} {ops r : List Oper} {i : Nat} {past : List (Nat × Heap)} {pend : List (Nat × Oper × (Nat → TV) × TV)} {c : Nat} {s : Nat → TV} {H : Heap} {K : (Nat → TV) → Heap → Prop} {o : Oper}
theorem wops_one {K1 : (Nat → TV) → Heap → Prop} (h : wops P false ops [o] i s H K1) : ∃ v H', StepR P ops s H o v H' ∧ K1 (aput s o.dst v) H' := by
  rw [wops] at h
  split at h
  · rename_i hg
    obtain ⟨v, H', h1, h2, h3⟩ := wop_sound h
    exact ⟨v, H', .plain (.inl hg) h1, h3⟩
  · rename_i j want hg
    split at h
    · rename_i y hy
      split at h
      · rename_i hyw
        subst hyw
        obtain ⟨v, H', h1, h2, h3⟩ := wop_sound h
        exact ⟨v, H', .plain (.inr ⟨j, want, hg, hy⟩) h1, h3⟩
      · rename_i hyw
        exact ⟨_, _, .skip hg hy hyw, h⟩
    · exact h.elim
theorem wops_onep {K1 : (Nat → TV) → Heap → Prop} (hp : pureOp o.op = true) (h : wops P false ops [o] i s H K1) : ∃ v, (∀ G, StepR P ops s G o v G) ∧ K1 (aput s o.dst v) H := by
  rw [wops] at h
  split at h
  · rename_i hg
    obtain ⟨v, h1, h2, h3⟩ := wop_pure hp h
    exact ⟨v, fun G => .plain (.inl hg) (h1 G), h3⟩
  · rename_i j want hg
    split at h
    · rename_i y hy
      split at h
      · rename_i hyw
        subst hyw
        obtain ⟨v, h1, h2, h3⟩ := wop_pure hp h
        exact ⟨v, fun G => .plain (.inr ⟨j, want, hg, hy⟩) (h1 G), h3⟩
      · rename_i hyw
        exact ⟨_, fun _ => .skip hg hy hyw, h⟩
    · exact h.elim
theorem wf_nil {t : List Item} {R : (Nat → TV) → Heap → Prop} (h : Fin P t s H R) : wopf P F ops [] i past pend c s H (FinK P t R) := h
theorem wf_same (hF : freeAt ops F i = false) (hb : barrierF ops F i = false) (h : wops P false ops [o] i s H (fun s' H' => H' = H ∧ wopf P F ops r (i + 1) past pend c s' H' K)) : wopf P F ops (o :: r) i past pend c s H K := by
  obtain ⟨v, H', h1, rfl, h2⟩ := wops_one h
  rw [wopf]; exact .inl ⟨hF, hb, v, h1, h2⟩
theorem wf_pure (hp : pureOp o.op = true) (hb : barrierF ops F i = false) (h : wops P false ops [o] i s H (fun s' H' => wopf P F ops r (i + 1) past pend c s' H' K)) : wopf P F ops (o :: r) i past pend c s H K := by
  obtain ⟨v, h1, h2⟩ := wops_onep hp h
  rw [wopf]; exact .inr (.inl ⟨hb, v, h1, h2⟩)
/-- What an operation yields in another state of memory. -/
theorem stepr {d : Tmp} {v : TV} {G : Heap} (hd : o.dst = some d) (h : wops P false ops [o] i s G (fun s' H' => H' = G ∧ s' d = v)) : StepR P ops s G o v G := by
  obtain ⟨v', H', h1, rfl, h2⟩ := wops_one h
  rw [hd, aput_some, upd_same] at h2
  subst h2
  exact h1
theorem wf_free {d : Tmp} (v : TV) (hd : o.dst = some d) (hb : barrierF ops F i = false) (h1 : StepR P ops s H o v H) (hall : ∀ G ∈ past, RdF P ops F i o s v G) (h : wopf P F ops r (i + 1) past ((i, o, s, v) :: pend) c (aput s (some d) v) H K) : wopf P F ops (o :: r) i past pend c s H K := by
  rw [wopf]; refine .inr (.inr (.inl ⟨hb, v, h1, hall, ?_⟩)); rw [hd]; exact h
theorem wf_chg (hb : barrierF ops F i = true) (h : wops P false ops [o] i s H (fun s' H' => (∀ p ∈ pend, RdF P ops F p.1 p.2.1 p.2.2.1 p.2.2.2 (i + 1, H')) ∧ wopf P F ops r (i + 1) ((c, H) :: past) pend (i + 1) s' H' K)) : wopf P F ops (o :: r) i past pend c s H K := by
  obtain ⟨v, H', h1, h2, h3⟩ := wops_one h
  rw [wopf]; exact .inr (.inr (.inr ⟨hb, v, H', h1, h2, h3⟩))
theorem so_end {q : Bool} {K1 : (Nat → TV) → Heap → Prop} (h : K1 s H) : wops P q ops [] i s H K1 := h
end

end Go.Ab
