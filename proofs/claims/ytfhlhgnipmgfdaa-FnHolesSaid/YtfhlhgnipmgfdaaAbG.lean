/-
  THE LIBRARY's FUNCTIONS by their contracts; slices that are only read. By an AI agent; nothing here is trusted.
-/
import Derived.Test.YtfhlhgnipmgfdaaAbD
import Derived.Lib.Bytealg
import Derived.Lib.LaidTab
import Derived.Lib.ItoaNum
import Derived.Sort.Grow
import Derived.Deep.Draws
import Derived.Lib.Join
import Derived.Lib.TrailingZeros
import Derived.Below
import Derived.Lib.Repeat
import Derived.Lib.SlTrimSet
import Derived.Lib.AtoiErrMem
import Derived.Lib.ParseIntB
namespace Go.Ab
set_option linter.unusedVariables false
set_option linter.unusedSimpArgs false
/-- A function that hands back a value and leaves the world as it was. -/
theorem ok_lib {P : Program} {f : FuncId} {args : List TV} {H : Heap} {r : TV} (us0 : List Value) (rv : Value) (hcall : ∀ us w, (callFunc f us).run P w = .ok (.enter f us) w) (hargs : ∀ β us, All2 (TVR β) args us → us = us0) (hrv : ∀ β, TVR β r rv)
    (h : ∀ w, Calls P f us0.toArray w fun e w' => e = .returned rv ∧ w' = w) : Ok P f args H r H := by
  intro β us w hs ha
  rw [hargs β us ha, hcall]
  exact (h w).mono fun e w' ⟨he, hw⟩ => by subst he; subst hw; exact ⟨rv, β, rfl, Le.refl β, hs, hrv β, Fr.refl β H w'⟩
theorem args_ss (a b : ByteArray) : ∀ (β : Emb) (us : List Value), All2 (TVR β) [.v (.str a), .v (.str b)] us → us = [.string a, .string b]
  | β, [u, v], ⟨h1, h2, _⟩ => by
    have h1 : u = .string a := h1
    have h2 : v = .string b := h2
    rw [h1, h2]
theorem args_sb (a : ByteArray) (k : IntKind) (c : Int) : ∀ (β : Emb) (us : List Value), All2 (TVR β) [.v (.str a), .v (.int k c)] us → us = [.string a, .int k c]
  | β, [u, v], ⟨h1, h2, _⟩ => by
    have h1 : u = .string a := h1
    have h2 : v = .int k c := h2
    rw [h1, h2]
/-! ### tables -/
/-- A block that shows a table. -/
def showsTab (P : Program) (name : String) (k : IntKind) (zs : List Int) (g : Nat) (o : Obj) : Prop := ∀ w : World, w.heap[g]? = some o → Lib.TabIs P w name k zs
theorem showsTab_of {P : Program} {W : World} {name : String} {k : IntKind} {zs : List Int} {g : Nat} (hg : P.globalNamed name = some g) (h : Lib.TabIs P W name k zs) : ∃ o, W.heap[g]? = some o ∧ showsTab P name k zs g o := by
  unfold Lib.TabIs World.var? at h
  rw [hg, Option.bind_some] at h
  cases hW : W.heap[g]? with
  | none => rw [hW] at h; cases h
  | some o =>
    refine ⟨o, rfl, fun w hw => ?_⟩
    unfold Lib.TabIs World.var?
    rw [hg, Option.bind_some, hw]
    rw [hW] at h; exact h
def HasTab (g : Nat) (φ : Obj → Prop) (H : Heap) : Prop := ∃ i o, i < H.n ∧ H.f i = .tab g o ∧ φ o
theorem HasTab.heap {g : Nat} {φ : Obj → Prop} {H : Heap} (h : HasTab g φ H) {β : Emb} {w : World} (hs : SR β H w) : ∃ o, w.heap[g]? = some o ∧ φ o := by
  obtain ⟨i, o, h1, h2, h3⟩ := h
  obtain ⟨l, hl⟩ := hs.tot i h1 (by rw [h2]; exact fun e => Blk.noConfusion e)
  have := hs.row i l hl
  rw [h2] at this
  exact ⟨o, this.2, h3⟩
theorem came_tab {H : Heap} {g : Nat} {φ : Obj → Prop} (h : HasTab g φ H) : ∀ H', Sep H' (came H) → HasTab g φ H' := fun H' hs => by
  obtain ⟨i, o, h1, h2, h3⟩ := h
  have hk : H.n ≤ H'.n ∧ ∀ i, i < H.n → H'.f i = H.f i := hs.1.2.1
  exact ⟨i, o, Nat.lt_of_lt_of_le h1 hk.1, (hk.2 i h1).trans h2, h3⟩
/-- A world that has grown behind. -/
theorem SR.later {β : Emb} {H : Heap} {w w' : World} (h : SR β H w) (hw : ∀ b, b < w.heap.size → w'.heap[b]? = w.heap[b]?) : SR β H w' :=
  ⟨h.dom, h.tot, fun i l e => RowR.mono (Le.refl β) (fun hg => hw _ ((h.row i l e).blk_lt hg)) (h.row i l e), h.apart⟩
/-- A function that hands back a value; the world has grown behind. -/
theorem ok_libG {P : Program} {f : FuncId} {args : List TV} {H : Heap} {r : TV} (us0 : List Value) (rv : Value) (hcall : ∀ us w, (callFunc f us).run P w = .ok (.enter f us) w) (hargs : ∀ β us, All2 (TVR β) args us → us = us0) (hrv : ∀ β, TVR β r rv)
    (h : ∀ β w, SR β H w → Calls P f us0.toArray w fun e w' => e = .returned rv ∧ ∃ k os, w' = Sort.grow (w.drewN k) os) : Ok P f args H r H := by
  intro β us w hs ha
  rw [hargs β us ha, hcall]
  refine (h β w hs).mono fun e w' ⟨he, k, os, hw⟩ => ?_
  subst he; subst hw
  have hb : ∀ b, b < w.heap.size → (Sort.grow (w.drewN k) os).heap[b]? = w.heap[b]? := fun b hb => by
    show (w.heap ++ os)[b]? = _
    rw [Array.getElem?_append_left hb]
  refine ⟨rv, β, rfl, Le.refl β, hs.later hb, hrv β, ⟨rfl, rfl, rfl, ?_, fun b h1 _ => hb b h1, fun b _ h2 => h2⟩⟩
  show w.heap.size ≤ (w.heap ++ os).size
  rw [Array.size_append]; omega
/-- A function that hands back some value; what was there is as it was. -/
theorem ok_libE {P : Program} {f : FuncId} {args : List TV} {H : Heap} {r : TV} (hcall : ∀ us w, (callFunc f us).run P w = .ok (.enter f us) w)
    (h : ∀ β w us, SR β H w → All2 (TVR β) args us → Calls P f us.toArray w fun e w' => (∃ rv, e = .returned rv ∧ ∀ β, TVR β r rv) ∧ Go.RowKit.Below w.heap.size w w') : Ok P f args H r H := by
  intro β us w hs ha
  rw [hcall]
  refine (h β w us hs ha).mono fun e w' ⟨⟨rv, he, hr⟩, hw⟩ => ?_
  subst he
  exact ⟨rv, β, rfl, Le.refl β, hs.later fun b hb => hw.block b hb, hr β, ⟨hw.os, hw.tape, hw.output, hw.size, fun b h1 _ => hw.block b h1, fun b _ h2 => h2⟩⟩
/-- A block that holds an error's value. -/
def holdsErr (g : Nat) (o : Obj) : Prop := ∀ w : World, w.heap[g]? = some o → ∃ ev, w.cell? ⟨g, 0, none⟩ = some ev ∧ (ev = .nilIface ∨ ∃ te pe, ev = .iface te pe)
theorem holdsErr_of {P : Program} {W : World} {name : String} {g : Nat} {t : TypeId} {v : Value} (hg : P.globalNamed name = some g) (h : W.var? P name = some #[.iface t v]) : ∃ o, W.heap[g]? = some o ∧ holdsErr g o := by
  unfold World.var? at h
  rw [hg, Option.bind_some] at h
  cases hW : W.heap[g]? with
  | none => rw [hW] at h; cases h
  | some o =>
    refine ⟨o, rfl, fun w hw => ⟨.iface t v, ?_, .inr ⟨_, _, rfl⟩⟩⟩
    have h2 : w.var? P name = some #[.iface t v] := by
      unfold World.var?
      rw [hg, Option.bind_some, hw]
      rw [hW] at h; exact h
    simpa using World.var?_cell hg h2 0
theorem args_err (a b : ByteArray) (x y : Int) (t : TypeId) (n : Int) : ∀ (β : Emb) (us : List Value), All2 (TVR β) [.v (.str a), .v (.str b), .v (.int .i64 x), .v (.int .i64 y), .v (.ifc (.num t .i64 n))] us → us = [.string a, .string b, .int .i64 x, .int .i64 y, .iface t (.int .i64 n)]
  | β, [u1, u2, u3, u4, u5], ⟨h1, h2, h3, h4, h5, _⟩ => by
    have h1 : u1 = .string a := h1
    have h2 : u2 = .string b := h2
    have h3 : u3 = .int .i64 x := h3
    have h4 : u4 = .int .i64 y := h4
    have h5 : u5 = .iface t (.int .i64 n) := h5
    rw [h1, h2, h3, h4, h5]
theorem args_sii (a : ByteArray) (k l : IntKind) (x y : Int) : ∀ (β : Emb) (us : List Value), All2 (TVR β) [.v (.str a), .v (.int k x), .v (.int l y)] us → us = [.string a, .int k x, .int l y]
  | β, [u1, u2, u3], ⟨h1, h2, h3, _⟩ => by
    have h1 : u1 = .string a := h1
    have h2 : u2 = .int k x := h2
    have h3 : u3 = .int l y := h3
    rw [h1, h2, h3]
theorem tvr_num_err (n : Int) (e : IfV) (β : Emb) (v : Value) (h : IfR e v) : TVR β (.t [.v (.int .i64 n), .v (.ifc e)]) (.tuple #[.int .i64 n, v]) := ⟨[.int .i64 n, v], rfl, rfl, h, trivial⟩
/-- A function that hands back a value; what was there is as it was. -/
theorem ok_libB {P : Program} {f : FuncId} {args : List TV} {H : Heap} {r : TV} (rv : Value) (hcall : ∀ us w, (callFunc f us).run P w = .ok (.enter f us) w) (hrv : ∀ β, TVR β r rv)
    (h : ∀ β w us, SR β H w → All2 (TVR β) args us → Calls P f us.toArray w fun e w' => e = .returned rv ∧ Go.RowKit.Below w.heap.size w w') : Ok P f args H r H := by
  intro β us w hs ha
  rw [hcall]
  refine (h β w us hs ha).mono fun e w' ⟨he, hw⟩ => ?_
  subst he
  exact ⟨rv, β, rfl, Le.refl β, hs.later fun b hb => hw.block b hb, hrv β, ⟨hw.os, hw.tape, hw.output, hw.size, fun b h1 _ => hw.block b h1, fun b _ h2 => h2⟩⟩
theorem enc_strs : ∀ l : List (List UInt8), enc eStr l = l.map fun y => AV.str (pk y)
  | [] => rfl
  | y :: l => by rw [enc_cons, enc_strs l]; rfl
/-- A list of texts as the machine has it. -/
theorem shows_strs {H : Heap} {v : AV} {l : List (List UInt8)} (hv : Shows H v 1 (enc eStr l)) {β : Emb} {w : World} (hs : SR β H w) {u : Value} (hu : VR β v u) :
    (l = [] ∧ ∃ a c, u = .slice a 0 c) ∨ ∃ bk o c, u = .slice (some ⟨bk, o, none⟩) l.length c ∧ l.length ≤ c ∧ bk < w.heap.size ∧ ∀ (j : Nat) x, (l.map pk)[j]? = some x → w.cell? ⟨bk, o + j, none⟩ = some (.string x) := by
  rcases hv.len (e := eStr) (n := 1) (fun _ => rfl) (by decide) with ⟨rfl, rfl⟩ | ⟨id, off, rfl, hr⟩
  · exact .inl ⟨rfl, none, 0, hu⟩
  · obtain ⟨L, a, c, h1, rfl, h2, h3⟩ := hu
    by_cases h0 : l.length = 0
    · exact .inl ⟨List.length_eq_zero_iff.1 h0, a, c, by rw [h0]⟩
    rcases h3 with ⟨rfl, h4⟩ | ⟨h4, _⟩
    · right
      have hc : rdCells H id off l.length = some (enc eStr l) := by
        have e : (enc eStr l).length = l.length := by rw [enc_length (n := 1) (fun _ => rfl)]; omega
        have := hr.2
        rw [rdCells_eq, if_pos (by have := this.1; rw [e] at this; exact this)]
        congr 1
        have := this.2
        rw [e] at this; exact this
      obtain ⟨us, k1, k2, k3⟩ := cells_of hs h1 hc
      have key : ∀ (j : Nat) x, (l.map pk)[j]? = some x → w.cell? ⟨L.blk, L.base + off + j, none⟩ = some (.string x) := by
        intro j x hx
        have e : (enc eStr l)[j]? = some (.str x) := by
          rw [enc_strs, List.getElem?_map]
          rw [List.getElem?_map] at hx
          cases hl : l[j]? with
          | none => rw [hl] at hx; cases hx
          | some y => rw [hl] at hx; cases hx; rfl
        obtain ⟨u, hu, hvr⟩ := k2.get j _ e
        rw [k3 j u hu]
        exact congrArg some hvr.1
      refine ⟨L.blk, L.base + off, c, rfl, h2, ?_, key⟩
      have h5 := key 0 (pk (l[0]'(by omega))) (by rw [List.getElem?_map, List.getElem?_eq_getElem (by omega)]; rfl)
      rcases Nat.lt_or_ge L.blk w.heap.size with h' | h'
      · exact h'
      · simp [World.cell?, Array.getElem?_eq_none h'] at h5
    · exact absurd h4 h0
theorem ok_join {P : Program} {f : FuncId} {H : Heap} {v : AV} {l : List (List UInt8)} {sep : List UInt8} (hcall : ∀ us w, (callFunc f us).run P w = .ok (.enter f us) w)
    (hn : ∀ (a : Option Addr) (c : Nat) (sep : ByteArray) (w : World), Calls P f #[.slice a 0 c, .string sep] w fun e w' => e = .returned (.string ⟨#[]⟩) ∧ w' = w)
    (hm : ∀ (bk o c : Nat) (xs : List ByteArray) (sep : ByteArray) (w : World) (hcells : ∀ (j : Nat) x, xs[j]? = some x → w.cell? ⟨bk, o + j, none⟩ = some (.string x)) (hbk : bk < w.heap.size) (hN : xs.length ≤ 140737488355328) (hcap : xs.length ≤ c) (hlen : (Lib.join (xs.map (·.data.toList)) sep.data.toList).length ≤ 140737488355328),
      Calls P f #[.slice (some ⟨bk, o, none⟩) xs.length c, .string sep] w fun e w' => e = .returned (.string ⟨(Lib.join (xs.map (·.data.toList)) sep.data.toList).toArray⟩) ∧ Go.RowKit.Below w.heap.size w w')
    (hv : Shows H v 1 (enc eStr l)) (hl : l.length ≤ 2 ^ 40 ∧ (Lib.join l sep).length ≤ 2 ^ 40) : Ok P f [.v v, .v (.str (pk sep))] H (.v (.str (pk (Lib.join l sep)))) H := by
  refine ok_libB (.string (pk (Lib.join l sep))) hcall (fun β => rfl) fun β w us hs ha => ?_
  match us, ha with
  | [u, u'], ha =>
    obtain ⟨h1, h2, _⟩ := ha
    have h2 : u' = .string (pk sep) := h2
    subst h2
    have e0 : (l.map pk).map (·.data.toList) = l := by rw [List.map_map]; exact (List.map_congr_left fun y _ => rfl).trans (List.map_id l)
    rcases shows_strs hv hs h1 with ⟨rfl, a, c, rfl⟩ | ⟨bk, o, c, rfl, k1, k2, k3⟩
    · exact (hn a c (pk sep) w).mono fun e w' ⟨he, hw⟩ => ⟨he, hw ▸ Go.RowKit.Below.refl _ _⟩
    · have := hm bk o c (l.map pk) (pk sep) w k3 k2 (by rw [List.length_map]; have := hl.1; omega) (by rw [List.length_map]; exact k1) (by rw [e0]; exact Nat.le_trans hl.2 (by decide))
      rw [e0, List.length_map] at this
      exact this
theorem ok_lib2 {P : Program} {f : FuncId} {args : List TV} {H : Heap} {r : TV} (us0 : List Value) (rv : Value) (hcall : ∀ us w, (callFunc f us).run P w = .ok (.enter f us) w) (hargs : ∀ β us, All2 (TVR β) args us → us = us0) (hrv : ∀ β, TVR β r rv)
    (h : ∀ w, Calls P f us0.toArray w fun e w' => e = .returned rv ∧ Go.RowKit.Below w.heap.size w w') : Ok P f args H r H := ok_libB rv hcall hrv fun β w us hs ha => by rw [hargs β us ha]; exact h w
theorem args_si (a : ByteArray) (k : IntKind) (c : Int) : ∀ (β : Emb) (us : List Value), All2 (TVR β) [.v (.str a), .v (.int k c)] us → us = [.string a, .int k c] := args_sb a k c
theorem args_i (k : IntKind) (a : Int) : ∀ (β : Emb) (us : List Value), All2 (TVR β) [.v (.int k a)] us → us = [.int k a]
  | β, [u], ⟨h1, _⟩ => by
    have h1 : u = .int k a := h1
    rw [h1]
/-- A table of bytes, cell by cell. -/
theorem tab_bytes {P : Program} {name : String} {tab : List Nat} {g : Nat} {o : Obj} {w : World} (hg : P.globalNamed name = some g) (h : showsTab P name .u8 (tab.map Int.ofNat) g o) (hw : w.heap[g]? = some o) : ∀ j, j < tab.length → w.cell? ⟨g, j, none⟩ = some (.int .u8 (tab.getD j 0)) := fun j hj => by
  have := (h w hw).cell hg j (by rw [List.length_map]; exact hj)
  rw [this]
  congr 2
  rw [List.getD_eq_getElem?_getD, List.getD_eq_getElem?_getD, List.getElem?_map, List.getElem?_eq_getElem hj]
  rfl
theorem args_ii (k l : IntKind) (a b : Int) : ∀ (β : Emb) (us : List Value), All2 (TVR β) [.v (.int k a), .v (.int l b)] us → us = [.int k a, .int l b]
  | β, [u, v], ⟨h1, h2, _⟩ => by
    have h1 : u = .int k a := h1
    have h2 : v = .int l b := h2
    rw [h1, h2]
/-! ### slices that are only read -/
def rdp (v : AV) (n : Nat) (cs : List AV) : Pc := .keep (rowOf v) (fun H => Shows H v n cs)
theorem Sep.rshows {H : Heap} {l : List Pc} {v : AV} {n : Nat} {cs : List AV} (h : Sep H l) (k : Nat) (hk : Go.Ab.nth l k = some (rdp v n cs)) : Shows H v n cs := Pc.holds.eq_3 H _ _ ▸ (h.nth hk) |>.2.1
theorem Sep.tord {H : Heap} {l : List Pc} {v v' : AV} {n : Nat} {cs cs' : List AV} (h : Sep H (.osl v n cs :: l)) (c : Shows H v' n cs') (hr : ∀ i, rowOf v' i → rowOf v i) : Sep H (rdp v' n cs' :: l) :=
  ⟨⟨fun i hi => Pc.at_lt h.1 (hr i hi), c, fun H' hn hf => c.frame hn fun off len e => hf _ ⟨off, len, n, e⟩⟩, fun q hq ho i h1 h2 => h.2.1 q hq (.inl rfl) i (hr i h1) h2, h.2.2⟩
theorem Sep.tord2 {H : Heap} {l : List Pc} {v v' : AV} {n : Nat} {cs cs' : List AV} (h : Sep H (rdp v n cs :: l)) (c : Shows H v' n cs') (hr : ∀ i, rowOf v' i → rowOf v i) : Sep H (rdp v' n cs' :: l) :=
  ⟨⟨fun i hi => Pc.at_lt h.1 (hr i hi), c, fun H' hn hf => c.frame hn fun off len e => hf _ ⟨off, len, n, e⟩⟩, fun q hq ho i h1 h2 => h.2.1 q hq ho i (hr i h1) h2, h.2.2⟩
theorem cut_row (v : AV) (n a b : Nat) : ∀ i, rowOf (v.cut n a b) i → rowOf v i := by
  intro i hi
  obtain ⟨off, len, m, hi⟩ := hi
  cases v <;> simp only [AV.cut] at hi <;> first | (cases hi; done) | (cases hi; exact ⟨_, _, _, rfl⟩)
/-! ### slices of slices that are only read: an own row, and what its elements lead to, which is kept -/
def sg (v : AV) : List AV := [v]
def kdp {α : Type} (R : Heap → α → List AV → Prop) (xs : List α) (vs : List AV) (S : Nat → Prop) : Pc := .keep S (fun H => All2 (R H) xs (vs.map sg))
theorem Sep.kdnil {α : Type} {H : Heap} {l : List Pc} (h : Sep H l) (R : Heap → α → List AV → Prop) : Sep H (kdp R [] [] (fun _ => False) :: l) :=
  ⟨⟨fun _ hi => hi.elim, trivial, fun _ _ _ => trivial⟩, fun q hq ho i h1 h2 => h1.elim, h⟩
theorem enc_sg (vs : List AV) : enc id (vs.map sg) = enc sg vs := by
  induction vs with
  | nil => rfl
  | cons v vs ih => rw [List.map_cons, enc_cons, enc_cons, ih]; rfl
theorem Sep.fshows {α : Type} {H : Heap} {l : List Pc} {v : AV} {vs : List AV} {R : Heap → α → List AV → Prop} {xs : List α} {S : Nat → Prop} (h : Sep H l) (k k2 : Nat) (hk : Go.Ab.nth l k = some (.osl v 1 (enc sg vs))) (hk2 : Go.Ab.nth l k2 = some (kdp R xs vs S)) : DSh H v 1 R xs (vs.map sg) :=
  ⟨by rw [enc_sg]; exact h.shows k hk, fun c hc => by obtain ⟨w, _, rfl⟩ := List.mem_map.1 hc; rfl, (h.nth hk2).2.1⟩
theorem All2.snoc {α β : Type} {Q : α → β → Prop} : ∀ {xs : List α} {ws : List β} {x : α} {w : β}, All2 Q xs ws → Q x w → All2 Q (xs ++ [x]) (ws ++ [w])
  | [], [], _, _, _, h => ⟨h, trivial⟩
  | _ :: _, _ :: _, _, _, h, k => ⟨h.1, All2.snoc h.2 k⟩
  | [], _ :: _, _, _, h, _ => h.elim
  | _ :: _, [], _, _, h, _ => h.elim
theorem flen_le {α : Type} {H : Heap} {v w : AV} {n b : Nat} {R : Heap → α → List AV → Prop} {xs ys : List α} {vs : List AV} (h : DSh H v n R xs (vs.map sg)) (hy : ys.length = 1) (hb : (xs.length + ys.length) * b ≤ 2 ^ 40) : (vs.length + [w].length) * b ≤ 2 ^ 40 := by
  have := h.all.len
  rw [List.length_map] at this
  rw [← this]; rw [hy] at hb; exact hb
theorem mem_or {y p : Pc} : ∀ {l : List Pc} {k : Nat}, y ∈ l → Go.Ab.nth l k = some p → y = p ∨ y ∈ delP l k
  | x :: l, 0, h, hk => by
    cases hk
    rcases List.mem_cons.1 h with h | h
    · exact .inl h
    · exact .inr h
  | x :: l, k + 1, h, hk => by
    rcases List.mem_cons.1 h with h | h
    · exact .inr (h ▸ List.mem_cons_self ..)
    · rcases mem_or (l := l) (k := k) h hk with h | h
      · exact .inl h
      · exact .inr (List.mem_cons_of_mem _ h)
theorem Sep.putk {H : Heap} {q : Pc} : ∀ {l : List Pc} {k : Nat}, Sep H l → q.holds H → (∀ y ∈ delP l k, q.apart y) → Sep H (putP l k q)
  | [], _, _, _, _ => trivial
  | x :: l, 0, h, hq, ha => ⟨hq, ha, h.2.2⟩
  | x :: l, k + 1, h, hq, ha => by
    refine ⟨h.1, fun y hy => ?_, Sep.putk (l := l) (k := k) h.2.2 hq fun y hy => ha y (List.mem_cons_of_mem _ hy)⟩
    rcases mem_put hy with rfl | hy
    · exact (ha x (List.mem_cons_self ..)).symm
    · exact h.2.1 y hy
/-- A row that is only read comes to be led to. -/
theorem Sep.kdapp {α : Type} {H : Heap} {l : List Pc} {R : Heap → α → List AV → Prop} {xs : List α} {vs : List AV} {S : Nat → Prop} {w : AV} {n : Nat} {cs : List AV} (h : Sep H l) (k2 ku : Nat) (x : α) (hk2 : Go.Ab.nth l k2 = some (kdp R xs vs S)) (hku : Go.Ab.nth l ku = some (rdp w n cs)) (hR : ∀ H', Shows H' w n cs → R H' x [w]) :
    Sep H (putP l k2 (kdp R (xs ++ [x]) (vs ++ [w]) (fun i => S i ∨ rowOf w i))) := by
  have h1 := h.nth hk2
  have h2 := h.nth hku
  refine h.putk ⟨fun i hi => hi.elim (h1.1 i) (h2.1 i), ?_, fun H' hn hf => ?_⟩ fun y hy ho i hi hyi => ?_
  · rw [List.map_append]; exact All2.snoc h1.2.1 (hR H h2.2.1)
  · rw [List.map_append]; exact All2.snoc (h1.2.2 H' hn fun i hi => hf i (.inl hi)) (hR H' (h2.2.2 H' hn fun i hi => hf i (.inr hi)))
  · have hyo : y.isOwn = true := ho.elim (fun c => by cases c) id
    rcases hi with hi | hi
    · exact apart_nth h hk2 y hy (.inr hyo) i hi hyi
    · rcases mem_or (delP_mem hy) hku with rfl | hy2
      · cases hyo
      · exact apart_nth h hku y hy2 (.inr hyo) i hi hyi
/-! ### contracts in memory that holds tables alone, for walks by hand -/
def tabs (l : List (Nat × Obj)) : Heap := ⟨l.length, fun i => match l[i]? with | some x => .tab x.1 x.2 | none => .gone⟩
def tabsE (l : List (Nat × Obj)) : Emb := fun i => (l[i]?).map fun x => ⟨x.1, 0, 0⟩
theorem tabs_notOwn (l : List (Nat × Obj)) (i : Nat) : ((tabs l).f i).isOwn = false := by
  show Blk.isOwn (match l[i]? with | some x => .tab x.1 x.2 | none => .gone) = false
  split <;> rfl
theorem tabs_sr {l : List (Nat × Obj)} {w : World} (h : ∀ x ∈ l, w.heap[x.1]? = some x.2) : SR (tabsE l) (tabs l) w := by
  refine ⟨fun i hi => ?_, fun i hi _ => ?_, fun i L e => ?_, fun i j li lj _ _ _ ho _ => ?_⟩
  · unfold tabsE
    rw [List.getElem?_eq_none (show l.length ≤ i from hi)]; rfl
  · unfold tabsE
    rw [List.getElem?_eq_getElem (show i < l.length from hi)]
    exact ⟨_, rfl⟩
  · unfold tabsE at e
    cases hx : l[i]? with
    | none => rw [hx] at e; cases e
    | some x =>
      rw [hx] at e; cases e
      have e2 : (tabs l).f i = .tab x.1 x.2 := by
        show (match l[i]? with | some x => Blk.tab x.1 x.2 | none => .gone) = _
        rw [hx]
      rw [e2]
      exact ⟨rfl, h x (List.mem_of_getElem? hx)⟩
  · rw [tabs_notOwn] at ho; cases ho
theorem tabs_has {l : List (Nat × Obj)} {i g : Nat} {o : Obj} {φ : Obj → Prop} (h : l[i]? = some (g, o)) (hφ : φ o) : HasTab g φ (tabs l) := by
  refine ⟨i, o, ?_, ?_, hφ⟩
  · refine Nat.lt_of_not_le fun c => ?_
    rw [List.getElem?_eq_none c] at h; cases h
  · show (match l[i]? with | some x => Blk.tab x.1 x.2 | none => .gone) = _
    rw [h]
theorem calls_tabs {P : Program} {f : FuncId} {args : List TV} {l : List (Nat × Obj)} {r : TV} {us : List Value} {rv : Value} (ho : Ok P f args (tabs l) r (tabs l)) (hcall : ∀ us w, (callFunc f us).run P w = .ok (.enter f us) w) (ha : ∀ β, All2 (TVR β) args us) (hr : ∀ β v, TVR β r v → v = rv) {w : World} (hw : ∀ x ∈ l, w.heap[x.1]? = some x.2) :
    Calls P f us.toArray w fun e w' => e = .returned rv ∧ Go.RowKit.Below w.heap.size w w' := by
  have h := ho (tabsE l) us w (tabs_sr hw) (ha _)
  rw [hcall] at h
  refine Calls.mono h fun e w' ⟨rv', β2, he, _, _, ht, fr⟩ => ?_
  subst he
  rw [hr β2 rv' ht]
  refine ⟨rfl, fr.os, fr.tape, fr.output, fr.size, fun b hb => fr.block b hb fun ⟨i, L, _, ho, _⟩ => ?_⟩
  rw [tabs_notOwn] at ho; cases ho
theorem tvr_str (s : ByteArray) (β : Emb) (v : Value) (h : TVR β (.v (.str s)) v) : v = .string s := h
theorem tvr_bool (b : Bool) (β : Emb) (v : Value) (h : TVR β (.v (.bool b)) v) : v = .bool b := h
theorem tvr_int_bool (n : Int) (b : Bool) (β : Emb) (v : Value) (h : TVR β (.t [.v (.int .i64 n), .v (.bool b)]) v) : v = .tuple #[.int .i64 n, .bool b] := by
  obtain ⟨us, rfl, h2⟩ := h
  match us, h2 with
  | [x, y], ⟨h3, h4, _⟩ =>
    have h3 : x = .int .i64 n := h3
    have h4 : y = .bool b := h4
    rw [h3, h4]
end Go.Ab
