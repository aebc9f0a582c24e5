/-
  ONE OPERATION: what the abstract step says, the machine does. By an AI agent; nothing here is trusted.
-/
import Derived.Test.YtfhlhgnipmgfdaaAbR
import Derived.Laws.Entries
import Derived.Laws.BytesString
namespace Go.Ab
set_option linter.unusedVariables false
set_option linter.unusedSimpArgs false

/-! ### the types -/
section
variable {P : Program} {w : World} {t : TypeId}
theorem run_tsz {n : Nat} (h : tsz P t = some n) : (sizeOf t).run P w = .ok n w := by
  unfold tsz at h
  cases hi : P.info? t with
  | none => rw [hi] at h; cases h
  | some i => rw [hi] at h; simp [sizeOf, typeInfo, hi]; simpa using h
theorem run_tbytes {n : Nat} (h : tbytes P t = some n) : ∃ i, (typeInfo t).run P w = .ok i w ∧ i.bytes = n := by
  unfold tbytes at h
  cases hi : P.info? t with
  | none => rw [hi] at h; cases h
  | some i => rw [hi] at h; exact ⟨i, by simp [typeInfo, hi], by simpa using h⟩
theorem run_tzero {z : List AV} (h : tzero P t = some z) : ∃ zv, (zeroValue t).run P w = .ok zv w ∧ z = zv.cells.toList.map ofCell := by
  unfold tzero at h
  cases hi : P.info? t with
  | none => rw [hi] at h; simp at h
  | some i =>
    rw [hi] at h
    cases hz : i.zero with
    | none => simp [hz] at h
    | some zv => exact ⟨zv, by simp [zeroValue, typeInfo, hi, hz], by simpa [hz] using h.symm⟩
theorem tagg_und {b : Bool} (h : tagg P t = some b) : ∃ d, P.underlying t = some d ∧ (match d with | .struct _ | .array _ _ => true | _ => false) = b := by
  unfold tagg at h
  cases hu : P.underlying t with
  | none => rw [hu] at h; cases h
  | some d => rw [hu] at h; cases d <;> exact ⟨_, rfl, by simpa using h⟩
theorem run_tagg {b : Bool} (h : tagg P t = some b) : (isAgg t).run P w = .ok b w := by
  obtain ⟨d, hu, hb⟩ := tagg_und h
  simp only [isAgg, Sem.run_bind, run_underlying hu, Result.andThen_ok]
  cases d <;> simp at hb <;> subst hb <;> rfl
theorem telem_und {e : TypeId} (h : telem P t = some e) : P.underlying t = some (.slice e) := by
  unfold telem at h
  cases hu : P.underlying t with
  | none => rw [hu] at h; cases h
  | some d => rw [hu] at h; cases d <;> simp at h; subst h; rfl
theorem tfields_und {fs : List Field} (h : tfields P t = some fs) : ∃ a : Array Field, P.underlying t = some (.struct a) ∧ fs = a.toList := by
  unfold tfields at h
  cases hu : P.underlying t with
  | none => rw [hu] at h; cases h
  | some d => rw [hu] at h; cases d <;> simp at h; subst h; exact ⟨_, rfl, rfl⟩
theorem tarr_und {n : Nat} {e : TypeId} (h : tarr P t = some (n, e)) : P.underlying t = some (.array n e) := by
  unfold tarr at h
  cases hu : P.underlying t with
  | none => rw [hu] at h; cases h
  | some d => rw [hu] at h; cases d <;> simp at h; obtain ⟨rfl, rfl⟩ := h; rfl
theorem tint_und {k : IntKind} (h : tint P t = some k) : P.underlying t = some (.int k) := by
  unfold tint at h
  cases hu : P.underlying t with
  | none => rw [hu] at h; cases h
  | some d => rw [hu] at h; cases d <;> simp at h; subst h; rfl
theorem tflt_und {k : FloatKind} (h : tflt P t = some k) : P.underlying t = some (.float k) := by
  unfold tflt at h
  cases hu : P.underlying t with
  | none => rw [hu] at h; cases h
  | some d => rw [hu] at h; cases d <;> simp at h; subst h; rfl
theorem tbool_und (h : tbool P t = true) : P.underlying t = some .bool := by
  unfold tbool at h
  cases hu : P.underlying t with
  | none => rw [hu] at h; cases h
  | some d => rw [hu] at h; cases d <;> simp at h; rfl
theorem tstr_und (h : tstr P t = true) : P.underlying t = some .string := by
  unfold tstr at h
  cases hu : P.underlying t with
  | none => rw [hu] at h; cases h
  | some d => rw [hu] at h; cases d <;> simp at h; rfl
end

/-- What one operation leaves. -/
def Done (β : Emb) (H : Heap) (w : World) (r : Result Next) (v : TV) (H' : Heap) : Prop :=
  ∃ β' u w', (r = .ok (.value u) w' ∨ (r = .ok .skip w' ∧ u = undef)) ∧ Le β β' ∧ SR β' H' w' ∧ TVR β' v u ∧ Fr β H w β' H' w'

theorem Done.same {β : Emb} {H : Heap} {w : World} {r : Result Next} {v : TV} {u : Value} (hs : SR β H w) (hr : r = .ok (.value u) w) (hv : TVR β v u) : Done β H w r v H :=
  ⟨β, u, w, .inl hr, Le.refl β, hs, hv, Fr.refl β H w⟩

theorem Done.drew {β : Emb} {H : Heap} {w : World} {r : Result Next} {v : TV} {u : Value} (n : Nat) (hs : SR β H w) (hr : r = .ok (.value u) { w with drawn := n }) (hv : TVR β v u) : Done β H w r v H :=
  ⟨β, u, _, .inl hr, Le.refl β, hs.draw n, hv, Fr.draw n⟩

theorem VR_ofCell (β : Emb) (c : Value) : VR β (ofCell c) c := by
  cases c with
  | bool b => rfl
  | int k n => rfl
  | float k b => exact ⟨b, rfl, rfl⟩
  | string s => rfl
  | pointer a => cases a with | none => rfl | some a => trivial
  | slice a l c =>
    cases a with
    | none => cases l with
      | zero => cases c with
        | zero => rfl
        | succ n => trivial
      | succ n => trivial
    | some a => trivial
  | func f a b =>
    cases f with
    | func g =>
      show VR β (if a.size = 0 ∧ b.size = 0 then .fn g [] else .bad) _
      split
      · rename_i h
        have ha : a = #[] := by simpa using h.1
        have hb : b = #[] := by simpa using h.2
        subst ha hb
        exact ⟨[], rfl, trivial⟩
      · trivial
    | _ => trivial
  | nilIface => rfl
  | _ => trivial

theorem All2_ofCell (β : Emb) : ∀ l : List Value, All2 (VR β) (l.map ofCell) l
  | [] => trivial
  | c :: l => ⟨VR_ofCell β c, All2_ofCell β l⟩

theorem TVR_ofConst (β : Emb) (c : Value) : TVR β (ofConst c) c := by
  cases c with
  | agg cs => exact ⟨cs.toList, by simp, All2_ofCell β _⟩
  | tuple vs => trivial
  | bool b => exact VR_ofCell β (.bool b)
  | int k n => exact VR_ofCell β (.int k n)
  | float k b => exact VR_ofCell β (.float k b)
  | string s => exact VR_ofCell β (.string s)
  | pointer a => exact VR_ofCell β (.pointer a)
  | slice a l c => exact VR_ofCell β (.slice a l c)
  | func f a b => exact VR_ofCell β (.func f a b)
  | complex k a b => trivial
  | map r => trivial
  | chan r => trivial
  | nilFunc => trivial
  | iface a b => trivial
  | nilIface => exact VR_ofCell β .nilIface

theorem All2.stor {β : Emb} : ∀ {cs : List AV} {us : List Value}, All2 (VR β) cs us → cs.all AV.stor = true → All2 (VS β) cs us
  | [], [], _, _ => trivial
  | _ :: _, _ :: _, h, k => by simp at k; exact ⟨⟨h.1, k.1⟩, All2.stor h.2 (by simpa using k.2)⟩
  | [], _ :: _, h, _ => h.elim
  | _ :: _, [], h, _ => h.elim

theorem All2.vr {β : Emb} {cs : List AV} {us : List Value} (h : All2 (VS β) cs us) : All2 (VR β) cs us := h.mono fun _ _ h => h.1

theorem All2.ones {β : Emb} : ∀ {cs : List AV} {us : List Value}, All2 (VS β) cs us → ∀ u ∈ us, u.oneCell' = true
  | [], [], _, u, hu => by cases hu
  | _ :: _, v :: vs, h, u, hu => by
    cases hu with
    | head => exact h.1.one
    | tail _ hm => exact All2.ones h.2 u hm
  | [], _ :: _, h, _, _ => h.elim
  | _ :: _, [], h, _, _ => h.elim

theorem VR.single {β : Emb} {x : AV} {u : Value} (h : VR β x u) (hs : x.stor = true) : u.cells = #[u] := by
  have := VS.one ⟨h, hs⟩
  cases u <;> first | rfl | (simp [Value.oneCell'] at this)

/-- A value's cells. -/
theorem TVR.cells {β : Emb} {v : TV} {u : Value} {cs : List AV} (h : TVR β v u) (hc : v.cells = some cs) (hs : cs.all AV.stor = true) :
    ∃ us : List Value, u.cells = us.toArray ∧ All2 (VS β) cs us := by
  cases v with
  | v x =>
    simp [TV.cells] at hc
    subst hc
    simp at hs
    exact ⟨[u], by rw [VR.single h hs], ⟨h, hs⟩, trivial⟩
  | g c =>
    simp [TV.cells] at hc
    subst hc
    obtain ⟨us, rfl, h2⟩ := h
    exact ⟨us, rfl, h2.stor hs⟩
  | t _ => simp [TV.cells] at hc

section
variable {P : Program} {o : Oper} {ρ : Operand → Value} {ev : Operand → TV} {β : Emb} {H H' : Heap} {w : World} {v : TV}

theorem d_alloc (e : TypeId) (ho : o.op = .alloc e) (hs : SR β H w) (h : astep P ev (.alloc e) H = some (v, H')) : Done β H w ((execOp ρ o).run P w) v H' := by
  simp only [astep] at h
  cases hz : tzero P e with
  | none => rw [hz] at h; cases h
  | some z =>
    rw [hz] at h
    simp only [Option.bind_some] at h
    split at h
    · rename_i hst
      cases h
      obtain ⟨zv, h1, h2⟩ := run_tzero (w := w) hz
      have ha : All2 (VS β) z zv.cells.toList := (h2 ▸ All2_ofCell β zv.cells.toList : All2 (VR β) z _).stor hst
      refine ⟨_, .pointer (some ⟨w.heap.size, 0, none⟩), _, .inl ?_, Le.ext (hs.dom _ (Nat.le_refl _)), hs.alloc (t := e) (rest := []) (fz := (0, 0)) ha (.inl rfl), ?_, Fr.alloc hs _ _⟩
      · simp [execOp, ho, Instr.alloc, h1, newVar, newRow]
      · exact ⟨_, if_pos rfl, rfl⟩
    · cases h

theorem d_box (e : TypeId) (x : Operand) (ho : o.op = .box e x) (hs : SR β H w) (hv : TVR β (ev x) (ρ x)) (h : astep P ev (.box e x) H = some (v, H')) : Done β H w ((execOp ρ o).run P w) v H' := by
  simp only [astep] at h
  cases hz : (ev x).cells with
  | none => rw [hz] at h; cases h
  | some z =>
    rw [hz] at h
    simp only [Option.bind_some] at h
    split at h
    · rename_i hst
      cases h
      obtain ⟨us, h1, ha⟩ := hv.cells hz hst.2
      refine ⟨_, .pointer (some ⟨w.heap.size, 0, none⟩), _, .inl ?_, Le.ext (hs.dom _ (Nat.le_refl _)), hs.alloc (t := e) (rest := []) (fz := (0, 0)) ha (.inl rfl), ?_, Fr.alloc hs _ _⟩
      · simp [execOp, ho, Instr.box, h1, newVar, newRow]
      · exact ⟨_, if_pos rfl, rfl⟩
    · cases h

theorem d_load (t : TypeId) (x : Operand) (ho : o.op = .load t x) (hs : SR β H w) (hv : TVR β (ev x) (ρ x)) (h : astep P ev (.load t x) H = some (v, H')) : Done β H w ((execOp ρ o).run P w) v H' := by
  simp only [astep] at h
  split at h
  · rename_i id off he
    rw [he] at hv
    obtain ⟨l, hl, hp⟩ := hv
    split at h
    · rename_i hg
      split at h
      · rename_i n hn
        cases hr : rdCells H id off n with
        | none => rw [hr] at h; cases h
        | some c =>
          rw [hr] at h
          cases h
          obtain ⟨us, h1, h2, h3⟩ := cells_of hs hl hr
          refine Done.same hs (u := .agg us.toArray) ?_ ⟨us, rfl, h2.vr⟩
          have := run_loadCells (P := P) l.blk (l.base + off) us h3
          rw [h1] at this
          simp [execOp, ho, Instr.loadAt, hp, ptrV, Instr.sureAddr, loadVar, run_tagg hg, run_tsz hn, this]
      · cases h
    · rename_i hg
      cases hr : rdCell H id off with
      | none => rw [hr] at h; cases h
      | some c =>
        rw [hr] at h
        cases h
        obtain ⟨u, h1, h2⟩ := cell_of hs hl hr
        refine Done.same hs (u := u) ?_ h2.1
        simp [execOp, ho, Instr.loadAt, hp, ptrV, Instr.sureAddr, loadVar, run_tagg hg, h1]
    · cases h
  · cases h

theorem own_row (hs : SR β H w) {id : Nat} {l : Loc} {cs : List AV} (hl : β id = some l) (ho : H.f id = .own cs) :
    ∃ ccs e fz, w.heap[l.blk]? = some (.cells ccs e fz) ∧ l.base + l.size ≤ ccs.size ∧ cs.length ≤ l.size ∧ ∀ j, j < ccs.size → ¬ (fz.1 ≤ j ∧ j < fz.2) := by
  have := hs.row id l hl
  rw [ho] at this
  obtain ⟨ccs, e, fz, h1, _, h3, h4, h5⟩ := this
  exact ⟨ccs, e, fz, h1, h3, h4, h5.not⟩

/-- Some cells of a row of one's own are written. -/
theorem d_write (hs : SR β H w) {id off : Nat} {l : Loc} {new : List AV} {us : List Value} (hl : β id = some l) (hn : All2 (VS β) new us) (h : wrCells H id off new = some H') :
    ∃ w', (storeCells ⟨l.blk, l.base + off, none⟩ us 0).run P w = .ok () w' ∧ SR β H' w' ∧ Fr β H w β H' w' := by
  unfold wrCells at h
  split at h
  · rename_i cs ho
    split at h
    · rename_i hc
      cases h
      obtain ⟨ccs, e, fz, h1, h2, h3, h4⟩ := own_row hs hl ho
      obtain ⟨w', hr, hw⟩ := run_storeCells (P := P) l.blk (l.base + off) e fz us 0 w ccs hn.ones h1 (by rw [← hn.len]; omega) h4
      exact ⟨w', hr, hs.store hl ho h1 hc.1 hn (by simpa using hw), Fr.store hl ho hw⟩
    · cases h
  · cases h

theorem d_store (t : TypeId) (a x : Operand) (ho : o.op = .store t a x) (hs : SR β H w) (ha : TVR β (ev a) (ρ a)) (hv : TVR β (ev x) (ρ x)) (h : astep P ev (.store t a x) H = some (v, H')) :
    Done β H w ((execOp ρ o).run P w) v H' := by
  simp only [astep] at h
  split at h
  · rename_i id off c n he hc hn
    split at h
    · rename_i hlen
      rw [he] at ha
      obtain ⟨l, hl, hp⟩ := ha
      cases hw : wrCells H id off c with
      | none => rw [hw] at h; cases h
      | some H2 =>
        rw [hw] at h
        cases h
        have hst : c.all AV.stor = true := by
          unfold wrCells at hw
          split at hw
          · split at hw
            · rename_i hc'; exact hc'.2
            · cases hw
          · cases hw
        obtain ⟨us, h1, h2⟩ := hv.cells hc hst
        obtain ⟨w', hr, h3, h4⟩ := d_write (P := P) hs hl h2 hw
        refine ⟨β, undef, w', .inr ⟨?_, rfl⟩, Le.refl β, h3, rfl, h4⟩
        have hl2 : us.length = n := by rw [← h2.len]; exact hlen
        simp [execOp, ho, Instr.storeAt, hp, ptrV, Instr.sureAddr, storeVar, h1, run_tsz hn, hl2, hr]
    · cases h
  · cases h

theorem d_nilCheck (x : Operand) (ho : o.op = .nilCheck x) (hs : SR β H w) (hv : TVR β (ev x) (ρ x)) (h : astep P ev (.nilCheck x) H = some (v, H')) : Done β H w ((execOp ρ o).run P w) v H' := by
  simp only [astep] at h
  split at h
  · rename_i i f he
    cases h
    rw [he] at hv
    obtain ⟨l, hl, hp⟩ := hv
    refine Done.same hs (u := ρ x) ?_ ⟨l, hl, hp⟩
    simp [execOp, ho, hp, ptrV]
  · rename_i f c he
    cases h
    rw [he] at hv
    obtain ⟨us, hp, ha⟩ := hv
    refine Done.same hs (u := ρ x) ?_ ⟨us, hp, ha⟩
    simp [execOp, ho, hp]
  · cases h

theorem d_makeFunc (f : FuncId) (first captured : Array Operand) (ho : o.op = .makeFunc (.func f) first captured) (hs : SR β H w) (hv : ∀ x ∈ captured.toList, TVR β (ev x) (ρ x))
    (h : astep P ev (.makeFunc (.func f) first captured) H = some (v, H')) : Done β H w ((execOp ρ o).run P w) v H' := by
  simp only [astep] at h
  split at h
  · rename_i hf
    have hf' : first = #[] := by simpa using hf
    have key : ∀ (l : List Operand), (∀ x ∈ l, TVR β (ev x) (ρ x)) → ∀ c, capsOf ev l = some c → All2 (fun (c : Nat × Nat) u => ∃ m, β c.1 = some m ∧ u = ptrV m c.2) c (l.map ρ) := by
      intro l
      induction l with
      | nil => intro _ c hc; simp [capsOf] at hc; subst hc; trivial
      | cons x r ih =>
        intro hx c hc
        simp only [capsOf] at hc
        split at hc
        · rename_i i o' rs he hr
          cases hc
          have := hx x (by simp)
          rw [he] at this
          obtain ⟨m, hm, hp⟩ := this
          exact ⟨⟨m, hm, hp⟩, ih (fun y hy => hx y (by simp [hy])) rs hr⟩
        · cases hc
    cases hc : capsOf ev captured.toList with
    | none => rw [hc] at h; cases h
    | some c =>
      rw [hc] at h
      cases h
      refine Done.same hs (u := .func (.func f) #[] (captured.map ρ)) ?_ ⟨captured.toList.map ρ, by rw [show captured.map ρ = (captured.toList.map ρ).toArray from Array.ext' (by simp)], key _ hv c hc⟩
      simp [execOp, ho, Instr.makeFunc, hf']
  · cases h

theorem d_fieldAddr (st : TypeId) (x : Operand) (f : Nat) (ho : o.op = .fieldAddr st x f) (hs : SR β H w) (hv : TVR β (ev x) (ρ x)) (h : astep P ev (.fieldAddr st x f) H = some (v, H')) :
    Done β H w ((execOp ρ o).run P w) v H' := by
  simp only [astep] at h
  split at h
  · rename_i id off fd he hf
    split at h
    · rename_i hz
      cases h
      rw [he] at hv
      obtain ⟨l, hl, hp⟩ := hv
      cases hfs : tfields P st with
      | none => rw [hfs] at hf; cases hf
      | some fs =>
        rw [hfs] at hf
        obtain ⟨a, hu, rfl⟩ := tfields_und hfs
        simp at hf
        cases hsz : tsz P fd.type with
        | none => rw [hsz] at hz; cases hz
        | some n =>
          rw [hsz] at hz
          simp at hz
          refine Done.same hs (u := ptrV l (off + fd.offset)) ?_ ⟨l, hl, rfl⟩
          simp [execOp, ho, Instr.fieldAt, run_underlying hu, hf, hp, ptrV, Instr.sureAddr, fieldPlace, run_tsz hsz, Nat.ne_of_gt hz, addr_add, Nat.add_assoc]
    · cases h
  · cases h

theorem d_field (t : TypeId) (x : Operand) (f : Nat) (ho : o.op = .field t x f) (hs : SR β H w) (hv : TVR β (ev x) (ρ x)) (h : astep P ev (.field t x f) H = some (v, H')) :
    Done β H w ((execOp ρ o).run P w) v H' := by
  simp only [astep] at h
  split at h
  · rename_i cs fd he hf
    rw [he] at hv
    obtain ⟨us, hp, ha⟩ := hv
    cases hfs : tfields P t with
    | none => rw [hfs] at hf; cases hf
    | some fs =>
      rw [hfs] at hf
      obtain ⟨a, hu, rfl⟩ := tfields_und hfs
      simp at hf
      split at h
      · rename_i hg
        split at h
        · rename_i n hn
          split at h
          · rename_i hle
            cases h
            refine Done.same hs (u := .agg ((us.drop fd.offset).take n).toArray) ?_ ⟨_, rfl, (ha.drop _).take _⟩
            have : us.toArray.extract fd.offset (fd.offset + n) = ((us.drop fd.offset).take n).toArray := by
              apply Array.ext'
              simp [List.extract_eq_take_drop]
            simp [execOp, ho, Instr.field, run_underlying hu, hf, hp, asAgg, part, run_tagg hg, run_tsz hn, this]
          · cases h
        · cases h
      · rename_i hg
        cases hc : cs[fd.offset]? with
        | none => rw [hc] at h; cases h
        | some c =>
          rw [hc] at h
          cases h
          obtain ⟨u, h1, h2⟩ := ha.get _ _ hc
          refine Done.same hs (u := u) ?_ h2
          simp [execOp, ho, Instr.field, run_underlying hu, hf, hp, asAgg, part, run_tagg hg, h1]
      · cases h
  · cases h

theorem d_indexAddr (t : TypeId) (x i : Operand) (ho : o.op = .indexAddr t x i) (hs : SR β H w) (hv : TVR β (ev x) (ρ x)) (hi : TVR β (ev i) (ρ i)) (h : astep P ev (.indexAddr t x i) H = some (v, H')) :
    Done β H w ((execOp ρ o).run P w) v H' := by
  simp only [astep] at h
  split at h
  · rename_i id off len esz k n he hn
    rw [he] at hv
    rw [hn] at hi
    obtain ⟨l, a, cap, hl, hp, hlc, hor⟩ := hv
    have hi' : ρ i = .int k n := hi
    split at h
    · rename_i sz hsz
      split at h
      · rename_i hb
        cases h
        obtain ⟨rfl, h0, h1⟩ := hb
        cases hte : telem P t with
        | none => rw [hte] at hsz; cases hsz
        | some e =>
          rw [hte] at hsz
          simp at hsz
          have hu := telem_und hte
          rcases hor with ⟨rfl, _⟩ | ⟨hz, _⟩
          · refine Done.same hs (u := ptrV l (off + n.toNat * sz)) ?_ ⟨l, hl, rfl⟩
            simp [execOp, ho, Instr.indexAt, hi', hp, asIntOf, run_underlying hu, h0, h1, run_tsz hsz, addr_add, ptrV, Nat.add_assoc]
          · omega
      · cases h
    · cases h
  · rename_i id off k n he hn
    rw [he] at hv
    rw [hn] at hi
    obtain ⟨l, hl, hp⟩ := hv
    have hi' : ρ i = .int k n := hi
    split at h
    · rename_i len e hta
      split at h
      · rename_i sz hsz
        split at h
        · rename_i hb
          cases h
          have hu := tarr_und hta
          refine Done.same hs (u := ptrV l (off + n.toNat * sz)) ?_ ⟨l, hl, rfl⟩
          simp [execOp, ho, Instr.indexAt, hi', hp, ptrV, Instr.sureAddr, asIntOf, run_underlying hu, hb.1, hb.2, run_tsz hsz, addr_add, Nat.add_assoc]
        · cases h
      · cases h
    · cases h
  · cases h

theorem d_makeInterface (t : TypeId) (x : Operand) (ho : o.op = .makeInterface t x) (hs : SR β H w) (hv : TVR β (ev x) (ρ x)) (h : astep P ev (.makeInterface t x) H = some (v, H')) : Done β H w ((execOp ρ o).run P w) v H' := by
  simp only [astep] at h
  split at h
  · rename_i k n he
    rw [he] at hv
    have hx : ρ x = .int k n := hv
    split at h
    · rename_i ht
      cases h
      have hu : P.underlying t = some (.int k) := by
        unfold tint at ht
        split at ht
        · rename_i k' e; cases ht; exact e
        · cases ht
      refine Done.same hs (u := .iface t (.int k n)) ?_ rfl
      simp [execOp, ho, Instr.makeInterface, run_underlying hu, hx]
    · cases h
  · cases h

theorem d_index (t : TypeId) (x i : Operand) (ho : o.op = .index t x i) (hs : SR β H w) (hv : TVR β (ev x) (ρ x)) (hi : TVR β (ev i) (ρ i)) (h : astep P ev (.index t x i) H = some (v, H')) :
    Done β H w ((execOp ρ o).run P w) v H' := by
  simp only [astep] at h
  split at h
  · rename_i s k n he hn
    rw [he] at hv
    rw [hn] at hi
    have hp : ρ x = .string s := hv
    have hi' : ρ i = .int k n := hi
    split at h
    · rename_i hb
      cases hc : s[n.toNat]? with
      | none => rw [hc] at h; cases h
      | some b =>
        rw [hc] at h
        cases h
        refine Done.same hs (u := .int .u8 b.toNat) ?_ rfl
        simp [execOp, ho, Instr.index, hi', hp, asIntOf, run_underlying (tstr_und hb.1), hb.2, hc]
    · cases h
  · cases h

theorem d_extract (x : Operand) (i : Nat) (ho : o.op = .extract x i) (hs : SR β H w) (hv : TVR β (ev x) (ρ x)) (h : astep P ev (.extract x i) H = some (v, H')) : Done β H w ((execOp ρ o).run P w) v H' := by
  simp only [astep] at h
  split at h
  · rename_i vs he
    rw [he] at hv
    obtain ⟨us, hp, ha⟩ := hv
    cases hc : vs[i]? with
    | none => rw [hc] at h; cases h
    | some z =>
      rw [hc] at h
      cases h
      obtain ⟨u, h1, h2⟩ := ha.get _ _ hc
      refine Done.same hs (u := u) ?_ (by cases z <;> exact h2)
      simp [execOp, ho, Instr.extract, hp, h1]
  · cases h

end
/-! ### operators -/
theorem read_nan (f : Ieee.Format) (word : Nat) (h0 : f.binade ≤ f.infRung) (h : f.infRung < word % f.signWeight) : (f.read word).isNaN = true := by
  unfold Ieee.Format.read
  dsimp only
  rw [if_neg (by omega), if_neg (by omega), if_neg (by omega)]
  rfl

theorem nan_f32 (t : Nat) : (FloatKind.f32.decode ((t % 2) * 2 ^ 31 + 0x7f800000 + 1 + (t / 2) % (2 ^ 23 - 1))).isNaN = true := by
  refine read_nan Ieee.single _ (by decide) ?_
  have h2 : (t / 2) % (2 ^ 23 - 1) < 2 ^ 23 - 1 := Nat.mod_lt _ (by omega)
  have h1 : t % 2 < 2 := Nat.mod_lt _ (by omega)
  show (0x7f800000 : Nat) < ((t % 2) * 2 ^ 31 + 0x7f800000 + 1 + (t / 2) % (2 ^ 23 - 1)) % 2 ^ 31
  generalize t % 2 = a at *
  generalize (t / 2) % (2 ^ 23 - 1) = c at *
  omega

theorem nan_f64 (t : Nat) : (FloatKind.f64.decode ((t % 2) * 2 ^ 63 + 0x7ff0000000000000 + 1 + (t / 2) % (2 ^ 52 - 1))).isNaN = true := by
  refine read_nan Ieee.double _ (by decide) ?_
  have h2 : (t / 2) % (2 ^ 52 - 1) < 2 ^ 52 - 1 := Nat.mod_lt _ (by omega)
  have h1 : t % 2 < 2 := Nat.mod_lt _ (by omega)
  show (0x7ff0000000000000 : Nat) < ((t % 2) * 2 ^ 63 + 0x7ff0000000000000 + 1 + (t / 2) % (2 ^ 52 - 1)) % 2 ^ 63
  generalize t % 2 = a at *
  generalize (t / 2) % (2 ^ 52 - 1) = c at *
  omega

section
variable {P : Program} {o : Oper} {ρ : Operand → Value} {ev : Operand → TV} {β : Emb} {H H' : Heap} {w : World} {v : TV}

theorem run_floatArith (op : BinOp) (k : FloatKind) (x y : Nat) (h : op = .add ∨ op = .sub ∨ op = .mul ∨ op = .quo) :
    ∃ r n, (Op.floatArith op k x y).run P w = .ok (.float k r) { w with drawn := n } ∧ cz k r = ((floatBits op k x y).map (cz k)).getD (qnan k) := by
  cases hb : floatBits op k x y with
  | some r =>
    refine ⟨r, w.drawn, ?_, by simp⟩
    have hr : (Op.floatArith op k x y).run P w = .ok (.float k r) w := by
      unfold floatBits at hb
      rcases h with rfl | rfl | rfl | rfl <;> simp only at hb <;> simp [Op.floatArith, hb]
    exact hr
  | none =>
    have hn : ∀ t, (k.decode (Question.cut (.nanBits k x y) t)).isNaN = true := by
      intro t
      cases k
      · exact nan_f32 t
      · exact nan_f64 t
    refine ⟨Question.cut (.nanBits k x y) (w.tape w.drawn (.nanBits k x y)), w.drawn + 1, ?_, by simp [cz, hn]⟩
    unfold floatBits at hb
    rcases h with rfl | rfl | rfl | rfl <;> simp only at hb <;> simp [Op.floatArith, hb, Question.forced]

/-! ### what a float operation gives depends on no not-a-number's bits -/
theorem decode_cz (k : FloatKind) (b : Nat) : (k.decode b).isNaN = true ∧ (k.decode (cz k b)).isNaN = true ∨ (k.decode (cz k b)) = k.decode b := by
  unfold cz
  split
  · rename_i h
    exact .inl ⟨h, by cases k <;> rfl⟩
  · exact .inr rfl

theorem sum_nan_left {x y : Ieee.Datum} (h : x.isNaN = true) : x.sum y = none := by
  cases x <;> simp [Ieee.Datum.isNaN] at h
  cases y <;> rfl
theorem sum_nan_right {x y : Ieee.Datum} (h : y.isNaN = true) : x.sum y = none := by
  cases y <;> simp [Ieee.Datum.isNaN] at h
  cases x <;> rfl
theorem product_nan_left {x y : Ieee.Datum} (h : x.isNaN = true) : x.product y = none := by
  cases x <;> simp [Ieee.Datum.isNaN] at h
  cases y <;> rfl
theorem product_nan_right {x y : Ieee.Datum} (h : y.isNaN = true) : x.product y = none := by
  cases y <;> simp [Ieee.Datum.isNaN] at h
  cases x <;> rfl
theorem quotient_nan_left {n : Nat} {x y : Ieee.Datum} (h : x.isNaN = true) : x.quotient n y = none := by
  cases x <;> simp [Ieee.Datum.isNaN] at h
  cases y <;> rfl
theorem quotient_nan_right {n : Nat} {x y : Ieee.Datum} (h : y.isNaN = true) : x.quotient n y = none := by
  cases y <;> simp [Ieee.Datum.isNaN] at h
  cases x <;> rfl
theorem order_nan_left {x y : Ieee.Datum} (h : x.isNaN = true) : x.order y = none := by
  cases x <;> simp [Ieee.Datum.isNaN] at h
  cases y <;> rfl
theorem order_nan_right {x y : Ieee.Datum} (h : y.isNaN = true) : x.order y = none := by
  cases y <;> simp [Ieee.Datum.isNaN] at h
  cases x <;> rfl
theorem opposite_nan {y : Ieee.Datum} (h : y.isNaN = true) : y.opposite.isNaN = true := by
  cases y <;> simp [Ieee.Datum.isNaN] at h
  rfl

theorem order_cz (k : FloatKind) (a b : Nat) : k.format.order (cz k a) (cz k b) = k.format.order a b := by
  show (k.decode _).order (k.decode _) = (k.decode a).order (k.decode b)
  rcases decode_cz k a with ⟨h1, h2⟩ | h1
  · rw [order_nan_left h1, order_nan_left h2]
  · rw [h1]
    rcases decode_cz k b with ⟨h3, h4⟩ | h3
    · rw [order_nan_right h3, order_nan_right h4]
    · rw [h3]

theorem floatBits_cz (op : BinOp) (k : FloatKind) (a b : Nat) : floatBits op k (cz k a) (cz k b) = floatBits op k a b := by
  cases op <;> first
    | rfl
    | (show Option.map _ (Ieee.Datum.sum (k.decode _) (k.decode _)) = Option.map _ (Ieee.Datum.sum (k.decode a) (k.decode b))
       congr 1
       rcases decode_cz k a with ⟨h1, h2⟩ | h1
       · rw [sum_nan_left h1, sum_nan_left h2]
       · rw [h1]
         rcases decode_cz k b with ⟨h3, h4⟩ | h3
         · rw [sum_nan_right h3, sum_nan_right h4]
         · rw [h3])
    | (show Option.map _ (Ieee.Datum.sum (k.decode _) (k.decode _).opposite) = Option.map _ (Ieee.Datum.sum (k.decode a) (k.decode b).opposite)
       congr 1
       rcases decode_cz k a with ⟨h1, h2⟩ | h1
       · rw [sum_nan_left h1, sum_nan_left h2]
       · rw [h1]
         rcases decode_cz k b with ⟨h3, h4⟩ | h3
         · rw [sum_nan_right (opposite_nan h3), sum_nan_right (opposite_nan h4)]
         · rw [h3])
    | (show Option.map _ (Ieee.Datum.product (k.decode _) (k.decode _)) = Option.map _ (Ieee.Datum.product (k.decode a) (k.decode b))
       congr 1
       rcases decode_cz k a with ⟨h1, h2⟩ | h1
       · rw [product_nan_left h1, product_nan_left h2]
       · rw [h1]
         rcases decode_cz k b with ⟨h3, h4⟩ | h3
         · rw [product_nan_right h3, product_nan_right h4]
         · rw [h3])
    | (show Option.map _ (Ieee.Datum.quotient _ (k.decode _) (k.decode _)) = Option.map _ (Ieee.Datum.quotient _ (k.decode a) (k.decode b))
       congr 1
       rcases decode_cz k a with ⟨h1, h2⟩ | h1
       · rw [quotient_nan_left h1, quotient_nan_left h2]
       · rw [h1]
         rcases decode_cz k b with ⟨h3, h4⟩ | h3
         · rw [quotient_nan_right h3, quotient_nan_right h4]
         · rw [h3])

theorem fcmp_cz (op : BinOp) (k : FloatKind) (a b : Nat) : fcmp op k (cz k a) (cz k b) = fcmp op k a b := by
  unfold fcmp
  rw [order_cz]

theorem fop_cz (op : BinOp) (k : FloatKind) (a b : Nat) : fop op k (cz k a) (cz k b) = fop op k a b := by
  unfold fop
  rw [floatBits_cz]

/-- The machine's binary operation. -/
theorem run_bin (op : BinOp) (t : TypeId) {x y z : AV} {a b : Value} (hx : VR β x a) (hy : VR β y b) (h : abin P op t x y = some z) :
    ∃ u n, (binOp op t a b).run P w = .ok u { w with drawn := n } ∧ VR β z u := by
  cases x <;> cases y <;> simp only [abin] at h <;> first | (cases h; done) | skip
  case int.int k i k' j =>
    have ha : a = .int k i := hx
    have hb : b = .int k' j := hy
    subst ha hb
    have same : ∀ r, (binOp op t (.int k i) (.int k' j)).run P w = .ok r w → VR β z r →
        ∃ u n, (binOp op t (.int k i) (.int k' j)).run P w = .ok u { w with drawn := n } ∧ VR β z u := fun r h1 h2 => ⟨r, w.drawn, h1, h2⟩
    cases op <;> simp only [ishift, iop] at h <;> first
      | (cases h; done)
      | (split at h
         · cases h
         · rename_i hj
           cases h
           exact same _ (by simp [binOp, Op.shift, hj]) rfl)
      | (split at h
         · rename_i hk
           subst hk
           first
             | (cases h; exact same _ (by simp [binOp, Op.intArith, Op.intBits, Op.intCmp, ibits]) rfl)
             | (split at h
                · cases h
                · rename_i hz
                  cases h
                  exact same _ (by simp [binOp, Op.intDiv, hz]) rfl)
         · cases h)
  case flt.flt k i k' j =>
    obtain ⟨a', rfl, ha⟩ := hx
    obtain ⟨b', rfl, hb⟩ := hy
    split at h
    · rename_i hk
      subst hk
      subst ha hb
      have arith : ∀ op', (op' = .add ∨ op' = .sub ∨ op' = .mul ∨ op' = .quo) → op = op' → some (AV.flt k (fop op' k (cz k a') (cz k b'))) = some z →
          ∃ u n, (binOp op t (.float k a') (.float k b')).run P w = .ok u { w with drawn := n } ∧ VR β z u := by
        intro op' hop e hz
        subst e
        cases hz
        obtain ⟨r, n, h1, h2⟩ := run_floatArith (P := P) (w := w) op k a' b' hop
        refine ⟨.float k r, n, ?_, ⟨r, rfl, ?_⟩⟩
        · rcases hop with rfl | rfl | rfl | rfl <;> simp [binOp, h1]
        · rw [fop_cz]; exact h2
      have cmp : ∀ op', op = op' → some (AV.bool (fcmp op' k (cz k a') (cz k b'))) = some z → (op' = .eql ∨ op' = .neq ∨ op' = .lss ∨ op' = .leq ∨ op' = .gtr ∨ op' = .geq) →
          ∃ u n, (binOp op t (.float k a') (.float k b')).run P w = .ok u { w with drawn := n } ∧ VR β z u := by
        intro op' e hz hop
        subst e
        cases hz
        rw [fcmp_cz]
        refine ⟨.bool (fcmp op k a' b'), w.drawn, ?_, rfl⟩
        rcases hop with rfl | rfl | rfl | rfl | rfl | rfl <;> simp [binOp, Op.floatCmp, fcmp]
      cases op <;> simp only at h <;> first
        | (cases h; done)
        | exact arith _ (by simp) rfl h
        | exact cmp _ rfl h (by simp)
    · cases h
  case str.str i j =>
    have ha : a = .string i := hx
    have hb : b = .string j := hy
    subst ha hb
    have same : ∀ r, (binOp op t (.string i) (.string j)).run P w = .ok r w → VR β z r →
        ∃ u n, (binOp op t (.string i) (.string j)).run P w = .ok u { w with drawn := n } ∧ VR β z u := fun r h1 h2 => ⟨r, w.drawn, h1, h2⟩
    cases op <;> simp only [sop] at h <;> first
      | (cases h; done)
      | (cases h; exact same _ (by simp [binOp, Op.stringOp]) rfl)
      | (split at h
         · rename_i hz
           cases h
           refine same _ ?_ rfl
           have hm : IntKind.i64.max = 9223372036854775807 := rfl
           simp [binOp, Op.stringOp, hm]
           omega
         · cases h)
  case bool.bool i j =>
    have ha : a = .bool i := hx
    have hb : b = .bool j := hy
    subst ha hb
    split at h
    · rename_i ht
      have hu := tbool_und ht
      have same : ∀ r, (binOp op t (.bool i) (.bool j)).run P w = .ok r w → VR β z r →
          ∃ u n, (binOp op t (.bool i) (.bool j)).run P w = .ok u { w with drawn := n } ∧ VR β z u := fun r h1 h2 => ⟨r, w.drawn, h1, h2⟩
      have he : (Op.equal t (.bool i) (.bool j)).run P w = .ok (i == j) w := by
        have key : ∀ d, (Op.equalIn (d + 1) t (.bool i) (.bool j)).run P w = .ok (i == j) w := fun d => by simp [Op.equalIn, run_underlying hu]
        exact key 9999
      cases op <;> simp only at h <;> first
        | (cases h; done)
        | (cases h; exact same _ (by simp [binOp, he]) rfl)
    · cases h

theorem run_eqGuard (op : BinOp) (t : TypeId) (xo yo : Operand) {x y z : AV} {a b : Value} (hx : VR β x a) (hy : VR β y b) (h : abin P op t x y = some z) :
    (eqGuard op t xo yo a b).run P w = .ok () w := by
  cases x <;> cases y <;> simp only [abin] at h <;> first | (cases h; done) | skip
  · have ha : a = _ := hx; have hb : b = _ := hy; subst ha hb; cases op <;> rfl
  · have ha : a = _ := hx; have hb : b = _ := hy; subst ha hb; cases op <;> rfl
  · obtain ⟨_, rfl, _⟩ := hx; obtain ⟨_, rfl, _⟩ := hy; cases op <;> rfl
  · have ha : a = _ := hx; have hb : b = _ := hy; subst ha hb; cases op <;> rfl

theorem run_ifc_eq {t : TypeId} {ms : Array (String × TypeId)} (hu : P.underlying t = some (.interface ms)) {a : Value} {p : Bool} (ha : (p = true ∧ a = .nilIface) ∨ (p = false ∧ ∃ t p, a = .iface t p)) : (Op.equal t a .nilIface).run P w = .ok p w := by
  unfold Op.equal
  rw [show Op.maxDepth = 9999 + 1 from rfl, Op.equalIn]
  rcases ha with ⟨rfl, rfl⟩ | ⟨rfl, tt, pp, rfl⟩
  · simp only [Sem.run_bind, run_underlying hu, Result.andThen_ok]; rfl
  · simp only [Sem.run_bind, run_underlying hu, Result.andThen_ok]; rfl
theorem run_ifc_guard (op : BinOp) (t : TypeId) (x : Operand) (c : Value) {a : Value} {p : Bool} (ha : (p = true ∧ a = .nilIface) ∨ (p = false ∧ ∃ t p, a = .iface t p)) : (eqGuard op t x (.const c) a .nilIface).run P w = .ok () w := by
  rcases ha with ⟨rfl, rfl⟩ | ⟨rfl, tt, pp, rfl⟩
  · cases op <;> first | rfl | (unfold eqGuard; cases x <;> rfl)
  · cases op <;> rfl
theorem d_binOp (op : BinOp) (t t2 : TypeId) (x y : Operand) (ho : o.op = .binOp op t x y t2) (hs : SR β H w) (hx : TVR β (ev x) (ρ x)) (hy : TVR β (ev y) (ρ y))
    (h : astep P ev (.binOp op t x y t2) H = some (v, H')) : Done β H w ((execOp ρ o).run P w) v H' := by
  simp only [astep] at h
  split at h
  · rename_i a b ea eb
    rw [ea] at hx
    rw [eb] at hy
    cases hz : abin P op t a b with
    | none =>
      rw [hz, Option.none_or] at h
      cases hf : aifc P op t y a b with
      | none => rw [hf] at h; cases h
      | some z =>
        rw [hf] at h
        cases h
        unfold aifc at hf
        split at hf <;> first | (cases hf; done) | skip
        rename_i c p
        split at hf <;> first | (cases hf; done) | skip
        rename_i ht
        have hu : ∃ ms, P.underlying t = some (.interface ms) := by
          unfold tif at ht
          split at ht
          · exact ⟨_, by assumption⟩
          · cases ht
        obtain ⟨ms, hu⟩ := hu
        have hy' : ρ (.const c) = .nilIface := hy
        have hx := IfR.cases hx
        have he := run_ifc_eq (P := P) (w := w) hu hx
        have hg := run_ifc_guard (P := P) (w := w) op t x c hx
        rw [← hy'] at hg he
        cases op <;> first | (cases hf; done) | skip
        · cases hf
          refine Done.same hs (u := .bool p.isNil) ?_ rfl
          rcases hx with ⟨_, hx'⟩ | ⟨_, tt, pp, hx'⟩ <;> (rw [hx', hy'] at he hg; simp [execOp, ho, hx', hy', hg, binOp, he])
        · cases hf
          refine Done.same hs (u := .bool (!p.isNil)) ?_ rfl
          rcases hx with ⟨_, hx'⟩ | ⟨_, tt, pp, hx'⟩ <;> (rw [hx', hy'] at he hg; simp [execOp, ho, hx', hy', hg, binOp, he])
    | some z =>
      rw [hz, Option.some_or] at h
      cases h
      obtain ⟨u, n, h1, h2⟩ := run_bin (P := P) (w := w) op t hx hy hz
      refine Done.drew n hs (u := u) ?_ h2
      simp [execOp, ho, run_eqGuard (P := P) (w := w) op t x y hx hy hz, h1]
  · cases h

theorem negFloat_nan (k : FloatKind) (b : Nat) : (k.decode (Op.negFloat k b)).isNaN = (k.decode b).isNaN := by
  have key : ∀ (f : Ieee.Format) (m : Nat), f.exponentBits + f.fractionBits = m → (f.read (b ^^^ 2 ^ m)).isNaN = (f.read b).isNaN := by
    intro f m hm
    unfold Ieee.Format.read Ieee.Format.signWeight
    rw [hm]
    have h2 : (b ^^^ 2 ^ m) % 2 ^ m = b % 2 ^ m := by
      rw [Nat.xor_mod_two_pow]
      simp
    rw [h2]
    dsimp only
    split
    · rfl
    · split
      · rfl
      · split <;> rfl
  cases k
  · exact key Ieee.single 31 rfl
  · exact key Ieee.double 63 rfl

theorem d_unOp (op : UnOp) (t : TypeId) (x : Operand) (ho : o.op = .unOp op t x) (hs : SR β H w) (hx : TVR β (ev x) (ρ x)) (h : astep P ev (.unOp op t x) H = some (v, H')) :
    Done β H w ((execOp ρ o).run P w) v H' := by
  simp only [astep] at h
  split at h
  · rename_i a ea
    rw [ea] at hx
    cases hz : aun op a with
    | none => rw [hz] at h; cases h
    | some z =>
      rw [hz] at h
      cases h
      unfold aun at hz
      split at hz <;> first | (cases hz; done) | skip
      · rename_i k n
        have hx' : ρ x = .int k n := hx
        cases hz
        exact Done.same hs (u := .int k (k.wrap (0 - n))) (by simp [execOp, ho, hx', Op.unary, Op.intArith]) rfl
      · rename_i k n
        have hx' : ρ x = .int k n := hx
        cases hz
        exact Done.same hs (u := .int k _) (by simp [execOp, ho, hx', Op.unary, Op.intBits, ibits]) rfl
      · rename_i k b
        obtain ⟨b', hx', hb⟩ := hx
        cases hz
        refine Done.same hs (u := .float k (Op.negFloat k b')) (by simp [execOp, ho, hx', Op.unary]) ⟨_, rfl, ?_⟩
        subst hb
        rcases decode_cz k b' with ⟨h1, h2⟩ | h1
        · unfold cz
          rw [negFloat_nan, negFloat_nan, h1, if_pos rfl, if_pos (by simpa [cz, h1] using h2)]
        · have : cz k b' = b' ∨ (k.decode b').isNaN = true := by
            unfold cz
            split
            · rename_i h; exact .inr h
            · exact .inl rfl
          rcases this with h3 | h3
          · rw [h3]
          · unfold cz
            rw [negFloat_nan, negFloat_nan, h3, if_pos rfl, if_pos]
            have : (k.decode (qnan k)).isNaN = true := by cases k <;> rfl
            simpa [h3] using this
      · rename_i b
        have hx' : ρ x = .bool b := hx
        cases hz
        exact Done.same hs (u := .bool (!b)) (by simp [execOp, ho, hx', Op.unary]) rfl
  · cases h


/-! ### conversions -/
theorem toInt_nan {d : Ieee.Datum} {way : Ieee.Toward} (h : d.isNaN = true) : d.toInt way = none := by
  cases d <;> simp [Ieee.Datum.isNaN] at h
  rfl

theorem floatToIntVal_cz (s : FloatKind) (b : Nat) (k : IntKind) : floatToIntVal s (cz s b) k = floatToIntVal s b k := by
  unfold floatToIntVal
  rcases decode_cz s b with ⟨h1, h2⟩ | h1
  · rw [toInt_nan h1, toInt_nan h2]
  · rw [h1]

theorem run_conv_int (src dst : TypeId) (q k : IntKind) (n : Int) (hs : (P.underlying src).isSome = true) (hd : P.underlying dst = some (.int k)) :
    (convert src dst (.int q n)).run P w = .ok (.int k (k.wrap n)) w := by
  obtain ⟨u, hs'⟩ := Option.isSome_iff_exists.1 hs
  cases u <;> simp [convert, run_underlying hs', run_underlying hd, Conv.intToInt]

theorem run_conv_float (src dst : TypeId) (s k : FloatKind) (b r : Nat) (hs : (P.underlying src).isSome = true) (hd : P.underlying dst = some (.float k)) (h : fconv s (cz s b) k = some r) :
    ∃ r' n, (convert src dst (.float s b)).run P w = .ok (.float k r') { w with drawn := n } ∧ cz k r' = r := by
  obtain ⟨u, hs'⟩ := Option.isSome_iff_exists.1 hs
  have hc : ∀ x, (Conv.floatToFloat s b k).run P w = x → (convert src dst (.float s b)).run P w = x := fun x hx => by
    cases u <;> simp [convert, run_underlying hs', run_underlying hd, hx]
  unfold fconv at h
  split at h
  · rename_i e
    subst e
    cases h
    exact ⟨b, w.drawn, hc _ (by simp [Conv.floatToFloat]), rfl⟩
  · rename_i ne
    rcases decode_cz s b with ⟨h1, h2⟩ | h1
    · cases hd1 : s.decode (cz s b) with
      | nan g t =>
        rw [hd1] at h
        cases h
        have hn : ∀ t, (k.decode (Question.cut (.nanConv k b) t)).isNaN = true := by
          intro t
          cases k
          · exact nan_f32 t
          · exact nan_f64 t
        refine ⟨Question.cut (.nanConv k b) (w.tape w.drawn (.nanConv k b)), w.drawn + 1, hc _ ?_, by simp [cz, hn]⟩
        cases hd2 : s.decode b with
        | nan g t => simp [Conv.floatToFloat, ne, hd2, Question.forced]
        | infinity g => rw [hd2] at h1; simp [Ieee.Datum.isNaN] at h1
        | number a b c => rw [hd2] at h1; simp [Ieee.Datum.isNaN] at h1
      | infinity g => rw [hd1] at h2; simp [Ieee.Datum.isNaN] at h2
      | number a b c => rw [hd1] at h2; simp [Ieee.Datum.isNaN] at h2
    · rw [h1] at h
      cases hd2 : s.decode b with
      | nan g t =>
        rw [hd2] at h
        cases h
        have hn : ∀ t, (k.decode (Question.cut (.nanConv k b) t)).isNaN = true := by
          intro t
          cases k
          · exact nan_f32 t
          · exact nan_f64 t
        exact ⟨Question.cut (.nanConv k b) (w.tape w.drawn (.nanConv k b)), w.drawn + 1, hc _ (by simp [Conv.floatToFloat, ne, hd2, Question.forced]), by simp [cz, hn]⟩
      | infinity g =>
        rw [hd2] at h
        cases h
        exact ⟨k.encode (.infinity g), w.drawn, hc _ (by simp [Conv.floatToFloat, ne, hd2]), rfl⟩
      | number g m e =>
        rw [hd2] at h
        simp only at h
        split at h
        · cases h
        · rename_i hi
          cases h
          exact ⟨k.encode (.number g m e), w.drawn, hc _ (by simp [Conv.floatToFloat, ne, hd2, hi]), rfl⟩

theorem strOfCells_all {β : Emb} : ∀ {cs : List AV} {us : List Value} {l : List UInt8}, All2 (VS β) cs us → strOfCells cs = some l →
    ∃ ns : List Int, us = ns.map (Value.int .u8) ∧ l = ns.map fun n => UInt8.ofNat n.toNat
  | [], [], l, _, h => by simp [strOfCells] at h; subst h; exact ⟨[], rfl, rfl⟩
  | c :: cs, u :: us, l, h, hl => by
    unfold strOfCells at hl
    split at hl
    · rename_i e; cases e
    · rename_i n r e
      cases e
      cases hr : strOfCells cs with
      | none => rw [hr] at hl; cases hl
      | some t =>
        rw [hr] at hl
        cases hl
        obtain ⟨ns, h1, h2⟩ := strOfCells_all h.2 hr
        have : u = .int .u8 n := h.1.1
        exact ⟨n :: ns, by simp [this, h1], by simp [h2]⟩
    · cases hl
  | [], _ :: _, _, h, _ => h.elim
  | _ :: _, [], _, h, _ => h.elim

theorem foldl_push (ns : List Int) (acc : ByteArray) :
    (ns.foldl (fun (r : ByteArray) n => r.push (UInt8.ofNat n.toNat)) acc) = ⟨acc.data ++ (ns.map fun n => UInt8.ofNat n.toNat).toArray⟩ := by
  induction ns generalizing acc with
  | nil => simp
  | cons n ns ih =>
    rw [List.foldl_cons, ih]
    simp [ByteArray.push]

theorem modify_push {α : Type} (a : Array α) (x : α) (f : α → α) : (a.push x).modify a.size f = a.push (f x) := by
  apply Array.ext (by simp)
  intro i h1 h2
  rw [Array.getElem_modify]
  by_cases hi : a.size = i
  · subst hi; simp
  · simp only [hi, if_false]
    simp at h1
    rw [Array.getElem_push_lt (by omega), Array.getElem_push_lt (by omega)]

theorem d_convert (src dst : TypeId) (x : Operand) (ho : o.op = .convert src dst x) (hs : SR β H w) (hx : TVR β (ev x) (ρ x)) (h : astep P ev (.convert src dst x) H = some (v, H')) :
    Done β H w ((execOp ρ o).run P w) v H' := by
  simp only [astep] at h
  split at h
  · rename_i s es
    rw [es] at hx
    have hx' : ρ x = .string s := hx
    split at h
    · cases h
    · rename_i hsr
      have hsr' : (P.underlying src).isSome = true := by
        cases hh : (P.underlying src).isSome with
        | true => rfl
        | false => exact absurd hh hsr
      obtain ⟨u, hu⟩ := Option.isSome_iff_exists.1 hsr'
      split at h
      · rename_i hd
        cases h
        refine Done.same hs (u := .string s) ?_ rfl
        cases u <;> simp [execOp, ho, hx', convert, run_underlying hu, run_underlying (tstr_und hd)]
      · split at h
        · rename_i e he
          split at h
          · rename_i hk
            cases h
            have hd := telem_und he
            have hk' := tint_und hk
            let cap := Question.cut (.appendCap s.size 0 e) (w.tape w.drawn (.appendCap s.size 0 e))
            have ha : All2 (VS β) (s.data.toList.map fun b => AV.int .u8 b.toNat) (s.data.toList.map fun b => Value.int .u8 b.toNat) :=
              All2.map (fun b => ⟨rfl, rfl⟩) _
            have hsz : (s.data.toList.map fun b => Value.int .u8 b.toNat).length = s.size := by
              rw [List.length_map]; rfl
            have hcap : s.size ≤ cap := by
              show s.size ≤ s.size + _
              omega
            refine ⟨_, .slice (some ⟨w.heap.size, 0, none⟩) s.size cap, _, .inl ?_, Le.ext (hs.dom _ (Nat.le_refl _)),
              (hs.draw (w.drawn + 1)).alloc (t := e) (rest := List.replicate (cap - s.size) (Value.int .u8 0)) (fz := ((s.data.toList.map fun b => Value.int .u8 b.toNat).length + (List.replicate (cap - s.size) (Value.int .u8 0)).length, (s.data.toList.map fun b => Value.int .u8 b.toNat).length + (List.replicate (cap - s.size) (Value.int .u8 0)).length + 1)) ha (.inr (Nat.le_refl _)),
              ?_, ?_⟩
            · have hrun : (Conv.stringToBytes e s).run P w = .ok (.slice (some ⟨w.heap.size, 0, none⟩) s.size cap)
                  { ({ w with drawn := w.drawn + 1 } : World) with heap := w.heap.push (.cells ((s.data.toList.map fun b => Value.int .u8 b.toNat) ++ List.replicate (cap - s.size) (Value.int .u8 0)).toArray e
                    ((s.data.toList.map fun b => Value.int .u8 b.toNat).length + (List.replicate (cap - s.size) (Value.int .u8 0)).length, (s.data.toList.map fun b => Value.int .u8 b.toNat).length + (List.replicate (cap - s.size) (Value.int .u8 0)).length + 1)) } := by
                have harr : (s.data.map fun b => Value.int .u8 b.toNat) ++ Array.replicate (cap - s.size) (Value.int .u8 0) =
                    ((s.data.toList.map fun b => Value.int .u8 b.toNat) ++ List.replicate (cap - s.size) (Value.int .u8 0)).toArray := Array.ext' (by simp)
                simp only [Conv.stringToBytes, Sem.run_bind, run_choose, Question.forced, Bool.false_eq_true, if_false, Result.andThen_ok, newRow, Sem.run_map, run_newObj, Sem.run_pure, markStringish, run_shape]
                rw [show (Question.cut (.appendCap s.size 0 e) (w.tape w.drawn (.appendCap s.size 0 e))) = cap from rfl, harr]
                have hsh : ({ ({ w with drawn := w.drawn + 1 } : World) with heap := w.heap.push (.cells ((s.data.toList.map fun b => Value.int .u8 b.toNat) ++ List.replicate (cap - s.size) (Value.int .u8 0)).toArray e) } : World).shape? w.heap.size =
                    some (e, (s.data.toList.map fun b => Value.int .u8 b.toNat).length + (List.replicate (cap - s.size) (Value.int .u8 0)).length) := by
                  simp [World.shape?]
                dsimp only at hsh
                rw [hsh]
                simp [World.freeze, modify_push]
              cases u <;> simp [execOp, ho, hx', convert, run_underlying hu, run_underlying hd, run_underlying hk', hrun]
            · exact ⟨_, _, cap, if_pos rfl, rfl, hcap, .inl ⟨rfl, by simp; omega⟩⟩
            · exact (Fr.draw (w.drawn + 1)).trans (Fr.alloc (hs.draw (w.drawn + 1)) _ _)
          · cases h
        · cases h
  · rename_i id off len esz es
    rw [es] at hx
    obtain ⟨l, a, cap, hl, hx', hlc, hor⟩ := hx
    split at h
    · rename_i e he
      split at h
      · rename_i hk
        obtain ⟨hk1, hk2, rfl⟩ := hk
        cases hr : rdCells H id off len with
        | none => rw [hr] at h; cases h
        | some cs =>
          rw [hr] at h
          simp only [Option.bind_some] at h
          cases hst : strOfCells cs with
          | none => rw [hst] at h; cases h
          | some bl =>
            rw [hst] at h
            cases h
            obtain ⟨us, h1, h2, h3⟩ := cells_of hs hl hr
            obtain ⟨ns, h4, h5⟩ := strOfCells_all h2 hst
            refine Done.same hs (u := .string ⟨bl.toArray⟩) ?_ rfl
            have hconv : (convert src dst (.slice a len cap)).run P w = (Conv.bytesToString (.slice a len cap)).run P w := by
              simp [convert, run_underlying (telem_und he), run_underlying (tstr_und hk2), run_underlying (tint_und hk1)]
            have hbs : (Conv.bytesToString (.slice a len cap)).run P w = .ok (.string ⟨bl.toArray⟩) w := by
              rcases hor with ⟨rfl, _⟩ | ⟨rfl, rfl⟩
              · have hload : (loadCells ⟨l.blk, l.base + off, none⟩ len).run P w = .ok (ns.map (Value.int .u8)).toArray w := by
                  have := run_loadCells (P := P) l.blk (l.base + off) us h3
                  rw [h1, h4] at this; exact this
                rw [run_bytesToString w _ len cap ns hload, foldl_push, h5]
                simp
              · have hcs : us = [] := List.length_eq_zero_iff.1 h1
                have hns : ns = [] := by rw [hcs] at h4; simpa using h4.symm
                subst hns
                subst h5
                cases a with
                | none => simp [Conv.bytesToString]; rfl
                | some ad => rw [run_bytesToString w ad 0 0 [] (by simp [loadCells, loadCellsFrom])]; rfl
            simp [execOp, ho, hx', hconv, hbs]
      · split at h
        · rename_i hk
          obtain ⟨rfl, hk1, hlen, hown⟩ := hk
          cases h
          rcases hor with ⟨rfl, _⟩ | ⟨h0, _⟩
          case inr => omega
          obtain ⟨cs, hcs⟩ : ∃ cs, H.f id = .own cs := by
            cases hb : H.f id with
            | own cs => exact ⟨cs, rfl⟩
            | ro cs => rw [hb] at hown; cases hown
            | gone => rw [hb] at hown; cases hown
            | tab b o => rw [hb] at hown; cases hown
            | hole => rw [hb] at hown; cases hown
            | mp _ _ _ => rw [hb] at hown; cases hown
          have hrow := hs.row id l hl
          rw [hcs] at hrow
          obtain ⟨ccs, t, fz, g1, g2, g3, g4, g5⟩ := hrow
          have hblt : l.blk < w.heap.size := by
            rcases Nat.lt_or_ge l.blk w.heap.size with h' | h'
            · exact h'
            · simp [Array.getElem?_eq_none h'] at g1
          let w' : World := w.freeze { block := l.blk, off := ccs.size } 1
          have hw' : ∀ b, b ≠ l.blk → w'.heap[b]? = w.heap[b]? := fun b hb => by
            simp [w', World.freeze, Array.getElem?_modify, Ne.symm hb]
          have hwb : ∃ fz', w'.heap[l.blk]? = some (.cells ccs t fz') ∧ NF fz' ccs.size := by
            refine ⟨if fz.1 == fz.2 then (ccs.size, ccs.size + 1) else (min fz.1 ccs.size, max fz.2 (ccs.size + 1)), ?_, ?_⟩
            · simp [w', World.freeze, Array.getElem?_modify, g1]
            · by_cases hz : fz.1 = fz.2
              · simp only [hz, BEq.rfl, if_true]; exact .inr (Nat.le_refl _)
              · rcases g5 with g5 | g5
                · exact absurd g5 hz
                · have : (fz.1 == fz.2) = false := by simpa using hz
                  rw [this]
                  exact .inr (by simp; omega)
          have hsame : ∀ i m, β i = some m → (H.f i).isGone = false → i ≠ id → m.blk ≠ l.blk := fun i m ei hg hne e =>
            hs.apart id i l m (Ne.symm hne) hl ei (by rw [hcs]; rfl) hg e.symm
          have hs' : SR β H w' := by
            refine ⟨hs.dom, hs.tot, fun i m ei => ?_, hs.apart⟩
            by_cases hi : i = id
            · subst hi
              obtain rfl : m = l := by rw [hl] at ei; exact (Option.some.inj ei).symm
              rw [hcs]
              obtain ⟨fz', k1, k2⟩ := hwb
              exact ⟨ccs, t, fz', k1, g2, g3, g4, k2⟩
            · cases hg : (H.f i).isGone with
              | true => cases hb : H.f i <;> rw [hb] at hg <;> first | trivial | cases hg
              | false => exact RowR.other (fun _ => hw' _ (hsame i m ei hg hi)) (hs.row i m ei)
          have hsz : w'.heap.size = w.heap.size := by simp [w', World.freeze]
          have hfr : Fr β H w β H w' := ⟨rfl, rfl, rfl, by rw [hsz]; exact Nat.le_refl _, fun b hb hn => hw' b fun e => hn ⟨id, l, hl, by rw [hcs]; rfl, e.symm⟩, fun _ _ h => h⟩
          have hshp : w.shape? l.blk = some (t, ccs.size) := by simp [World.shape?, g1]
          refine ⟨β, .slice (some ⟨l.blk, l.base + off, none⟩) len cap, w', .inl ?_, Le.refl β, hs', ⟨l, _, cap, hl, rfl, hlc, .inl ⟨rfl, by assumption⟩⟩, hfr⟩
          simp [execOp, ho, hx', convert, run_underlying (telem_und he), run_underlying (tint_und hk1), markStringish, hshp, w']
        · cases h
    · cases h
  · rename_i a hq1 hq2 ea
    clear hq1 hq2
    rw [ea] at hx
    split at h
    · rename_i hsr
      cases hz : aconv P dst a with
      | none => rw [hz] at h; cases h
      | some z =>
        rw [hz] at h
        cases h
        cases a <;> simp only [aconv] at hz <;> first | (cases hz; done) | skip
        case int q n =>
          have hx' : ρ x = .int q n := hx
          split at hz
          · rename_i k hk
            cases hz
            exact Done.same hs (u := .int k (k.wrap n)) (by simp [execOp, ho, hx', run_conv_int src dst q k n hsr (tint_und hk)]) rfl
          · split at hz
            · rename_i k hk
              cases hz
              exact Done.same hs (u := .float k (floatOfInt k n)) (by simp [execOp, ho, hx', run_convert_int_float w src dst q k n hsr (tflt_und hk)]) ⟨_, rfl, rfl⟩
            · cases hz
        case flt s b =>
          obtain ⟨b', hx', hb⟩ := hx
          split at hz
          · rename_i k hk
            subst hb
            rw [floatToIntVal_cz] at hz
            cases hf : floatToIntVal s b' k with
            | none => rw [hf] at hz; cases hz
            | some n =>
              rw [hf] at hz
              cases hz
              exact Done.same hs (u := .int k n) (by simp [execOp, ho, hx', run_convert_float_int w src dst s k b' n hsr (tint_und hk) hf]) rfl
          · split at hz
            · rename_i k hk
              cases hf : fconv s b k with
              | none => rw [hf] at hz; cases hz
              | some r =>
                rw [hf] at hz
                cases hz
                subst hb
                obtain ⟨r', n, h1, h2⟩ := run_conv_float (P := P) (w := w) src dst s k b' r hsr (tflt_und hk) hf
                exact Done.drew n hs (u := .float k r') (by simp [execOp, ho, hx', h1]) ⟨_, rfl, h2⟩
            · cases hz
    · cases h
  · cases h
/-! ### maps from integers to integers -/
theorem tmapi_und {t : TypeId} {kk ek : IntKind} (h : tmapi P t = some (kk, ek)) : ∃ k e, P.underlying t = some (.map k e) ∧ P.underlying k = some (.int kk) ∧ P.underlying e = some (.int ek) ∧ ∀ w : World, (zeroValue e).run P w = .ok (.int ek 0) w := by
  unfold tmapi at h
  split at h
  · rename_i k e hu
    have ti : ∀ x q, tint P x = some q → P.underlying x = some (.int q) := fun x q h => by
      unfold tint at h
      split at h
      · rename_i k' e'; cases h; exact e'
      · cases h
    cases h1 : tint P k with
    | none => rw [h1] at h; cases h
    | some a =>
      rw [h1, Option.bind_some] at h
      cases h2 : tint P e with
      | none => rw [h2] at h; cases h
      | some b =>
        rw [h2, Option.bind_some] at h
        split at h
        · rename_i q z hz
          split at h
          · rename_i hq
            obtain ⟨rfl, rfl⟩ := hq
            cases h
            refine ⟨k, e, hu, ti k _ h1, ti e _ h2, fun w => ?_⟩
            cases hi : P.info? e with
            | none => rw [hi] at hz; cases hz
            | some i =>
              rw [hi, Option.bind_some] at hz
              simp [zeroValue, typeInfo, hi, hz]
          · cases h
        · cases h
  · cases h
theorem d_makeMap (t : TypeId) (ho : o.op = .makeMap t none) (hs : SR β H w) (h : astep P ev (.makeMap t none) H = some (v, H')) : Done β H w ((execOp ρ o).run P w) v H' := by
  simp only [astep] at h
  cases ht : tmapi P t with
  | none => rw [ht] at h; cases h
  | some ke =>
    obtain ⟨kk, ek⟩ := ke
    rw [ht] at h
    cases h
    obtain ⟨k, e, h1, h2, h3, _⟩ := tmapi_und ht
    have hown := World.ownsMap_made (H := Unit) w P k (plainElem P e)
    obtain ⟨es, clock, hb, F, hsz, hD⟩ := hown
    have hnew : (w.alloc (.map #[] 0)).heap[w.heap.size]? = some (.map #[] 0) := heap_alloc_new w _
    rw [hnew] at hb
    cases hb
    refine ⟨_, .map (some w.heap.size), _, .inl ?_, Le.ext (hs.dom _ (Nat.le_refl _)), hs.allocB (.map #[] 0) 0 (.mp kk ek []) (fun γ => ⟨#[], 0, by simp, P, k, e, h2, h3, F, Nat.zero_le _, fun a _ => ?_⟩), ?_, Fr.allocB hs _ _ _⟩
    · simp [execOp, ho, Instr.makeMap]
    · rfl
    · exact ⟨_, if_pos rfl, rfl⟩
theorem d_lookup (t : TypeId) (m x : Operand) (ho : o.op = .lookup t m x false) (hs : SR β H w) (hm : TVR β (ev m) (ρ m)) (hx : TVR β (ev x) (ρ x)) (h : astep P ev (.lookup t m x false) H = some (v, H')) : Done β H w ((execOp ρ o).run P w) v H' := by
  simp only [astep] at h
  split at h
  · rename_i id k a kk ek em ex ht
    rw [em] at hm
    rw [ex] at hx
    obtain ⟨l, hl, hm'⟩ := hm
    have hx' : ρ x = .int k a := hx
    split at h
    · rename_i kk' ek' ml hf
      split at h
      · rename_i hc
        obtain ⟨rfl, rfl, rfl, hw⟩ := hc
        cases h
        obtain ⟨kt, et, g1, g2, g3, g4⟩ := tmapi_und ht
        have hrow := hs.row id l hl
        rw [hf] at hrow
        obtain ⟨es, clock, hb, hM⟩ := hrow
        obtain ⟨F, hsz, hat⟩ := hM.to g2 g3
        have hown : w.ownsMap (H := Unit) P kt (plainElem P et) l.blk ml.length (.map ((es.toList.map (Go.WideElems.rg P kt (plainElem P et))).foldr DataW.insert [])) := ⟨es, clock, hb, F, hsz, rfl⟩
        obtain ⟨c, hrun, hc, _⟩ := hown.lookup_int (Go.Maps.int_keyed g2) g1 g3 (g4 w) (Go.Maps.keyOf_int_mk g2 hw)
        rw [hat a hw] at hc
        cases hc
        refine Done.same hs (u := .int ek' (mpGet ml a)) ?_ rfl
        simp [execOp, ho, hm', hx', hrun]
      · cases h
    · cases h
  · cases h
theorem d_mapUpdate (t : TypeId) (m x y : Operand) (ho : o.op = .mapUpdate t m x y) (hs : SR β H w) (hm : TVR β (ev m) (ρ m)) (hx : TVR β (ev x) (ρ x)) (hy : TVR β (ev y) (ρ y)) (h : astep P ev (.mapUpdate t m x y) H = some (v, H')) : Done β H w ((execOp ρ o).run P w) v H' := by
  simp only [astep] at h
  split at h
  · rename_i id k a k2 b kk ek em ex ey ht
    rw [em] at hm
    rw [ex] at hx
    rw [ey] at hy
    obtain ⟨l, hl, hm'⟩ := hm
    have hx' : ρ x = .int k a := hx
    have hy' : ρ y = .int k2 b := hy
    split at h
    · rename_i kk' ek' ml hf
      split at h
      · rename_i hc
        obtain ⟨rfl, rfl, rfl, rfl, hw, hw2, hlen⟩ := hc
        cases h
        obtain ⟨kt, et, g1, g2, g3, g4⟩ := tmapi_und ht
        have hrow := hs.row id l hl
        rw [hf] at hrow
        obtain ⟨es, clock, hb, hM⟩ := hrow
        obtain ⟨F, hsz, hat⟩ := hM.to g2 g3
        have hown : w.ownsMap (H := Unit) P kt (plainElem P et) l.blk ml.length (.map ((es.toList.map (Go.WideElems.rg P kt (plainElem P et))).foldr DataW.insert [])) := ⟨es, clock, hb, F, hsz, rfl⟩
        have K := Go.Maps.int_keyed g2
        obtain ⟨w', hrun, hown', hgr⟩ := hown.update K g1 (by unfold maxLen; omega) (Go.Maps.keyOf_int_mk g2 hw) (plainElem_int (H := Unit) g3 hw2)
        have hisM := hown.isMap
        obtain ⟨es', clock', hb', F', hsz', hD'⟩ := hown'
        have hoth : ∀ c, c < w.heap.size → c ≠ l.blk → w'.heap[c]? = w.heap[c]? := fun c hc hne => hgr.block c hc (fun e => hne (Option.some.inj e))
        refine ⟨β, undef, w', .inr ⟨?_, rfl⟩, Le.refl β, hs.putB hl (by rw [hf]; rfl) ⟨es', clock', hb', P, kt, et, g2, g3, F', hsz', fun a' hw' => ?_⟩ rfl (fun e => by cases e) hoth rfl, rfl, Fr.putB hl (by rw [hf]; rfl) hgr.os hgr.tape hgr.output hgr.size hoth⟩
        · simp [execOp, ho, hm', hx', hy', hrun]
        · rw [← hD']
          by_cases haa : a' = a
          · subst haa
            rw [Go.Maps.atKey_put_same hisM (by exact ⟨⟩), mpGet, if_pos rfl]
          · rw [Go.Maps.atKey_put_other (fun e => haa (by cases e; rfl)), mpGet, if_neg haa]
            exact hat a' hw'
      · cases h
    · cases h
  · cases h

end
end Go.Ab
