/-
  REGIONS, CODE, CALLS: what the abstract run says of a function, a call does. By an AI agent; nothing here is trusted.
-/
import Derived.Test.YtfhlhgnipmgfdaaAbT
import Derived.Orders
namespace Go.Ab
set_option linter.unusedVariables false
set_option linter.unusedSimpArgs false

/-- What a call hands back. -/
def Back (β : Emb) (H : Heap) (w : World) (r : TV) (H2 : Heap) (e : Ending) (w' : World) : Prop :=
  ∃ rv β2, e = .returned rv ∧ Le β β2 ∧ SR β2 H2 w' ∧ TVR β2 r rv ∧ Fr β H w β2 H2 w'

/-- THE CONTRACT: called with these values, in memory that reads so, function f hands back r, and memory reads as H2. -/
def Ok (P : Program) (f : FuncId) (args : List TV) (H : Heap) (r : TV) (H2 : Heap) : Prop :=
  ∀ β us w, SR β H w → All2 (TVR β) args us →
    match (callFunc f us.toArray).run P w with
    | .ok (.enter g cargs) w1 => Calls P g cargs w1 (Back β H w r H2)
    | .ok (.value v) w1 => Back β H w r H2 (.returned v) w1
    | _ => False

/-- One operation: whatever represents what it reads, it yields what represents its value. -/
def OpSem (P : Program) (o : Oper) (ev : Operand → TV) (H : Heap) (v : TV) (H' : Heap) : Prop :=
  ∀ β a w, SR β H w → (∀ x ∈ o.op.operands.toList, TVR β (ev x) (a.eval x)) → ∀ (K : Act → World → Prop) (Q : Exit → Act → World → Prop),
    (∀ β' u w', Le β β' → SR β' H' w' → TVR β' v u → Fr β H w β' H' w' → K (a.put o.dst u) w') → o.wp P a w K Q

theorem OpSem.of_done {P : Program} {o : Oper} {ev : Operand → TV} {H H' : Heap} {v : TV}
    (h : ∀ β (a : Act) w, SR β H w → (∀ x ∈ o.op.operands.toList, TVR β (ev x) (a.eval x)) → Done β H w ((execOp a.eval o).run P w) v H') : OpSem P o ev H v H' := by
  intro β a w hs hv K Q hK
  obtain ⟨β', u, w', hr, h1, h2, h3, h4⟩ := h β a w hs hv
  unfold Oper.wp
  rcases hr with hr | ⟨hr, rfl⟩
  · rw [hr]; exact hK β' u w' h1 h2 h3 h4
  · rw [hr]; exact hK β' undef w' h1 h2 h3 h4

theorem step_sound {P : Program} {o : Oper} {ev : Operand → TV} {H H' : Heap} {v : TV} (h : astep P ev o.op H = some (v, H')) : OpSem P o ev H v H' := by
  refine OpSem.of_done fun β a w hs hv => ?_
  cases hop : o.op with
  | move x =>
    rw [hop] at h hv
    simp only [astep] at h
    cases h
    exact Done.same hs (u := a.eval x) (by simp [execOp, hop]) (hv x (by simp [Op.operands]))
  | assign x =>
    rw [hop] at h hv
    simp only [astep] at h
    cases h
    exact Done.same hs (u := a.eval x) (by simp [execOp, hop]) (hv x (by simp [Op.operands]))
  | pick c x y =>
    rw [hop] at h hv
    simp only [astep] at h
    split at h
    · rename_i t ht
      cases h
      have hc := hv c (by simp [Op.operands])
      rw [ht] at hc
      have hc' : a.eval c = .bool t := hc
      refine Done.same hs (u := if t then a.eval x else a.eval y) (by simp [execOp, hop, hc', asBool]) ?_
      cases t
      · exact hv y (by simp [Op.operands])
      · exact hv x (by simp [Op.operands])
    · cases h
  | alloc e => rw [hop] at h hv; exact d_alloc e hop hs h
  | box e x => rw [hop] at h hv; exact d_box e x hop hs (hv x (by simp [Op.operands])) h
  | build t ps => rw [hop] at h hv; exact d_build t ps hop hs (fun x hx => hv x (by simpa [Op.operands] using hx)) h
  | buildSlice t l ps => rw [hop] at h hv; exact d_buildSlice t l ps hop hs (fun x hx => hv x (by simpa [Op.operands] using hx)) h
  | load t x => rw [hop] at h hv; exact d_load t x hop hs (hv x (by simp [Op.operands])) h
  | store t x y => rw [hop] at h hv; exact d_store t x y hop hs (hv x (by simp [Op.operands])) (hv y (by simp [Op.operands])) h
  | nilCheck x => rw [hop] at h hv; exact d_nilCheck x hop hs (hv x (by simp [Op.operands])) h
  | binOp op t x y t2 => rw [hop] at h hv; exact d_binOp op t t2 x y hop hs (hv x (by simp [Op.operands])) (hv y (by simp [Op.operands])) h
  | unOp op t x => rw [hop] at h hv; exact d_unOp op t x hop hs (hv x (by simp [Op.operands])) h
  | convert src dst x => rw [hop] at h hv; exact d_convert src dst x hop hs (hv x (by simp [Op.operands])) h
  | makeFunc fn first captured =>
    rw [hop] at h hv
    cases fn <;> simp only [astep] at h <;> first
      | (cases h; done)
      | exact d_makeFunc _ first captured hop hs (fun x hx => hv x (by simp [Op.operands]; exact .inr (by simpa using hx))) (by simpa only [astep] using h)
  | makeSlice t l c => rw [hop] at h hv; exact d_makeSlice t l c hop hs (hv l (by simp [Op.operands])) (hv c (by simp [Op.operands])) h
  | slice t x lo hi mx =>
    rw [hop] at h hv
    cases mx with
    | none => exact d_slice t x lo hi hop hs (hv x (by simp [Op.operands])) (fun y hy => hv y (by simp [Op.operands, hy])) (fun y hy => hv y (by simp [Op.operands, hy])) h
    | some m => simp [astep] at h
  | fieldAddr st x f => rw [hop] at h hv; exact d_fieldAddr st x f hop hs (hv x (by simp [Op.operands])) h
  | field t x f => rw [hop] at h hv; exact d_field t x f hop hs (hv x (by simp [Op.operands])) h
  | indexAddr t x i => rw [hop] at h hv; exact d_indexAddr t x i hop hs (hv x (by simp [Op.operands])) (hv i (by simp [Op.operands])) h
  | index t x i => rw [hop] at h hv; exact d_index t x i hop hs (hv x (by simp [Op.operands])) (hv i (by simp [Op.operands])) h
  | extract x i => rw [hop] at h hv; exact d_extract x i hop hs (hv x (by simp [Op.operands])) h
  | call c =>
    rw [hop] at h hv
    simp only [astep] at h
    cases hc : c.callee with
    | builtin b =>
      rw [hc] at h
      have hc2 : c = { callee := .builtin b, args := c.args, argTypes := c.argTypes } := by cases c; simp_all
      refine d_builtin b c.argTypes c.args (by rw [hop, hc2]) hs (fun x hx => hv x ?_) h
      simp [Op.operands, Call.operands, hc]
      simpa using hx
    | value f => rw [hc] at h; cases h
    | invoke r n => rw [hc] at h; cases h
  | makeInterface t x => rw [hop] at h hv; exact d_makeInterface t x hop hs (hv x (by simp [Op.operands])) h
  | insert => rw [hop] at h; simp [astep] at h
  | ready => rw [hop] at h; simp [astep] at h
  | waits => rw [hop] at h; simp [astep] at h
  | sliceToArrayPointer => rw [hop] at h; simp [astep] at h
  | makeMap t r =>
    rw [hop] at h hv
    cases r with
    | none => exact d_makeMap t hop hs h
    | some r => simp [astep] at h
  | makeChan => rw [hop] at h; simp [astep] at h
  | lookup t m x ok =>
    rw [hop] at h hv
    cases ok with
    | false => exact d_lookup t m x hop hs (hv m (by simp [Op.operands])) (hv x (by simp [Op.operands])) h
    | true => simp [astep] at h
  | mapUpdate t m x y => rw [hop] at h hv; exact d_mapUpdate t m x y hop hs (hv m (by simp [Op.operands])) (hv x (by simp [Op.operands])) (hv y (by simp [Op.operands])) h
  | mapEntry => rw [hop] at h; simp [astep] at h
  | entryStore => rw [hop] at h; simp [astep] at h
  | range => rw [hop] at h; simp [astep] at h
  | next => rw [hop] at h; simp [astep] at h
  | entry => rw [hop] at h; simp [astep] at h
  | typeAssert => rw [hop] at h; simp [astep] at h
  | go => rw [hop] at h; simp [astep] at h
  | defer => rw [hop] at h; simp [astep] at h
  | panic => rw [hop] at h; simp [astep] at h
  | send => rw [hop] at h; simp [astep] at h
  | recv => rw [hop] at h; simp [astep] at h
  | select => rw [hop] at h; simp [astep] at h

theorem All2.of_map {γ α δ : Type} {R : α → δ → Prop} {f : γ → α} {g : γ → δ} : ∀ (l : List γ), (∀ x ∈ l, R (f x) (g x)) → All2 R (l.map f) (l.map g)
  | [], _ => trivial
  | x :: l, h => ⟨h x (by simp), All2.of_map l fun y hy => h y (by simp [hy])⟩

theorem call_sound {P : Program} {o : Oper} {ev : Operand → TV} {H H' : Heap} {v : TV} {c : Call} {f : Operand} {g : FuncId} {caps : List (Nat × Nat)} (hop : o.op = .call c) (hc : c.callee = .value f)
    (hf : ev f = .v (.fn g caps)) (h : Ok P g (c.args.toList.map ev ++ caps.map fun p => TV.v (.ptr p.1 p.2)) H v H') : OpSem P o ev H v H' := by
  intro β a w hs hv K Q hK
  rw [hop] at hv
  have hfv := hv f (by simp [Op.operands, Call.operands, hc])
  rw [hf] at hfv
  obtain ⟨us, hfe, hcap⟩ := hfv
  have hargs : All2 (TVR β) (c.args.toList.map ev) (c.args.toList.map a.eval) :=
    All2.of_map _ fun x hx => hv x (by simp [Op.operands, Call.operands, hc]; exact .inr (by simpa using hx))
  have hcaps : All2 (TVR β) (caps.map fun p => TV.v (.ptr p.1 p.2)) us := by
    have : ∀ (cs : List (Nat × Nat)) (us : List Value), All2 (fun (c : Nat × Nat) u => ∃ l, β c.1 = some l ∧ u = ptrV l c.2) cs us → All2 (TVR β) (cs.map fun p => TV.v (.ptr p.1 p.2)) us := by
      intro cs
      induction cs with
      | nil => intro us h; cases us <;> simp_all [All2]
      | cons x cs ih => intro us h; cases us with
        | nil => exact h.elim
        | cons u us => exact ⟨h.1, ih us h.2⟩
    exact this caps us hcap
  have hall := hargs.append hcaps
  have key := h β _ w hs hall
  have hexec : (execOp a.eval o).run P w = (callFunc g (c.args.toList.map a.eval ++ us).toArray).run P w := by
    have e1 : c.args.map a.eval ++ us.toArray = (c.args.toList.map a.eval ++ us).toArray := Array.ext' (by simp)
    simp [execOp, hop, resolve, hc, hfe, Deferred.ofValue, invoke, e1]
  unfold Oper.wp
  rw [hexec]
  generalize (callFunc g (c.args.toList.map a.eval ++ us).toArray).run P w = res at key
  cases res with
  | halt x w1 => exact key.elim
  | ok nx w1 =>
    cases nx <;> simp only at key <;> first | exact key.elim | skip
    case value u =>
      obtain ⟨rv, β2, e, h1, h2, h3, h4⟩ := key
      cases e
      exact hK β2 u w1 h1 h2 h3 h4
    case enter f' args =>
      refine key.mono fun e w2 hb => ?_
      obtain ⟨rv, β2, rfl, h1, h2, h3, h4⟩ := hb
      exact hK β2 rv w2 h1 h2 h3 h4

/-! ### one operation, with its guard -/
/-- What the operation may yield. -/
inductive StepR (P : Program) (ops : List Oper) (s : Nat → TV) (H : Heap) (o : Oper) : TV → Heap → Prop
  | plain {v H'} (hw : o.guard = none ∨ ∃ j want, o.guard = some (j, want) ∧ ayield ops s j = some (some want)) (h : OpSem P o (aeval s) H v H') : StepR P ops s H o v H'
  | skip {j want y} (hg : o.guard = some (j, want)) (hy : ayield ops s j = some y) (hne : y ≠ some want) : StepR P ops s H o (.v .und) H

/-- The temporaries. -/
structure AR (β : Emb) (s : Nat → TV) (a : Act) (n : Nat) : Prop where
  size : a.tmps.size = n
  val : ∀ t, TVR β (s t) (a.tmps.getD t undef)
  defers : a.defers = []

theorem AR.mono {β γ : Emb} {s : Nat → TV} {a : Act} {n : Nat} (h : Le β γ) (ha : AR β s a n) : AR γ s a n := ⟨ha.size, fun t => TVR.mono h (ha.val t), ha.defers⟩

theorem getD_put (a : Act) (d : Tmp) (u : Value) (t : Nat) (hd : d < a.tmps.size) : (a.put (some d) u).tmps.getD t undef = if t = d then u else a.tmps.getD t undef := by
  simp only [Act.put, Array.getD_eq_getD_getElem?, Array.getElem?_setIfInBounds]
  by_cases h : t = d
  · subst h; simp [hd]
  · simp [h, Ne.symm h]

theorem AR.put {β : Emb} {s : Nat → TV} {a : Act} {n : Nat} {dst : Option Tmp} {v : TV} {u : Value} (ha : AR β s a n) (hd : ∀ d, dst = some d → d < n) (hv : TVR β v u) : AR β (aput s dst v) (a.put dst u) n := by
  cases dst with
  | none => exact ha
  | some d =>
    have hd' := hd d rfl
    refine ⟨by simp [Act.put, ha.size], fun t => ?_, ha.defers⟩
    rw [getD_put a d u t (by rw [ha.size]; exact hd')]
    show TVR β (if t = d then v else s t) _
    split
    · exact hv
    · exact ha.val t

theorem AR.eval {β : Emb} {s : Nat → TV} {a : Act} {n : Nat} (ha : AR β s a n) (x : Operand) : TVR β (aeval s x) (a.eval x) := by
  cases x with
  | tmp t => exact ha.val t
  | const c => exact TVR_ofConst β c
  | global g => trivial
  | func f => exact ⟨[], rfl, trivial⟩

theorem getElem?_of_getD (t : Array Value) (d : Nat) (h : d < t.size) : t[d]? = some (t.getD d undef) := by
  simp [Array.getD_eq_getD_getElem?, h]

/-- What a guard reads. -/
theorem yield_ok {ops : Array Oper} {s : Nat → TV} {tmps : Array Value} {n j : Nat} {y : Option Bool} {β : Emb} (hn : ∀ o ∈ ops.toList, ∀ d, o.dst = some d → d < n) (hs : tmps.size = n)
    (hv : ∀ d, (ops[j]?).bind (·.dst) = some d → TVR β (s d) (tmps.getD d undef)) (h : ayield ops.toList s j = some y) : yielded ops tmps j = y := by
  unfold ayield at h
  unfold yielded
  have e : ops.toList[j]? = ops[j]? := by simp
  rw [e] at h
  split at h
  · rename_i d hd
    have hvd := hv d hd
    have hdn : d < tmps.size := by
      rw [hs]
      cases ho : ops[j]? with
      | none => rw [ho] at hd; cases hd
      | some o =>
        rw [ho] at hd
        exact hn o (by
          have := Array.mem_of_getElem? ho
          simpa using this) d hd
    rw [hd]
    simp only [Option.bind_some, getElem?_of_getD tmps d hdn]
    split at h
    · rename_i b hb
      cases h
      rw [hb] at hvd
      have : tmps.getD d undef = .bool b := hvd
      rw [this]
    · rename_i hb
      cases h
      rw [hb] at hvd
      have : tmps.getD d undef = undef := hvd
      rw [this]
      rfl
    · cases h
  · cases h

theorem wanted_of {ops : Array Oper} {o : Oper} {tmps : Array Value} {y : Option Bool} {j : Nat} {want : Bool} (hg : o.guard = some (j, want)) (hy : yielded ops tmps j = y) :
    Region.wanted o (yielded ops tmps) = (y == some want) := by
  unfold Region.wanted
  rw [hg]
  simp [hy]


/-! ### the order of a region -/
def opTmp : Operand → Option Tmp
  | .tmp t => some t
  | _ => none

/-- What an operation names. -/
def named (ops : List Oper) (o : Oper) : List Tmp :=
  o.dst.toList ++ o.op.operands.toList.filterMap opTmp ++ (match o.guard with | some (j, _) => ((ops[j]?).bind (·.dst)).toList | none => [])

def maskOf (acc : List Nat) (o : Oper) : Nat :=
  o.after.toList.foldl (fun m e => if Region.binds .any e then m ||| 2 ^ e.on ||| acc.getD e.on 0 else m) 0

def masks : List Oper → List Nat → List Nat
  | [], acc => acc
  | o :: r, acc => masks r (acc ++ [maskOf acc o])

def maskAt (ops : List Oper) (j : Nat) : Nat := (masks ops []).getD j 0

/-- Operations that memory is nothing to. -/
def pureOp : Op → Bool
  | .move _ | .assign _ | .pick .. | .binOp .. | .unOp .. | .extract .. | .fieldAddr .. | .build .. => true
  | _ => false
def pureAt (ops : List Oper) (i : Nat) : Bool := (ops[i]?).any fun o => pureOp o.op

/-- Whatever the order: this operation comes before or behind each other one as in the text, but for those that memory is nothing to. -/
def barrier (ops : List Oper) (i : Nat) : Bool :=
  !pureAt ops i && (List.range ops.length).all fun j => pureAt ops j || if j < i then (maskAt ops i).testBit j else if i < j then (maskAt ops j).testBit i else true

def clash (ops : List Oper) (i j : Nat) : Bool :=
  match ops[i]?, ops[j]? with
  | some a, some b => a.dst.toList.any ((named ops b).contains ·) || b.dst.toList.any ((named ops a).contains ·)
  | _, _ => false

/-- A region whose order is open: edges go back, and what clashes is ordered. -/
def orderOK (ops : List Oper) : Bool :=
  ((List.range ops.length).all fun j => (ops[j]?).all fun o => o.after.toList.all fun e => !Region.binds .any e || e.on < j) &&
  (List.range ops.length).all fun j => (List.range j).all fun i => !clash ops i j || (maskAt ops j).testBit i

theorem masks_len : ∀ (ops : List Oper) (acc : List Nat), (masks ops acc).length = acc.length + ops.length
  | [], acc => by simp [masks]
  | o :: r, acc => by rw [masks, masks_len]; simp; omega

theorem masks_old : ∀ (ops : List Oper) (acc : List Nat) (j : Nat), j < acc.length → (masks ops acc).getD j 0 = acc.getD j 0
  | [], acc, j, _ => rfl
  | o :: r, acc, j, h => by
    rw [masks, masks_old r _ j (by simp; omega)]
    simp [List.getD_eq_getElem?_getD, List.getElem?_append_left h]

theorem masks_new : ∀ (ops : List Oper) (acc : List Nat) (j : Nat) (o : Oper), ops[j]? = some o →
    ∃ acc' : List Nat, acc'.length = acc.length + j ∧ (∀ k, k < acc'.length → acc'.getD k 0 = (masks ops acc).getD k 0) ∧ (masks ops acc).getD (acc.length + j) 0 = maskOf acc' o
  | [], _, j, o, h => by simp at h
  | x :: r, acc, 0, o, h => by
    simp at h
    subst h
    refine ⟨acc, by simp, fun k hk => (masks_old _ _ k hk).symm, ?_⟩
    rw [masks, masks_old r _ _ (by simp)]
    simp [List.getD_eq_getElem?_getD]
  | x :: r, acc, j + 1, o, h => by
    obtain ⟨acc', h1, h2, h3⟩ := masks_new r (acc ++ [maskOf acc x]) j o (by simpa using h)
    simp at h1
    refine ⟨acc', by omega, h2, ?_⟩
    rw [masks]
    rw [show acc.length + (j + 1) = (acc ++ [maskOf acc x]).length + j by simp; omega]
    exact h3

theorem maskOf_bit (acc : List Nat) (o : Oper) (i : Nat) (h : (maskOf acc o).testBit i = true) :
    ∃ e ∈ o.after.toList, Region.binds .any e = true ∧ (e.on = i ∨ (acc.getD e.on 0).testBit i = true) := by
  unfold maskOf at h
  have key : ∀ (l : List Edge) (m : Nat), (l.foldl (fun m e => if Region.binds .any e then m ||| 2 ^ e.on ||| acc.getD e.on 0 else m) m).testBit i = true →
      m.testBit i = true ∨ ∃ e ∈ l, Region.binds .any e = true ∧ (e.on = i ∨ (acc.getD e.on 0).testBit i = true) := by
    intro l
    induction l with
    | nil => intro m h; exact .inl h
    | cons e l ih =>
      intro m h
      rw [List.foldl_cons] at h
      rcases ih _ h with h1 | ⟨e', he', hb, hor⟩
      · by_cases hb : Region.binds .any e = true
        · rw [if_pos hb, Nat.testBit_or, Nat.testBit_or, Bool.or_eq_true, Bool.or_eq_true] at h1
          rcases h1 with (h1 | h1) | h1
          · exact .inl h1
          · exact .inr ⟨e, by simp, hb, .inl (by simpa [Nat.testBit_two_pow] using h1)⟩
          · exact .inr ⟨e, by simp, hb, .inr h1⟩
        · rw [if_neg hb] at h1
          exact .inl h1
      · exact .inr ⟨e', by simp [he'], hb, hor⟩
  rcases key _ 0 h with h1 | h1
  · simp at h1
  · exact h1

theorem maskAt_bit {ops : List Oper} (hok : orderOK ops = true) {j i : Nat} {o : Oper} (ho : ops[j]? = some o) (h : (maskAt ops j).testBit i = true) :
    ∃ e ∈ o.after.toList, Region.binds .any e = true ∧ (e.on = i ∨ (maskAt ops e.on).testBit i = true) := by
  obtain ⟨acc', h1, h2, h3⟩ := masks_new ops [] j o ho
  unfold maskAt at h
  simp at h3 h1
  rw [show (masks ops []).getD j 0 = maskOf acc' o by simpa using h3] at h
  obtain ⟨e, he, hb, hor⟩ := maskOf_bit acc' o i h
  refine ⟨e, he, hb, ?_⟩
  have hj : j < ops.length := by
    rcases Nat.lt_or_ge j ops.length with h' | h'
    · exact h'
    · rw [List.getElem?_eq_none h'] at ho; cases ho
  have hlt : e.on < j := by
    unfold orderOK at hok
    rw [Bool.and_eq_true] at hok
    have := List.all_eq_true.1 hok.1 j (List.mem_range.2 hj)
    rw [ho] at this
    have := List.all_eq_true.1 this e he
    rw [hb] at this
    simpa using this
  rcases hor with hor | hor
  · exact .inl hor
  · right
    unfold maskAt
    rw [← h2 e.on (by omega)]
    exact hor

theorem clash_bit {ops : List Oper} (hok : orderOK ops = true) {i j : Nat} (hij : i < j) (hj : j < ops.length) (h : clash ops i j = true) : (maskAt ops j).testBit i = true := by
  unfold orderOK at hok
  rw [Bool.and_eq_true] at hok
  have := List.all_eq_true.1 (List.all_eq_true.1 hok.2 j (List.mem_range.2 hj)) i (List.mem_range.2 hij)
  rw [h] at this
  simpa using this

/-! ### the trace of a region -/
/-- A call of a function value. -/
def callOf : Op → Option (Operand × List Operand)
  | .call c => match c.callee with
    | .value f => some (f, c.args.toList)
    | _ => none
  | _ => none

def wop (P : Program) (ev : Operand → TV) (op : Op) (H : Heap) (K : TV → Heap → Prop) : Prop :=
  match callOf op with
  | some (f, args) =>
    match ev f with
    | .v (.fn g caps) => ∃ r H2, Ok P g (args.map ev ++ caps.map fun p => TV.v (.ptr p.1 p.2)) H r H2 ∧ K r H2
    | _ => False
  | none =>
    match astep P ev op H with
    | some (v, H') => K v H'
    | none => False

def wops (P : Program) (q : Bool) (ops : List Oper) : List Oper → Nat → (Nat → TV) → Heap → ((Nat → TV) → Heap → Prop) → Prop
  | [], _, s, H, K => K s H
  | o :: r, i, s, H, K =>
    match o.guard with
    | none => wop P (aeval s) o.op H fun v H' => (q = true → H' = H ∨ barrier ops i = true) ∧ wops P q ops r (i + 1) (aput s o.dst v) H' K
    | some (j, want) =>
      match ayield ops s j with
      | some y =>
        if y = some want then wop P (aeval s) o.op H fun v H' => (q = true → H' = H ∨ barrier ops i = true) ∧ wops P q ops r (i + 1) (aput s o.dst v) H' K
        else wops P q ops r (i + 1) (aput s o.dst (.v .und)) H K
      | none => False

theorem wop_sound {P : Program} {o : Oper} {ev : Operand → TV} {H : Heap} {K : TV → Heap → Prop} (h : wop P ev o.op H K) : ∃ v H', OpSem P o ev H v H' ∧ K v H' := by
  unfold wop at h
  split at h
  · rename_i f args hc
    unfold callOf at hc
    split at hc
    · rename_i c hop
      split at hc
      · rename_i f' hcal
        cases hc
        split at h
        · rename_i g caps hf
          obtain ⟨r, H2, h1, h2⟩ := h
          exact ⟨r, H2, call_sound hop hcal hf h1, h2⟩
        · exact h.elim
      · cases hc
    · cases hc
  · split at h
    · rename_i v H' hst
      exact ⟨v, H', step_sound hst, h⟩
    · exact h.elim

theorem astep_pure {P : Program} {ev : Operand → TV} {op : Op} (hp : pureOp op = true) {H : Heap} {v : TV} {H' : Heap} (h : astep P ev op H = some (v, H')) : H' = H ∧ ∀ H2, astep P ev op H2 = some (v, H2) := by
  cases op <;> first | (exact absurd hp Bool.false_ne_true) | skip
  case move x => simp only [astep, Option.some.injEq, Prod.mk.injEq] at h ⊢; exact ⟨h.2.symm, fun H2 => ⟨h.1, trivial⟩⟩
  case assign x => simp only [astep, Option.some.injEq, Prod.mk.injEq] at h ⊢; exact ⟨h.2.symm, fun H2 => ⟨h.1, trivial⟩⟩
  case build t ps =>
    simp only [astep] at h ⊢
    split at h
    · split at h
      · rename_i hc
        obtain ⟨c, h1, h2⟩ := Option.map_eq_some_iff.1 h
        cases h2
        exact ⟨rfl, fun H2 => by rw [if_pos hc, h1]; rfl⟩
      · cases h
    · cases h
  all_goals
    simp only [astep] at h ⊢
    (repeat' split at h) <;> simp_all [Option.map_eq_some_iff]
  all_goals
    obtain ⟨a, h1, h2, h3⟩ := h
    exact ⟨h3.symm, a, h1, h2⟩

theorem callOf_pure {op : Op} (hp : pureOp op = true) : callOf op = none := by
  cases op <;> first | (exact absurd hp Bool.false_ne_true) | rfl

theorem wop_pure {P : Program} {o : Oper} {ev : Operand → TV} {H : Heap} {K : TV → Heap → Prop} (hp : pureOp o.op = true) (h : wop P ev o.op H K) : ∃ v, (∀ H2, OpSem P o ev H2 v H2) ∧ K v H := by
  unfold wop at h
  rw [callOf_pure hp] at h
  simp only at h
  split at h
  · rename_i v H' hst
    obtain ⟨rfl, h2⟩ := astep_pure hp hst
    exact ⟨v, fun H2 => step_sound (h2 H2), h⟩
  · exact h.elim

/-- A region's trace: the values before each operation, the rows, what each yields. -/
structure Trace (P : Program) (q : Bool) (ops : List Oper) (l : List Oper) (i : Nat) (S : Nat → Nat → TV) (Hs : Nat → Heap) (V : Nat → TV) : Prop where
  step : ∀ j o, l[j]? = some o → StepR P ops (S j) (Hs j) o (V j) (Hs (j + 1))
  next : ∀ j o, l[j]? = some o → S (j + 1) = aput (S j) o.dst (V j)
  quiet : q = true → ∀ j o, l[j]? = some o → Hs (j + 1) = Hs j ∨ barrier ops (i + j) = true
  pure : ∀ j o, l[j]? = some o → pureOp o.op = true → Hs (j + 1) = Hs j ∧ ∀ H2, StepR P ops (S j) H2 o (V j) H2

theorem wops_trace {P : Program} {q : Bool} {ops : List Oper} {K : (Nat → TV) → Heap → Prop} : ∀ (l : List Oper) (i : Nat) (s : Nat → TV) (H : Heap), wops P q ops l i s H K →
    ∃ S Hs V, S 0 = s ∧ Hs 0 = H ∧ Trace P q ops l i S Hs V ∧ K (S l.length) (Hs l.length)
  | [], i, s, H, h => ⟨fun _ => s, fun _ => H, fun _ => .v .und, rfl, rfl, ⟨fun j o e => by simp at e, fun j o e => by simp at e, fun _ j o e => by simp at e, fun j o e => by simp at e⟩, h⟩
  | o :: r, i, s, H, h => by
    have glue : ∀ v H', StepR P ops s H o v H' → (pureOp o.op = true → H' = H ∧ ∀ H2, StepR P ops s H2 o v H2) → (q = true → H' = H ∨ barrier ops i = true) → wops P q ops r (i + 1) (aput s o.dst v) H' K →
        ∃ S Hs V, S 0 = s ∧ Hs 0 = H ∧ Trace P q ops (o :: r) i S Hs V ∧ K (S (o :: r).length) (Hs (o :: r).length) := by
      intro v H' hst hpu hq hr
      obtain ⟨S, Hs, V, h1, h2, h3, h4⟩ := wops_trace r (i + 1) _ _ hr
      refine ⟨fun n => match n with | 0 => s | n + 1 => S n, fun n => match n with | 0 => H | n + 1 => Hs n, fun n => match n with | 0 => v | n + 1 => V n, rfl, rfl, ⟨fun j o' e => ?_, fun j o' e => ?_, fun hqt j o' e => ?_, fun j o' e hp => ?_⟩, by simpa using h4⟩
      · cases j with
        | zero =>
          simp at e
          subst e
          show StepR P ops s H o v (Hs 0)
          rw [h2]; exact hst
        | succ j => exact h3.step j o' (by simpa using e)
      · cases j with
        | zero =>
          simp at e
          subst e
          exact h1
        | succ j => exact h3.next j o' (by simpa using e)
      · cases j with
        | zero =>
          show Hs 0 = H ∨ _
          rw [h2]
          exact hq hqt
        | succ j =>
          have := h3.quiet hqt j o' (by simpa using e)
          rw [show i + (j + 1) = i + 1 + j by omega]
          exact this
      · cases j with
        | zero =>
          simp at e
          subst e
          show Hs 0 = H ∧ _
          rw [h2]
          exact hpu hp
        | succ j => exact h3.pure j o' (by simpa using e) hp
    rw [wops] at h
    split at h
    · rename_i hg
      cases hp : pureOp o.op with
      | false =>
        obtain ⟨v, H', h1, h2, h3⟩ := wop_sound h
        exact glue v H' (.plain (.inl hg) h1) (fun h => by rw [hp] at h; cases h) h2 h3
      | true =>
        obtain ⟨v, h1, h2, h3⟩ := wop_pure hp h
        exact glue v H (.plain (.inl hg) (h1 H)) (fun _ => ⟨rfl, fun H2 => .plain (.inl hg) (h1 H2)⟩) h2 h3
    · rename_i j want hg
      split at h
      · rename_i y hy
        split at h
        · rename_i hyw
          subst hyw
          cases hp : pureOp o.op with
          | false =>
            obtain ⟨v, H', h1, h2, h3⟩ := wop_sound h
            exact glue v H' (.plain (.inr ⟨j, want, hg, hy⟩) h1) (fun h => by rw [hp] at h; cases h) h2 h3
          | true =>
            obtain ⟨v, h1, h2, h3⟩ := wop_pure hp h
            exact glue v H (.plain (.inr ⟨j, want, hg, hy⟩) (h1 H)) (fun _ => ⟨rfl, fun H2 => .plain (.inr ⟨j, want, hg, hy⟩) (h1 H2)⟩) h2 h3
        · rename_i hyw
          exact glue _ _ (.skip hg hy hyw) (fun _ => ⟨rfl, fun _ => .skip hg hy hyw⟩) (fun _ => .inl rfl) h
      · exact h.elim

end Go.Ab
