/-
  REGIONS IN A DRAWN ORDER, MORE FREELY: some operations that only read may come before or behind others that change memory, if they read the same in each. By an AI agent; nothing here is trusted.
-/
import Derived.Test.YtfhlhgnipmgfdaaAbX
namespace Go.Ab
set_option linter.unusedVariables false
set_option linter.unusedSimpArgs false

def freeAt (ops : List Oper) (F : List Nat) (i : Nat) : Bool := pureAt ops i || F.contains i
/-- These change no memory. -/
def stillOp : Op → Bool
  | .load .. | .indexAddr .. | .index .. | .field .. | .slice .. | .nilCheck .. => true
  | .call c => match c.callee with
    | .builtin .len | .builtin .cap => true
    | _ => false
  | _ => false
def stillAt (ops : List Oper) (i : Nat) : Bool := (ops[i]?).any fun o => stillOp o.op
def barrierF (ops : List Oper) (F : List Nat) (i : Nat) : Bool :=
  !freeAt ops F i && (!stillAt ops i && (List.range ops.length).all fun j => freeAt ops F j || if j < i then (maskAt ops i).testBit j else if i < j then (maskAt ops j).testBit i else true)

/-- Why the operation i does not come in the state of memory m: a change b says so. -/
def wont (ops : List Oper) (F : List Nat) (i m b : Nat) : Bool :=
  decide (b < ops.length) && barrierF ops F b && (((maskAt ops i).testBit b && decide (m ≤ b)) || ((maskAt ops b).testBit i && decide (b < m)))
def RdF (P : Program) (ops : List Oper) (F : List Nat) (i : Nat) (o : Oper) (s : Nat → TV) (v : TV) (G : Nat × Heap) : Prop := (∃ b, wont ops F i G.1 b = true) ∨ StepR P ops s G.2 o v G.2
def ixF (c i : Nat) : Nat → Nat
  | 0 => c
  | m + 1 => i + (m + 1)
/-- A region's trace, in which the free operations yield the same in each state of memory. -/
structure TraceF (P : Program) (F : List Nat) (ops : List Oper) (l : List Oper) (i : Nat) (S : Nat → Nat → TV) (Hs : Nat → Heap) (V : Nat → TV) : Prop where
  step : ∀ j o, l[j]? = some o → StepR P ops (S j) (Hs j) o (V j) (Hs (j + 1))
  next : ∀ j o, l[j]? = some o → S (j + 1) = aput (S j) o.dst (V j)
  quiet : ∀ j o, l[j]? = some o → Hs (j + 1) = Hs j ∨ barrierF ops F (i + j) = true
  free : ∀ j o, l[j]? = some o → freeAt ops F (i + j) = true → Hs (j + 1) = Hs j ∧ ∀ m, m ≤ l.length → (m = 0 ∨ barrierF ops F (i + m - 1) = true) → RdF P ops F (i + j) o (S j) (V j) (m, Hs m)

/-- The walk of a region in which the operations of F are free: past: the states of memory before the present one, with their places; pend: the free operations so far. -/
def wopf (P : Program) (F : List Nat) (ops : List Oper) : List Oper → Nat → List (Nat × Heap) → List (Nat × Oper × (Nat → TV) × TV) → Nat → (Nat → TV) → Heap → ((Nat → TV) → Heap → Prop) → Prop
  | [], _, _, _, _, s, H, K => K s H
  | o :: r, i, past, pend, c, s, H, K =>
    (freeAt ops F i = false ∧ barrierF ops F i = false ∧ ∃ v, StepR P ops s H o v H ∧ wopf P F ops r (i + 1) past pend c (aput s o.dst v) H K) ∨
    (barrierF ops F i = false ∧ ∃ v, (∀ G, StepR P ops s G o v G) ∧ wopf P F ops r (i + 1) past pend c (aput s o.dst v) H K) ∨
    (barrierF ops F i = false ∧ ∃ v, StepR P ops s H o v H ∧ (∀ G ∈ past, RdF P ops F i o s v G) ∧ wopf P F ops r (i + 1) past ((i, o, s, v) :: pend) c (aput s o.dst v) H K) ∨
    (barrierF ops F i = true ∧ ∃ v H', StepR P ops s H o v H' ∧ (∀ p ∈ pend, RdF P ops F p.1 p.2.1 p.2.2.1 p.2.2.2 (i + 1, H')) ∧ wopf P F ops r (i + 1) ((c, H) :: past) pend (i + 1) (aput s o.dst v) H' K)

theorem bar_free {ops : List Oper} {F : List Nat} {b : Nat} (h : barrierF ops F b = true) : freeAt ops F b = false := by
  unfold barrierF at h
  rw [Bool.and_eq_true] at h
  simpa using h.1

theorem wopf_trace {P : Program} {F : List Nat} {ops : List Oper} {K : (Nat → TV) → Heap → Prop} : ∀ (l : List Oper) (i : Nat) (past : List (Nat × Heap)) (pend : List (Nat × Oper × (Nat → TV) × TV)) (c : Nat) (s : Nat → TV) (H : Heap), (∀ p ∈ pend, RdF P ops F p.1 p.2.1 p.2.2.1 p.2.2.2 (c, H)) →
    wopf P F ops l i past pend c s H K → ∃ (S : Nat → Nat → TV) (Hs : Nat → Heap) (V : Nat → TV), S 0 = s ∧ Hs 0 = H ∧ (∀ j o, l[j]? = some o → StepR P ops (S j) (Hs j) o (V j) (Hs (j + 1))) ∧ (∀ j o, l[j]? = some o → S (j + 1) = aput (S j) o.dst (V j)) ∧
      (∀ j o, l[j]? = some o → Hs (j + 1) = Hs j ∨ barrierF ops F (i + j) = true) ∧
      (∀ j o, l[j]? = some o → freeAt ops F (i + j) = true → Hs (j + 1) = Hs j ∧ (∀ m, m ≤ l.length → (m = 0 ∨ barrierF ops F (i + m - 1) = true) → RdF P ops F (i + j) o (S j) (V j) (ixF c i m, Hs m)) ∧ ∀ G ∈ past, RdF P ops F (i + j) o (S j) (V j) G) ∧
      (∀ p ∈ pend, ∀ m, m ≤ l.length → (m = 0 ∨ barrierF ops F (i + m - 1) = true) → RdF P ops F p.1 p.2.1 p.2.2.1 p.2.2.2 (ixF c i m, Hs m)) ∧ K (S l.length) (Hs l.length)
  | [], i, past, pend, c, s, H, hp, h => ⟨fun _ => s, fun _ => H, fun _ => .v .und, rfl, rfl, fun j o e => by simp at e, fun j o e => by simp at e, fun j o e => by simp at e, fun j o e => by simp at e, fun p hp' m hm _ => by
      obtain rfl : m = 0 := by simpa using hm
      exact hp p hp', h⟩
  | o :: r, i, past, pend, c, s, H, hp, h => by
    have glue : ∀ v H' past' pend' c', StepR P ops s H o v H' → ((H' = H ∧ c' = c ∧ past' = past ∧ barrierF ops F i = false) ∨ (barrierF ops F i = true ∧ c' = i + 1 ∧ past' = (c, H) :: past)) → (freeAt ops F i = true → H' = H ∧ (∀ G ∈ past, RdF P ops F i o s v G) ∧ ((i, o, s, v) ∈ pend' ∨ ∀ G, StepR P ops s G o v G)) → (∀ p ∈ pend, p ∈ pend') → (∀ p ∈ pend', RdF P ops F p.1 p.2.1 p.2.2.1 p.2.2.2 (c', H')) →
        wopf P F ops r (i + 1) past' pend' c' (aput s o.dst v) H' K → ∃ (S : Nat → Nat → TV) (Hs : Nat → Heap) (V : Nat → TV), S 0 = s ∧ Hs 0 = H ∧ (∀ j o', (o :: r)[j]? = some o' → StepR P ops (S j) (Hs j) o' (V j) (Hs (j + 1))) ∧ (∀ j o', (o :: r)[j]? = some o' → S (j + 1) = aput (S j) o'.dst (V j)) ∧
      (∀ j o', (o :: r)[j]? = some o' → Hs (j + 1) = Hs j ∨ barrierF ops F (i + j) = true) ∧
      (∀ j o', (o :: r)[j]? = some o' → freeAt ops F (i + j) = true → Hs (j + 1) = Hs j ∧ (∀ m, m ≤ (o :: r).length → (m = 0 ∨ barrierF ops F (i + m - 1) = true) → RdF P ops F (i + j) o' (S j) (V j) (ixF c i m, Hs m)) ∧ ∀ G ∈ past, RdF P ops F (i + j) o' (S j) (V j) G) ∧
      (∀ p ∈ pend, ∀ m, m ≤ (o :: r).length → (m = 0 ∨ barrierF ops F (i + m - 1) = true) → RdF P ops F p.1 p.2.1 p.2.2.1 p.2.2.2 (ixF c i m, Hs m)) ∧ K (S (o :: r).length) (Hs (o :: r).length) := by
      intro v H' past' pend' c' hst hq hfr hpe hpe2 hr
      obtain ⟨S, Hs, V, h1, h2, h3, h4, h5, h6, h7, h8⟩ := wopf_trace r (i + 1) past' pend' c' _ _ hpe2 hr
      -- a later state, in the tail's words
      have hix : ∀ m, (m + 1 = 0 ∨ barrierF ops F (i + (m + 1) - 1) = true) → (m = 0 ∨ barrierF ops F (i + 1 + m - 1) = true) ∧ ixF c' (i + 1) m = ixF c i (m + 1) := by
        intro m hm
        have hm' : barrierF ops F (i + m) = true := by
          rcases hm with hm | hm
          · omega
          · rw [show i + (m + 1) - 1 = i + m by omega] at hm; exact hm
        refine ⟨?_, ?_⟩
        · right; rw [show i + 1 + m - 1 = i + m by omega]; exact hm'
        · cases m with
          | zero =>
            rcases hq with ⟨_, _, _, hq⟩ | ⟨_, hq, _⟩
            · rw [Nat.add_zero, hq] at hm'; cases hm'
            · rw [hq]; rfl
          | succ m => show i + 1 + (m + 1) = i + (m + 1 + 1); omega
      refine ⟨fun n => match n with | 0 => s | n + 1 => S n, fun n => match n with | 0 => H | n + 1 => Hs n, fun n => match n with | 0 => v | n + 1 => V n, rfl, rfl, fun j o' e => ?_, fun j o' e => ?_, fun j o' e => ?_, fun j o' e hf => ?_, fun p hp' m hm hb => ?_, by simpa using h8⟩
      · cases j with
        | zero =>
          simp at e
          subst e
          show StepR P ops s H o v (Hs 0)
          rw [h2]; exact hst
        | succ j => exact h3 j o' (by simpa using e)
      · cases j with
        | zero =>
          simp at e
          subst e
          exact h1
        | succ j => exact h4 j o' (by simpa using e)
      · cases j with
        | zero =>
          show Hs 0 = H ∨ _
          rw [h2]
          rcases hq with ⟨hq, _⟩ | ⟨hq, _⟩
          · exact .inl hq
          · exact .inr hq
        | succ j =>
          have := h5 j o' (by simpa using e)
          rw [show i + (j + 1) = i + 1 + j by omega]
          exact this
      · cases j with
        | zero =>
          simp at e
          subst e
          obtain ⟨f1, f2, f3⟩ := hfr hf
          refine ⟨by show Hs 0 = H; rw [h2, f1], fun m hm hb => ?_, f2⟩
          cases m with
          | zero => exact .inr (by rw [f1] at hst; exact hst)
          | succ m =>
            rcases f3 with f4 | f4
            · have := h7 _ f4 m (by simpa using hm) (hix m hb).1
              rw [(hix m hb).2] at this
              exact this
            · exact .inr (f4 _)
        | succ j =>
          obtain ⟨f1, f2, f3⟩ := h6 j o' (by simpa using e) (by rw [show i + 1 + j = i + (j + 1) by omega]; exact hf)
          rw [show i + 1 + j = i + (j + 1) by omega] at f2 f3
          refine ⟨f1, fun m hm hb => ?_, fun G hG => f3 G ?_⟩
          · cases m with
            | zero =>
              rcases hq with ⟨q1, q2, q3, _⟩ | ⟨_, _, q3⟩
              · have := f2 0 (Nat.zero_le _) (.inl rfl)
                rw [h2, q1] at this
                rw [← q2]
                exact this
              · exact f3 (c, H) (by rw [q3]; exact List.mem_cons_self ..)
            | succ m =>
              have := f2 m (by simpa using hm) (hix m hb).1
              rw [(hix m hb).2] at this
              exact this
          · rcases hq with ⟨_, _, q3, _⟩ | ⟨_, _, q3⟩
            · rw [q3]; exact hG
            · rw [q3]; exact List.mem_cons_of_mem _ hG
      · cases m with
        | zero => exact hp p hp'
        | succ m =>
          have := h7 p (hpe p hp') m (by simpa using hm) (hix m hb).1
          rw [(hix m hb).2] at this
          exact this
    rw [wopf] at h
    rcases h with ⟨hf, hb, v, h1, h2⟩ | ⟨hb, v, h1, h2⟩ | ⟨hb, v, h1, h1', h2⟩ | ⟨hb, v, H', h1, h2, h3⟩
    · exact glue v H past pend c h1 (.inl ⟨rfl, rfl, rfl, hb⟩) (fun hf2 => by rw [hf] at hf2; cases hf2) (fun _ h => h) hp h2
    · exact glue v H past pend c (h1 H) (.inl ⟨rfl, rfl, rfl, hb⟩) (fun _ => ⟨rfl, fun G _ => .inr (h1 G.2), .inr h1⟩) (fun _ h => h) hp h2
    · exact glue v H past ((i, o, s, v) :: pend) c h1 (.inl ⟨rfl, rfl, rfl, hb⟩) (fun _ => ⟨rfl, h1', .inl (List.mem_cons_self ..)⟩) (fun _ h => List.mem_cons_of_mem _ h) (fun p hp' => by
        rcases List.mem_cons.1 hp' with rfl | hp'
        · exact .inr h1
        · exact hp p hp') h2
    · exact glue v H' ((c, H) :: past) pend (i + 1) h1 (.inr ⟨hb, rfl, rfl⟩) (fun hf2 => by rw [bar_free hb] at hf2; cases hf2) (fun _ h => h) h2 h3

theorem wopf_mono {P : Program} {F : List Nat} {ops : List Oper} {K K' : (Nat → TV) → Heap → Prop} (h : ∀ s H, K s H → K' s H) : ∀ (l : List Oper) (i : Nat) (past : List (Nat × Heap)) (pend : List (Nat × Oper × (Nat → TV) × TV)) (c : Nat) (s : Nat → TV) (H : Heap), wopf P F ops l i past pend c s H K → wopf P F ops l i past pend c s H K'
  | [], _, _, _, _, _, _, hw => h _ _ hw
  | o :: r, i, past, pend, c, s, H, hw => by
    rw [wopf] at hw ⊢
    rcases hw with ⟨h1, hb, v, h2, h3⟩ | ⟨hb, v, h1, h2⟩ | ⟨hb, v, h1, h1', h2⟩ | ⟨h0, v, H', h1, h2, h3⟩
    · exact .inl ⟨h1, hb, v, h2, wopf_mono h r _ _ _ _ _ _ h3⟩
    · exact .inr (.inl ⟨hb, v, h1, wopf_mono h r _ _ _ _ _ _ h2⟩)
    · exact .inr (.inr (.inl ⟨hb, v, h1, h1', wopf_mono h r _ _ _ _ _ _ h2⟩))
    · exact .inr (.inr (.inr ⟨h0, v, H', h1, h2, wopf_mono h r _ _ _ _ _ _ h3⟩))
theorem wopf_ex {P : Program} {F : List Nat} {ops : List Oper} {ι : Type} {K : ι → (Nat → TV) → Heap → Prop} : ∀ (l : List Oper) (i : Nat) (past : List (Nat × Heap)) (pend : List (Nat × Oper × (Nat → TV) × TV)) (c : Nat) (s : Nat → TV) (H : Heap), wopf P F ops l i past pend c s H (fun s H => ∃ k, K k s H) → ∃ k, wopf P F ops l i past pend c s H (K k)
  | [], _, _, _, _, _, _, hw => hw
  | o :: r, i, past, pend, c, s, H, hw => by
    rw [wopf] at hw
    rcases hw with ⟨h1, hb, v, h2, h3⟩ | ⟨hb, v, h1, h2⟩ | ⟨hb, v, h1, h1', h2⟩ | ⟨h0, v, H', h1, h2, h3⟩
    · obtain ⟨k, hk⟩ := wopf_ex r _ _ _ _ _ _ h3; exact ⟨k, by rw [wopf]; exact .inl ⟨h1, hb, v, h2, hk⟩⟩
    · obtain ⟨k, hk⟩ := wopf_ex r _ _ _ _ _ _ h2; exact ⟨k, by rw [wopf]; exact .inr (.inl ⟨hb, v, h1, hk⟩)⟩
    · obtain ⟨k, hk⟩ := wopf_ex r _ _ _ _ _ _ h2; exact ⟨k, by rw [wopf]; exact .inr (.inr (.inl ⟨hb, v, h1, h1', hk⟩))⟩
    · obtain ⟨k, hk⟩ := wopf_ex r _ _ _ _ _ _ h3; exact ⟨k, by rw [wopf]; exact .inr (.inr (.inr ⟨h0, v, H', h1, h2, hk⟩))⟩

section
variable {P : Program} {F : List Nat} {ops : Array Oper} {N : Nat} {S : Nat → Nat → TV} {Hs : Nat → Heap} {V : Nat → TV}
theorem trace_opF (ht : TraceF P F ops.toList ops.toList 0 S Hs V) (hd : ∀ o ∈ ops.toList, ∀ d, o.dst = some d → d < N) {i : Nat} {o : Oper} (ho : ops[i]? = some o)
    {β : Emb} {a : Act} {w : World} (hs : SR β (Hs i) w) (hsz : a.tmps.size = N) (hdf : a.defers = []) (hv : ∀ t ∈ named ops.toList o, TVR β (S i t) (a.tmps.getD t undef))
    {K : Act → World → Prop} {Q : Exit → Act → World → Prop} (hK : ∀ β' u w', Le β β' → SR β' (Hs (i + 1)) w' → TVR β' (V i) u → Fr β (Hs i) w β' (Hs (i + 1)) w' → K (a.put o.dst u) w') :
    wpOp P ops Q i K a w := step_op hd ho (ht.step i o (by simpa using ho)) hs hsz hdf hv hK


theorem look_traceF (ht : TraceF P F ops.toList ops.toList 0 S Hs V) (t : Tmp) : ∀ i, i ≤ ops.size → S i t = look ops.toList V (S 0 t) (fun j => decide (j < i)) t i
  | 0, _ => rfl
  | i + 1, h => by
    have ho : ops.toList[i]? = some ops[i] := by simp
    rw [ht.next i ops[i] ho]
    have ih := look_traceF ht t i (by omega)
    have e : look ops.toList V (S 0 t) (fun j => decide (j < i + 1)) t i = look ops.toList V (S 0 t) (fun j => decide (j < i)) t i :=
      look_congr i fun j hj _ => by simp; omega
    simp only [look, ho, Option.bind_some]
    rw [e, ← ih]
    cases hd : (ops[i]).dst with
    | none => simp [aput]
    | some d =>
      simp only [aput, upd]
      by_cases hdt : t = d
      · subst hdt; simp
      · rw [if_neg hdt, if_neg (by simp; exact fun e => hdt e.symm)]


/-- The state in the middle of a region whose order is open. -/
structure MidF (P : Program) (F : List Nat) (ops : Array Oper) (N : Nat) (S : Nat → Nat → TV) (Hs : Nat → Heap) (V : Nat → TV) (β0 : Emb) (w0 : World) (E : Array Bool) (a : Act) (w : World) (β : Emb) (m : Nat) : Prop where
  le : Le β0 β
  sr : SR β (Hs m) w
  fr : Fr β0 (Hs 0) w0 β (Hs m) w
  size : a.tmps.size = N
  defers : a.defers = []
  val : ∀ t, TVR β (look ops.toList V (S 0 t) (fun j => E.getD j false) t ops.size) (a.tmps.getD t undef)
  esize : E.size = ops.size
  mle : m ≤ ops.size
  mb : m = 0 ∨ barrierF ops.toList F (m - 1) = true
  bar : ∀ j, j < ops.size → barrierF ops.toList F j = true → (E.getD j false = true ↔ j < m)
  closed : ∀ j, j < ops.size → E.getD j false = true → ∀ i, (maskAt ops.toList j).testBit i = true → E.getD i false = true

theorem MidF.ready {β0 : Emb} {w0 : World} {E : Array Bool} {a : Act} {w : World} {β : Emb} {m : Nat} (hok : orderOK ops.toList = true) (h : MidF P F ops N S Hs V β0 w0 E a w β m) {i : Nat}
    (hi : i ∈ Region.ready .any ops E) : i < ops.size ∧ E.getD i true = false ∧ ∀ k, (maskAt ops.toList i).testBit k = true → E.getD k false = true := by
  obtain ⟨h1, o, ho, h2⟩ := mem_ready.1 hi
  have hlt : i < ops.size := by
    rcases Nat.lt_or_ge i ops.size with h' | h'
    · exact h'
    · simp [Array.getElem?_eq_none h'] at ho
  refine ⟨hlt, h1, fun k hk => ?_⟩
  obtain ⟨e, he, hb, hor⟩ := maskAt_bit hok (j := i) (i := k) (o := o) (by simpa using ho) hk
  have hE := h2 e (by simpa using he) hb
  rcases hor with rfl | hor
  · exact hE
  · have hel : e.on < ops.size := by
      rcases Nat.lt_or_ge e.on ops.size with h' | h'
      · exact h'
      · rw [← h.esize] at h'
        simp [Array.getD_eq_getD_getElem?, Array.getElem?_eq_none h'] at hE
    exact h.closed e.on hel hE k hor

theorem bar_bitF {ops : List Oper} {F : List Nat} {b j : Nat} (h : barrierF ops F b = true) (hj : j < ops.length) (hp : freeAt ops F j = false) : (j < b → (maskAt ops b).testBit j = true) ∧ (b < j → (maskAt ops j).testBit b = true) := by
  unfold barrierF at h
  rw [Bool.and_eq_true, Bool.and_eq_true] at h
  have := List.all_eq_true.1 h.2.2 j (List.mem_range.2 hj)
  rw [hp, Bool.false_or] at this
  constructor
  · intro hjb
    rw [if_pos hjb] at this
    exact this
  · intro hbj
    rw [if_neg (by omega), if_pos hbj] at this
    exact this
theorem bar_pureF {ops : List Oper} {F : List Nat} {b : Nat} (h : barrierF ops F b = true) : freeAt ops F b = false := by
  unfold barrierF at h
  rw [Bool.and_eq_true] at h
  simpa using h.1

/-- Between two places without a barrier memory is the same. -/
theorem same_rowsF (ht : TraceF P F ops.toList ops.toList 0 S Hs V) : ∀ (d i : Nat), i + d ≤ ops.size → (∀ j, i ≤ j → j < i + d → barrierF ops.toList F j = false) → Hs (i + d) = Hs i
  | 0, i, _, _ => rfl
  | d + 1, i, h, hb => by
    have hlt : i + d < ops.size := by omega
    have := ht.quiet (i + d) ops[i + d] (by simp [hlt])
    rw [show i + (d + 1) = i + d + 1 by omega]
    rcases this with h1 | h1
    · rw [h1]
      exact same_rowsF ht d i (by omega) fun j h2 h3 => hb j h2 (by omega)
    · rw [Nat.zero_add, hb (i + d) (by omega) (by omega)] at h1
      cases h1

theorem MidF.rows {β0 : Emb} {w0 : World} {E : Array Bool} {a : Act} {w : World} {β : Emb} {m : Nat} (ht : TraceF P F ops.toList ops.toList 0 S Hs V) (hok : orderOK ops.toList = true) (h : MidF P F ops N S Hs V β0 w0 E a w β m) {i : Nat}
    (hi : i ∈ Region.ready .any ops E) (hpi : freeAt ops.toList F i = false) : Hs m = Hs i ∧ (∀ j, j < ops.size → barrierF ops.toList F j = true → (j < m ↔ j < i)) := by
  obtain ⟨hlt, he, hbits⟩ := h.ready hok hi
  have hEi : E.getD i false = false := by rw [getD_bool (by rw [h.esize]; exact hlt) false true]; exact he
  have hlen : ops.toList.length = ops.size := by simp
  have key : ∀ j, j < ops.size → barrierF ops.toList F j = true → (j < m ↔ j < i) := by
    intro j hj hb
    rw [← h.bar j hj hb]
    constructor
    · intro hE
      rcases Nat.lt_trichotomy j i with h1 | h1 | h1
      · exact h1
      · subst h1; rw [hEi] at hE; cases hE
      · have := (bar_bitF hb (j := i) (by omega) hpi).1 h1
        rw [h.closed j hj hE i this] at hEi
        cases hEi
    · intro h1
      exact hbits j ((bar_bitF hb (j := i) (by omega) hpi).2 h1)
  refine ⟨?_, key⟩
  rcases Nat.le_total m i with h1 | h1
  · have := same_rowsF ht (i - m) m (by omega) fun j h2 h3 => by
      cases hb : barrierF ops.toList F j with
      | false => rfl
      | true => have := key j (by omega) hb; omega
    rw [show m + (i - m) = i by omega] at this
    exact this.symm
  · have := same_rowsF ht (m - i) i (by have := h.mle; omega) fun j h2 h3 => by
      cases hb : barrierF ops.toList F j with
      | false => rfl
      | true => have := key j (by have := h.mle; omega) hb; omega
    rw [show i + (m - i) = m by omega] at this
    exact this

/-- What a ready operation names is what the text's order has there. -/
theorem MidF.names {β0 : Emb} {w0 : World} {E : Array Bool} {a : Act} {w : World} {β : Emb} {m : Nat} (ht : TraceF P F ops.toList ops.toList 0 S Hs V) (hok : orderOK ops.toList = true) (h : MidF P F ops N S Hs V β0 w0 E a w β m) {i : Nat} {o : Oper}
    (hi : i ∈ Region.ready .any ops E) (ho : ops[i]? = some o) {t : Tmp} (htn : t ∈ named ops.toList o) : ∀ j, j < ops.size → (ops.toList[j]?).bind (·.dst) = some t → (E.getD j false = true ↔ j < i) := by
  obtain ⟨hlt, he, hbits⟩ := h.ready hok hi
  have hEi : E.getD i false = false := by rw [getD_bool (by rw [h.esize]; exact hlt) false true]; exact he
  intro j hj hjd
  have hoj : ops.toList[j]? = some ops[j] := by simp [hj]
  rw [hoj] at hjd
  simp only [Option.bind_some] at hjd
  have hcl := clash_of (i := i) (j := j) (by simpa using ho) hoj htn hjd
  have hlen : ops.toList.length = ops.size := by simp
  constructor
  · intro hE
    rcases Nat.lt_trichotomy j i with h1 | h1 | h1
    · exact h1
    · subst h1; rw [hEi] at hE; cases hE
    · have := clash_bit hok h1 (by omega) hcl.1
      rw [h.closed j hj hE i this] at hEi
      cases hEi
  · intro h1
    exact hbits j (clash_bit hok h1 (by omega) hcl.2)

theorem region_anyF (ht : TraceF P F ops.toList ops.toList 0 S Hs V) (hok : orderOK ops.toList = true) (hd : ∀ o ∈ ops.toList, ∀ d, o.dst = some d → d < N) {Q : Exit → Act → World → Prop} {β0 : Emb} {w0 : World}
    (hQ : ∀ β' a' w', Le β0 β' → AR β' (S ops.size) a' N → SR β' (Hs ops.size) w' → Fr β0 (Hs 0) w0 β' (Hs ops.size) w' → Q .normal a' w') :
    ∀ (fuel : Nat) (E : Array Bool) (a : Act) (w : World) (β : Emb) (m : Nat), unl E ops.size = fuel → MidF P F ops N S Hs V β0 w0 E a w β m → wpAny P .any ops Q fuel E a w := by
  have hlen : ops.toList.length = ops.size := by simp
  have finish : ∀ (E : Array Bool) (a : Act) (w : World) (β : Emb) (m : Nat), MidF P F ops N S Hs V β0 w0 E a w β m → (∀ j, j < ops.size → E.getD j true = true) → Q .normal a w := by
    intro E a w β m h hall
    have hallf : ∀ j, j < ops.size → E.getD j false = true := fun j hj => by rw [getD_bool (by rw [h.esize]; exact hj) false true]; exact hall j hj
    have hrows : Hs m = Hs ops.size := by
      have := same_rowsF ht (ops.size - m) m (by have := h.mle; omega) fun j h2 h3 => by
        cases hb : barrierF ops.toList F j with
        | false => rfl
        | true => have := (h.bar j (by omega) hb).1 (hallf j (by omega)); omega
      rw [show m + (ops.size - m) = ops.size by have := h.mle; omega] at this
      exact this.symm
    have hsr := h.sr
    have hfr := h.fr
    rw [hrows] at hsr hfr
    refine hQ β a w h.le ⟨h.size, fun t => ?_, h.defers⟩ hsr hfr
    rw [look_traceF ht t ops.size (Nat.le_refl _)]
    rw [look_congr (E' := fun j => E.getD j false) ops.size fun j hj _ => by simp [hj, hallf j hj]]
    exact h.val t
  have ready_nil : ∀ (E : Array Bool) (a : Act) (w : World) (β : Emb) (m : Nat), MidF P F ops N S Hs V β0 w0 E a w β m → Region.ready .any ops E = [] → ∀ j, j < ops.size → E.getD j true = true := by
    intro E a w β m h hnil j
    induction j using Nat.strongRecOn with
    | _ j ih =>
      intro hj
      cases hE : E.getD j true with
      | true => rfl
      | false =>
        have : j ∈ Region.ready .any ops E := by
          refine mem_ready.2 ⟨hE, ops[j], by simp [hj], fun e he hb => ?_⟩
          have hlt : e.on < j := by
            have hok' := hok
            unfold orderOK at hok'
            rw [Bool.and_eq_true] at hok'
            have := List.all_eq_true.1 hok'.1 j (List.mem_range.2 (by omega))
            rw [show ops.toList[j]? = some ops[j] by simp [hj]] at this
            have := List.all_eq_true.1 this e (by simpa using he)
            rw [hb] at this
            simpa using this
          have := ih e.on hlt (by omega)
          rw [getD_bool (by rw [h.esize]; omega) false true]
          exact this
        rw [hnil] at this
        cases this
  intro fuel
  induction fuel with
  | zero =>
    intro E a w β m hu h
    have hall := unl_zero E ops.size hu
    refine ⟨?_, finish E a w β m h hall⟩
    cases hr : Region.ready .any ops E with
    | nil => rfl
    | cons i r =>
      have hi : i ∈ Region.ready .any ops E := by rw [hr]; simp
      obtain ⟨h1, h2, _⟩ := h.ready hok hi
      rw [hall i h1] at h2
      cases h2
  | succ fuel ih =>
    intro E a w β m hu h
    refine ⟨fun hnil => finish E a w β m h (ready_nil E a w β m h hnil), fun i hi => ?_⟩
    obtain ⟨hlt, he, hbits⟩ := h.ready hok hi
    have hisz : i < E.size := by rw [h.esize]; exact hlt
    have hEi : E.getD i false = false := by rw [getD_bool hisz false true]; exact he
    have ho : ops[i]? = some ops[i] := by simp [hlt]
    have hoL : ops.toList[i]? = some ops[i] := by simp [hlt]
    have hval : ∀ t ∈ named ops.toList ops[i], TVR β (S i t) (a.tmps.getD t undef) := by
      intro t htn
      rw [look_traceF ht t i (by omega), ← look_beyond i ops.size (by omega)]
      rw [look_congr (E' := fun j => E.getD j false) ops.size fun j hj hjd => by
        have := h.names ht hok hi ho htn j hj hjd
        cases hE : E.getD j false with
        | true => simp [this.1 hE]
        | false => simp; exact Nat.le_of_not_lt fun hlt' => by rw [this.2 hlt'] at hE; cases hE]
      exact h.val t
    have hu' : unl (E.setIfInBounds i true) ops.size = fuel := by
      have := unl_set E i hisz he ops.size
      rw [if_pos hlt] at this
      omega
    have hset : ∀ j, j ≠ i → (E.setIfInBounds i true).getD j false = E.getD j false := fun j hj => getD_set_ne' false (Ne.symm hj)
    have hseti : (E.setIfInBounds i true).getD i false = true := getD_set_same false hisz
    have hsize' : ∀ u, (a.put ops[i].dst u).tmps.size = N := fun u => by
      cases ops[i].dst <;> simp [Act.put, h.size]
    have hdef' : ∀ u, (a.put ops[i].dst u).defers = [] := fun u => by
      cases ops[i].dst <;> exact h.defers
    have hvals : ∀ (β' : Emb) (u : Value), Le β β' → TVR β' (V i) u → ∀ t, TVR β' (look ops.toList V (S 0 t) (fun j => (E.setIfInBounds i true).getD j false) t ops.size) ((a.put ops[i].dst u).tmps.getD t undef) := by
      intro β' u h1 h3
      intro t
      cases hdst : ops[i].dst with
      | none =>
        show TVR β' _ (a.tmps.getD t undef)
        rw [look_congr (E' := fun j => E.getD j false) ops.size fun j hj hjd => by
          by_cases hji : j = i
          · subst hji; rw [hoL] at hjd; simp [hdst] at hjd
          · exact hset j hji]
        exact TVR.mono h1 (h.val t)
      | some d =>
        rw [getD_put a d u t (by rw [h.size]; exact hd ops[i] (by simp) d hdst)]
        by_cases htd : t = d
        · rw [if_pos htd]
          subst htd
          have htn : t ∈ named ops.toList ops[i] := by
            unfold named
            simp [hdst]
          have e1 : look ops.toList V (S 0 t) (fun j => (E.setIfInBounds i true).getD j false) t ops.size = look ops.toList V (S 0 t) (fun j => decide (j < i + 1)) t ops.size := by
            refine look_congr ops.size fun j hj hjd => ?_
            by_cases hji : j = i
            · subst hji; rw [hseti]; simp
            · rw [hset j hji]
              have := h.names ht hok hi ho htn j hj hjd
              cases hE : E.getD j false with
              | true => have := this.1 hE; simp; omega
              | false =>
                simp
                have : ¬ j < i := fun hlt' => by rw [this.2 hlt'] at hE; cases hE
                omega
          rw [e1, look_beyond (i + 1) ops.size (by omega), ← look_traceF ht t (i + 1) (by omega), ht.next i ops[i] hoL, hdst]
          show TVR β' (if t = t then V i else S i t) u
          rw [if_pos rfl]
          exact h3
        · rw [if_neg htd]
          rw [look_congr (E' := fun j => E.getD j false) ops.size fun j hj hjd => by
            by_cases hji : j = i
            · subst hji; rw [hoL] at hjd; simp [hdst] at hjd; exact absurd hjd.symm htd
            · exact hset j hji]
          exact TVR.mono h1 (h.val t)
    have hclosed' : ∀ j, j < ops.size → (E.setIfInBounds i true).getD j false = true → ∀ k, (maskAt ops.toList j).testBit k = true → (E.setIfInBounds i true).getD k false = true := by
      intro j hj hEj k hk
      by_cases hki : k = i
      · subst hki; exact hseti
      · rw [hset k hki]
        by_cases hji : j = i
        · subst hji; exact hbits k hk
        · rw [hset j hji] at hEj
          exact h.closed j hj hEj k hk
    cases hpi : freeAt ops.toList F i with
    | true =>
      have hfo : freeAt ops.toList F i = true := hpi
      have hrd := (ht.free i ops[i] hoL (by rw [Nat.zero_add]; exact hfo)).2 m (by rw [hlen]; exact h.mle) (by rw [Nat.zero_add]; exact h.mb)
      have hst : StepR P ops.toList (S i) (Hs m) ops[i] (V i) (Hs m) := by
        rcases hrd with ⟨b, hb⟩ | hst
        · exfalso
          unfold wont at hb
          simp only [Bool.and_eq_true, Bool.or_eq_true, decide_eq_true_eq, Nat.zero_add] at hb
          obtain ⟨⟨hb1, hb2⟩, hb3⟩ := hb
          rw [hlen] at hb1
          rcases hb3 with ⟨hb4, hb5⟩ | ⟨hb4, hb5⟩
          · have := (h.bar b hb1 hb2).1 (hbits b hb4); omega
          · have := h.closed b hb1 ((h.bar b hb1 hb2).2 hb5) i hb4
            rw [hEi] at this; cases this
        · exact hst
      refine step_op hd ho hst h.sr h.size h.defers hval fun β' u w' h1 h2 h3 h4 => ?_
      refine ih _ _ _ β' m hu' ⟨h.le.trans h1, h2, h.fr.trans h4, hsize' u, hdef' u, hvals β' u h1 h3, by simp [h.esize], h.mle, h.mb, fun j hj hbj => ?_, hclosed'⟩
      by_cases hji : j = i
      · subst hji; rw [bar_pureF hbj] at hpi; cases hpi
      · rw [hset j hji]
        exact h.bar j hj hbj
    | false =>
    obtain ⟨hrows, hbar⟩ := h.rows ht hok hi hpi
    have hsr := h.sr
    have hfr := h.fr
    rw [hrows] at hsr hfr
    refine trace_opF ht hd ho hsr h.size h.defers hval fun β' u w' h1 h2 h3 h4 => ?_
    have hval' := hvals β' u h1 h3
    have hcase : (barrierF ops.toList F i = true ∧ True) ∨ (barrierF ops.toList F i = false ∧ Hs (i + 1) = Hs i) := by
      cases hb : barrierF ops.toList F i with
      | true => exact .inl ⟨rfl, trivial⟩
      | false =>
        right
        refine ⟨rfl, ?_⟩
        rcases ht.quiet i ops[i] hoL with h5 | h5
        · exact h5
        · rw [Nat.zero_add, hb] at h5; cases h5
    rcases hcase with ⟨hb, _⟩ | ⟨hb, hsame⟩
    · refine ih _ _ _ β' (i + 1) hu' ⟨h.le.trans h1, h2, hfr.trans h4, hsize' u, hdef' u, hval', by simp [h.esize], by omega, .inr (by rw [Nat.add_sub_cancel]; exact hb), fun j hj hbj => ?_, hclosed'⟩
      by_cases hji : j = i
      · subst hji; rw [hseti]; simp
      · rw [hset j hji, h.bar j hj hbj, hbar j hj hbj]
        omega
    · rw [hsame] at h2 h4
      refine ih _ _ _ β' m hu' ⟨h.le.trans h1, by rw [hrows]; exact h2, by rw [hrows]; exact hfr.trans h4, hsize' u, hdef' u, hval', by simp [h.esize], h.mle, h.mb, fun j hj hbj => ?_, hclosed'⟩
      by_cases hji : j = i
      · subst hji; rw [hb] at hbj; cases hbj
      · rw [hset j hji]
        exact h.bar j hj hbj


end

theorem anyF_sound {P : Program} {N : Nat} {F : List Nat} {ops : Array Oper} (hm : P.follows .mixedOrders = true) (ho : orderOK ops.toList = true) (hd : ∀ o ∈ ops.toList, ∀ t, o.dst = some t → t < N) {id : Nat} {s : Nat → TV} {H : Heap} {K : (Nat → TV) → Heap → Prop} (h : wopf P F ops.toList ops.toList 0 [] [] 0 s H K)
    {β : Emb} {a : Act} {w : World} (ha : AR β s a N) (hs : SR β H w) {Q : Exit → Act → World → Prop} (hQ : ∀ β' s' H' a' w', K s' H' → Le β β' → AR β' s' a' N → SR β' H' w' → Fr β H w β' H' w' → Q .normal a' w') :
    (Code.region id ops true).wp P Q a w := by
  obtain ⟨S, Hs, V, rfl, rfl, h3, h4, h5, h6, _, hK⟩ := wopf_trace _ _ _ _ _ _ _ (fun p hp => absurd hp (List.not_mem_nil)) h
  have ht : TraceF P F ops.toList ops.toList 0 S Hs V := ⟨h3, h4, h5, fun j o e hf => ⟨(h6 j o e hf).1, fun m h1 h2 => by
    have := (h6 j o e hf).2.1 m h1 h2
    cases m with
    | zero => exact this
    | succ m => rw [show ixF 0 0 (m + 1) = m + 1 by show 0 + (m + 1) = _; omega] at this; exact this⟩⟩
  rw [show ops.toList.length = ops.size by simp] at hK
  refine wp_region_any hm ?_
  have := region_anyF ht ho hd (β0 := β) (w0 := w) (Q := Q) (fun β' a' w' h1 h2 h3 h4 => hQ β' _ _ a' w' hK h1 h2 h3 h4) ops.size (Array.replicate ops.size false) a { w with drawn := w.drawn + 1 } β 0 (unl_replicate _ _ (Nat.le_refl _))
    ⟨Le.refl β, hs.draw _, Fr.draw _, ha.size, ha.defers, fun t => ?_, by simp, Nat.zero_le _, .inl rfl, fun j hj _ => ?_, fun j hj hE => ?_⟩
  · exact this
  · rw [look_congr (E' := fun j => decide (j < 0)) ops.size fun j hj _ => by simp [Array.getD_eq_getD_getElem?, hj]]
    rw [look_beyond 0 ops.size (Nat.zero_le _)]
    exact ha.val t
  · simp [Array.getD_eq_getD_getElem?, hj]
  · simp [Array.getD_eq_getD_getElem?, hj] at hE

end Go.Ab
