/-
  HOW A RUN IS WALKED: rules in the form of equations, and how ends are met. By an AI agent; nothing here is trusted.
-/
import Derived.Test.YtfhlhgnipmgfdaaAbF
namespace Go.Ab
set_option linter.unusedVariables false
set_option linter.unusedSimpArgs false

/-! ### regions: what follows is kept behind a name -/
theorem wop_mono {P : Program} {ev : Operand → TV} {op : Op} {H : Heap} {K K' : TV → Heap → Prop} (h : ∀ v H', K v H' → K' v H') (hw : wop P ev op H K) : wop P ev op H K' := by
  unfold wop at *
  split at hw
  · split at hw
    · obtain ⟨r, H2, h1, h2⟩ := hw; exact ⟨r, H2, h1, h _ _ h2⟩
    · exact hw
  · split at hw
    · exact h _ _ hw
    · exact hw

theorem wops_mono {P : Program} {q : Bool} {ops : List Oper} {K K' : (Nat → TV) → Heap → Prop} (h : ∀ s H, K s H → K' s H) : ∀ (l : List Oper) (i : Nat) (s : Nat → TV) (H : Heap), wops P q ops l i s H K → wops P q ops l i s H K'
  | [], i, s, H, hw => h _ _ hw
  | o :: r, i, s, H, hw => by
    rw [wops] at hw ⊢
    split at hw
    · exact wop_mono (fun v H' h1 => ⟨h1.1, wops_mono h r _ _ _ h1.2⟩) hw
    · split at hw
      · split at hw
        · rename_i hy; rw [if_pos hy]; exact wop_mono (fun v H' h1 => ⟨h1.1, wops_mono h r _ _ _ h1.2⟩) hw
        · rename_i hy; rw [if_neg hy]; exact wops_mono h r _ _ _ hw
      · exact hw

theorem wop_ex {P : Program} {ev : Operand → TV} {op : Op} {H : Heap} {K : Nat → TV → Heap → Prop} (hw : wop P ev op H fun v H' => ∃ k, K k v H') : ∃ k, wop P ev op H (K k) := by
  unfold wop at *
  split at hw
  · split at hw
    · obtain ⟨r, H2, h1, k, h2⟩ := hw; exact ⟨k, r, H2, h1, h2⟩
    · exact ⟨0, hw⟩
  · split at hw
    · obtain ⟨k, h⟩ := hw; exact ⟨k, h⟩
    · exact ⟨0, hw⟩

theorem wops_ex {P : Program} {q : Bool} {ops : List Oper} {K : Nat → (Nat → TV) → Heap → Prop} : ∀ (l : List Oper) (i : Nat) (s : Nat → TV) (H : Heap), (wops P q ops l i s H fun s H => ∃ k, K k s H) → ∃ k, wops P q ops l i s H (K k)
  | [], i, s, H, hw => hw
  | o :: r, i, s, H, hw => by
    have go : wop P (aeval s) o.op H (fun v H' => (q = true → H' = H ∨ barrier ops i = true) ∧ wops P q ops r (i + 1) (aput s o.dst v) H' fun s H => ∃ k, K k s H) →
        ∃ k, wop P (aeval s) o.op H (fun v H' => (q = true → H' = H ∨ barrier ops i = true) ∧ wops P q ops r (i + 1) (aput s o.dst v) H' (K k)) := fun h => by
      refine wop_ex (wop_mono (fun v H' h1 => ?_) h)
      obtain ⟨k, hk⟩ := wops_ex r _ _ _ h1.2
      exact ⟨k, h1.1, hk⟩
    rw [wops] at hw
    split at hw
    · rename_i hg
      obtain ⟨k, hk⟩ := go hw
      refine ⟨k, ?_⟩
      rw [wops, hg]
      exact hk
    · rename_i j want hg
      split at hw
      · rename_i y hy
        split at hw
        · rename_i hyw
          obtain ⟨k, hk⟩ := go hw
          refine ⟨k, ?_⟩
          rw [wops, hg]
          simp only [hy, if_pos hyw]
          exact hk
        · rename_i hyw
          obtain ⟨k, hk⟩ := wops_ex r _ _ _ hw
          refine ⟨k, ?_⟩
          rw [wops, hg]
          simp only [hy, if_neg hyw]
          exact hk
      · exact hw.elim

section
variable {P : Program} {t : List Item} {s : Nat → TV} {H : Heap} {R : (Nat → TV) → Heap → Prop}

theorem Fin_step {todo todo' : List Item} (h : ∀ k, fin P (k + 1) todo s H R = fin P k todo' s H R) : Fin P todo s H R = Fin P todo' s H R := by
  apply propext
  constructor
  · rintro ⟨k, hk⟩
    cases k with
    | zero => exact hk.elim
    | succ k => rw [h] at hk; exact ⟨k, hk⟩
  · rintro ⟨k, hk⟩
    exact ⟨k + 1, by rw [h]; exact hk⟩

theorem Fin_end {todo : List Item} (h : ∀ k, fin P (k + 1) todo s H R = R s H) : Fin P todo s H R = R s H := by
  apply propext
  constructor
  · rintro ⟨k, hk⟩
    cases k with
    | zero => exact hk.elim
    | succ k => rw [h] at hk; exact hk
  · intro hk
    exact ⟨1, by rw [h]; exact hk⟩

theorem Fin_nil : Fin P [] s H R = R s H := Fin_end fun _ => rfl
theorem Fin_ret : Fin P (.code .ret :: t) s H R = R s H := Fin_end fun _ => rfl
theorem Fin_skip : Fin P (.code .skip :: t) s H R = Fin P t s H R := Fin_step fun _ => rfl
theorem Fin_label {l : Nat} : Fin P (.code (.label l) :: t) s H R = Fin P t s H R := Fin_step fun _ => rfl
theorem Fin_seq {a b : Code} : Fin P (.code (.seq a b) :: t) s H R = Fin P (.code a :: .code b :: t) s H R := Fin_step fun _ => rfl
theorem Fin_block {id : Nat} {c : Code} : Fin P (.code (.block id c) :: t) s H R = Fin P (.code c :: .inBlock id :: t) s H R := Fin_step fun _ => rfl
theorem Fin_loop {c : Code} : Fin P (.code (.loop c) :: t) s H R = Fin P (.inLoop c :: t) s H R := (Fin_step fun _ => rfl).trans (Fin_step (todo' := .code c :: .inLoop c :: t) fun _ => rfl).symm
theorem Fin_inLoop {c : Code} : Fin P (.inLoop c :: t) s H R = Fin P (.code c :: .inLoop c :: t) s H R := Fin_step fun _ => rfl
theorem Fin_inBlock {id : Nat} : Fin P (.inBlock id :: t) s H R = Fin P t s H R := Fin_step fun _ => rfl

/-- Behind an exit. -/
def exitC (P : Program) (s : Nat → TV) (H : Heap) (R : (Nat → TV) → Heap → Prop) : Option (List Item) → Prop
  | some t => Fin P t s H R
  | none => False
theorem Fin_exit {id : Nat} : Fin P (.code (.exit id) :: t) s H R = exitC P s H R (exitTo id t) := by
  cases h : exitTo id t with
  | some t' => exact Fin_step fun k => by simp only [fin, h]
  | none =>
    apply propext
    constructor
    · rintro ⟨k, hk⟩
      cases k with
      | zero => exact hk.elim
      | succ k => simp only [fin, h] at hk
    · exact fun h => h.elim
theorem exitC_some {t' : List Item} : exitC P s H R (some t') = Fin P t' s H R := rfl
theorem exitTo_here {id : Nat} : exitTo id (.inBlock id :: t) = some t := by simp [exitTo]
theorem exitTo_block {id j : Nat} (h : (j == id) = false) : exitTo id (.inBlock j :: t) = exitTo id t := by simp [exitTo, h]
theorem exitTo_code {id : Nat} {c : Code} : exitTo id (.code c :: t) = exitTo id t := rfl
theorem exitTo_loop {id : Nat} {c : Code} : exitTo id (.inLoop c :: t) = exitTo id t := rfl

/-- At a test. -/
def condC (P : Program) (t : List Item) (s : Nat → TV) (H : Heap) (R : (Nat → TV) → Heap → Prop) (a b : Code) : TV → Prop
  | .v (.bool x) => if x = true then Fin P (.code a :: t) s H R else Fin P (.code b :: t) s H R
  | _ => False
theorem Fin_cond {c : Operand} {a b : Code} : Fin P (.code (.cond c a b) :: t) s H R = condC P t s H R a b (aeval s c) := by
  cases h : aeval s c with
  | v x =>
    cases x <;> first
      | (apply propext
         constructor
         · rintro ⟨k, hk⟩
           cases k with
           | zero => exact hk.elim
           | succ k => simp only [fin, h] at hk
         · exact fun h => h.elim)
      | skip
    rename_i x
    cases x with
    | true => exact (Fin_step (todo' := .code a :: t) fun k => by simp only [fin, h, if_true]).trans (by simp [condC])
    | false => exact (Fin_step (todo' := .code b :: t) fun k => by simp only [fin, h, Bool.false_eq_true, if_false]).trans (by simp [condC])
  | g cs =>
    apply propext
    constructor
    · rintro ⟨k, hk⟩
      cases k with
      | zero => exact hk.elim
      | succ k => simp only [fin, h] at hk
    · exact fun h => h.elim
  | t vs =>
    apply propext
    constructor
    · rintro ⟨k, hk⟩
      cases k with
      | zero => exact hk.elim
      | succ k => simp only [fin, h] at hk
    · exact fun h => h.elim
theorem condC_true {a b : Code} : condC P t s H R a b (.v (.bool true)) = Fin P (.code a :: t) s H R := by simp [condC]
theorem condC_false {a b : Code} : condC P t s H R a b (.v (.bool false)) = Fin P (.code b :: t) s H R := by simp [condC]
theorem condC_dec {a b : Code} {x : Bool} : condC P t s H R a b (.v (.bool x)) = if x = true then Fin P (.code a :: t) s H R else Fin P (.code b :: t) s H R := rfl

/-- What is still to do, behind a name. -/
def FinK (P : Program) (t : List Item) (R : (Nat → TV) → Heap → Prop) : (Nat → TV) → Heap → Prop := fun s H => Fin P t s H R
theorem FinK_app : FinK P t R s H = Fin P t s H R := rfl
theorem Fin_region {id : Nat} {ops : List Oper} {d : Bool} : Fin P (.code (.region id ops.toArray d) :: t) s H R = wopa P d ops s H (FinK P t R) := by
  apply propext
  constructor
  · rintro ⟨k, hk⟩
    cases k with
    | zero => exact hk.elim
    | succ k =>
      have : wopa P d ops s H fun s' H' => fin P k t s' H' R := hk
      rcases this with this | ⟨hd, ⟨F, this⟩ | ⟨C, Hm, nh, hC, hH, this⟩⟩
      · exact .inl (wops_mono (fun s H h => ⟨k, h⟩) _ _ _ _ this)
      · exact .inr ⟨hd, .inl ⟨F, wopf_mono (fun s H h => ⟨k, h⟩) _ _ _ _ _ _ _ this⟩⟩
      · exact .inr ⟨hd, .inr ⟨C, Hm, nh, hC, hH, wopm_mono (fun s H h => ⟨k, h⟩) _ _ _ this⟩⟩
  · intro h
    rcases h with h | ⟨hd, ⟨F, h⟩ | ⟨C, Hm, nh, hC, hH, h⟩⟩
    · obtain ⟨k, hk⟩ := wops_ex (K := fun k s' H' => fin P k t s' H' R) _ _ _ _ h
      exact ⟨k + 1, .inl hk⟩
    · obtain ⟨k, hk⟩ := wopf_ex (K := fun k s' H' => fin P k t s' H' R) _ _ _ _ _ _ _ h
      exact ⟨k + 1, .inr ⟨hd, .inl ⟨F, hk⟩⟩⟩
    · obtain ⟨k, hk⟩ := wopm_ex (K := fun k s' H' => fin P k t s' H' R) _ _ _ h
      exact ⟨k + 1, .inr ⟨hd, .inr ⟨C, Hm, nh, hC, hH, hk⟩⟩⟩
end

section
variable {P : Program} {q : Bool} {ops r : List Oper} {i : Nat} {s : Nat → TV} {H : Heap} {K : (Nat → TV) → Heap → Prop} {dst : Option Tmp}

/-- Behind an operation that yields so. -/
def stepTo (P : Program) (q : Bool) (ops r : List Oper) (i : Nat) (s : Nat → TV) (dst : Option Tmp) (H : Heap) (K : (Nat → TV) → Heap → Prop) : Option (TV × Heap) → Prop
  | some (v, H') => (q = true → H' = H ∨ barrier ops i = true) ∧ wops P q ops r (i + 1) (aput s dst v) H' K
  | none => False

/-- At a call. -/
def callG (P : Program) (q : Bool) (ops r : List Oper) (i : Nat) (s : Nat → TV) (dst : Option Tmp) (H : Heap) (K : (Nat → TV) → Heap → Prop) (args : List TV) : TV → Prop
  | .v (.fn g caps) => ∃ v H', Ok P g (args ++ caps.map fun p => TV.v (.ptr p.1 p.2)) H v H' ∧ stepTo P q ops r i s dst H K (some (v, H'))
  | _ => False

theorem wops_nil : wops P q ops [] i s H K = K s H := rfl

theorem wop_plain {op : Op} (h : callOf op = none) : wop P (aeval s) op H (fun v H' => (q = true → H' = H ∨ barrier ops i = true) ∧ wops P q ops r (i + 1) (aput s dst v) H' K) = stepTo P q ops r i s dst H K (astep P (aeval s) op H) := by
  unfold wop
  rw [h]
  cases astep P (aeval s) op H with
  | none => rfl
  | some x => rfl

theorem wops_op {op : Op} {ty : TypeId} {pos : String} {after : Array Edge} (h : callOf op = none) : wops P q ops ({ dst, op, type := ty, pos, after, guard := none } :: r) i s H K = stepTo P q ops r i s dst H K (astep P (aeval s) op H) := by
  rw [wops]
  exact wop_plain h

theorem wops_call {f : Operand} {as : List Operand} {tys : Array TypeId} {ty : TypeId} {pos : String} {after : Array Edge} :
    wops P q ops ({ dst, op := .call { callee := .value f, args := as.toArray, argTypes := tys }, type := ty, pos, after, guard := none } :: r) i s H K = callG P q ops r i s dst H K (as.map (aeval s)) (aeval s f) := by
  rw [wops]
  unfold wop
  simp only [callOf]
  cases h : aeval s f with
  | v x => cases x <;> rfl
  | g cs => rfl
  | t vs => rfl

/-- At a guard. -/
def guardC (P : Program) (q : Bool) (ops r : List Oper) (i : Nat) (s : Nat → TV) (o : Oper) (H : Heap) (K : (Nat → TV) → Heap → Prop) (want : Bool) : Option (Option Bool) → Prop
  | some (some b) => if b = want then wops P q ops ({ o with guard := none } :: r) i s H K else wops P q ops r (i + 1) (aput s o.dst (.v .und)) H K
  | some none => wops P q ops r (i + 1) (aput s o.dst (.v .und)) H K
  | none => False

theorem wops_guard {op : Op} {ty : TypeId} {pos : String} {after : Array Edge} {j : Nat} {want : Bool} :
    wops P q ops ({ dst, op, type := ty, pos, after, guard := some (j, want) } :: r) i s H K = guardC P q ops r i s { dst, op, type := ty, pos, after, guard := some (j, want) } H K want (ayield ops s j) := by
  rw [wops]
  simp only
  cases ayield ops s j with
  | none => rfl
  | some y =>
    cases y with
    | none => simp [guardC]
    | some b => by_cases h : b = want <;> simp [guardC, h, wops]

theorem stepTo_same {v : TV} : stepTo P q ops r i s dst H K (some (v, H)) = wops P q ops r (i + 1) (aput s dst v) H K := by simp [stepTo]
theorem stepTo_seq {v : TV} {H' : Heap} : stepTo P false ops r i s dst H K (some (v, H')) = wops P false ops r (i + 1) (aput s dst v) H' K := by simp [stepTo]
theorem stepTo_bar {v : TV} {H' : Heap} (h : barrier ops i = true) : stepTo P q ops r i s dst H K (some (v, H')) = wops P q ops r (i + 1) (aput s dst v) H' K := by simp [stepTo, h]
theorem callG_intro {g : FuncId} {args : List TV} {v : TV} {H' : Heap} (h : Ok P g args H v H') (k : stepTo P q ops r i s dst H K (some (v, H'))) : callG P q ops r i s dst H K args (.v (.fn g [])) :=
  ⟨v, H', by simpa using h, k⟩
end

/-! ### values -/
theorem aeval_tmp (s : Nat → TV) (t : Tmp) : aeval s (.tmp t) = s t := rfl
theorem aeval_const (s : Nat → TV) (v : Value) : aeval s (.const v) = ofConst v := rfl
theorem aeval_func (s : Nat → TV) (f : FuncId) : aeval s (.func f) = .v (.fn f []) := rfl
theorem aput_some (s : Nat → TV) (d : Tmp) (v : TV) : aput s (some d) v = upd s d v := rfl
theorem aput_none (s : Nat → TV) (v : TV) : aput s none v = s := rfl
theorem upd_app {α : Type} (f : Nat → α) (i : Nat) (x : α) (j : Nat) : upd f i x j = if j = i then x else f j := rfl
theorem upd_same {α : Type} (f : Nat → α) (i : Nat) (x : α) : upd f i x i = x := by simp [upd]
theorem upd_ne {α : Type} (f : Nat → α) (i : Nat) (x : α) (j : Nat) (h : j ≠ i) : upd f i x j = f j := by simp [upd, h]
theorem init_zero (a : TV) (l : List TV) : init (a :: l) 0 = a := rfl
theorem init_succ (a : TV) (l : List TV) (n : Nat) : init (a :: l) (n + 1) = init l n := rfl
theorem init_nil (n : Nat) : init [] n = .v .und := rfl
theorem ofConst_bool (b : Bool) : ofConst (.bool b) = .v (.bool b) := rfl
theorem ofConst_int (k : IntKind) (n : Int) : ofConst (.int k n) = .v (.int k n) := rfl
theorem ofConst_float (k : FloatKind) (b : Nat) : ofConst (.float k b) = .v (.flt k (cz k b)) := rfl
theorem ofConst_string (s : ByteArray) : ofConst (.string s) = .v (.str s) := rfl
theorem ofConst_nilslice : ofConst (.slice none 0 0) = .v .nilsl := rfl
theorem ofConst_nilptr : ofConst (.pointer none) = .v .nilptr := rfl

end Go.Ab
