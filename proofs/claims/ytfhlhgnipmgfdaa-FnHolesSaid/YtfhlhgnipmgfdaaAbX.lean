/-
  REGIONS: from the trace to the machine, in the text's order and in any. By an AI agent; nothing here is trusted.
-/
import Derived.Test.YtfhlhgnipmgfdaaAbW
namespace Go.Ab
set_option linter.unusedVariables false
set_option linter.unusedSimpArgs false

section
variable {P : Program} {ops : Array Oper} {N : Nat} {S : Nat → Nat → TV} {Hs : Nat → Heap} {V : Nat → TV} {q : Bool}

/-- One operation of the trace, in a state that represents what it names. -/
theorem step_op {Hi Hi1 : Heap} {Vi : TV} (hd : ∀ o ∈ ops.toList, ∀ d, o.dst = some d → d < N) {i : Nat} {o : Oper} (ho : ops[i]? = some o) (hst : StepR P ops.toList (S i) Hi o Vi Hi1)
    {β : Emb} {a : Act} {w : World} (hs : SR β Hi w) (hsz : a.tmps.size = N) (hdf : a.defers = []) (hv : ∀ t ∈ named ops.toList o, TVR β (S i t) (a.tmps.getD t undef))
    {K : Act → World → Prop} {Q : Exit → Act → World → Prop} (hK : ∀ β' u w', Le β β' → SR β' Hi1 w' → TVR β' Vi u → Fr β Hi w β' Hi1 w' → K (a.put o.dst u) w') :
    wpOp P ops Q i K a w := by
  have hops : ∀ x ∈ o.op.operands.toList, TVR β (aeval (S i) x) (a.eval x) := by
    intro x hx
    cases x with
    | tmp t =>
      refine hv t ?_
      unfold named
      simp only [List.mem_append, List.mem_filterMap]
      exact .inl (.inr ⟨.tmp t, hx, rfl⟩)
    | const c => exact TVR_ofConst β c
    | global g => trivial
    | func f => exact ⟨[], rfl, trivial⟩
  have hyield : ∀ j want y, o.guard = some (j, want) → ayield ops.toList (S i) j = some y → yielded ops a.tmps j = y := by
    intro j want y hg hy
    refine yield_ok hd hsz (fun d hjd => hv d ?_) hy
    unfold named
    rw [hg]
    simp only [List.mem_append]
    refine .inr ?_
    have : (ops.toList[j]?).bind (·.dst) = some d := by simpa using hjd
    rw [this]
    simp
  unfold wpOp
  rw [ho]
  simp only
  cases hst with
  | plain hw h =>
    have hwant : Region.wanted o (yielded ops a.tmps) = true := by
      rcases hw with hg | ⟨j, want, hg, hy⟩
      · simp [Region.wanted, hg]
      · rw [wanted_of hg (hyield j want _ hg hy)]
        simp
    rw [hwant, if_pos rfl]
    exact .inl (h β a w hs hops K Q hK)
  | skip hg hy hne =>
    rename_i j want y
    have hwant : Region.wanted o (yielded ops a.tmps) = false := by
      rw [wanted_of hg (hyield j want _ hg hy)]
      simpa using hne
    rw [hwant, if_neg (by simp)]
    exact hK β undef w (Le.refl β) hs rfl (Fr.refl β _ w)

theorem trace_op (ht : Trace P q ops.toList ops.toList 0 S Hs V) (hd : ∀ o ∈ ops.toList, ∀ d, o.dst = some d → d < N) {i : Nat} {o : Oper} (ho : ops[i]? = some o)
    {β : Emb} {a : Act} {w : World} (hs : SR β (Hs i) w) (hsz : a.tmps.size = N) (hdf : a.defers = []) (hv : ∀ t ∈ named ops.toList o, TVR β (S i t) (a.tmps.getD t undef))
    {K : Act → World → Prop} {Q : Exit → Act → World → Prop} (hK : ∀ β' u w', Le β β' → SR β' (Hs (i + 1)) w' → TVR β' (V i) u → Fr β (Hs i) w β' (Hs (i + 1)) w' → K (a.put o.dst u) w') :
    wpOp P ops Q i K a w := step_op hd ho (ht.step i o (by simpa using ho)) hs hsz hdf hv hK

/-- In the text's order. -/
theorem region_seq (ht : Trace P q ops.toList ops.toList 0 S Hs V) (hd : ∀ o ∈ ops.toList, ∀ d, o.dst = some d → d < N) {Q : Exit → Act → World → Prop} {β0 : Emb} {w0 : World}
    (hQ : ∀ β' a' w', Le β0 β' → AR β' (S ops.size) a' N → SR β' (Hs ops.size) w' → Fr β0 (Hs 0) w0 β' (Hs ops.size) w' → Q .normal a' w') :
    ∀ (m j : Nat) (β : Emb) (a : Act) (w : World), j + m = ops.size → Le β0 β → AR β (S j) a N → SR β (Hs j) w → Fr β0 (Hs 0) w0 β (Hs j) w → wpOps P ops Q (List.range' j m) a w
  | 0, j, β, a, w, hj, hle, ha, hs, hf => by
    have : j = ops.size := by omega
    subst this
    exact hQ β a w hle ha hs hf
  | m + 1, j, β, a, w, hj, hle, ha, hs, hf => by
    rw [List.range'_succ, wpOps_cons]
    have hjl : j < ops.size := by omega
    have ho : ops[j]? = some ops[j] := by simp [hjl]
    refine trace_op ht hd ho hs ha.size ha.defers (fun t _ => ha.val t) fun β' u w' h1 h2 h3 h4 => ?_
    refine region_seq ht hd hQ m (j + 1) β' _ w' (by omega) (hle.trans h1) ?_ h2 (hf.trans h4)
    rw [ht.next j ops[j] (by simp [hjl])]
    exact (ha.mono h1).put (fun d hdd => hd _ (by simp) d hdd) h3

/-! ### in any order -/
/-- The value of a temporary where these operations have come up. -/
def look (ops : List Oper) (V : Nat → TV) (d0 : TV) (E : Nat → Bool) (t : Tmp) : Nat → TV
  | 0 => d0
  | i + 1 => if E i = true ∧ (ops[i]?).bind (·.dst) = some t then V i else look ops V d0 E t i

theorem look_congr {ops : List Oper} {V : Nat → TV} {d0 : TV} {E E' : Nat → Bool} {t : Tmp} : ∀ (k : Nat), (∀ j, j < k → (ops[j]?).bind (·.dst) = some t → E j = E' j) → look ops V d0 E t k = look ops V d0 E' t k
  | 0, _ => rfl
  | i + 1, h => by
    have ih := look_congr (V := V) (d0 := d0) (E := E) (E' := E') i fun j hj => h j (by omega)
    simp only [look]
    by_cases hd : (ops[i]?).bind (·.dst) = some t
    · rw [h i (by omega) hd, ih]
    · rw [ih]; simp [hd]

theorem look_beyond {ops : List Oper} {V : Nat → TV} {d0 : TV} {t : Tmp} (i : Nat) : ∀ (k : Nat), i ≤ k → look ops V d0 (fun j => decide (j < i)) t k = look ops V d0 (fun j => decide (j < i)) t i
  | 0, h => by obtain rfl : i = 0 := by omega
               rfl
  | k + 1, h => by
    by_cases hk : i = k + 1
    · rw [hk]
    · rw [show look ops V d0 (fun j => decide (j < i)) t (k + 1) = look ops V d0 (fun j => decide (j < i)) t k by
        simp only [look]
        rw [if_neg (by simp; omega)]]
      exact look_beyond i k (by omega)

theorem look_trace (ht : Trace P q ops.toList ops.toList 0 S Hs V) (t : Tmp) : ∀ i, i ≤ ops.size → S i t = look ops.toList V (S 0 t) (fun j => decide (j < i)) t i
  | 0, _ => rfl
  | i + 1, h => by
    have ho : ops.toList[i]? = some ops[i] := by simp
    rw [ht.next i ops[i] ho]
    have ih := look_trace ht t i (by omega)
    have e : look ops.toList V (S 0 t) (fun j => decide (j < i + 1)) t i = look ops.toList V (S 0 t) (fun j => decide (j < i)) t i :=
      look_congr i fun j hj _ => by simp; omega
    simp only [look, ho, Option.bind_some]
    rw [e, ← ih]
    cases hd : (ops[i]).dst with
    | none => simp [aput]
    | some d =>
      simp only [aput, upd]
      by_cases hdt : t = d
      · subst hdt; simp
      · rw [if_neg hdt, if_neg (by simp; exact fun e => hdt e.symm)]

/-- How many have not come up. -/
def unl (E : Array Bool) : Nat → Nat
  | 0 => 0
  | i + 1 => unl E i + if E.getD i true = true then 0 else 1

theorem getD_set_ne' {E : Array Bool} {i j : Nat} (d : Bool) (h : i ≠ j) : (E.setIfInBounds i true).getD j d = E.getD j d := by
  simp [Array.getD_eq_getD_getElem?, Array.getElem?_setIfInBounds, h]

theorem getD_set_same {E : Array Bool} {i : Nat} (d : Bool) (h : i < E.size) : (E.setIfInBounds i true).getD i d = true := by
  simp [Array.getD_eq_getD_getElem?, Array.getElem?_setIfInBounds, h]

theorem unl_set (E : Array Bool) (i : Nat) (hi : i < E.size) (he : E.getD i true = false) : ∀ k, unl (E.setIfInBounds i true) k + (if i < k then 1 else 0) = unl E k
  | 0 => by simp [unl]
  | k + 1 => by
    have ih := unl_set E i hi he k
    simp only [unl]
    by_cases hk : i = k
    · subst hk
      rw [getD_set_same true hi, he]
      simp at ih
      simp [ih]
    · rw [getD_set_ne' true hk]
      by_cases h1 : i < k
      · have e1 : (if i < k then 1 else 0) = 1 := if_pos h1
        have e2 : (if i < k + 1 then 1 else 0) = 1 := if_pos (by omega)
        rw [e1] at ih
        rw [e2]
        omega
      · have e1 : (if i < k then 1 else 0) = 0 := if_neg h1
        have e2 : (if i < k + 1 then 1 else 0) = 0 := if_neg (by omega)
        rw [e1] at ih
        rw [e2]
        omega

theorem unl_zero (E : Array Bool) : ∀ k, unl E k = 0 → ∀ j, j < k → E.getD j true = true
  | 0, _, j, h => by omega
  | k + 1, h, j, hj => by
    simp only [unl] at h
    by_cases hk : E.getD k true = true
    · rcases Nat.lt_or_ge j k with h1 | h1
      · exact unl_zero E k (by omega) j h1
      · obtain rfl : j = k := by omega
        exact hk
    · rw [if_neg hk] at h; omega

/-- The state in the middle of a region whose order is open. -/
structure Mid (P : Program) (ops : Array Oper) (N : Nat) (S : Nat → Nat → TV) (Hs : Nat → Heap) (V : Nat → TV) (β0 : Emb) (w0 : World) (E : Array Bool) (a : Act) (w : World) (β : Emb) (m : Nat) : Prop where
  le : Le β0 β
  sr : SR β (Hs m) w
  fr : Fr β0 (Hs 0) w0 β (Hs m) w
  size : a.tmps.size = N
  defers : a.defers = []
  val : ∀ t, TVR β (look ops.toList V (S 0 t) (fun j => E.getD j false) t ops.size) (a.tmps.getD t undef)
  esize : E.size = ops.size
  mle : m ≤ ops.size
  bar : ∀ j, j < ops.size → barrier ops.toList j = true → (E.getD j false = true ↔ j < m)
  closed : ∀ j, j < ops.size → E.getD j false = true → ∀ i, (maskAt ops.toList j).testBit i = true → E.getD i false = true

theorem Mid.ready {β0 : Emb} {w0 : World} {E : Array Bool} {a : Act} {w : World} {β : Emb} {m : Nat} (hok : orderOK ops.toList = true) (h : Mid P ops N S Hs V β0 w0 E a w β m) {i : Nat}
    (hi : i ∈ Region.ready .any ops E) : i < ops.size ∧ E.getD i true = false ∧ ∀ k, (maskAt ops.toList i).testBit k = true → E.getD k false = true := by
  obtain ⟨h1, o, ho, h2⟩ := mem_ready.1 hi
  have hlt : i < ops.size := by
    rcases Nat.lt_or_ge i ops.size with h' | h'
    · exact h'
    · simp [Array.getElem?_eq_none h'] at ho
  refine ⟨hlt, h1, fun k hk => ?_⟩
  obtain ⟨e, he, hb, hor⟩ := maskAt_bit hok (j := i) (i := k) (o := o) (by simpa using ho) hk
  have hE := h2 e (by simpa using he) hb
  rcases hor with rfl | hor
  · exact hE
  · have hel : e.on < ops.size := by
      rcases Nat.lt_or_ge e.on ops.size with h' | h'
      · exact h'
      · rw [← h.esize] at h'
        simp [Array.getD_eq_getD_getElem?, Array.getElem?_eq_none h'] at hE
    exact h.closed e.on hel hE k hor

theorem getD_bool {E : Array Bool} {i : Nat} (h : i < E.size) (d d' : Bool) : E.getD i d = E.getD i d' := by
  simp [Array.getD_eq_getD_getElem?, h]

theorem bar_bit {ops : List Oper} {b j : Nat} (h : barrier ops b = true) (hj : j < ops.length) (hp : pureAt ops j = false) : (j < b → (maskAt ops b).testBit j = true) ∧ (b < j → (maskAt ops j).testBit b = true) := by
  unfold barrier at h
  rw [Bool.and_eq_true] at h
  have := List.all_eq_true.1 h.2 j (List.mem_range.2 hj)
  rw [hp, Bool.false_or] at this
  constructor
  · intro hjb
    rw [if_pos hjb] at this
    exact this
  · intro hbj
    rw [if_neg (by omega), if_pos hbj] at this
    exact this
theorem bar_pure {ops : List Oper} {b : Nat} (h : barrier ops b = true) : pureAt ops b = false := by
  unfold barrier at h
  rw [Bool.and_eq_true] at h
  simpa using h.1

/-- Between two places without a barrier memory is the same. -/
theorem same_rows (ht : Trace P true ops.toList ops.toList 0 S Hs V) : ∀ (d i : Nat), i + d ≤ ops.size → (∀ j, i ≤ j → j < i + d → barrier ops.toList j = false) → Hs (i + d) = Hs i
  | 0, i, _, _ => rfl
  | d + 1, i, h, hb => by
    have hlt : i + d < ops.size := by omega
    have := ht.quiet rfl (i + d) ops[i + d] (by simp [hlt])
    rw [show i + (d + 1) = i + d + 1 by omega]
    rcases this with h1 | h1
    · rw [h1]
      exact same_rows ht d i (by omega) fun j h2 h3 => hb j h2 (by omega)
    · rw [Nat.zero_add, hb (i + d) (by omega) (by omega)] at h1
      cases h1

theorem Mid.rows {β0 : Emb} {w0 : World} {E : Array Bool} {a : Act} {w : World} {β : Emb} {m : Nat} (ht : Trace P true ops.toList ops.toList 0 S Hs V) (hok : orderOK ops.toList = true) (h : Mid P ops N S Hs V β0 w0 E a w β m) {i : Nat}
    (hi : i ∈ Region.ready .any ops E) (hpi : pureAt ops.toList i = false) : Hs m = Hs i ∧ (∀ j, j < ops.size → barrier ops.toList j = true → (j < m ↔ j < i)) := by
  obtain ⟨hlt, he, hbits⟩ := h.ready hok hi
  have hEi : E.getD i false = false := by rw [getD_bool (by rw [h.esize]; exact hlt) false true]; exact he
  have hlen : ops.toList.length = ops.size := by simp
  have key : ∀ j, j < ops.size → barrier ops.toList j = true → (j < m ↔ j < i) := by
    intro j hj hb
    rw [← h.bar j hj hb]
    constructor
    · intro hE
      rcases Nat.lt_trichotomy j i with h1 | h1 | h1
      · exact h1
      · subst h1; rw [hEi] at hE; cases hE
      · have := (bar_bit hb (j := i) (by omega) hpi).1 h1
        rw [h.closed j hj hE i this] at hEi
        cases hEi
    · intro h1
      exact hbits j ((bar_bit hb (j := i) (by omega) hpi).2 h1)
  refine ⟨?_, key⟩
  rcases Nat.le_total m i with h1 | h1
  · have := same_rows ht (i - m) m (by omega) fun j h2 h3 => by
      cases hb : barrier ops.toList j with
      | false => rfl
      | true => have := key j (by omega) hb; omega
    rw [show m + (i - m) = i by omega] at this
    exact this.symm
  · have := same_rows ht (m - i) i (by have := h.mle; omega) fun j h2 h3 => by
      cases hb : barrier ops.toList j with
      | false => rfl
      | true => have := key j (by have := h.mle; omega) hb; omega
    rw [show i + (m - i) = m by omega] at this
    exact this

theorem clash_of {ops : List Oper} {i j : Nat} {o o' : Oper} {t : Tmp} (ho : ops[i]? = some o) (ho' : ops[j]? = some o') (ht : t ∈ named ops o) (hd : o'.dst = some t) : clash ops i j = true ∧ clash ops j i = true := by
  have hc : (named ops o).contains t = true := by simpa using ht
  unfold clash
  rw [ho, ho']
  constructor
  · simp only [hd, Option.toList_some, List.any_cons, List.any_nil, Bool.or_false, hc, Bool.or_true]
  · simp only [hd, Option.toList_some, List.any_cons, List.any_nil, Bool.or_false, hc, Bool.true_or]

/-- What a ready operation names is what the text's order has there. -/
theorem Mid.names {β0 : Emb} {w0 : World} {E : Array Bool} {a : Act} {w : World} {β : Emb} {m : Nat} (ht : Trace P true ops.toList ops.toList 0 S Hs V) (hok : orderOK ops.toList = true) (h : Mid P ops N S Hs V β0 w0 E a w β m) {i : Nat} {o : Oper}
    (hi : i ∈ Region.ready .any ops E) (ho : ops[i]? = some o) {t : Tmp} (htn : t ∈ named ops.toList o) : ∀ j, j < ops.size → (ops.toList[j]?).bind (·.dst) = some t → (E.getD j false = true ↔ j < i) := by
  obtain ⟨hlt, he, hbits⟩ := h.ready hok hi
  have hEi : E.getD i false = false := by rw [getD_bool (by rw [h.esize]; exact hlt) false true]; exact he
  intro j hj hjd
  have hoj : ops.toList[j]? = some ops[j] := by simp [hj]
  rw [hoj] at hjd
  simp only [Option.bind_some] at hjd
  have hcl := clash_of (i := i) (j := j) (by simpa using ho) hoj htn hjd
  have hlen : ops.toList.length = ops.size := by simp
  constructor
  · intro hE
    rcases Nat.lt_trichotomy j i with h1 | h1 | h1
    · exact h1
    · subst h1; rw [hEi] at hE; cases hE
    · have := clash_bit hok h1 (by omega) hcl.1
      rw [h.closed j hj hE i this] at hEi
      cases hEi
  · intro h1
    exact hbits j (clash_bit hok h1 (by omega) hcl.2)

theorem region_any (ht : Trace P true ops.toList ops.toList 0 S Hs V) (hok : orderOK ops.toList = true) (hd : ∀ o ∈ ops.toList, ∀ d, o.dst = some d → d < N) {Q : Exit → Act → World → Prop} {β0 : Emb} {w0 : World}
    (hQ : ∀ β' a' w', Le β0 β' → AR β' (S ops.size) a' N → SR β' (Hs ops.size) w' → Fr β0 (Hs 0) w0 β' (Hs ops.size) w' → Q .normal a' w') :
    ∀ (fuel : Nat) (E : Array Bool) (a : Act) (w : World) (β : Emb) (m : Nat), unl E ops.size = fuel → Mid P ops N S Hs V β0 w0 E a w β m → wpAny P .any ops Q fuel E a w := by
  have hlen : ops.toList.length = ops.size := by simp
  have finish : ∀ (E : Array Bool) (a : Act) (w : World) (β : Emb) (m : Nat), Mid P ops N S Hs V β0 w0 E a w β m → (∀ j, j < ops.size → E.getD j true = true) → Q .normal a w := by
    intro E a w β m h hall
    have hallf : ∀ j, j < ops.size → E.getD j false = true := fun j hj => by rw [getD_bool (by rw [h.esize]; exact hj) false true]; exact hall j hj
    have hrows : Hs m = Hs ops.size := by
      have := same_rows ht (ops.size - m) m (by have := h.mle; omega) fun j h2 h3 => by
        cases hb : barrier ops.toList j with
        | false => rfl
        | true => have := (h.bar j (by omega) hb).1 (hallf j (by omega)); omega
      rw [show m + (ops.size - m) = ops.size by have := h.mle; omega] at this
      exact this.symm
    have hsr := h.sr
    have hfr := h.fr
    rw [hrows] at hsr hfr
    refine hQ β a w h.le ⟨h.size, fun t => ?_, h.defers⟩ hsr hfr
    rw [look_trace ht t ops.size (Nat.le_refl _)]
    rw [look_congr (E' := fun j => E.getD j false) ops.size fun j hj _ => by simp [hj, hallf j hj]]
    exact h.val t
  have ready_nil : ∀ (E : Array Bool) (a : Act) (w : World) (β : Emb) (m : Nat), Mid P ops N S Hs V β0 w0 E a w β m → Region.ready .any ops E = [] → ∀ j, j < ops.size → E.getD j true = true := by
    intro E a w β m h hnil j
    induction j using Nat.strongRecOn with
    | _ j ih =>
      intro hj
      cases hE : E.getD j true with
      | true => rfl
      | false =>
        have : j ∈ Region.ready .any ops E := by
          refine mem_ready.2 ⟨hE, ops[j], by simp [hj], fun e he hb => ?_⟩
          have hlt : e.on < j := by
            have hok' := hok
            unfold orderOK at hok'
            rw [Bool.and_eq_true] at hok'
            have := List.all_eq_true.1 hok'.1 j (List.mem_range.2 (by omega))
            rw [show ops.toList[j]? = some ops[j] by simp [hj]] at this
            have := List.all_eq_true.1 this e (by simpa using he)
            rw [hb] at this
            simpa using this
          have := ih e.on hlt (by omega)
          rw [getD_bool (by rw [h.esize]; omega) false true]
          exact this
        rw [hnil] at this
        cases this
  intro fuel
  induction fuel with
  | zero =>
    intro E a w β m hu h
    have hall := unl_zero E ops.size hu
    refine ⟨?_, finish E a w β m h hall⟩
    cases hr : Region.ready .any ops E with
    | nil => rfl
    | cons i r =>
      have hi : i ∈ Region.ready .any ops E := by rw [hr]; simp
      obtain ⟨h1, h2, _⟩ := h.ready hok hi
      rw [hall i h1] at h2
      cases h2
  | succ fuel ih =>
    intro E a w β m hu h
    refine ⟨fun hnil => finish E a w β m h (ready_nil E a w β m h hnil), fun i hi => ?_⟩
    obtain ⟨hlt, he, hbits⟩ := h.ready hok hi
    have hisz : i < E.size := by rw [h.esize]; exact hlt
    have hEi : E.getD i false = false := by rw [getD_bool hisz false true]; exact he
    have ho : ops[i]? = some ops[i] := by simp [hlt]
    have hoL : ops.toList[i]? = some ops[i] := by simp [hlt]
    have hval : ∀ t ∈ named ops.toList ops[i], TVR β (S i t) (a.tmps.getD t undef) := by
      intro t htn
      rw [look_trace ht t i (by omega), ← look_beyond i ops.size (by omega)]
      rw [look_congr (E' := fun j => E.getD j false) ops.size fun j hj hjd => by
        have := h.names ht hok hi ho htn j hj hjd
        cases hE : E.getD j false with
        | true => simp [this.1 hE]
        | false => simp; exact Nat.le_of_not_lt fun hlt' => by rw [this.2 hlt'] at hE; cases hE]
      exact h.val t
    have hu' : unl (E.setIfInBounds i true) ops.size = fuel := by
      have := unl_set E i hisz he ops.size
      rw [if_pos hlt] at this
      omega
    have hset : ∀ j, j ≠ i → (E.setIfInBounds i true).getD j false = E.getD j false := fun j hj => getD_set_ne' false (Ne.symm hj)
    have hseti : (E.setIfInBounds i true).getD i false = true := getD_set_same false hisz
    have hsize' : ∀ u, (a.put ops[i].dst u).tmps.size = N := fun u => by
      cases ops[i].dst <;> simp [Act.put, h.size]
    have hdef' : ∀ u, (a.put ops[i].dst u).defers = [] := fun u => by
      cases ops[i].dst <;> exact h.defers
    have hvals : ∀ (β' : Emb) (u : Value), Le β β' → TVR β' (V i) u → ∀ t, TVR β' (look ops.toList V (S 0 t) (fun j => (E.setIfInBounds i true).getD j false) t ops.size) ((a.put ops[i].dst u).tmps.getD t undef) := by
      intro β' u h1 h3
      intro t
      cases hdst : ops[i].dst with
      | none =>
        show TVR β' _ (a.tmps.getD t undef)
        rw [look_congr (E' := fun j => E.getD j false) ops.size fun j hj hjd => by
          by_cases hji : j = i
          · subst hji; rw [hoL] at hjd; simp [hdst] at hjd
          · exact hset j hji]
        exact TVR.mono h1 (h.val t)
      | some d =>
        rw [getD_put a d u t (by rw [h.size]; exact hd ops[i] (by simp) d hdst)]
        by_cases htd : t = d
        · rw [if_pos htd]
          subst htd
          have htn : t ∈ named ops.toList ops[i] := by
            unfold named
            simp [hdst]
          have e1 : look ops.toList V (S 0 t) (fun j => (E.setIfInBounds i true).getD j false) t ops.size = look ops.toList V (S 0 t) (fun j => decide (j < i + 1)) t ops.size := by
            refine look_congr ops.size fun j hj hjd => ?_
            by_cases hji : j = i
            · subst hji; rw [hseti]; simp
            · rw [hset j hji]
              have := h.names ht hok hi ho htn j hj hjd
              cases hE : E.getD j false with
              | true => have := this.1 hE; simp; omega
              | false =>
                simp
                have : ¬ j < i := fun hlt' => by rw [this.2 hlt'] at hE; cases hE
                omega
          rw [e1, look_beyond (i + 1) ops.size (by omega), ← look_trace ht t (i + 1) (by omega), ht.next i ops[i] hoL, hdst]
          show TVR β' (if t = t then V i else S i t) u
          rw [if_pos rfl]
          exact h3
        · rw [if_neg htd]
          rw [look_congr (E' := fun j => E.getD j false) ops.size fun j hj hjd => by
            by_cases hji : j = i
            · subst hji; rw [hoL] at hjd; simp [hdst] at hjd; exact absurd hjd.symm htd
            · exact hset j hji]
          exact TVR.mono h1 (h.val t)
    have hclosed' : ∀ j, j < ops.size → (E.setIfInBounds i true).getD j false = true → ∀ k, (maskAt ops.toList j).testBit k = true → (E.setIfInBounds i true).getD k false = true := by
      intro j hj hEj k hk
      by_cases hki : k = i
      · subst hki; exact hseti
      · rw [hset k hki]
        by_cases hji : j = i
        · subst hji; exact hbits k hk
        · rw [hset j hji] at hEj
          exact h.closed j hj hEj k hk
    cases hpi : pureAt ops.toList i with
    | true =>
      have hpo : pureOp ops[i].op = true := by
        unfold pureAt at hpi
        rw [hoL] at hpi
        exact hpi
      have hst := (ht.pure i ops[i] hoL hpo).2 (Hs m)
      refine step_op hd ho hst h.sr h.size h.defers hval fun β' u w' h1 h2 h3 h4 => ?_
      refine ih _ _ _ β' m hu' ⟨h.le.trans h1, h2, h.fr.trans h4, hsize' u, hdef' u, hvals β' u h1 h3, by simp [h.esize], h.mle, fun j hj hbj => ?_, hclosed'⟩
      by_cases hji : j = i
      · subst hji; rw [bar_pure hbj] at hpi; cases hpi
      · rw [hset j hji]
        exact h.bar j hj hbj
    | false =>
    obtain ⟨hrows, hbar⟩ := h.rows ht hok hi hpi
    have hsr := h.sr
    have hfr := h.fr
    rw [hrows] at hsr hfr
    refine trace_op ht hd ho hsr h.size h.defers hval fun β' u w' h1 h2 h3 h4 => ?_
    have hval' := hvals β' u h1 h3
    have hcase : (barrier ops.toList i = true ∧ True) ∨ (barrier ops.toList i = false ∧ Hs (i + 1) = Hs i) := by
      cases hb : barrier ops.toList i with
      | true => exact .inl ⟨rfl, trivial⟩
      | false =>
        right
        refine ⟨rfl, ?_⟩
        rcases ht.quiet rfl i ops[i] hoL with h5 | h5
        · exact h5
        · rw [Nat.zero_add, hb] at h5; cases h5
    rcases hcase with ⟨hb, _⟩ | ⟨hb, hsame⟩
    · refine ih _ _ _ β' (i + 1) hu' ⟨h.le.trans h1, h2, hfr.trans h4, hsize' u, hdef' u, hval', by simp [h.esize], by omega, fun j hj hbj => ?_, hclosed'⟩
      by_cases hji : j = i
      · subst hji; rw [hseti]; simp
      · rw [hset j hji, h.bar j hj hbj, hbar j hj hbj]
        omega
    · rw [hsame] at h2 h4
      refine ih _ _ _ β' m hu' ⟨h.le.trans h1, by rw [hrows]; exact h2, by rw [hrows]; exact hfr.trans h4, hsize' u, hdef' u, hval', by simp [h.esize], h.mle, fun j hj hbj => ?_, hclosed'⟩
      by_cases hji : j = i
      · subst hji; rw [hb] at hbj; cases hbj
      · rw [hset j hji]
        exact h.bar j hj hbj

theorem unl_replicate : ∀ (n k : Nat), k ≤ n → unl (Array.replicate n false) k = k
  | n, 0, _ => rfl
  | n, k + 1, h => by
    have hk : k < n := h
    simp only [unl]
    rw [unl_replicate n k (by omega)]
    simp [Array.getD_eq_getD_getElem?, hk]

end
end Go.Ab
