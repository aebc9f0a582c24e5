/-
  The engine: abstract values, heaps of pieces, what the operations do; only what this claim leans on. Nothing here is trusted.
-/
import Derived.Test.YtfhlhgnipmgfdaaMRatesEa
namespace Go.Ab
set_option linter.unusedVariables false
set_option linter.unusedSimpArgs false

/-- What has been done, with all that goes ahead of it. -/
def closedD (ops : List Oper) (D : Nat → Bool) : Prop := ∀ j, j < ops.length → D j = true → ∀ k, (maskAt ops j).testBit k = true → D k = true

structure TraceM (P : Program) (ops : List Oper) (S : Nat → Nat → TV) (Hs : (Nat → Bool) → Heap) (V : Nat → TV) : Prop where
  next : ∀ j o, ops[j]? = some o → S (j + 1) = aput (S j) o.dst (V j)
  step : ∀ i o, ops[i]? = some o → ∀ D, D i = false → closedD ops D → (∀ k, (maskAt ops i).testBit k = true → D k = true) → StepR P ops (S i) (Hs D) o (V i) (Hs (fun j => D j || j == i))

section
variable {P : Program} {ops : Array Oper} {N : Nat} {S : Nat → Nat → TV} {Hs : (Nat → Bool) → Heap} {V : Nat → TV}

theorem look_traceM (ht : TraceM P ops.toList S Hs V) (t : Tmp) : ∀ i, i ≤ ops.size → S i t = look ops.toList V (S 0 t) (fun j => decide (j < i)) t i
  | 0, _ => rfl
  | i + 1, h => by
    have ho : ops.toList[i]? = some ops[i] := by simp
    rw [ht.next i ops[i] ho]
    have ih := look_traceM ht t i (by omega)
    have e : look ops.toList V (S 0 t) (fun j => decide (j < i + 1)) t i = look ops.toList V (S 0 t) (fun j => decide (j < i)) t i :=
      look_congr i fun j hj _ => by simp; omega
    simp only [look, ho, Option.bind_some]
    rw [e, ← ih]
    cases hd : (ops[i]).dst with
    | none => simp [aput]
    | some d =>
      simp only [aput, upd]
      by_cases hdt : t = d
      · subst hdt; simp
      · rw [if_neg hdt, if_neg (by simp; exact fun e => hdt e.symm)]

/-- The state in the middle of such a region. -/
structure MidM (P : Program) (ops : Array Oper) (N : Nat) (S : Nat → Nat → TV) (Hs : (Nat → Bool) → Heap) (V : Nat → TV) (β0 : Emb) (w0 : World) (E : Array Bool) (a : Act) (w : World) (β : Emb) : Prop where
  le : Le β0 β
  sr : SR β (Hs (fun j => E.getD j false)) w
  fr : Fr β0 (Hs (fun _ => false)) w0 β (Hs (fun j => E.getD j false)) w
  size : a.tmps.size = N
  defers : a.defers = []
  val : ∀ t, TVR β (look ops.toList V (S 0 t) (fun j => E.getD j false) t ops.size) (a.tmps.getD t undef)
  esize : E.size = ops.size
  closed : ∀ j, j < ops.size → E.getD j false = true → ∀ i, (maskAt ops.toList j).testBit i = true → E.getD i false = true

theorem MidM.ready {β0 : Emb} {w0 : World} {E : Array Bool} {a : Act} {w : World} {β : Emb} (hok : orderOK ops.toList = true) (h : MidM P ops N S Hs V β0 w0 E a w β) {i : Nat}
    (hi : i ∈ Region.ready .any ops E) : i < ops.size ∧ E.getD i true = false ∧ ∀ k, (maskAt ops.toList i).testBit k = true → E.getD k false = true := by
  obtain ⟨h1, o, ho, h2⟩ := mem_ready.1 hi
  have hlt : i < ops.size := by
    rcases Nat.lt_or_ge i ops.size with h' | h'
    · exact h'
    · simp [Array.getElem?_eq_none h'] at ho
  refine ⟨hlt, h1, fun k hk => ?_⟩
  obtain ⟨e, he, hb, hor⟩ := maskAt_bit hok (j := i) (i := k) (o := o) (by simpa using ho) hk
  have hE := h2 e (by simpa using he) hb
  rcases hor with rfl | hor
  · exact hE
  · have hel : e.on < ops.size := by
      rcases Nat.lt_or_ge e.on ops.size with h' | h'
      · exact h'
      · rw [← h.esize] at h'
        simp [Array.getD_eq_getD_getElem?, Array.getElem?_eq_none h'] at hE
    exact h.closed e.on hel hE k hor

/-- What a ready operation names is what the text's order has there. -/
theorem MidM.names {β0 : Emb} {w0 : World} {E : Array Bool} {a : Act} {w : World} {β : Emb} (hok : orderOK ops.toList = true) (h : MidM P ops N S Hs V β0 w0 E a w β) {i : Nat} {o : Oper}
    (hi : i ∈ Region.ready .any ops E) (ho : ops[i]? = some o) {t : Tmp} (htn : t ∈ named ops.toList o) : ∀ j, j < ops.size → (ops.toList[j]?).bind (·.dst) = some t → (E.getD j false = true ↔ j < i) := by
  obtain ⟨hlt, he, hbits⟩ := h.ready hok hi
  have hEi : E.getD i false = false := by rw [getD_bool (by rw [h.esize]; exact hlt) false true]; exact he
  intro j hj hjd
  have hoj : ops.toList[j]? = some ops[j] := by simp [hj]
  rw [hoj] at hjd
  simp only [Option.bind_some] at hjd
  have hcl := clash_of (i := i) (j := j) (by simpa using ho) hoj htn hjd
  have hlen : ops.toList.length = ops.size := by simp
  constructor
  · intro hE
    rcases Nat.lt_trichotomy j i with h1 | h1 | h1
    · exact h1
    · subst h1; rw [hEi] at hE; cases hE
    · have := clash_bit hok h1 (by omega) hcl.1
      rw [h.closed j hj hE i this] at hEi
      cases hEi
  · intro h1
    exact hbits j (clash_bit hok h1 (by omega) hcl.2)

theorem region_anyM (ht : TraceM P ops.toList S Hs V) (hok : orderOK ops.toList = true) (hd : ∀ o ∈ ops.toList, ∀ d, o.dst = some d → d < N) {Q : Exit → Act → World → Prop} {β0 : Emb} {w0 : World}
    (hQ : ∀ β' a' w', Le β0 β' → AR β' (S ops.size) a' N → SR β' (Hs (fun j => decide (j < ops.size))) w' → Fr β0 (Hs (fun _ => false)) w0 β' (Hs (fun j => decide (j < ops.size))) w' → Q .normal a' w') :
    ∀ (fuel : Nat) (E : Array Bool) (a : Act) (w : World) (β : Emb), unl E ops.size = fuel → MidM P ops N S Hs V β0 w0 E a w β → wpAny P .any ops Q fuel E a w := by
  have hlen : ops.toList.length = ops.size := by simp
  have finish : ∀ (E : Array Bool) (a : Act) (w : World) (β : Emb), MidM P ops N S Hs V β0 w0 E a w β → (∀ j, j < ops.size → E.getD j true = true) → Q .normal a w := by
    intro E a w β h hall
    have hallf : ∀ j, j < ops.size → E.getD j false = true := fun j hj => by rw [getD_bool (by rw [h.esize]; exact hj) false true]; exact hall j hj
    have hsr := h.sr
    have hfr := h.fr
    have hD : (fun j => E.getD j false) = fun j => decide (j < ops.size) := funext fun j => by
      by_cases hj : j < ops.size
      · rw [hallf j hj, decide_eq_true hj]
      · rw [decide_eq_false hj]; simp [Array.getD_eq_getD_getElem?, Array.getElem?_eq_none (show E.size ≤ j by rw [h.esize]; omega)]
    rw [hD] at hsr hfr
    refine hQ β a w h.le ⟨h.size, fun t => ?_, h.defers⟩ hsr hfr
    rw [look_traceM ht t ops.size (Nat.le_refl _)]
    rw [look_congr (E' := fun j => E.getD j false) ops.size fun j hj _ => by simp [hj, hallf j hj]]
    exact h.val t
  have ready_nil : ∀ (E : Array Bool) (a : Act) (w : World) (β : Emb), MidM P ops N S Hs V β0 w0 E a w β → Region.ready .any ops E = [] → ∀ j, j < ops.size → E.getD j true = true := by
    intro E a w β h hnil j
    induction j using Nat.strongRecOn with
    | _ j ih =>
      intro hj
      cases hE : E.getD j true with
      | true => rfl
      | false =>
        have : j ∈ Region.ready .any ops E := by
          refine mem_ready.2 ⟨hE, ops[j], by simp [hj], fun e he hb => ?_⟩
          have hlt : e.on < j := by
            have hok' := hok
            unfold orderOK at hok'
            rw [Bool.and_eq_true] at hok'
            have := List.all_eq_true.1 hok'.1 j (List.mem_range.2 (by omega))
            rw [show ops.toList[j]? = some ops[j] by simp [hj]] at this
            have := List.all_eq_true.1 this e (by simpa using he)
            rw [hb] at this
            simpa using this
          have := ih e.on hlt (by omega)
          rw [getD_bool (by rw [h.esize]; omega) false true]
          exact this
        rw [hnil] at this
        cases this
  intro fuel
  induction fuel with
  | zero =>
    intro E a w β hu h
    have hall := unl_zero E ops.size hu
    refine ⟨?_, finish E a w β h hall⟩
    cases hr : Region.ready .any ops E with
    | nil => rfl
    | cons i r =>
      have hi : i ∈ Region.ready .any ops E := by rw [hr]; simp
      obtain ⟨h1, h2, _⟩ := h.ready hok hi
      rw [hall i h1] at h2
      cases h2
  | succ fuel ih =>
    intro E a w β hu h
    refine ⟨fun hnil => finish E a w β h (ready_nil E a w β h hnil), fun i hi => ?_⟩
    obtain ⟨hlt, he, hbits⟩ := h.ready hok hi
    have hisz : i < E.size := by rw [h.esize]; exact hlt
    have hEi : E.getD i false = false := by rw [getD_bool hisz false true]; exact he
    have ho : ops[i]? = some ops[i] := by simp [hlt]
    have hoL : ops.toList[i]? = some ops[i] := by simp [hlt]
    have hval : ∀ t ∈ named ops.toList ops[i], TVR β (S i t) (a.tmps.getD t undef) := by
      intro t htn
      rw [look_traceM ht t i (by omega), ← look_beyond i ops.size (by omega)]
      rw [look_congr (E' := fun j => E.getD j false) ops.size fun j hj hjd => by
        have := h.names hok hi ho htn j hj hjd
        cases hE : E.getD j false with
        | true => simp [this.1 hE]
        | false => simp; exact Nat.le_of_not_lt fun hlt' => by rw [this.2 hlt'] at hE; cases hE]
      exact h.val t
    have hu' : unl (E.setIfInBounds i true) ops.size = fuel := by
      have := unl_set E i hisz he ops.size
      rw [if_pos hlt] at this
      omega
    have hset : ∀ j, j ≠ i → (E.setIfInBounds i true).getD j false = E.getD j false := fun j hj => getD_set_ne' false (Ne.symm hj)
    have hseti : (E.setIfInBounds i true).getD i false = true := getD_set_same false hisz
    have hsize' : ∀ u, (a.put ops[i].dst u).tmps.size = N := fun u => by
      cases ops[i].dst <;> simp [Act.put, h.size]
    have hdef' : ∀ u, (a.put ops[i].dst u).defers = [] := fun u => by
      cases ops[i].dst <;> exact h.defers
    have hvals : ∀ (β' : Emb) (u : Value), Le β β' → TVR β' (V i) u → ∀ t, TVR β' (look ops.toList V (S 0 t) (fun j => (E.setIfInBounds i true).getD j false) t ops.size) ((a.put ops[i].dst u).tmps.getD t undef) := by
      intro β' u h1 h3
      intro t
      cases hdst : ops[i].dst with
      | none =>
        show TVR β' _ (a.tmps.getD t undef)
        rw [look_congr (E' := fun j => E.getD j false) ops.size fun j hj hjd => by
          by_cases hji : j = i
          · subst hji; rw [hoL] at hjd; simp [hdst] at hjd
          · exact hset j hji]
        exact TVR.mono h1 (h.val t)
      | some d =>
        rw [getD_put a d u t (by rw [h.size]; exact hd ops[i] (by simp) d hdst)]
        by_cases htd : t = d
        · rw [if_pos htd]
          subst htd
          have htn : t ∈ named ops.toList ops[i] := by
            unfold named
            simp [hdst]
          have e1 : look ops.toList V (S 0 t) (fun j => (E.setIfInBounds i true).getD j false) t ops.size = look ops.toList V (S 0 t) (fun j => decide (j < i + 1)) t ops.size := by
            refine look_congr ops.size fun j hj hjd => ?_
            by_cases hji : j = i
            · subst hji; rw [hseti]; simp
            · rw [hset j hji]
              have := h.names hok hi ho htn j hj hjd
              cases hE : E.getD j false with
              | true => have := this.1 hE; simp; omega
              | false =>
                simp
                have : ¬ j < i := fun hlt' => by rw [this.2 hlt'] at hE; cases hE
                omega
          rw [e1, look_beyond (i + 1) ops.size (by omega), ← look_traceM ht t (i + 1) (by omega), ht.next i ops[i] hoL, hdst]
          show TVR β' (if t = t then V i else S i t) u
          rw [if_pos rfl]
          exact h3
        · rw [if_neg htd]
          rw [look_congr (E' := fun j => E.getD j false) ops.size fun j hj hjd => by
            by_cases hji : j = i
            · subst hji; rw [hoL] at hjd; simp [hdst] at hjd; exact absurd hjd.symm htd
            · exact hset j hji]
          exact TVR.mono h1 (h.val t)
    have hclosed' : ∀ j, j < ops.size → (E.setIfInBounds i true).getD j false = true → ∀ k, (maskAt ops.toList j).testBit k = true → (E.setIfInBounds i true).getD k false = true := by
      intro j hj hEj k hk
      by_cases hki : k = i
      · subst hki; exact hseti
      · rw [hset k hki]
        by_cases hji : j = i
        · subst hji; exact hbits k hk
        · rw [hset j hji] at hEj
          exact h.closed j hj hEj k hk
    have hDn : (fun j => (E.setIfInBounds i true).getD j false) = fun j => E.getD j false || j == i := funext fun j => by
      by_cases hj : j = i
      · subst hj; rw [hseti]; simp
      · rw [hset j hj, show (j == i) = false by simpa using hj, Bool.or_false]
    have hst := ht.step i _ hoL (fun j => E.getD j false) hEi (fun j hj hD k hk => h.closed j (by simpa using hj) hD k hk) hbits
    rw [← hDn] at hst
    refine step_op hd ho hst h.sr h.size h.defers hval fun β' u w' h1 h2 h3 h4 => ?_
    exact ih _ _ _ β' hu' ⟨h.le.trans h1, h2, h.fr.trans h4, hsize' u, hdef' u, hvals β' u h1 h3, by simp [h.esize], hclosed'⟩
end

/-! ### the walk -/
/-- May the operation i come where of the changes C those have been done? -/
def mayM (ops : List Oper) (C : List Nat) (i : Nat) (m : List Bool) : Bool :=
  (C.zip m).all fun p => (!(maskAt ops i).testBit p.1 || p.2) && (!(maskAt ops p.1).testBit i || !p.2) && (!(p.1 == i) || !p.2) && (C.zip m).all fun q => !(maskAt ops p.1).testBit q.1 || !p.2 || q.2
def boolsOf : Nat → List (List Bool)
  | 0 => [[]]
  | n + 1 => (boolsOf n).map (false :: ·) ++ (boolsOf n).map (true :: ·)
def statesM (ops : List Oper) (C : List Nat) (i : Nat) : List (List Bool) := (boolsOf C.length).filter (mayM ops C i)
def nextM (C : List Nat) (i : Nat) (m : List Bool) : List Bool := (C.zip m).map fun p => p.2 || p.1 == i
theorem boolsOf_all : ∀ (m : List Bool), m ∈ boolsOf m.length
  | [] => by simp [boolsOf]
  | b :: m => by
    have := boolsOf_all m
    show b :: m ∈ (boolsOf m.length).map (false :: ·) ++ (boolsOf m.length).map (true :: ·)
    rw [List.mem_append]
    cases b
    · exact .inl (List.mem_map.2 ⟨m, this, rfl⟩)
    · exact .inr (List.mem_map.2 ⟨m, this, rfl⟩)
theorem zip_mapD (C : List Nat) (D : Nat → Bool) : C.zip (C.map D) = C.map fun k => (k, D k) := by
  induction C with
  | nil => rfl
  | cons k C ih => rw [List.map_cons, List.zip_cons_cons, ih]; rfl

/-- The walk of a region with the changes C: Hm: memory where these have been done. -/
def wopm (P : Program) (ops : List Oper) (C : List Nat) (Hm : List Bool → Heap) : List Oper → Nat → (Nat → TV) → ((Nat → TV) → Heap → Prop) → Prop
  | [], _, s, K => K s (Hm (C.map fun _ => true))
  | o :: r, i, s, K => ∃ v, ((C.contains i = false ∧ ∀ G, StepR P ops s G o v G) ∨ ∀ m ∈ statesM ops C i, StepR P ops s (Hm m) o v (Hm (nextM C i m))) ∧ wopm P ops C Hm r (i + 1) (aput s o.dst v) K

theorem wopm_mono {P : Program} {ops : List Oper} {C : List Nat} {Hm : List Bool → Heap} {K K' : (Nat → TV) → Heap → Prop} (h : ∀ s H, K s H → K' s H) : ∀ (l : List Oper) (i : Nat) (s : Nat → TV), wopm P ops C Hm l i s K → wopm P ops C Hm l i s K'
  | [], _, _, hw => h _ _ hw
  | o :: r, i, s, ⟨v, h1, h2⟩ => ⟨v, h1, wopm_mono h r _ _ h2⟩
theorem wopm_ex {P : Program} {ops : List Oper} {C : List Nat} {Hm : List Bool → Heap} {ι : Type} {K : ι → (Nat → TV) → Heap → Prop} : ∀ (l : List Oper) (i : Nat) (s : Nat → TV), wopm P ops C Hm l i s (fun s H => ∃ k, K k s H) → ∃ k, wopm P ops C Hm l i s (K k)
  | [], _, _, hw => hw
  | o :: r, i, s, ⟨v, h1, h2⟩ => by obtain ⟨k, hk⟩ := wopm_ex r _ _ h2; exact ⟨k, v, h1, hk⟩
theorem wopm_pick {P : Program} {ops : List Oper} {C : List Nat} {Hm : List Bool → Heap} {K : (Nat → TV) → Heap → Prop} (l : List Oper) (i : Nat) (s : Nat → TV) (h : wopm P ops C Hm l i s K) : ∃ s' H', K s' H' ∧ wopm P ops C Hm l i s (fun x y => x = s' ∧ y = H') := by
  have h1 : wopm P ops C Hm l i s (fun x y => ∃ p : {p : (Nat → TV) × Heap // K p.1 p.2}, x = p.1.1 ∧ y = p.1.2) := wopm_mono (fun s H hk => ⟨⟨(s, H), hk⟩, rfl, rfl⟩) l i s h
  obtain ⟨⟨p, hp⟩, h2⟩ := wopm_ex l i s h1
  exact ⟨p.1, p.2, hp, h2⟩

theorem wopm_trace {P : Program} {ops : List Oper} {C : List Nat} {Hm : List Bool → Heap} {K : (Nat → TV) → Heap → Prop} : ∀ (l : List Oper) (i : Nat) (s : Nat → TV), wopm P ops C Hm l i s K →
    ∃ (S : Nat → Nat → TV) (V : Nat → TV), S 0 = s ∧ (∀ j o, l[j]? = some o → S (j + 1) = aput (S j) o.dst (V j)) ∧
      (∀ j o, l[j]? = some o → (C.contains (i + j) = false ∧ ∀ G, StepR P ops (S j) G o (V j) G) ∨ ∀ m ∈ statesM ops C (i + j), StepR P ops (S j) (Hm m) o (V j) (Hm (nextM C (i + j) m))) ∧ K (S l.length) (Hm (C.map fun _ => true))
  | [], i, s, h => ⟨fun _ => s, fun _ => .v .und, rfl, fun j o e => by simp at e, fun j o e => by simp at e, h⟩
  | o :: r, i, s, ⟨v, h1, h2⟩ => by
    obtain ⟨S, V, g1, g2, g3, g4⟩ := wopm_trace r (i + 1) _ h2
    refine ⟨fun n => match n with | 0 => s | n + 1 => S n, fun n => match n with | 0 => v | n + 1 => V n, rfl, fun j o' e => ?_, fun j o' e => ?_, by simpa using g4⟩
    · cases j with
      | zero => simp at e; subst e; exact g1
      | succ j => exact g2 j o' (by simpa using e)
    · cases j with
      | zero => simp at e; subst e; exact h1
      | succ j =>
        have := g3 j o' (by simpa using e)
        rw [show i + 1 + j = i + (j + 1) by omega] at this
        exact this

/-- Numbers that are kept for rows to come. -/
def holes : Nat → Heap → Heap
  | 0, H => H
  | n + 1, H => (holes n H).alloc .hole
theorem SR.hole {β : Emb} {H : Heap} {w : World} (h : SR β H w) : SR β (H.alloc .hole) w := by
  have hn : ∀ i l, β i = some l → i ≠ H.n := fun i l e => Nat.ne_of_lt (h.lt e)
  refine ⟨fun i hi => h.dom i (Nat.le_of_succ_le hi), fun i hi hh => ?_, fun i l e => ?_, fun i j li lj hij ei ej ho hg => ?_⟩
  · have hi' : i < H.n + 1 := hi
    by_cases e : i = H.n
    · subst e; exact absurd (show (H.alloc .hole).f H.n = .hole by simp [Heap.alloc, upd]) hh
    · exact h.tot i (by omega) (by simpa [Heap.alloc, upd, e] using hh)
  · have := hn i l e
    rw [show (H.alloc .hole).f i = H.f i by simp [Heap.alloc, upd, this]]; exact h.row i l e
  · rw [show (H.alloc .hole).f i = H.f i by simp [Heap.alloc, upd, hn i li ei]] at ho
    rw [show (H.alloc .hole).f j = H.f j by simp [Heap.alloc, upd, hn j lj ej]] at hg
    exact h.apart i j li lj hij ei ej ho hg
theorem Owns.hole {β : Emb} {H : Heap} {b : Nat} (h : Owns β (H.alloc .hole) b) : Owns β H b := by
  obtain ⟨i, l, e, ho, hl⟩ := h
  refine ⟨i, l, e, ?_, hl⟩
  by_cases hi : i = H.n
  · subst hi; simp [Heap.alloc, upd, Blk.isOwn] at ho
  · simpa [Heap.alloc, upd, hi] using ho
theorem Fr.hole {β β' : Emb} {H H' : Heap} {w w' : World} (hs : SR β H w) (h : Fr β (H.alloc .hole) w β' H' w') : Fr β H w β' H' w' :=
  ⟨h.os, h.tape, h.output, h.size, fun b hb hn => h.block b hb fun ho => hn ho.hole, fun b hb ho => (h.owns b hb ho).hole⟩
theorem SR.holes {β : Emb} {H : Heap} {w : World} (h : SR β H w) : ∀ n, SR β (holes n H) w
  | 0 => h
  | n + 1 => (SR.holes h n).hole
theorem Fr.holes {β β' : Emb} {H H' : Heap} {w w' : World} (hs : SR β H w) : ∀ n, Fr β (holes n H) w β' H' w' → Fr β H w β' H' w'
  | 0, h => h
  | n + 1, h => Fr.holes hs n (Fr.hole (SR.holes hs n) h)

theorem anyM_sound {P : Program} {N : Nat} {C : List Nat} {Hm : List Bool → Heap} {nh : Nat} {ops : Array Oper} (hm : P.follows .mixedOrders = true) (ho : orderOK ops.toList = true) (hd : ∀ o ∈ ops.toList, ∀ t, o.dst = some t → t < N) {id : Nat} {s : Nat → TV} {H : Heap} {K : (Nat → TV) → Heap → Prop} (hC : ∀ k ∈ C, k < ops.size) (h0 : Hm (C.map fun _ => false) = holes nh H) (h : wopm P ops.toList C Hm ops.toList 0 s K)
    {β : Emb} {ac : Act} {w : World} (ha : AR β s ac N) (hs : SR β H w) {Q : Exit → Act → World → Prop} (hQ : ∀ β' s' H' a' w', K s' H' → Le β β' → AR β' s' a' N → SR β' H' w' → Fr β H w β' H' w' → Q .normal a' w') :
    (Code.region id ops true).wp P Q ac w := by
  obtain ⟨S, V, rfl, g2, g3, hK⟩ := wopm_trace _ _ _ h
  have hlen : ops.toList.length = ops.size := by simp
  have ht : TraceM P ops.toList S (fun D => Hm (C.map D)) V := ⟨g2, fun i o e D hDi hcl hmask => by
    have hnx : C.map (fun j => D j || j == i) = nextM C i (C.map D) := by rw [nextM, zip_mapD, List.map_map]; rfl
    rcases g3 i o e with ⟨hc, hall⟩ | hall
    · rw [Nat.zero_add] at hc
      have : C.map (fun j => D j || j == i) = C.map D := List.map_congr_left fun k hk => by
        have : (k == i) = false := by
          cases hki : k == i with
          | false => rfl
          | true =>
            have : k = i := by simpa using hki
            subst this
            rw [List.contains_iff_mem.2 hk] at hc; cases hc
        rw [this, Bool.or_false]
      show StepR P ops.toList (S i) (Hm (C.map D)) o (V i) (Hm (C.map fun j => D j || j == i))
      rw [this]; exact hall _
    · rw [Nat.zero_add] at hall
      show StepR P ops.toList (S i) (Hm (C.map D)) o (V i) (Hm (C.map fun j => D j || j == i))
      rw [hnx]
      refine hall _ ?_
      unfold statesM
      rw [List.mem_filter]
      have hb := boolsOf_all (C.map D)
      rw [List.length_map] at hb
      refine ⟨hb, ?_⟩
      unfold mayM
      rw [zip_mapD, List.all_eq_true]
      intro p hp
      obtain ⟨k, hk, rfl⟩ := List.mem_map.1 hp
      have hk' := hC k hk
      have k1 := hmask k
      have k2 : D k = true → (maskAt ops.toList k).testBit i = false := fun hD => by
        cases hb : (maskAt ops.toList k).testBit i with
        | false => rfl
        | true => rw [hcl k (by omega) hD i hb] at hDi; cases hDi
      have k3 : D k = true → (k == i) = false := fun hD => by
        cases hki : k == i with
        | false => rfl
        | true => rw [show k = i by simpa using hki, hDi] at hD; cases hD
      have k4 : ((C.map fun k => (k, D k)).all fun q => !(maskAt ops.toList k).testBit q.1 || !D k || q.2) = true := by
        rw [List.all_eq_true]
        intro q hq
        obtain ⟨k', hk', rfl⟩ := List.mem_map.1 hq
        have := hcl k (by omega)
        cases h1 : (maskAt ops.toList k).testBit k' <;> cases h2 : D k <;> simp_all
      rw [Bool.and_eq_true]
      refine ⟨?_, k4⟩
      clear g2 g3 hall hK hQ h hd hm ho k4
      cases h1 : (maskAt ops.toList i).testBit k <;> cases h2 : D k <;> cases h3 : (maskAt ops.toList k).testBit i <;> cases h4 : (k == i) <;> simp_all⟩
  rw [hlen] at hK
  have hfull : C.map (fun j => decide (j < ops.size)) = C.map fun _ => true := List.map_congr_left fun k hk => decide_eq_true (hC k hk)
  refine wp_region_any hm ?_
  have h0f : (fun k => (Array.replicate ops.size false).getD k false) = fun _ => false := funext fun k => by
    simp only [Array.getD_eq_getD_getElem?, Array.getElem?_replicate]; split <;> rfl
  have h0k : ∀ k, (Array.replicate ops.size false).getD k false = false := fun k => congrFun h0f k
  have := region_anyM ht ho hd (β0 := β) (w0 := w) (Q := Q) (fun β' a' w' h1 h2 h3 h4 => by
      simp only [hfull, h0] at h3 h4
      exact hQ β' _ _ a' w' hK h1 h2 h3 (Fr.holes hs nh h4)) ops.size (Array.replicate ops.size false) ac { w with drawn := w.drawn + 1 } β (unl_replicate _ _ (Nat.le_refl _))
    ⟨Le.refl β, by rw [h0f]; simp only [h0]; exact (SR.holes hs nh).draw _, by rw [h0f]; simp only [h0]; exact Fr.draw _, ha.size, ha.defers, fun t => ?_, by simp, fun j hj hE => ?_⟩
  · exact this
  · rw [look_congr (E' := fun j => decide (j < 0)) ops.size fun j hj _ => by simp [Array.getD_eq_getD_getElem?, hj]]
    rw [look_beyond 0 ops.size (Nat.zero_le _)]
    exact ha.val t
  · rw [h0k] at hE; cases hE

/-- A region, in the text's order or in any. -/
def wopa (P : Program) (d : Bool) (ops : List Oper) (s : Nat → TV) (H : Heap) (K : (Nat → TV) → Heap → Prop) : Prop :=
  wops P d ops ops 0 s H K ∨ (d = true ∧ ((∃ F, wopf P F ops ops 0 [] [] 0 s H K) ∨ ∃ C Hm nh, (∀ k ∈ C, k < ops.length) ∧ Hm (C.map fun _ => false) = holes nh H ∧ wopm P ops C Hm ops 0 s K))

end Go.Ab

namespace Go.Ab
set_option linter.unusedVariables false
set_option linter.unusedSimpArgs false

def codeOK (n : Nat) : Code → Bool
  | .region _ ops d => (ops.toList.all fun o => o.dst.all fun t => decide (t < n)) && (!d || orderOK ops.toList)
  | .seq a b => codeOK n a && codeOK n b
  | .cond _ a b => codeOK n a && codeOK n b
  | .block _ c => codeOK n c
  | .loop c => codeOK n c
  | _ => true

def itemOK (n : Nat) : Item → Bool
  | .code c => codeOK n c
  | .inLoop c => codeOK n c
  | _ => true

/-- The run from a list of what is to do, in k steps: R holds at the return. -/
def fin (P : Program) : Nat → List Item → (Nat → TV) → Heap → ((Nat → TV) → Heap → Prop) → Prop
  | 0, _, _, _, _ => False
  | k + 1, todo, s, H, R =>
    match todo with
    | [] => R s H
    | .code c :: t =>
      match c with
      | .skip => fin P k t s H R
      | .label _ => fin P k t s H R
      | .seq a b => fin P k (.code a :: .code b :: t) s H R
      | .cond c a b =>
        match aeval s c with
        | .v (.bool x) => if x = true then fin P k (.code a :: t) s H R else fin P k (.code b :: t) s H R
        | _ => False
      | .block id c => fin P k (.code c :: .inBlock id :: t) s H R
      | .loop c => fin P k (.code c :: .inLoop c :: t) s H R
      | .exit id =>
        match exitTo id t with
        | some t' => fin P k t' s H R
        | none => False
      | .ret => R s H
      | .region _ ops d => wopa P d ops.toList s H fun s' H' => fin P k t s' H' R
      | _ => False
    | .inBlock _ :: t => fin P k t s H R
    | .inLoop c :: t => fin P k (.code c :: .inLoop c :: t) s H R
    | _ => False

def Fin (P : Program) (todo : List Item) (s : Nat → TV) (H : Heap) (R : (Nat → TV) → Heap → Prop) : Prop := ∃ k, fin P k todo s H R

theorem exitTo_all {n id : Nat} : ∀ {t t' : List Item}, exitTo id t = some t' → t.all (itemOK n) = true → t'.all (itemOK n) = true
  | [], t', h, _ => by simp [exitTo] at h
  | x :: t, t', h, hok => by
    simp only [List.all_cons, Bool.and_eq_true] at hok
    cases x <;> simp only [exitTo] at h <;> first
      | exact exitTo_all h hok.2
      | (split at h
         · cases h; exact hok.2
         · exact exitTo_all h hok.2)

section
variable {P : Program} {N : Nat}

theorem region_sound {id : Nat} {ops : Array Oper} {d : Bool} (hm : P.follows .mixedOrders = true) (hok : codeOK N (.region id ops d) = true) {s : Nat → TV} {H : Heap} {K : (Nat → TV) → Heap → Prop} (h : wopa P d ops.toList s H K)
    {β : Emb} {a : Act} {w : World} (ha : AR β s a N) (hs : SR β H w) {Q : Exit → Act → World → Prop} (hQ : ∀ β' s' H' a' w', K s' H' → Le β β' → AR β' s' a' N → SR β' H' w' → Fr β H w β' H' w' → Q .normal a' w') :
    (Code.region id ops d).wp P Q a w := by
  simp only [codeOK, Bool.and_eq_true] at hok
  have hd : ∀ o ∈ ops.toList, ∀ t, o.dst = some t → t < N := by
    intro o ho t ht
    have := List.all_eq_true.1 hok.1 o ho
    rw [ht] at this
    simpa using this
  rcases h with h | ⟨rfl, ⟨F, h⟩ | ⟨C, Hm, nh, hC, hH, h⟩⟩
  case inr.inl => exact anyF_sound (id := id) hm (by simpa using hok.2) hd h ha hs hQ
  case inr.inr => exact anyM_sound (id := id) hm (by simpa using hok.2) hd (by simpa using hC) hH h ha hs hQ
  obtain ⟨S, Hs, V, rfl, rfl, ht, hK⟩ := wops_trace _ _ _ _ h
  rw [show ops.toList.length = ops.size by simp] at hK
  cases d with
  | false =>
    refine wp_region ?_
    rw [List.range_eq_range']
    exact region_seq ht hd (β0 := β) (w0 := w) (fun β' a' w' h1 h2 h3 h4 => hQ β' _ _ a' w' hK h1 h2 h3 h4) ops.size 0 β a w (by omega) (Le.refl β) ha hs (Fr.refl β _ w)
  | true =>
    refine wp_region_any hm ?_
    have ho : orderOK ops.toList = true := by simpa using hok.2
    have := region_any ht ho hd (β0 := β) (w0 := w) (Q := Q) (fun β' a' w' h1 h2 h3 h4 => hQ β' _ _ a' w' hK h1 h2 h3 h4) ops.size (Array.replicate ops.size false) a { w with drawn := w.drawn + 1 } β 0 (unl_replicate _ _ (Nat.le_refl _))
      ⟨Le.refl β, hs.draw _, Fr.draw _, ha.size, ha.defers, fun t => ?_, by simp, Nat.zero_le _, fun j hj _ => ?_, fun j hj hE => ?_⟩
    · exact this
    · rw [look_congr (E' := fun j => decide (j < 0)) ops.size fun j hj _ => by simp [Array.getD_eq_getD_getElem?, hj]]
      rw [look_beyond 0 ops.size (Nat.zero_le _)]
      exact ha.val t
    · simp [Array.getD_eq_getD_getElem?, hj]
    · simp [Array.getD_eq_getD_getElem?, hj] at hE

theorem fin_sound (hm : P.follows .mixedOrders = true) : ∀ (k : Nat) (todo : List Item) (s : Nat → TV) (H : Heap) (R : (Nat → TV) → Heap → Prop), fin P k todo s H R → todo.all (itemOK N) = true →
    ∀ (β : Emb) (a : Act) (w : World) (b : Frame) (cs : List Frame), AR β s a N → SR β H w →
    ∃ β' s' H' a' w' todo', R s' H' ∧ Le β β' ∧ AR β' s' a' N ∧ SR β' H' w' ∧ Fr β H w β' H' w' ∧ Steps P (lone (b.at a todo) cs w) (lone { b.at a' todo' with mode := .returning } cs w') := by
  intro k
  induction k with
  | zero => intro todo s H R h; exact h.elim
  | succ k ih =>
    intro todo s H R h hok β a w b cs ha hs
    have go : ∀ (todo' : List Item), fin P k todo' s H R → todo'.all (itemOK N) = true → step P (lone (b.at a todo) cs w) = .next (lone (b.at a todo') cs w) →
        ∃ β' s' H' a' w' todo', R s' H' ∧ Le β β' ∧ AR β' s' a' N ∧ SR β' H' w' ∧ Fr β H w β' H' w' ∧ Steps P (lone (b.at a todo) cs w) (lone { b.at a' todo' with mode := .returning } cs w') := by
      intro todo' h' hok' hst
      obtain ⟨β', s', H', a', w', t', h1, h2, h3, h4, h5, h6⟩ := ih todo' s H R h' hok' β a w b cs ha hs
      exact ⟨β', s', H', a', w', t', h1, h2, h3, h4, h5, .head hst h6⟩
    unfold fin at h
    split at h
    · exact ⟨β, s, H, a, w, [], h, Le.refl β, ha, hs, Fr.refl β H w, .one step_end⟩
    · rename_i c t
      simp only [List.all_cons, Bool.and_eq_true] at hok
      obtain ⟨hokc, hokt⟩ := hok
      split at h
      · exact go _ h hokt step_skip
      · exact go _ h hokt step_label
      · rename_i x y
        simp only [itemOK, codeOK, Bool.and_eq_true] at hokc
        exact go _ h (by simp [itemOK, hokc.1, hokc.2, hokt]) step_seq
      · rename_i cnd x y
        simp only [itemOK, codeOK, Bool.and_eq_true] at hokc
        split at h
        · rename_i t' hc
          have hcv := ha.eval cnd
          rw [hc] at hcv
          have hcv' : a.eval cnd = .bool t' := hcv
          cases t' with
          | true =>
            rw [if_pos rfl] at h
            exact go _ h (by simp [itemOK, hokc.1, hokt]) (by simpa using step_cond (P := P) (b := b) (k := t) (cs := cs) (w := w) (x := x) (y := y) hcv')
          | false =>
            rw [if_neg (by simp)] at h
            exact go _ h (by simp [itemOK, hokc.2, hokt]) (by simpa using step_cond (P := P) (b := b) (k := t) (cs := cs) (w := w) (x := x) (y := y) hcv')
        · exact h.elim
      · simp only [itemOK, codeOK] at hokc
        exact go _ h (by simp [itemOK, hokc, hokt]) step_block
      · simp only [itemOK, codeOK] at hokc
        exact go _ h (by simp [itemOK, hokc, hokt]) step_loop
      · split at h
        · rename_i t' ht
          exact go _ h (exitTo_all ht hokt) (step_exit ht)
        · exact h.elim
      · exact ⟨β, s, H, a, w, _, h, Le.refl β, ha, hs, Fr.refl β H w, .one step_ret⟩
      · rename_i id ops d
        have hwp := region_sound (id := id) hm (by simpa [itemOK] using hokc) h ha hs (Q := fun e a' w' => e = .normal ∧ ∃ β' s' H', fin P k t s' H' R ∧ Le β β' ∧ AR β' s' a' N ∧ SR β' H' w' ∧ Fr β H w β' H' w')
          (fun β' s' H' a' w' h1 h2 h3 h4 h5 => ⟨rfl, β', s', H', h1, h2, h3, h4, h5⟩)
        obtain ⟨e, a', w', ⟨rfl, β', s', H', h1, h2, h3, h4, h5⟩, harr⟩ := hwp b t cs
        obtain ⟨β2, s2, H2, a2, w2, t2, g1, g2, g3, g4, g5, g6⟩ := ih t s' H' R h1 hokt β' a' w' b cs h3 h4
        exact ⟨β2, s2, H2, a2, w2, t2, g1, h2.trans g2, g3, g4, h5.trans g5, Steps.trans harr g6⟩
      · exact h.elim
    · simp only [List.all_cons, Bool.and_eq_true] at hok
      exact go _ h hok.2 step_inBlock
    · rename_i c t
      simp only [List.all_cons, Bool.and_eq_true] at hok
      have hokc : codeOK N c = true := by simpa [itemOK] using hok.1
      exact go _ h (by simp [itemOK, hokc, hok.2]) step_inLoop
    · exact h.elim
end

/-! ### the end of a function -/
def AV.refs : AV → List Nat
  | .ptr id _ => [id]
  | .sl id _ _ _ => [id]
  | .mref id => [id]
  | .fn _ caps => caps.map (·.1)
  | _ => []

def AV.ren (ρ : Nat → Nat) : AV → AV
  | .ptr id off => .ptr (ρ id) off
  | .sl id off len esz => .sl (ρ id) off len esz
  | .mref id => .mref (ρ id)
  | .fn f caps => .fn f (caps.map fun p => (ρ p.1, p.2))
  | x => x

def TV0.refs : TV0 → List Nat
  | .v x => x.refs
  | .g cs => cs.flatMap AV.refs

def TV0.ren (ρ : Nat → Nat) : TV0 → TV0
  | .v x => .v (x.ren ρ)
  | .g cs => .g (cs.map (AV.ren ρ))

def TV.refs : TV → List Nat
  | .v x => x.refs
  | .g cs => cs.flatMap AV.refs
  | .t vs => vs.flatMap TV0.refs

def TV.ren (ρ : Nat → Nat) : TV → TV
  | .v x => .v (x.ren ρ)
  | .g cs => .g (cs.map (AV.ren ρ))
  | .t vs => .t (vs.map (TV0.ren ρ))

def Blk.ren (ρ : Nat → Nat) : Blk → Blk
  | .ro cs => .ro (cs.map (AV.ren ρ))
  | .own cs => .own (cs.map (AV.ren ρ))
  | .gone => .gone
  | .tab b o => .tab b o
  | .hole => .hole
  | .mp kk ek m => .mp kk ek m

def Blk.refs (b : Blk) : List Nat := b.cs.flatMap AV.refs

theorem VR.ren {β γ : Emb} {ρ : Nat → Nat} : ∀ {x : AV} {u : Value}, VR β (x.ren ρ) u → (∀ id ∈ x.refs, γ id = β (ρ id)) → VR γ x u
  | .bad, _, _, _ => trivial
  | .und, _, h, _ => h
  | .bool _, _, h, _ => h
  | .int _ _, _, h, _ => h
  | .flt _ _, _, h, _ => h
  | .str _, _, h, _ => h
  | .nilptr, _, h, _ => h
  | .ifc _, _, h, _ => h
  | .mref id, _, ⟨l, h1, h2⟩, k => ⟨l, (k id (by simp [AV.refs])).trans h1, h2⟩
  | .ptr id off, _, ⟨l, h1, h2⟩, k => ⟨l, (k id (by simp [AV.refs])).trans h1, h2⟩
  | .nilsl, _, h, _ => h
  | .sl id off len esz, _, ⟨l, a, c, h1, h2⟩, k => ⟨l, a, c, (k id (by simp [AV.refs])).trans h1, h2⟩
  | .fn f caps, u, ⟨us, h1, h2⟩, k => by
    refine ⟨us, h1, ?_⟩
    clear h1
    induction caps generalizing us with
    | nil => cases us <;> simp_all [All2]
    | cons c caps ih =>
      cases us with
      | nil => exact h2.elim
      | cons u us =>
        obtain ⟨⟨l, e1, e2⟩, h2⟩ := h2
        exact ⟨⟨l, (k c.1 (by simp [AV.refs])).trans e1, e2⟩, ih us h2 fun id hid => k id (by simp [AV.refs] at hid ⊢; exact .inr hid)⟩

theorem VR_refs {β : Emb} : ∀ {x : AV} {u : Value}, VR β x u → ∀ id ∈ x.refs, ∃ l, β id = some l
  | .ptr id off, _, ⟨l, h1, _⟩, i, hi => by simp [AV.refs] at hi; subst hi; exact ⟨l, h1⟩
  | .mref id, _, ⟨l, h1, _⟩, i, hi => by simp [AV.refs] at hi; subst hi; exact ⟨l, h1⟩
  | .sl id off len esz, _, ⟨l, _, _, h1, _⟩, i, hi => by simp [AV.refs] at hi; subst hi; exact ⟨l, h1⟩
  | .fn f caps, u, ⟨us, h1, h2⟩, i, hi => by
    clear h1
    simp only [AV.refs] at hi
    induction caps generalizing us with
    | nil => simp at hi
    | cons c caps ih =>
      cases us with
      | nil => exact h2.elim
      | cons u us =>
        obtain ⟨⟨l, e1, e2⟩, h2⟩ := h2
        simp at hi
        rcases hi with rfl | hi
        · exact ⟨l, e1⟩
        · exact ih us h2 (by simpa using hi)
  | .bad, _, _, i, hi => by simp [AV.refs] at hi
  | .und, _, _, i, hi => by simp [AV.refs] at hi
  | .bool _, _, _, i, hi => by simp [AV.refs] at hi
  | .int _ _, _, _, i, hi => by simp [AV.refs] at hi
  | .flt _ _, _, _, i, hi => by simp [AV.refs] at hi
  | .str _, _, _, i, hi => by simp [AV.refs] at hi
  | .nilptr, _, _, i, hi => by simp [AV.refs] at hi
  | .ifc _, _, _, i, hi => by simp [AV.refs] at hi
  | .nilsl, _, _, i, hi => by simp [AV.refs] at hi

theorem All2.ren {β γ : Emb} {ρ : Nat → Nat} : ∀ {cs : List AV} {us : List Value}, All2 (VR β) (cs.map (AV.ren ρ)) us → (∀ id ∈ cs.flatMap AV.refs, γ id = β (ρ id)) → All2 (VR γ) cs us
  | [], [], _, _ => trivial
  | c :: cs, u :: us, h, k => ⟨VR.ren h.1 fun id hid => k id (by simp [hid]), All2.ren h.2 fun id hid => k id (by simp at hid ⊢; exact .inr hid)⟩
  | [], _ :: _, h, _ => h.elim
  | _ :: _, [], h, _ => h.elim

theorem TV0R.ren {β γ : Emb} {ρ : Nat → Nat} {x : TV0} {u : Value} (h : TV0R β (x.ren ρ) u) (k : ∀ id ∈ x.refs, γ id = β (ρ id)) : TV0R γ x u := by
  cases x with
  | v x => exact VR.ren h k
  | g cs => obtain ⟨us, h1, h2⟩ := h; exact ⟨us, h1, h2.ren k⟩

theorem All2.ren0 {β γ : Emb} {ρ : Nat → Nat} : ∀ {cs : List TV0} {us : List Value}, All2 (TV0R β) (cs.map (TV0.ren ρ)) us → (∀ id ∈ cs.flatMap TV0.refs, γ id = β (ρ id)) → All2 (TV0R γ) cs us
  | [], [], _, _ => trivial
  | c :: cs, u :: us, h, k => ⟨TV0R.ren h.1 fun id hid => k id (by simp [hid]), All2.ren0 h.2 fun id hid => k id (by simp at hid ⊢; exact .inr hid)⟩
  | [], _ :: _, h, _ => h.elim
  | _ :: _, [], h, _ => h.elim

theorem TVR.ren {β γ : Emb} {ρ : Nat → Nat} {x : TV} {u : Value} (h : TVR β (x.ren ρ) u) (k : ∀ id ∈ x.refs, γ id = β (ρ id)) : TVR γ x u := by
  cases x with
  | v x => exact VR.ren h k
  | g cs => obtain ⟨us, h1, h2⟩ := h; exact ⟨us, h1, h2.ren k⟩
  | t vs =>
    obtain ⟨us, h1, h2⟩ := h
    exact ⟨us, h1, All2.ren0 h2 k⟩

/-- The values at a function's begin. -/
def init (args : List TV) : Nat → TV := fun t => args.getD t (.v .und)

def resultOf (P : Program) (fn : Func) (s : Nat → TV) (H : Heap) : Option TV := (aresults P s H fn.results.toList).bind packTV

def resOne (tmps : Array Value) : ResultVar → Sem Value
  | .tmp t => pure (tmps.getD t undef)
  | .cell x t => do loadVar t (← asAddr (tmps.getD x undef))

theorem results_run {P : Program} {N : Nat} {β : Emb} {a : Act} {s : Nat → TV} {H : Heap} {w : World} (ha : AR β s a N) (hs : SR β H w) : ∀ (rs : List ResultVar) (vs : List TV), aresults P s H rs = some vs →
    ∃ us : List Value, All2 (TVR β) vs us ∧ (rs.mapM (resOne a.tmps)).run P w = .ok us w
  | [], vs, h => by simp [aresults] at h; subst h; exact ⟨[], trivial, by simp⟩
  | .tmp t :: rs, vs, h => by
    simp only [aresults] at h
    cases hr : aresults P s H rs with
    | none => rw [hr] at h; cases h
    | some vr =>
      rw [hr] at h
      cases h
      obtain ⟨us, h1, h2⟩ := results_run ha hs rs vr hr
      exact ⟨a.tmps.getD t undef :: us, ⟨ha.val t, h1⟩, by simp [resOne, h2]⟩
  | .cell x t :: rs, vs, h => by
    simp only [aresults] at h
    split at h
    · rename_i id off hx
      have hxv := ha.val x
      rw [hx] at hxv
      obtain ⟨l, hl, hp⟩ := hxv
      split at h
      · rename_i hg
        split at h
        · rename_i c hc
          cases hr : aresults P s H rs with
          | none => rw [hr] at h; cases h
          | some vr =>
            rw [hr] at h
            cases h
            obtain ⟨us, h1, h2⟩ := results_run ha hs rs vr hr
            cases hn : tsz P t with
            | none => rw [hn] at hc; cases hc
            | some n =>
              rw [hn] at hc
              simp only [Option.bind_some] at hc
              obtain ⟨cu, k1, k2, k3⟩ := cells_of hs hl hc
              have hload := run_loadCells (P := P) l.blk (l.base + off) cu k3
              rw [k1] at hload
              exact ⟨.agg cu.toArray :: us, ⟨⟨cu, rfl, k2.vr⟩, h1⟩, by simp [resOne, hp, ptrV, asAddr, loadVar, run_tagg hg, run_tsz hn, hload, h2]⟩
        · cases h
      · rename_i hg
        split at h
        · rename_i c hc
          cases hr : aresults P s H rs with
          | none => rw [hr] at h; cases h
          | some vr =>
            rw [hr] at h
            cases h
            obtain ⟨us, h1, h2⟩ := results_run ha hs rs vr hr
            obtain ⟨u, k1, k2⟩ := cell_of hs hl hc
            exact ⟨u :: us, ⟨k2.1, h1⟩, by simp [resOne, hp, ptrV, asAddr, loadVar, run_tagg hg, k1, h2]⟩
        · cases h
      · cases h
    · cases h

theorem downAll_r {β : Emb} : ∀ {vs : List TV} {us : List Value} {ds : List TV0}, All2 (TVR β) vs us → downAll vs = some ds → All2 (TV0R β) ds us
  | [], [], ds, _, h => by simp [downAll] at h; subst h; trivial
  | v :: vs, u :: us, ds, h, hd => by
    simp only [downAll] at hd
    split at hd
    · rename_i y ys hy hys
      cases hd
      refine ⟨?_, downAll_r h.2 hys⟩
      cases v <;> simp [TV.down] at hy <;> subst hy <;> exact h.1
    · cases hd
  | [], _ :: _, _, h, _ => h.elim
  | _ :: _, [], _, h, _ => h.elim

theorem resultOf_run {P : Program} {fn : Func} {N : Nat} {β : Emb} {a : Act} {s : Nat → TV} {H : Heap} {w : World} {r : TV} (ha : AR β s a N) (hs : SR β H w) (h : resultOf P fn s H = some r) :
    ∃ rv, (results fn a.tmps).run P w = .ok rv w ∧ TVR β r rv := by
  unfold resultOf at h
  cases hv : aresults P s H fn.results.toList with
  | none => rw [hv] at h; cases h
  | some vs =>
    rw [hv] at h
    simp only [Option.bind_some] at h
    obtain ⟨us, h1, h2⟩ := results_run (P := P) ha hs _ _ hv
    have hm : (fn.results.mapM (resOne a.tmps)).run P w = .ok us.toArray w := by
      rw [Array.mapM_eq_mapM_toList]
      rw [Sem.run_map, h2]
      rfl
    have hres : results fn a.tmps = (do
        let vs ← fn.results.mapM (resOne a.tmps)
        pure (if h : vs.size = 1 then vs[0] else .tuple vs)) := by
      unfold results
      congr 1
    rw [hres, Sem.run_bind, hm]
    simp only [Result.andThen_ok, Sem.run_pure]
    unfold packTV at h
    split at h
    · rename_i x
      cases h
      match us, h1 with
      | [u], h1 => exact ⟨u, by simp, h1.1⟩
    · rename_i hne
      cases hd : downAll vs with
      | none => rw [hd] at h; cases h
      | some ds =>
        rw [hd] at h
        cases h
        have hlen : us.length ≠ 1 := by
          intro hl
          rw [← h1.len] at hl
          match vs, hl with
          | [x], _ => exact hne x rfl
        exact ⟨.tuple us.toArray, by simp [hlen], us, rfl, downAll_r h1 hd⟩

end Go.Ab

namespace Go.Ab
set_option linter.unusedVariables false
set_option linter.unusedSimpArgs false

/-! ### regions: what follows is kept behind a name -/
theorem wop_mono {P : Program} {ev : Operand → TV} {op : Op} {H : Heap} {K K' : TV → Heap → Prop} (h : ∀ v H', K v H' → K' v H') (hw : wop P ev op H K) : wop P ev op H K' := by
  unfold wop at *
  split at hw
  · split at hw
    · obtain ⟨r, H2, h1, h2⟩ := hw; exact ⟨r, H2, h1, h _ _ h2⟩
    · exact hw
  · split at hw
    · exact h _ _ hw
    · exact hw

theorem wops_mono {P : Program} {q : Bool} {ops : List Oper} {K K' : (Nat → TV) → Heap → Prop} (h : ∀ s H, K s H → K' s H) : ∀ (l : List Oper) (i : Nat) (s : Nat → TV) (H : Heap), wops P q ops l i s H K → wops P q ops l i s H K'
  | [], i, s, H, hw => h _ _ hw
  | o :: r, i, s, H, hw => by
    rw [wops] at hw ⊢
    split at hw
    · exact wop_mono (fun v H' h1 => ⟨h1.1, wops_mono h r _ _ _ h1.2⟩) hw
    · split at hw
      · split at hw
        · rename_i hy; rw [if_pos hy]; exact wop_mono (fun v H' h1 => ⟨h1.1, wops_mono h r _ _ _ h1.2⟩) hw
        · rename_i hy; rw [if_neg hy]; exact wops_mono h r _ _ _ hw
      · exact hw

theorem wop_ex {P : Program} {ev : Operand → TV} {op : Op} {H : Heap} {K : Nat → TV → Heap → Prop} (hw : wop P ev op H fun v H' => ∃ k, K k v H') : ∃ k, wop P ev op H (K k) := by
  unfold wop at *
  split at hw
  · split at hw
    · obtain ⟨r, H2, h1, k, h2⟩ := hw; exact ⟨k, r, H2, h1, h2⟩
    · exact ⟨0, hw⟩
  · split at hw
    · obtain ⟨k, h⟩ := hw; exact ⟨k, h⟩
    · exact ⟨0, hw⟩

theorem wops_ex {P : Program} {q : Bool} {ops : List Oper} {K : Nat → (Nat → TV) → Heap → Prop} : ∀ (l : List Oper) (i : Nat) (s : Nat → TV) (H : Heap), (wops P q ops l i s H fun s H => ∃ k, K k s H) → ∃ k, wops P q ops l i s H (K k)
  | [], i, s, H, hw => hw
  | o :: r, i, s, H, hw => by
    have go : wop P (aeval s) o.op H (fun v H' => (q = true → H' = H ∨ barrier ops i = true) ∧ wops P q ops r (i + 1) (aput s o.dst v) H' fun s H => ∃ k, K k s H) →
        ∃ k, wop P (aeval s) o.op H (fun v H' => (q = true → H' = H ∨ barrier ops i = true) ∧ wops P q ops r (i + 1) (aput s o.dst v) H' (K k)) := fun h => by
      refine wop_ex (wop_mono (fun v H' h1 => ?_) h)
      obtain ⟨k, hk⟩ := wops_ex r _ _ _ h1.2
      exact ⟨k, h1.1, hk⟩
    rw [wops] at hw
    split at hw
    · rename_i hg
      obtain ⟨k, hk⟩ := go hw
      refine ⟨k, ?_⟩
      rw [wops, hg]
      exact hk
    · rename_i j want hg
      split at hw
      · rename_i y hy
        split at hw
        · rename_i hyw
          obtain ⟨k, hk⟩ := go hw
          refine ⟨k, ?_⟩
          rw [wops, hg]
          simp only [hy, if_pos hyw]
          exact hk
        · rename_i hyw
          obtain ⟨k, hk⟩ := wops_ex r _ _ _ hw
          refine ⟨k, ?_⟩
          rw [wops, hg]
          simp only [hy, if_neg hyw]
          exact hk
      · exact hw.elim

section
variable {P : Program} {t : List Item} {s : Nat → TV} {H : Heap} {R : (Nat → TV) → Heap → Prop}

theorem Fin_step {todo todo' : List Item} (h : ∀ k, fin P (k + 1) todo s H R = fin P k todo' s H R) : Fin P todo s H R = Fin P todo' s H R := by
  apply propext
  constructor
  · rintro ⟨k, hk⟩
    cases k with
    | zero => exact hk.elim
    | succ k => rw [h] at hk; exact ⟨k, hk⟩
  · rintro ⟨k, hk⟩
    exact ⟨k + 1, by rw [h]; exact hk⟩

theorem Fin_end {todo : List Item} (h : ∀ k, fin P (k + 1) todo s H R = R s H) : Fin P todo s H R = R s H := by
  apply propext
  constructor
  · rintro ⟨k, hk⟩
    cases k with
    | zero => exact hk.elim
    | succ k => rw [h] at hk; exact hk
  · intro hk
    exact ⟨1, by rw [h]; exact hk⟩

theorem Fin_nil : Fin P [] s H R = R s H := Fin_end fun _ => rfl
theorem Fin_ret : Fin P (.code .ret :: t) s H R = R s H := Fin_end fun _ => rfl
theorem Fin_skip : Fin P (.code .skip :: t) s H R = Fin P t s H R := Fin_step fun _ => rfl
theorem Fin_seq {a b : Code} : Fin P (.code (.seq a b) :: t) s H R = Fin P (.code a :: .code b :: t) s H R := Fin_step fun _ => rfl
theorem Fin_block {id : Nat} {c : Code} : Fin P (.code (.block id c) :: t) s H R = Fin P (.code c :: .inBlock id :: t) s H R := Fin_step fun _ => rfl
theorem Fin_loop {c : Code} : Fin P (.code (.loop c) :: t) s H R = Fin P (.inLoop c :: t) s H R := (Fin_step fun _ => rfl).trans (Fin_step (todo' := .code c :: .inLoop c :: t) fun _ => rfl).symm
theorem Fin_inLoop {c : Code} : Fin P (.inLoop c :: t) s H R = Fin P (.code c :: .inLoop c :: t) s H R := Fin_step fun _ => rfl
theorem Fin_inBlock {id : Nat} : Fin P (.inBlock id :: t) s H R = Fin P t s H R := Fin_step fun _ => rfl

/-- Behind an exit. -/
def exitC (P : Program) (s : Nat → TV) (H : Heap) (R : (Nat → TV) → Heap → Prop) : Option (List Item) → Prop
  | some t => Fin P t s H R
  | none => False
theorem Fin_exit {id : Nat} : Fin P (.code (.exit id) :: t) s H R = exitC P s H R (exitTo id t) := by
  cases h : exitTo id t with
  | some t' => exact Fin_step fun k => by simp only [fin, h]
  | none =>
    apply propext
    constructor
    · rintro ⟨k, hk⟩
      cases k with
      | zero => exact hk.elim
      | succ k => simp only [fin, h] at hk
    · exact fun h => h.elim
/-- At a test. -/
def condC (P : Program) (t : List Item) (s : Nat → TV) (H : Heap) (R : (Nat → TV) → Heap → Prop) (a b : Code) : TV → Prop
  | .v (.bool x) => if x = true then Fin P (.code a :: t) s H R else Fin P (.code b :: t) s H R
  | _ => False
theorem Fin_cond {c : Operand} {a b : Code} : Fin P (.code (.cond c a b) :: t) s H R = condC P t s H R a b (aeval s c) := by
  cases h : aeval s c with
  | v x =>
    cases x <;> first
      | (apply propext
         constructor
         · rintro ⟨k, hk⟩
           cases k with
           | zero => exact hk.elim
           | succ k => simp only [fin, h] at hk
         · exact fun h => h.elim)
      | skip
    rename_i x
    cases x with
    | true => exact (Fin_step (todo' := .code a :: t) fun k => by simp only [fin, h, if_true]).trans (by simp [condC])
    | false => exact (Fin_step (todo' := .code b :: t) fun k => by simp only [fin, h, Bool.false_eq_true, if_false]).trans (by simp [condC])
  | g cs =>
    apply propext
    constructor
    · rintro ⟨k, hk⟩
      cases k with
      | zero => exact hk.elim
      | succ k => simp only [fin, h] at hk
    · exact fun h => h.elim
  | t vs =>
    apply propext
    constructor
    · rintro ⟨k, hk⟩
      cases k with
      | zero => exact hk.elim
      | succ k => simp only [fin, h] at hk
    · exact fun h => h.elim
theorem condC_true {a b : Code} : condC P t s H R a b (.v (.bool true)) = Fin P (.code a :: t) s H R := by simp [condC]
theorem condC_false {a b : Code} : condC P t s H R a b (.v (.bool false)) = Fin P (.code b :: t) s H R := by simp [condC]
/-- What is still to do, behind a name. -/
def FinK (P : Program) (t : List Item) (R : (Nat → TV) → Heap → Prop) : (Nat → TV) → Heap → Prop := fun s H => Fin P t s H R
theorem Fin_region {id : Nat} {ops : List Oper} {d : Bool} : Fin P (.code (.region id ops.toArray d) :: t) s H R = wopa P d ops s H (FinK P t R) := by
  apply propext
  constructor
  · rintro ⟨k, hk⟩
    cases k with
    | zero => exact hk.elim
    | succ k =>
      have : wopa P d ops s H fun s' H' => fin P k t s' H' R := hk
      rcases this with this | ⟨hd, ⟨F, this⟩ | ⟨C, Hm, nh, hC, hH, this⟩⟩
      · exact .inl (wops_mono (fun s H h => ⟨k, h⟩) _ _ _ _ this)
      · exact .inr ⟨hd, .inl ⟨F, wopf_mono (fun s H h => ⟨k, h⟩) _ _ _ _ _ _ _ this⟩⟩
      · exact .inr ⟨hd, .inr ⟨C, Hm, nh, hC, hH, wopm_mono (fun s H h => ⟨k, h⟩) _ _ _ this⟩⟩
  · intro h
    rcases h with h | ⟨hd, ⟨F, h⟩ | ⟨C, Hm, nh, hC, hH, h⟩⟩
    · obtain ⟨k, hk⟩ := wops_ex (K := fun k s' H' => fin P k t s' H' R) _ _ _ _ h
      exact ⟨k + 1, .inl hk⟩
    · obtain ⟨k, hk⟩ := wopf_ex (K := fun k s' H' => fin P k t s' H' R) _ _ _ _ _ _ _ h
      exact ⟨k + 1, .inr ⟨hd, .inl ⟨F, hk⟩⟩⟩
    · obtain ⟨k, hk⟩ := wopm_ex (K := fun k s' H' => fin P k t s' H' R) _ _ _ h
      exact ⟨k + 1, .inr ⟨hd, .inr ⟨C, Hm, nh, hC, hH, hk⟩⟩⟩
end

section
variable {P : Program} {q : Bool} {ops r : List Oper} {i : Nat} {s : Nat → TV} {H : Heap} {K : (Nat → TV) → Heap → Prop} {dst : Option Tmp}

/-- Behind an operation that yields so. -/
def stepTo (P : Program) (q : Bool) (ops r : List Oper) (i : Nat) (s : Nat → TV) (dst : Option Tmp) (H : Heap) (K : (Nat → TV) → Heap → Prop) : Option (TV × Heap) → Prop
  | some (v, H') => (q = true → H' = H ∨ barrier ops i = true) ∧ wops P q ops r (i + 1) (aput s dst v) H' K
  | none => False

/-- At a call. -/
def callG (P : Program) (q : Bool) (ops r : List Oper) (i : Nat) (s : Nat → TV) (dst : Option Tmp) (H : Heap) (K : (Nat → TV) → Heap → Prop) (args : List TV) : TV → Prop
  | .v (.fn g caps) => ∃ v H', Ok P g (args ++ caps.map fun p => TV.v (.ptr p.1 p.2)) H v H' ∧ stepTo P q ops r i s dst H K (some (v, H'))
  | _ => False

theorem wop_plain {op : Op} (h : callOf op = none) : wop P (aeval s) op H (fun v H' => (q = true → H' = H ∨ barrier ops i = true) ∧ wops P q ops r (i + 1) (aput s dst v) H' K) = stepTo P q ops r i s dst H K (astep P (aeval s) op H) := by
  unfold wop
  rw [h]
  cases astep P (aeval s) op H with
  | none => rfl
  | some x => rfl

theorem wops_op {op : Op} {ty : TypeId} {pos : String} {after : Array Edge} (h : callOf op = none) : wops P q ops ({ dst, op, type := ty, pos, after, guard := none } :: r) i s H K = stepTo P q ops r i s dst H K (astep P (aeval s) op H) := by
  rw [wops]
  exact wop_plain h

theorem wops_call {f : Operand} {as : List Operand} {tys : Array TypeId} {ty : TypeId} {pos : String} {after : Array Edge} :
    wops P q ops ({ dst, op := .call { callee := .value f, args := as.toArray, argTypes := tys }, type := ty, pos, after, guard := none } :: r) i s H K = callG P q ops r i s dst H K (as.map (aeval s)) (aeval s f) := by
  rw [wops]
  unfold wop
  simp only [callOf]
  cases h : aeval s f with
  | v x => cases x <;> rfl
  | g cs => rfl
  | t vs => rfl

/-- At a guard. -/
def guardC (P : Program) (q : Bool) (ops r : List Oper) (i : Nat) (s : Nat → TV) (o : Oper) (H : Heap) (K : (Nat → TV) → Heap → Prop) (want : Bool) : Option (Option Bool) → Prop
  | some (some b) => if b = want then wops P q ops ({ o with guard := none } :: r) i s H K else wops P q ops r (i + 1) (aput s o.dst (.v .und)) H K
  | some none => wops P q ops r (i + 1) (aput s o.dst (.v .und)) H K
  | none => False

theorem wops_guard {op : Op} {ty : TypeId} {pos : String} {after : Array Edge} {j : Nat} {want : Bool} :
    wops P q ops ({ dst, op, type := ty, pos, after, guard := some (j, want) } :: r) i s H K = guardC P q ops r i s { dst, op, type := ty, pos, after, guard := some (j, want) } H K want (ayield ops s j) := by
  rw [wops]
  simp only
  cases ayield ops s j with
  | none => rfl
  | some y =>
    cases y with
    | none => simp [guardC]
    | some b => by_cases h : b = want <;> simp [guardC, h, wops]

theorem stepTo_same {v : TV} : stepTo P q ops r i s dst H K (some (v, H)) = wops P q ops r (i + 1) (aput s dst v) H K := by simp [stepTo]
theorem callG_intro {g : FuncId} {args : List TV} {v : TV} {H' : Heap} (h : Ok P g args H v H') (k : stepTo P q ops r i s dst H K (some (v, H'))) : callG P q ops r i s dst H K args (.v (.fn g [])) :=
  ⟨v, H', by simpa using h, k⟩
end

/-! ### values -/
end Go.Ab

namespace Go.Ab
set_option linter.unusedVariables false
set_option linter.unusedSimpArgs false

section
variable {P : Program} {q : Bool} {ops r : List Oper} {i : Nat} {s : Nat → TV} {H : Heap} {K : (Nat → TV) → Heap → Prop} {dst : Option Tmp} {ty : TypeId} {pos : String} {after : Array Edge}

/-- Behind an operation that leaves memory alone and yields so. -/
def stepV (P : Program) (q : Bool) (ops r : List Oper) (i : Nat) (s : Nat → TV) (dst : Option Tmp) (H : Heap) (K : (Nat → TV) → Heap → Prop) : Option TV → Prop
  | some v => wops P q ops r (i + 1) (aput s dst v) H K
  | none => False

theorem stepV_some {v : TV} : stepV P q ops r i s dst H K (some v) = wops P q ops r (i + 1) (aput s dst v) H K := rfl

theorem stepTo_map (x : Option TV) : stepTo P q ops r i s dst H K (x.map fun v => (v, H)) = stepV P q ops r i s dst H K x := by
  cases x with
  | none => rfl
  | some v => simp [stepTo, stepV]

theorem wops_move {x : Operand} : wops P q ops ({ dst, op := .move x, type := ty, pos, after, guard := none } :: r) i s H K = wops P q ops r (i + 1) (aput s dst (aeval s x)) H K := by
  rw [wops_op rfl]; exact stepTo_same
theorem wops_assign {x : Operand} : wops P q ops ({ dst, op := .assign x, type := ty, pos, after, guard := none } :: r) i s H K = wops P q ops r (i + 1) (aput s dst (aeval s x)) H K := by
  rw [wops_op rfl]; exact stepTo_same

def tpick (a b : TV) : TV → Option TV
  | .v (.bool t) => some (if t = true then a else b)
  | _ => none
theorem wops_pick {c a b : Operand} : wops P q ops ({ dst, op := .pick c a b, type := ty, pos, after, guard := none } :: r) i s H K = stepV P q ops r i s dst H K (tpick (aeval s a) (aeval s b) (aeval s c)) := by
  rw [wops_op rfl, ← stepTo_map]
  congr 1
  simp only [astep]
  cases aeval s c with
  | v x => cases x <;> rfl
  | g c => rfl
  | t v => rfl
theorem tpick_bool {a b : TV} {t : Bool} : tpick a b (.v (.bool t)) = some (if t = true then a else b) := rfl

def tbin (P : Program) (op : BinOp) (t : TypeId) (yo : Operand) : TV → TV → Option TV
  | .v a, .v b => ((abin P op t a b).or (aifc P op t yo a b)).map .v
  | _, _ => none
theorem wops_bin {op : BinOp} {t t2 : TypeId} {x y : Operand} : wops P q ops ({ dst, op := .binOp op t x y t2, type := ty, pos, after, guard := none } :: r) i s H K = stepV P q ops r i s dst H K (tbin P op t y (aeval s x) (aeval s y)) := by
  rw [wops_op rfl, ← stepTo_map]
  congr 1
  simp only [astep]
  cases aeval s x <;> cases aeval s y <;> simp [tbin, Option.map_map] <;> rfl
section bins
variable {t : TypeId} {yo : Operand} {k : IntKind} {f : FloatKind} {a b : Int} {x y : Nat}
end bins

def tun (op : UnOp) : TV → Option TV
  | .v a => (aun op a).map .v
  | _ => none
theorem wops_un {op : UnOp} {t : TypeId} {x : Operand} : wops P q ops ({ dst, op := .unOp op t x, type := ty, pos, after, guard := none } :: r) i s H K = stepV P q ops r i s dst H K (tun op (aeval s x)) := by
  rw [wops_op rfl, ← stepTo_map]
  congr 1
  simp only [astep]
  cases aeval s x <;> simp [tun, Option.map_map] <;> rfl
/-! ### the other operations, each by what it reads -/
def tconv (P : Program) (src d : TypeId) (H : Heap) : TV → Option (TV × Heap)
  | .v (.str s) =>
    if (P.underlying src).isSome = false then none else
    if tstr P d then some (.v (.str s), H) else
    match telem P d with
    | some e => if tint P e = some .u8 then some (.v (.sl H.n 0 s.size 1), H.alloc (.own (s.data.toList.map fun b => .int .u8 b.toNat))) else none
    | none => none
  | .v (.sl id off len esz) =>
    match telem P src with
    | some e => if tint P e = some .u8 ∧ tstr P d = true ∧ esz = 1 then ((rdCells H id off len).bind strOfCells).map fun l => (.v (.str ⟨l.toArray⟩), H) else if src = d ∧ tint P e = some .u8 ∧ 0 < len ∧ (H.f id).isRow = true then some (.v (.sl id off len esz), H) else none
    | none => none
  | .v a => if (P.underlying src).isSome then (aconv P d a).map fun z => (.v z, H) else none
  | _ => none
theorem wops_conv {src d : TypeId} {x : Operand} : wops P q ops ({ dst, op := .convert src d x, type := ty, pos, after, guard := none } :: r) i s H K = stepTo P q ops r i s dst H K (tconv P src d H (aeval s x)) := by
  rw [wops_op rfl]; rfl
theorem tconv_int {src d : TypeId} {k k' : IntKind} {n : Int} (h1 : (P.underlying src).isSome = true) (h2 : tint P d = some k') : tconv P src d H (.v (.int k n)) = some (.v (.int k' (k'.wrap n)), H) := by simp [tconv, h1, aconv, h2]
theorem tconv_itof {src d : TypeId} {k : IntKind} {f : FloatKind} {n : Int} (h1 : (P.underlying src).isSome = true) (h2 : tint P d = none) (h3 : tflt P d = some f) : tconv P src d H (.v (.int k n)) = some (.v (.flt f (cz f (floatOfInt f n))), H) := by
  simp [tconv, h1, aconv, h2, h3]
theorem tconv_ftoi {src d : TypeId} {k : IntKind} {f : FloatKind} {b : Nat} {n : Int} (h1 : (P.underlying src).isSome = true) (h2 : tint P d = some k) (h3 : floatToIntVal f b k = some n) : tconv P src d H (.v (.flt f b)) = some (.v (.int k n), H) := by
  simp [tconv, h1, aconv, h2, h3]
theorem tconv_ftof {src d : TypeId} {f g : FloatKind} {b c : Nat} (h1 : (P.underlying src).isSome = true) (h2 : tint P d = none) (h3 : tflt P d = some g) (h4 : fconv f b g = some c) : tconv P src d H (.v (.flt f b)) = some (.v (.flt g c), H) := by
  simp [tconv, h1, aconv, h2, h3, h4]
def tload (P : Program) (t : TypeId) (H : Heap) : TV → Option (TV × Heap)
  | .v (.ptr id off) =>
    match tagg P t with
    | some true => match tsz P t with
      | some n => (rdCells H id off n).map fun c => (.g c, H)
      | none => none
    | some false => (rdCell H id off).map fun c => (.v c, H)
    | none => none
  | _ => none
theorem wops_load {t : TypeId} {x : Operand} : wops P q ops ({ dst, op := .load t x, type := ty, pos, after, guard := none } :: r) i s H K = stepTo P q ops r i s dst H K (tload P t H (aeval s x)) := by
  rw [wops_op rfl]; rfl
theorem tload_cell {t : TypeId} {id off : Nat} {c : AV} (h1 : tagg P t = some false) (h2 : rdCell H id off = some c) : tload P t H (.v (.ptr id off)) = some (.v c, H) := by simp [tload, h1, h2]
theorem tload_agg {t : TypeId} {id off n : Nat} {c : List AV} (h1 : tagg P t = some true) (h2 : tsz P t = some n) (h3 : rdCells H id off n = some c) : tload P t H (.v (.ptr id off)) = some (.g c, H) := by simp [tload, h1, h2, h3]

def tstore (P : Program) (t : TypeId) (H : Heap) (a x : TV) : Option (TV × Heap) :=
  match a, x.cells, tsz P t with
  | .v (.ptr id off), some c, some n => if c.length = n then (wrCells H id off c).map fun H' => (.v .und, H') else none
  | _, _, _ => none
theorem wops_store {t : TypeId} {a x : Operand} : wops P q ops ({ dst, op := .store t a x, type := ty, pos, after, guard := none } :: r) i s H K = stepTo P q ops r i s dst H K (tstore P t H (aeval s a) (aeval s x)) := by
  rw [wops_op rfl]; rfl
theorem tstore_some {t : TypeId} {x : TV} {id off n : Nat} {c : List AV} {H' : Heap} (h1 : x.cells = some c) (h2 : tsz P t = some n) (h3 : c.length = n) (h4 : wrCells H id off c = some H') : tstore P t H (.v (.ptr id off)) x = some (.v .und, H') := by
  simp [tstore, h1, h2, h3, h4]

def tnilCheck (H : Heap) : TV → Option (TV × Heap)
  | .v (.ptr i o) => some (.v (.ptr i o), H)
  | .v (.fn f c) => some (.v (.fn f c), H)
  | _ => none
theorem wops_nilCheck {x : Operand} : wops P q ops ({ dst, op := .nilCheck x, type := ty, pos, after, guard := none } :: r) i s H K = stepTo P q ops r i s dst H K (tnilCheck H (aeval s x)) := by
  rw [wops_op rfl]; rfl
theorem tnilCheck_ptr {j o : Nat} : tnilCheck H (.v (.ptr j o)) = some (.v (.ptr j o), H) := rfl
def tindexAddr (P : Program) (t : TypeId) (H : Heap) : TV → TV → Option (TV × Heap)
  | .v (.sl id off len esz), .v (.int _ n) =>
    match (telem P t).bind (tsz P) with
    | some sz => if sz = esz ∧ 0 ≤ n ∧ n < len then some (.v (.ptr id (off + n.toNat * esz)), H) else none
    | none => none
  | .v (.ptr id off), .v (.int _ n) =>
    match tarr P t with
    | some (len, e) => match tsz P e with
      | some sz => if 0 ≤ n ∧ n < len then some (.v (.ptr id (off + n.toNat * sz)), H) else none
      | none => none
    | none => none
  | _, _ => none
theorem wops_indexAddr {t : TypeId} {x y : Operand} : wops P q ops ({ dst, op := .indexAddr t x y, type := ty, pos, after, guard := none } :: r) i s H K = stepTo P q ops r i s dst H K (tindexAddr P t H (aeval s x) (aeval s y)) := by
  rw [wops_op rfl]; rfl
theorem tindexAddr_sl {t : TypeId} {id off len esz : Nat} {k : IntKind} {n : Int} (h1 : (telem P t).bind (tsz P) = some esz) (h2 : 0 ≤ n) (h3 : n < len) : tindexAddr P t H (.v (.sl id off len esz)) (.v (.int k n)) = some (.v (.ptr id (off + n.toNat * esz)), H) := by
  simp [tindexAddr, h1, h2, h3]

def tindex (P : Program) (t : TypeId) (H : Heap) : TV → TV → Option (TV × Heap)
  | .v (.str s), .v (.int _ n) => if tstr P t = true ∧ 0 ≤ n then (s[n.toNat]?).map fun b => (.v (.int .u8 b.toNat), H) else none
  | _, _ => none
theorem wops_index {t : TypeId} {x y : Operand} : wops P q ops ({ dst, op := .index t x y, type := ty, pos, after, guard := none } :: r) i s H K = stepTo P q ops r i s dst H K (tindex P t H (aeval s x) (aeval s y)) := by
  rw [wops_op rfl]; rfl
theorem tindex_str {t : TypeId} {x : ByteArray} {k : IntKind} {n : Int} {b : UInt8} (h1 : tstr P t = true) (h2 : 0 ≤ n) (h3 : x[n.toNat]? = some b) : tindex P t H (.v (.str x)) (.v (.int k n)) = some (.v (.int .u8 b.toNat), H) := by
  simp [tindex, h1, h2, h3]

def textract (H : Heap) (i : Nat) : TV → Option (TV × Heap)
  | .t vs => (vs[i]?).map fun z => (z.up, H)
  | _ => none
theorem wops_extract {j : Nat} {x : Operand} : wops P q ops ({ dst, op := .extract x j, type := ty, pos, after, guard := none } :: r) i s H K = stepTo P q ops r i s dst H K (textract H j (aeval s x)) := by
  rw [wops_op rfl]; rfl
def tfieldAddr (P : Program) (st : TypeId) (f : Nat) (H : Heap) : TV → Option (TV × Heap)
  | .v (.ptr id off) =>
    match (tfields P st).bind (·[f]?) with
    | some fd => if (tsz P fd.type).any (0 < ·) then some (.v (.ptr id (off + fd.offset)), H) else none
    | none => none
  | _ => none
theorem wops_fieldAddr {st : TypeId} {f : Nat} {x : Operand} : wops P q ops ({ dst, op := .fieldAddr st x f, type := ty, pos, after, guard := none } :: r) i s H K = stepTo P q ops r i s dst H K (tfieldAddr P st f H (aeval s x)) := by
  rw [wops_op rfl]
  congr 1
  simp only [astep, tfieldAddr]
  cases aeval s x with
  | v x => cases x <;> first | rfl | (cases (tfields P st).bind (·[f]?) <;> rfl)
  | g c => rfl
  | t v => rfl
/-- A field: its place, its cells, whether it is an aggregate. -/
def tfield (P : Program) (st : TypeId) (f : Nat) : Option (Nat × Nat × Bool) :=
  match (tfields P st).bind (·[f]?) with
  | some fd => match tsz P fd.type, tagg P fd.type with
    | some n, some b => if 0 < n then some (fd.offset, n, b) else none
    | _, _ => none
  | none => none
theorem tfieldAddr_some {st : TypeId} {f o n : Nat} {b : Bool} {id off : Nat} (h : tfield P st f = some (o, n, b)) : tfieldAddr P st f H (.v (.ptr id off)) = some (.v (.ptr id (off + o)), H) := by
  unfold tfield at h
  cases hf : (tfields P st).bind (·[f]?) with
  | none => rw [hf] at h; cases h
  | some fd =>
    rw [hf] at h
    simp only at h
    split at h
    · rename_i n' b' hn _
      split at h
      · rename_i hpos
        cases h
        simp [tfieldAddr, hf, hn, hpos]
      · cases h
    · cases h

def tslice (P : Program) (t : TypeId) (H : Heap) (lo hi : Option (Option Int)) : TV → Option (TV × Heap)
  | .v (.str s) => match lo, hi with
    | some l, some h => if tstr P t then (slBounds s.size l h).map fun (a, b) => (.v (.str (s.extract a b)), H) else none
    | _, _ => none
  | .v (.sl id off len esz) => match lo, hi with
    | some l, some h => if (telem P t).bind (tsz P) = some esz then (slBounds len l h).map fun (a, b) => (.v (.sl id (off + a * esz) (b - a) esz), H) else none
    | _, _ => none
  | .v .nilsl => match lo, hi with
    | some l, some h => if ((telem P t).bind (tsz P)).isSome then (slBounds 0 l h).map fun _ => (.v .nilsl, H) else none
    | _, _ => none
  | .v (.ptr id off) => match lo, hi with
    | some l, some h =>
      match (tarr P t).bind (fun ne => (tsz P ne.2).map (fun sz => (ne.1, sz))), H.f id with
      | some (n, sz), .own cs => if off + n * sz ≤ cs.length then (slBounds n l h).map fun (a, b) => (.v (.sl id (off + a * sz) (b - a) sz), H) else none
      | _, _ => none
    | _, _ => none
  | _ => none
theorem wops_slice {t : TypeId} {x : Operand} {lo hi : Option Operand} : wops P q ops ({ dst, op := .slice t x lo hi none, type := ty, pos, after, guard := none } :: r) i s H K =
    stepTo P q ops r i s dst H K (tslice P t H (optAV (lo.map (aeval s))) (optAV (hi.map (aeval s))) (aeval s x)) := by
  rw [wops_op rfl]
  congr 1
  simp only [astep, tslice]
  cases aeval s x with
  | v x => cases x <;> first | rfl | (cases optAV (lo.map (aeval s)) <;> cases optAV (hi.map (aeval s)) <;> rfl)
  | g c => rfl
  | t v => rfl
theorem tslice_sl {t : TypeId} {id off len esz : Nat} {l h : Option Int} {a b : Nat} (h1 : (telem P t).bind (tsz P) = some esz) (h2 : slBounds len l h = some (a, b)) :
    tslice P t H (some l) (some h) (.v (.sl id off len esz)) = some (.v (.sl id (off + a * esz) (b - a) esz), H) := by simp [tslice, h1, h2]
theorem wops_builtin {b : Builtin} {as : List Operand} {tys : Array TypeId} : wops P q ops ({ dst, op := .call { callee := .builtin b, args := as.toArray, argTypes := tys }, type := ty, pos, after, guard := none } :: r) i s H K =
    stepTo P q ops r i s dst H K (abuiltin P b tys (as.map (aeval s)) H) := by
  rw [wops_op rfl]; rfl
theorem alen_nil {t : TypeId} {l : List TypeId} (h : (telem P t).isSome = true) : abuiltin P .len (t :: l).toArray [.v .nilsl] H = some (.v (.int .i64 0), H) := by simp [abuiltin, h]
theorem alen_sl {t : TypeId} {l : List TypeId} {id off n esz : Nat} (h : (telem P t).isSome = true) : abuiltin P .len (t :: l).toArray [.v (.sl id off n esz)] H = some (.v (.int .i64 n), H) := by simp [abuiltin, h]
/-- What an append asks of the types: the cells and bytes of an element. -/
def tapp (P : Program) (t0 t1 : TypeId) : Option (Nat × Nat) :=
  match telem P t0 with
  | some e => match tsz P e, tbytes P e, tzero P e with
    | some esz, some bytes, some z => if z.length = esz ∧ tint P t1 = none ∧ (P.underlying t1).isSome then some (esz, bytes) else none
    | _, _, _ => none
  | none => none
theorem aappend_to {t0 t1 : TypeId} {x y : AV} {esz bytes : Nat} (h : tapp P t0 t1 = some (esz, bytes)) : abuiltin P .append [t0, t1].toArray [.v x, .v y] H = aappend H esz bytes x y := by
  unfold tapp at h
  simp only [abuiltin, List.getElem?_toArray, List.getElem?_cons_zero, List.getElem?_cons_succ]
  split at h
  · rename_i e he
    split at h
    · rename_i a b z h1 h2 h3
      split at h
      · rename_i hc; cases h; simp [he, h1, h2, h3, hc]
      · cases h
    · cases h
  · cases h
theorem aappend_sl {esz bytes id off len n : Nat} {x : AV} {cs new : List AV} (h1 : H.f id = .own cs) (h2 : off + len * esz = cs.length) (h3 : cellsOfArg H esz x = some (n, new)) (h4 : (len + n) * bytes ≤ 2 ^ 40) (h5 : bytes ≠ 0) :
    aappend H esz bytes (.sl id off len esz) x = some (.v (.sl H.n 0 (len + n) esz), (H.put id .gone).alloc (.own (cs.drop off ++ new))) := by
  simp only [aappend, h5, if_false, h3, h1, h2, true_and, h4, if_true]
theorem aappend_nil {esz bytes n : Nat} {x : AV} {new : List AV} (h3 : cellsOfArg H esz x = some (n, new)) (h0 : n ≠ 0) (h4 : n * bytes ≤ 2 ^ 40) (h5 : bytes ≠ 0) :
    aappend H esz bytes .nilsl x = some (.v (.sl H.n 0 n esz), H.alloc (.own new)) := by
  simp only [aappend, h5, if_false, h3, h0, h4, if_true]
theorem arg_sl {esz id off len : Nat} {cs : List AV} (h : rdCells H id off (len * esz) = some cs) : cellsOfArg H esz (.sl id off len esz) = some (len, cs) := by simp [cellsOfArg, h]
theorem splice_zero (cs new : List AV) : splice cs new 0 = new ++ cs.drop new.length := by simp [splice]
def partsT : List (Nat × TV) → Option (List (Nat × List AV))
  | [] => some []
  | (i, x) :: r =>
    match x.cells, partsT r with
    | some c, some rs => some ((i, c) :: rs)
    | _, _ => none
theorem partsT_eq (ev : Operand → TV) : ∀ ps : List (Nat × Operand), partsOf ev ps = partsT (ps.map fun p => (p.1, ev p.2))
  | [] => rfl
  | (i, x) :: r => by
    simp only [partsOf, List.map_cons, partsT, partsT_eq ev r]
    rfl
def tbs (P : Program) (t : TypeId) (len : Nat) (H : Heap) (ps : List (Nat × TV)) : Option (TV × Heap) :=
  match telem P t with
  | some e => match tsz P e, tzero P e, partsT ps with
    | some n, some z, some ps =>
      if len * n ≤ 2 ^ 24 ∧ z.length = n ∧ ps.all (fun p => p.2.all AV.stor) = true then
        (fillParts (fun i => some (i * n, n)) (zerosOf z len) ps).bind fun c => if c.all AV.stor then some (.v (.sl H.n 0 len n), H.alloc (.own c)) else none
      else none
    | _, _, _ => none
  | none => none
theorem wops_buildSlice {t : TypeId} {len : Nat} {ps : List (Nat × Operand)} : wops P q ops ({ dst, op := .buildSlice t len ps.toArray, type := ty, pos, after, guard := none } :: r) i s H K =
    stepTo P q ops r i s dst H K (tbs P t len H (ps.map fun p => (p.1, aeval s p.2))) := by
  rw [wops_op rfl]
  congr 1
  simp only [astep, tbs, partsT_eq]
  rfl
theorem wops_build {t : TypeId} {ps : List (Nat × Operand)} : wops P q ops ({ dst, op := .build t ps.toArray, type := ty, pos, after, guard := none } :: r) i s H K =
    stepTo P q ops r i s dst H K (astep P (aeval s) (.build t ps.toArray) H) := wops_op rfl
def tmake (P : Program) (t : TypeId) (H : Heap) (x y : TV) : Option (TV × Heap) :=
  match x, y, telem P t with
  | .v (.int .i64 n), .v (.int .i64 m), some e =>
    match tsz P e, tbytes P e, tzero P e with
    | some sz, some by_, some z =>
      if 0 ≤ n ∧ n ≤ m ∧ m ≤ 2 ^ 40 ∧ m * by_ ≤ 2 ^ 40 ∧ z.length = sz ∧ z.all AV.stor = true then some (.v (.sl H.n 0 n.toNat sz), H.alloc (.own (zerosOf z n.toNat))) else none
    | _, _, _ => none
  | _, _, _ => none
theorem wops_makeSlice {t : TypeId} {l c : Operand} : wops P q ops ({ dst, op := .makeSlice t l c, type := ty, pos, after, guard := none } :: r) i s H K =
    stepTo P q ops r i s dst H K (tmake P t H (aeval s l) (aeval s c)) := wops_op rfl
theorem mk_ {t e : TypeId} {sz bys : Nat} {z : List AV} {H : Heap} (h1 : telem P t = some e) (h2 : tsz P e = some sz) (h3 : tbytes P e = some bys) (h4 : tzero P e = some z) (h5 : z.length = sz) (h6 : z.all AV.stor = true) (n m : Int)
    (h7 : 0 ≤ n) (h8 : n ≤ m) (h9 : m ≤ 2 ^ 40) (h10 : m * bys ≤ 2 ^ 40) :
    tmake P t H (.v (.int .i64 n)) (.v (.int .i64 m)) = some (.v (.sl H.n 0 n.toNat sz), H.alloc (.own (zerosOf z n.toNat))) := by
  simp only [tmake, h1, h2, h3, h4, h5, h6, h7, h8, h9, h10, and_self, if_true]
def tbox (P : Program) (t : TypeId) (H : Heap) (x : TV) : Option (TV × Heap) :=
  x.cells.bind fun c => if (P.info? t).isSome = true ∧ c.all AV.stor = true then some (.v (.ptr H.n 0), H.alloc (.own c)) else none
theorem wops_box {t : TypeId} {x : Operand} : wops P q ops ({ dst, op := .box t x, type := ty, pos, after, guard := none } :: r) i s H K =
    stepTo P q ops r i s dst H K (tbox P t H (aeval s x)) := wops_op rfl
def talloc (P : Program) (t : TypeId) (H : Heap) : Option (TV × Heap) :=
  (tzero P t).bind fun z => if z.all AV.stor then some (.v (.ptr H.n 0), H.alloc (.own z)) else none
theorem wops_alloc {t : TypeId} : wops P q ops ({ dst, op := .alloc t, type := ty, pos, after, guard := none } :: r) i s H K =
    stepTo P q ops r i s dst H K (talloc P t H) := wops_op rfl
theorem al_ {t : TypeId} {z : List AV} {H : Heap} (h : tzero P t = some z) (h2 : z.all AV.stor = true) : talloc P t H = some (.v (.ptr H.n 0), H.alloc (.own z)) := by simp only [talloc, h, Option.bind_some, h2, if_true]
end

/-! ### memory -/
theorem alloc_f (H : Heap) (b : Blk) (j : Nat) : (H.alloc b).f j = if j = H.n then b else H.f j := rfl
theorem put_f (H : Heap) (i : Nat) (b : Blk) (j : Nat) : (H.put i b).f j = if j = i then b else H.f j := rfl
theorem rdCell_eq (H : Heap) (id off : Nat) : rdCell H id off = (H.f id).cs[off]? := rfl
theorem cs_own (cs : List AV) : (Blk.own cs).cs = cs := rfl
theorem rdCells_eq (H : Heap) (id off n : Nat) : rdCells H id off n = if off + n ≤ (H.f id).cs.length then some (((H.f id).cs.drop off).take n) else none := rfl
theorem wrCells_own {H : Heap} {id off : Nat} {cs new : List AV} (h : H.f id = .own cs) (h1 : off + new.length ≤ cs.length) (h2 : new.all AV.stor = true) : wrCells H id off new = some (H.put id (.own (splice cs new off))) := by
  simp [wrCells, h, h1, h2]
section
variable {P : Program} {H : Heap}
end

/-! ### small equations of the walk -/
theorem aresults_cell (P : Program) (s : Nat → TV) (H : Heap) (a : Nat) (t : TypeId) (r : List ResultVar) : aresults P s H (.cell a t :: r) = (tload P t H (s a)).bind fun v => (aresults P s H r).map (v.1 :: ·) := by
  simp only [aresults, tload]
  cases s a with
  | v x =>
    cases x <;> try rfl
    rename_i id off
    simp only
    cases tagg P t with
    | none => rfl
    | some b =>
      cases b with
      | false => cases rdCell H id off <;> rfl
      | true => cases tsz P t with
        | none => rfl
        | some n => simp only [Option.bind_some]; cases rdCells H id off n <;> rfl
  | g c => rfl
  | t v => rfl

end Go.Ab

namespace Go.Ab
set_option linter.unusedVariables false
set_option linter.unusedSimpArgs false

/-- From place off on, row id holds these cells. -/
def Row (H : Heap) (id off : Nat) (cs : List AV) : Prop := id < H.n ∧ off + cs.length ≤ (H.f id).cs.length ∧ ((H.f id).cs.drop off).take cs.length = cs

theorem Row.lt {H : Heap} {id off : Nat} {cs : List AV} (h : Row H id off cs) : id < H.n := h.1
theorem Row.rd {H : Heap} {id off : Nat} {cs : List AV} (h : Row H id off cs) {j : Nat} (hj : j < cs.length) : (H.f id).cs[off + j]? = cs[j]? := by
  obtain ⟨_, h1, h2⟩ := h
  conv => rhs; rw [← h2]
  rw [List.getElem?_take, if_pos hj, List.getElem?_drop]
theorem Row.rds {H : Heap} {id off : Nat} {cs : List AV} (h : Row H id off cs) {j n : Nat} (hj : j + n ≤ cs.length) : (((H.f id).cs.drop (off + j)).take n) = (cs.drop j).take n := by
  obtain ⟨_, h1, h2⟩ := h
  conv => rhs; rw [← h2]
  rw [List.drop_take, List.take_take, List.drop_drop, Nat.min_eq_left (by omega)]
theorem Row.le {H : Heap} {id off : Nat} {cs : List AV} (h : Row H id off cs) : off + cs.length ≤ (H.f id).cs.length := h.2.1
theorem Row.mono {H H' : Heap} {id off : Nat} {cs : List AV} (h : Row H id off cs) (hn : H.n ≤ H'.n) (hf : H'.f id = H.f id) : Row H' id off cs := by
  obtain ⟨h0, h1, h2⟩ := h
  exact ⟨by omega, by rw [hf]; exact h1, by rw [hf]; exact h2⟩
theorem Row.of_f {H : Heap} {id : Nat} {cs : List AV} (h0 : id < H.n) (h : (H.f id).cs = cs) : Row H id 0 cs := by
  refine ⟨h0, by rw [h]; omega, ?_⟩
  rw [h, List.drop_zero, List.take_length]
theorem Row.alloc {H : Heap} {id off : Nat} {cs : List AV} (h : Row H id off cs) (b : Blk) : Row (H.alloc b) id off cs :=
  h.mono (Nat.le_succ _) (by rw [alloc_f, if_neg (Nat.ne_of_lt h.1)])
theorem Row.put {H : Heap} {id off j : Nat} {cs : List AV} (h : Row H id off cs) (b : Blk) (hj : id ≠ j) : Row (H.put j b) id off cs :=
  h.mono (Nat.le_refl _) (by rw [put_f, if_neg hj])
/-! ### elements of one, two and three cells -/
def enc {α : Type} (e : α → List AV) (l : List α) : List AV := l.flatMap e
theorem enc_cons {α : Type} (e : α → List AV) (x : α) (l : List α) : enc e (x :: l) = e x ++ enc e l := rfl
theorem enc_append {α : Type} (e : α → List AV) (l m : List α) : enc e (l ++ m) = enc e l ++ enc e m := by simp [enc]
theorem enc_length {α : Type} {e : α → List AV} {n : Nat} (he : ∀ x, (e x).length = n) (l : List α) : (enc e l).length = l.length * n := by
  induction l with
  | nil => simp [enc]
  | cons x l ih => rw [enc_cons, List.length_append, ih, he, List.length_cons, Nat.succ_mul]; omega
theorem enc_drop {α : Type} {e : α → List AV} {n : Nat} (he : ∀ x, (e x).length = n) : ∀ (l : List α) (i : Nat), (enc e l).drop (i * n) = enc e (l.drop i)
  | l, 0 => by simp
  | [], i + 1 => by simp [enc]
  | x :: l, i + 1 => by
    rw [enc_cons, List.drop_succ_cons, ← enc_drop he l i, Nat.succ_mul, Nat.add_comm, ← List.drop_drop, ← he x, List.drop_left]
theorem enc_take {α : Type} {e : α → List AV} {n : Nat} (he : ∀ x, (e x).length = n) : ∀ (l : List α) (i : Nat), (enc e l).take (i * n) = enc e (l.take i)
  | l, 0 => by simp [enc]
  | [], i + 1 => by simp [enc]
  | x :: l, i + 1 => by
    rw [enc_cons, List.take_succ_cons, enc_cons, ← enc_take he l i, Nat.succ_mul, Nat.add_comm, List.take_add, ← he x, List.take_left, List.drop_left]
theorem enc_at {α : Type} {e : α → List AV} {n : Nat} (he : ∀ x, (e x).length = n) {l : List α} {i : Nat} (h : i < l.length) : ((enc e l).drop (i * n)).take n = e l[i] := by
  rw [enc_drop he, List.drop_eq_getElem_cons h, enc_cons, ← he l[i], List.take_left]
theorem Row.elem {α : Type} {e : α → List AV} {n : Nat} (he : ∀ x, (e x).length = n) {H : Heap} {id off : Nat} {l : List α} (h : Row H id off (enc e l)) {i : Nat} (hi : i < l.length) :
    Row H id (off + i * n) (e l[i]) := by
  have hl := enc_length he l
  have hm : i * n + n ≤ l.length * n := by rw [← Nat.succ_mul]; exact Nat.mul_le_mul_right _ hi
  refine ⟨h.1, by have := h.2.1; rw [he]; omega, ?_⟩
  rw [he, h.rds (by omega), enc_at he hi]
theorem Row.slice {α : Type} {e : α → List AV} {n : Nat} (he : ∀ x, (e x).length = n) {H : Heap} {id off : Nat} {l : List α} (h : Row H id off (enc e l)) {a b : Nat} (hb : a + b ≤ l.length) :
    Row H id (off + a * n) (enc e ((l.drop a).take b)) := by
  have hl := enc_length he l
  have hm : a * n + b * n ≤ l.length * n := by rw [← Nat.add_mul]; exact Nat.mul_le_mul_right _ hb
  have hl2 : ((l.drop a).take b).length = b := by rw [List.length_take, List.length_drop]; omega
  have hl3 : (enc e ((l.drop a).take b)).length = b * n := by rw [enc_length he, hl2]
  refine ⟨h.1, by have := h.2.1; omega, ?_⟩
  rw [hl3, h.rds (by omega), enc_drop he, enc_take he]
theorem zerosOf_enc {α : Type} (e : α → List AV) (z : α) (n : Nat) : zerosOf (e z) n = enc e (List.replicate n z) := by
  induction n with
  | zero => rfl
  | succ n ih => rw [zerosOf, List.replicate_succ, enc_cons, ih]
theorem enc_splice {α : Type} {e : α → List AV} {n : Nat} (he : ∀ x, (e x).length = n) (l : List α) (i : Nat) (x : α) (h : i < l.length) : splice (enc e l) (e x) (i * n) = enc e (l.set i x) := by
  rw [splice, enc_take he, he, ← Nat.succ_mul, enc_drop he, List.set_eq_take_append_cons_drop, if_pos h, enc_append, enc_cons, List.append_assoc]
theorem Row.agg {α : Type} {e : α → List AV} {n : Nat} (he : ∀ x, (e x).length = n) {H : Heap} {id off : Nat} {l : List α} (h : Row H id off (enc e l)) {i : Nat} (hi : i < l.length) :
    (off + (i * n + n) ≤ (H.f id).cs.length) = True ∧ ((H.f id).cs.drop (off + i * n)).take n = e l[i] := by
  have r := h.elem he hi
  have h1 := r.2.1; have h2 := r.2.2
  rw [he] at h1 h2
  exact ⟨eq_true (by omega), h2⟩
theorem Row.cell {α : Type} {e : α → List AV} {n : Nat} (he : ∀ x, (e x).length = n) {H : Heap} {id off : Nat} {l : List α} (h : Row H id off (enc e l)) {i : Nat} (hi : i < l.length) {j : Nat} (hj : j < n) :
    (H.f id).cs[off + (i * n + j)]? = (e l[i])[j]? := by
  rw [← Nat.add_assoc, (h.elem he hi).rd (by rw [he]; exact hj)]
theorem wrap_i64 {n : Int} (h1 : -9223372036854775808 ≤ n) (h2 : n < 9223372036854775808) : IntKind.i64.wrap n = n := by
  simp only [IntKind.wrap, IntKind.signed, IntKind.bits]
  simp
  omega
theorem wrap_succ {i : Nat} (h : i < 9223372036854775807) : IntKind.i64.wrap ((i : Int) + 1) = ((i + 1 : Nat) : Int) := by rw [wrap_i64 (by omega) (by omega)]; rfl

/-! ### a rule for loops -/
end Go.Ab

namespace Go.Ab
set_option linter.unusedVariables false
set_option linter.unusedSimpArgs false

theorem cz_zero32 : cz .f32 0 = 0 := by decide +kernel
theorem word_lt (f : Ieee.Format) (neg : Bool) (r : Nat) (h : r < f.infRung) (hs : f.infRung < f.signWeight) : ((f.read (f.word neg r)).isInfinity) = false := by
  have hr : f.word neg r % f.signWeight = r := by
    unfold Ieee.Format.word
    cases neg
    · simp only [Bool.false_eq_true, if_false]; exact Nat.mod_eq_of_lt (by omega)
    · simp only [if_true]; rw [Nat.add_mod_left]; exact Nat.mod_eq_of_lt (by omega)
  unfold Ieee.Format.read
  simp only [hr]
  split
  · rfl
  · rfl

theorem cut_zero (neg : Bool) (n : Nat) : Ieee.Toward.even.cut neg n 0 = n := by
  simp [Ieee.Toward.cut, Nat.mod_one]

theorem read_single (b : Nat) : (∃ s t, Ieee.single.read b = .nan s t) ∨ (∃ s, Ieee.single.read b = .infinity s) ∨ ∃ s m e, Ieee.single.read b = .number s m e ∧ m < 2 ^ 24 ∧ -149 ≤ e ∧ e ≤ 104 := by
  unfold Ieee.Format.read
  have hb : Ieee.single.binade = 2 ^ 23 := rfl
  have hi : Ieee.single.infRung = 255 * 2 ^ 23 := rfl
  have hp : Ieee.single.leastPlace = -149 := rfl
  simp only [hb, hi, hp]
  generalize hr : b % Ieee.single.signWeight = r
  split
  · right; right; exact ⟨_, _, _, rfl, by omega, by omega, by omega⟩
  · split
    · right; right
      refine ⟨_, _, _, rfl, by omega, by omega, ?_⟩
      omega
    · split
      · right; left; exact ⟨_, rfl⟩
      · left; exact ⟨_, _, rfl⟩

theorem log2_lt24 {m : Nat} (h : m < 2 ^ 24) : m.log2 < 24 := by
  by_cases h0 : m = 0
  · subst h0; decide
  · exact (Nat.log2_lt h0).2 h

/-- A number of single precision is one of double precision. -/
theorem widen_fin (s : Bool) (m : Nat) (e : Int) (hm : m < 2 ^ 24) (h1 : -149 ≤ e) (h2 : e ≤ 104) : (Ieee.double.read (Ieee.double.nearest s m e)).isInfinity = false := by
  unfold Ieee.Format.nearest
  have hw : Ieee.double.infRung < Ieee.double.signWeight := by decide +kernel
  split
  · exact word_lt _ _ _ (by decide +kernel) hw
  · rename_i h0
    apply word_lt _ _ _ _ hw
    have hf : Ieee.double.fractionBits = 52 := rfl
    have hp : Ieee.double.leastPlace = -1074 := rfl
    have hb : Ieee.double.binade = 2 ^ 52 := rfl
    have hi : Ieee.double.infRung = 2047 * 2 ^ 52 := rfl
    have hl := log2_lt24 hm
    simp only [hf, hp, hb, hi]
    generalize hla : max (e + (m.log2 : Int) - ((52 : Nat) : Int)) (-1074) = last
    have hle : last ≤ e := by omega
    have hlast : last ≤ 75 := by omega
    have hcut : (last - e).toNat = 0 := by omega
    rw [hcut, cut_zero]
    have hmm : m <<< (e - last).toNat < 2 ^ 53 := by
      rw [Nat.shiftLeft_eq]
      have h3 : m < 2 ^ (m.log2 + 1) := Nat.lt_log2_self
      have h4 : (e - last).toNat + (m.log2 + 1) ≤ 53 := by omega
      calc m * 2 ^ (e - last).toNat < 2 ^ (m.log2 + 1) * 2 ^ (e - last).toNat := Nat.mul_lt_mul_of_pos_right h3 (Nat.two_pow_pos _)
        _ = 2 ^ ((m.log2 + 1) + (e - last).toNat) := (Nat.pow_add ..).symm
        _ ≤ 2 ^ 53 := Nat.pow_le_pow_right (by decide) (by omega)
    have h5 : (last - -1074).toNat ≤ 1149 := by omega
    have h6 : (last - -1074).toNat * 2 ^ 52 ≤ 1149 * 2 ^ 52 := Nat.mul_le_mul_right _ h5
    exact Nat.lt_of_le_of_lt (Nat.min_le_left _ _) (by omega)

def widen (b : Nat) : Nat := (fconv .f32 b .f64).getD 0
theorem widen_eq (b : Nat) : fconv .f32 b .f64 = some (widen b) := by
  have : (fconv .f32 b .f64).isSome = true := by
    unfold fconv
    rw [if_neg (by decide)]
    have hd : FloatKind.f32.decode b = Ieee.single.read b := rfl
    rw [hd]
    rcases read_single b with ⟨s, t, h⟩ | ⟨s, h⟩ | ⟨s, m, e, h, h1, h2, h3⟩
    · rw [h]; rfl
    · rw [h]; rfl
    · rw [h]
      have hf : (FloatKind.f64.decode (FloatKind.f64.encode (Ieee.Datum.number s m e))).isInfinity = false := widen_fin s m e h1 h2 h3
      simp only [hf]
      rfl
  unfold widen
  cases h : fconv .f32 b .f64 with
  | none => rw [h] at this; cases this
  | some c => rfl

end Go.Ab

namespace Go.Ab
set_option linter.unusedVariables false
set_option linter.unusedSimpArgs false

/-! ### numbers that are no NaN -/
/-- An integer as a number of single precision. -/
def fl (n : Int) : Nat := cz .f32 (floatOfInt .f32 n)
/-- The marks k, k + 1, .. -/
def marks (k : Int) : Nat → List Nat
  | 0 => []
  | n + 1 => fl k :: marks (k + 1) n
end Go.Ab

namespace Go.Ab
set_option linter.unusedVariables false
set_option linter.unusedSimpArgs false

def OkQ (P : Program) (f : FuncId) (args : List TV) (H : Heap) (Q : TV → Heap → Prop) : Prop := ∃ r H2, Ok P f args H r H2 ∧ Q r H2

theorem OkQ.mono {P : Program} {f : FuncId} {args : List TV} {H : Heap} {Q Q' : TV → Heap → Prop} (h : OkQ P f args H Q) (k : ∀ r H2, Q r H2 → Q' r H2) : OkQ P f args H Q' := by
  obtain ⟨r, H2, h1, h2⟩ := h
  exact ⟨r, H2, h1, k _ _ h2⟩

section
variable {P : Program}
theorem wop_pick {ev : Operand → TV} {op : Op} {H : Heap} {K : TV → Heap → Prop} (h : wop P ev op H K) : ∃ v H', K v H' ∧ wop P ev op H (fun a b => a = v ∧ b = H') := by
  unfold wop at h
  split at h
  · rename_i f args hc
    split at h
    · rename_i g caps he
      obtain ⟨r, H2, h1, h2⟩ := h
      refine ⟨r, H2, h2, ?_⟩
      unfold wop
      rw [hc]
      simp only [he]
      exact ⟨r, H2, h1, rfl, rfl⟩
    · exact h.elim
  · rename_i hc
    split at h
    · rename_i v H' he
      refine ⟨v, H', h, ?_⟩
      unfold wop
      rw [hc]
      rw [he]
      exact ⟨rfl, rfl⟩
    · exact h.elim

theorem wops_pick1 {q : Bool} {ops : List Oper} : ∀ (l : List Oper) (i : Nat) (s : Nat → TV) (H : Heap) (K : (Nat → TV) → Heap → Prop), wops P q ops l i s H K →
    ∃ s' H', K s' H' ∧ wops P q ops l i s H (fun a b => a = s' ∧ b = H')
  | [], i, s, H, K, h => ⟨s, H, h, rfl, rfl⟩
  | o :: r, i, s, H, K, h => by
    have go : wop P (aeval s) o.op H (fun v H' => (q = true → H' = H ∨ barrier ops i = true) ∧ wops P q ops r (i + 1) (aput s o.dst v) H' K) →
        ∃ s' H', K s' H' ∧ wop P (aeval s) o.op H (fun v G => (q = true → G = H ∨ barrier ops i = true) ∧ wops P q ops r (i + 1) (aput s o.dst v) G (fun a b => a = s' ∧ b = H')) := fun h => by
      obtain ⟨v, H', ⟨h1, h2⟩, h3⟩ := wop_pick h
      obtain ⟨s2, H2, h4, h5⟩ := wops_pick1 r _ _ _ _ h2
      refine ⟨s2, H2, h4, wop_mono (fun a b hab => ?_) h3⟩
      obtain ⟨rfl, rfl⟩ := hab
      exact ⟨h1, h5⟩
    rw [wops] at h
    split at h
    · rename_i hg
      obtain ⟨s', H', h1, h2⟩ := go h
      refine ⟨s', H', h1, ?_⟩
      rw [wops, hg]
      exact h2
    · rename_i j want hg
      split at h
      · rename_i y hy
        split at h
        · rename_i hyw
          obtain ⟨s', H', h1, h2⟩ := go h
          refine ⟨s', H', h1, ?_⟩
          rw [wops, hg]
          simp only [hy, if_pos hyw]
          exact h2
        · rename_i hyw
          obtain ⟨s', H', h1, h2⟩ := wops_pick1 r _ _ _ _ h
          refine ⟨s', H', h1, ?_⟩
          rw [wops, hg]
          simp only [hy, if_neg hyw]
          exact h2
      · exact h.elim

theorem wopf_pick1 {F : List Nat} {ops : List Oper} : ∀ (l : List Oper) (i : Nat) (past : List (Nat × Heap)) (pend : List (Nat × Oper × (Nat → TV) × TV)) (c : Nat) (s : Nat → TV) (H : Heap) (K : (Nat → TV) → Heap → Prop), wopf P F ops l i past pend c s H K →
    ∃ s' H', K s' H' ∧ wopf P F ops l i past pend c s H (fun a b => a = s' ∧ b = H')
  | [], _, _, _, _, s, H, _, h => ⟨s, H, h, rfl, rfl⟩
  | o :: r, i, past, pend, c, s, H, K, hw => by
    rw [wopf] at hw
    rcases hw with ⟨h1, hb, v, h2, h3⟩ | ⟨hb, v, h1, h2⟩ | ⟨hb, v, h1, h1', h2⟩ | ⟨h0, v, H', h1, h2, h3⟩
    · obtain ⟨s', H2, k1, k2⟩ := wopf_pick1 r _ _ _ _ _ _ _ h3; exact ⟨s', H2, k1, by rw [wopf]; exact .inl ⟨h1, hb, v, h2, k2⟩⟩
    · obtain ⟨s', H2, k1, k2⟩ := wopf_pick1 r _ _ _ _ _ _ _ h2; exact ⟨s', H2, k1, by rw [wopf]; exact .inr (.inl ⟨hb, v, h1, k2⟩)⟩
    · obtain ⟨s', H2, k1, k2⟩ := wopf_pick1 r _ _ _ _ _ _ _ h2; exact ⟨s', H2, k1, by rw [wopf]; exact .inr (.inr (.inl ⟨hb, v, h1, h1', k2⟩))⟩
    · obtain ⟨s', H2, k1, k2⟩ := wopf_pick1 r _ _ _ _ _ _ _ h3; exact ⟨s', H2, k1, by rw [wopf]; exact .inr (.inr (.inr ⟨h0, v, H', h1, h2, k2⟩))⟩

theorem fin_pick : ∀ (k : Nat) (todo : List Item) (s : Nat → TV) (H : Heap) (R : (Nat → TV) → Heap → Prop), fin P k todo s H R → ∃ s' H', R s' H' ∧ fin P k todo s H (fun a b => a = s' ∧ b = H') := by
  intro k
  induction k with
  | zero => intro todo s H R h; exact h.elim
  | succ k ih =>
    intro todo s H R h
    unfold fin at h
    split at h
    · exact ⟨s, H, h, rfl, rfl⟩
    · rename_i c t
      split at h
      · obtain ⟨s', H', h1, h2⟩ := ih _ _ _ _ h; exact ⟨s', H', h1, by unfold fin; exact h2⟩
      · obtain ⟨s', H', h1, h2⟩ := ih _ _ _ _ h; exact ⟨s', H', h1, by unfold fin; exact h2⟩
      · obtain ⟨s', H', h1, h2⟩ := ih _ _ _ _ h; exact ⟨s', H', h1, by unfold fin; exact h2⟩
      · rename_i cnd x y
        split at h
        · rename_i b he
          cases b with
          | true =>
            rw [if_pos rfl] at h
            obtain ⟨s', H', h1, h2⟩ := ih _ _ _ _ h
            exact ⟨s', H', h1, by unfold fin; simp only [he, if_pos]; exact h2⟩
          | false =>
            rw [if_neg (by simp)] at h
            obtain ⟨s', H', h1, h2⟩ := ih _ _ _ _ h
            exact ⟨s', H', h1, by unfold fin; simp only [he]; rw [if_neg (by simp)]; exact h2⟩
        · exact h.elim
      · obtain ⟨s', H', h1, h2⟩ := ih _ _ _ _ h; exact ⟨s', H', h1, by unfold fin; exact h2⟩
      · obtain ⟨s', H', h1, h2⟩ := ih _ _ _ _ h; exact ⟨s', H', h1, by unfold fin; exact h2⟩
      · split at h
        · rename_i t' he
          obtain ⟨s', H', h1, h2⟩ := ih _ _ _ _ h
          exact ⟨s', H', h1, by unfold fin; simp only [he]; exact h2⟩
        · exact h.elim
      · exact ⟨s, H, h, by unfold fin; exact ⟨rfl, rfl⟩⟩
      · rcases h with h | ⟨hd, ⟨F, h⟩ | ⟨C, Hm, nh, hC, hH, h⟩⟩
        · obtain ⟨s', H', h1, h2⟩ := wops_pick1 _ _ _ _ _ h
          obtain ⟨s2, H2, h3, h4⟩ := ih _ _ _ _ h1
          refine ⟨s2, H2, h3, ?_⟩
          unfold fin
          refine .inl (wops_mono (fun a b hab => ?_) _ _ _ _ h2)
          obtain ⟨rfl, rfl⟩ := hab
          exact h4
        · obtain ⟨s', H', h1, h2⟩ := wopf_pick1 _ _ _ _ _ _ _ _ h
          obtain ⟨s2, H2, h3, h4⟩ := ih _ _ _ _ h1
          refine ⟨s2, H2, h3, ?_⟩
          unfold fin
          refine .inr ⟨hd, .inl ⟨F, wopf_mono (fun a b hab => ?_) _ _ _ _ _ _ _ h2⟩⟩
          obtain ⟨rfl, rfl⟩ := hab
          exact h4
        · obtain ⟨s', H', h1, h2⟩ := wopm_pick _ _ _ h
          obtain ⟨s2, H2, h3, h4⟩ := ih _ _ _ _ h1
          refine ⟨s2, H2, h3, ?_⟩
          unfold fin
          refine .inr ⟨hd, .inr ⟨C, Hm, nh, hC, hH, wopm_mono (fun a b hab => ?_) _ _ _ h2⟩⟩
          obtain ⟨rfl, rfl⟩ := hab
          exact h4
      · exact h.elim
    · obtain ⟨s', H', h1, h2⟩ := ih _ _ _ _ h; exact ⟨s', H', h1, by unfold fin; exact h2⟩
    · obtain ⟨s', H', h1, h2⟩ := ih _ _ _ _ h; exact ⟨s', H', h1, by unfold fin; exact h2⟩
    · exact h.elim

/-- A FUNCTION ENDS SO. -/
theorem OkQ.of_fin {f : FuncId} {fn : Func} {c : Code} {args : List TV} {H : Heap} {Q : TV → Heap → Prop} (hm : P.follows .mixedOrders = true) (hf : P.funcs[f]? = some fn) (hb : fn.body = some c)
    (hcall : ∀ (as : Array Value) (w : World), (callFunc f as).run P w = .ok (.enter f as) w) (hok : codeOK fn.ntmps c = true) (hn : args.length ≤ fn.ntmps)
    (h : Fin P [.code c] (init args) H fun s' H' => ∃ r', resultOf P fn s' H' = some r' ∧ Q r' H') : OkQ P f args H Q := by
  obtain ⟨k, hk⟩ := h
  obtain ⟨s2, H2, ⟨r, hr, hq⟩, hk⟩ := fin_pick k _ _ _ _ hk
  refine ⟨r, H2, ?_, hq⟩
  intro β us w hs hargs
  rw [hcall]
  simp only
  intro cs
  let b : Frame := { (default : Frame) with fn := f, kind := .normal }
  let a : Act := { tmps := us.toArray ++ Array.replicate (fn.ntmps - us.toArray.size) undef, defers := [] }
  have hlen : us.length = args.length := hargs.len.symm
  have henter : Frame.enter P f us.toArray .normal = b.at a [.code c] := by
    simp [Frame.enter, Frame.at, hf, hb, b, a]
  have ha : AR β (init args) a fn.ntmps := by
    refine ⟨by simp [a]; omega, fun t => ?_, rfl⟩
    unfold init
    rcases Nat.lt_or_ge t us.length with ht | ht
    · obtain ⟨x, hx⟩ : ∃ x, args[t]? = some x := ⟨args[t]'(by omega), by simp⟩
      obtain ⟨u, hu, hxu⟩ := hargs.get t x hx
      have e1 : args.getD t (.v .und) = x := by simp [List.getD_eq_getElem?_getD, hx]
      have e2 : a.tmps.getD t undef = u := by
        simp [a, Array.getD_eq_getD_getElem?, Array.getElem?_append_left, ht] at hu ⊢
        exact hu
      rw [e1, e2]
      exact hxu
    · have e1 : args.getD t (.v .und) = .v .und := by simp [List.getD_eq_getElem?_getD, List.getElem?_eq_none (show args.length ≤ t by omega)]
      have e2 : a.tmps.getD t undef = undef := by
        simp only [a, Array.getD_eq_getD_getElem?]
        rw [Array.getElem?_append_right (by simpa using ht)]
        simp only [Array.getElem?_replicate]
        split <;> rfl
      rw [e1, e2]
      rfl
  obtain ⟨β', s', H', a', w', todo', ⟨rfl, rfl⟩, h1, h2, h3, h4, h5⟩ := fin_sound (N := fn.ntmps) hm k _ _ _ _ hk (by simp [itemOK, hok]) β a w b cs ha hs
  obtain ⟨rv, hrv, hrr⟩ := resultOf_run h2 h3 hr
  refine ⟨.returned rv, w', { b.at a' todo' with mode := .returning }, ⟨rv, β', rfl, h1, h3, hrr, h4⟩, ?_, rfl, ?_⟩
  · show Steps P _ _
    rw [henter]
    exact h5
  · exact ⟨rfl, h2.defers, rfl, fn, hf, hrv⟩
end

end Go.Ab

namespace Go.Ab
set_option linter.unusedVariables false
set_option linter.unusedSimpArgs false

def AV.id0 : AV → Nat
  | .sl id _ _ _ => id
  | .ptr id _ => id
  | _ => 0
def AV.of0 : AV → Nat
  | .sl _ off _ _ => off
  | .ptr _ off => off
  | _ => 0

/-- A slice of n-cell elements, or nil, that shows these cells. -/
def Shows (H : Heap) (v : AV) (n : Nat) (cs : List AV) : Prop := (v = .nilsl ∧ cs = []) ∨ ∃ id off len, v = .sl id off len n ∧ cs.length = len * n ∧ Row H id off cs

inductive Pc where
  | osl (v : AV) (n : Nat) (cs : List AV)
  | box (id : Nat) (cs : List AV)
  | keep (S : Nat → Prop) (φ : Heap → Prop)
  | ex (S : Nat → Prop) (φ : Heap → Prop)
  | hole (id : Nat)
  | mp (id : Nat) (kk ek : IntKind) (m : List (Int × Int))

def Pc.isOwn : Pc → Bool
  | .keep .. => false
  | _ => true
def Pc.at : Pc → Nat → Prop
  | .osl v _ _, i => ∃ off len n, v = .sl i off len n
  | .box id _, i => i = id
  | .keep S _, i => S i
  | .ex S _, i => S i
  | .hole id, i => i = id
  | .mp id _ _ _, i => i = id
def Pc.holds (H : Heap) : Pc → Prop
  | .osl v n cs => (v = .nilsl ∧ cs = []) ∨ ∃ id off len pre, v = .sl id off len n ∧ pre.length = off ∧ cs.length = len * n ∧ id < H.n ∧ H.f id = .own (pre ++ cs)
  | .box id cs => id < H.n ∧ H.f id = .own cs
  | .keep S φ => (∀ i, S i → i < H.n) ∧ φ H ∧ ∀ H' : Heap, H.n ≤ H'.n → (∀ i, S i → H'.f i = H.f i) → φ H'
  | .ex S φ => (∀ i, S i → i < H.n) ∧ φ H ∧ ∀ H' : Heap, H.n ≤ H'.n → (∀ i, S i → H'.f i = H.f i) → φ H'
  | .hole id => id < H.n ∧ H.f id = .hole
  | .mp id kk ek m => id < H.n ∧ H.f id = .mp kk ek m

def Pc.apart (p q : Pc) : Prop := (p.isOwn = true ∨ q.isOwn = true) → ∀ i, p.at i → q.at i → False

theorem Pc.apart.symm {p q : Pc} (h : p.apart q) : q.apart p := fun ho i hq hp => h ho.symm i hp hq

def Sep (H : Heap) : List Pc → Prop
  | [] => True
  | p :: l => p.holds H ∧ (∀ q ∈ l, p.apart q) ∧ Sep H l

def nth : List Pc → Nat → Option Pc
  | [], _ => none
  | p :: _, 0 => some p
  | _ :: l, k + 1 => nth l k
def putP : List Pc → Nat → Pc → List Pc
  | [], _, _ => []
  | _ :: l, 0, q => q :: l
  | p :: l, k + 1, q => p :: putP l k q
def delP : List Pc → Nat → List Pc
  | [], _ => []
  | _ :: l, 0 => l
  | p :: l, k + 1 => p :: delP l k

theorem Pc.at_lt {H : Heap} {p : Pc} (h : p.holds H) {i : Nat} (hi : p.at i) : i < H.n := by
  cases p with
  | osl v n cs =>
    obtain ⟨off, len, m, rfl⟩ := hi
    rcases h with ⟨h, _⟩ | ⟨id, off', len', pre, h, _, _, h2, _⟩
    · cases h
    · cases h; exact h2
  | box id cs => cases hi; exact h.1
  | keep S φ => exact h.1 i hi
  | ex S φ => exact h.1 i hi
  | hole id => cases hi; exact h.1
  | mp id _ _ _ => cases hi; exact h.1

theorem Pc.frame {H H' : Heap} {p : Pc} (h : p.holds H) (hn : H.n ≤ H'.n) (hf : ∀ i, p.at i → H'.f i = H.f i) : p.holds H' := by
  cases p with
  | osl v n cs =>
    rcases h with h | ⟨id, off, len, pre, rfl, h1, h2, h3, h4⟩
    · exact .inl h
    · exact .inr ⟨id, off, len, pre, rfl, h1, h2, Nat.lt_of_lt_of_le h3 hn, by rw [hf id ⟨_, _, _, rfl⟩]; exact h4⟩
  | box id cs => exact ⟨Nat.lt_of_lt_of_le h.1 hn, by rw [hf id rfl]; exact h.2⟩
  | keep S φ =>
    exact ⟨fun i hi => Nat.lt_of_lt_of_le (h.1 i hi) hn, h.2.2 H' hn hf, fun H2 hn2 hf2 => h.2.2 H2 (Nat.le_trans hn hn2) fun i hi => (hf2 i hi).trans (hf i hi)⟩
  | ex S φ =>
    exact ⟨fun i hi => Nat.lt_of_lt_of_le (h.1 i hi) hn, h.2.2 H' hn hf, fun H2 hn2 hf2 => h.2.2 H2 (Nat.le_trans hn hn2) fun i hi => (hf2 i hi).trans (hf i hi)⟩
  | hole id => exact ⟨Nat.lt_of_lt_of_le h.1 hn, by rw [hf id rfl]; exact h.2⟩
  | mp id kk ek m => exact ⟨Nat.lt_of_lt_of_le h.1 hn, by rw [hf id rfl]; exact h.2⟩

theorem Sep.hd {H : Heap} {p : Pc} {l : List Pc} (h : Sep H (p :: l)) : p.holds H := h.1
theorem Sep.tl {H : Heap} {p : Pc} {l : List Pc} (h : Sep H (p :: l)) : Sep H l := h.2.2
theorem Sep.mem {H : Heap} : ∀ {l : List Pc}, Sep H l → ∀ p ∈ l, p.holds H
  | _ :: l, h, p, hp => by
    rcases List.mem_cons.1 hp with rfl | hp
    · exact h.1
    · exact Sep.mem h.2.2 p hp
theorem nth_mem : ∀ {l : List Pc} {k : Nat} {p : Pc}, nth l k = some p → p ∈ l
  | _ :: _, 0, p, h => by cases h; exact List.mem_cons_self ..
  | _ :: l, k + 1, p, h => List.mem_cons_of_mem _ (nth_mem (l := l) (k := k) h)
theorem Sep.nth {H : Heap} {l : List Pc} (h : Sep H l) {k : Nat} {p : Pc} (hk : nth l k = some p) : p.holds H := h.mem p (nth_mem hk)
theorem delP_mem : ∀ {l : List Pc} {k : Nat} {q : Pc}, q ∈ delP l k → q ∈ l
  | p :: l, 0, q, h => List.mem_cons_of_mem _ h
  | p :: l, k + 1, q, h => by
    rcases List.mem_cons.1 h with rfl | h
    · exact List.mem_cons_self ..
    · exact List.mem_cons_of_mem _ (delP_mem (l := l) h)
theorem Sep.del {H : Heap} : ∀ {l : List Pc} (k : Nat), Sep H l → Sep H (delP l k)
  | [], k, _ => trivial
  | p :: l, 0, h => h.2.2
  | p :: l, k + 1, h => ⟨h.1, fun q hq => h.2.1 q (delP_mem hq), Sep.del k h.2.2⟩
theorem Sep.dropn {H : Heap} : ∀ {l : List Pc} (k : Nat), Sep H l → Sep H (l.drop k)
  | [], 0, _ => trivial
  | [], k + 1, _ => trivial
  | p :: l, 0, h => h
  | p :: l, k + 1, h => Sep.dropn (l := l) k h.2.2
theorem apart_nth {H : Heap} : ∀ {l : List Pc} {k : Nat} {p : Pc}, Sep H l → Go.Ab.nth l k = some p → ∀ q ∈ delP l k, p.apart q
  | _ :: l, 0, p, h, hk, q, hq => by cases hk; exact h.2.1 q hq
  | x :: l, k + 1, p, h, hk, q, hq => by
    rcases List.mem_cons.1 hq with rfl | hq
    · exact (h.2.1 p (nth_mem (l := l) (k := k) hk)).symm
    · exact apart_nth (l := l) (k := k) h.2.2 hk q hq
theorem Sep.front {H : Heap} {l : List Pc} {p : Pc} (k : Nat) (h : Sep H l) (hk : Go.Ab.nth l k = some p) : Sep H (p :: delP l k) := ⟨h.nth hk, apart_nth h hk, h.del k⟩

/-- Another heap, in which all but piece k lies as it was. -/
theorem Sep.frame {H H' : Heap} : ∀ {l : List Pc}, Sep H l → H.n ≤ H'.n → (∀ p ∈ l, ∀ i, p.at i → H'.f i = H.f i) → Sep H' l
  | [], _, _, _ => trivial
  | p :: l, h, hn, hf => ⟨Pc.frame h.1 hn (hf p (List.mem_cons_self ..)), h.2.1, Sep.frame h.2.2 hn fun q hq => hf q (List.mem_cons_of_mem _ hq)⟩

theorem Sep.add {H H' : Heap} {l : List Pc} {q : Pc} (h : Sep H l) (hn : H.n ≤ H'.n) (hf : ∀ i, i < H.n → H'.f i = H.f i) (hq : q.holds H') (hat : ∀ i, q.at i → H.n ≤ i) : Sep H' (q :: l) :=
  ⟨hq, fun p hp _ i h1 h2 => absurd (Pc.at_lt (h.mem p hp) h2) (Nat.not_lt.2 (hat i h1)), h.frame hn fun p hp i hi => hf i (Pc.at_lt (h.mem p hp) hi)⟩

theorem mem_put {q : Pc} : ∀ {l : List Pc} {k : Nat} {y : Pc}, y ∈ putP l k q → y = q ∨ y ∈ l
  | [], k, y, h => absurd h (by cases k <;> exact List.not_mem_nil)
  | x :: l, 0, y, h => by
    rcases List.mem_cons.1 h with h | h
    · exact .inl h
    · exact .inr (List.mem_cons_of_mem _ h)
  | x :: l, k + 1, y, h => by
    rcases List.mem_cons.1 h with h | h
    · exact .inr (h ▸ List.mem_cons_self ..)
    · rcases mem_put (l := l) (k := k) h with h | h
      · exact .inl h
      · exact .inr (List.mem_cons_of_mem _ h)
theorem Sep.change {H H' : Heap} {l : List Pc} {k : Nat} {p q : Pc} (h : Sep H l) (hk : Go.Ab.nth l k = some p) (ho : p.isOwn = true) (hn : H.n ≤ H'.n) (hf : ∀ i, i < H.n → ¬ p.at i → H'.f i = H.f i) (hq : q.holds H') (hat : ∀ i, q.at i → p.at i ∨ H.n ≤ i) : Sep H' (putP l k q) := by
  induction l generalizing k with
  | nil => cases hk
  | cons x l ih =>
    cases k with
    | zero =>
      cases hk
      refine ⟨hq, fun r hr _ i h1 h2 => ?_, Sep.frame h.2.2 hn fun r hr i hi => hf i (Pc.at_lt (Sep.mem h.2.2 r hr) hi) fun hx => h.2.1 r hr (.inl ho) i hx hi⟩
      rcases hat i h1 with h3 | h3
      · exact h.2.1 r hr (.inl ho) i h3 h2
      · exact absurd (Pc.at_lt (Sep.mem h.2.2 r hr) h2) (Nat.not_lt.2 h3)
    | succ k =>
      have hk' : Go.Ab.nth l k = some p := hk
      have hxp := h.2.1 p (nth_mem hk')
      refine ⟨Pc.frame h.1 hn fun i hi => hf i (Pc.at_lt h.1 hi) fun hx => hxp (.inr ho) i hi hx, fun r hr => ?_, ih h.2.2 hk'⟩
      rcases mem_put hr with rfl | hr'
      · intro _ i h1 h2
        rcases hat i h2 with h3 | h3
        · exact hxp (.inr ho) i h1 h3
        · exact absurd (Pc.at_lt h.1 h1) (Nat.not_lt.2 h3)
      · exact h.2.1 r hr'

/-! ### what is read -/
theorem Shows.of_own {H : Heap} {v : AV} {n : Nat} {cs : List AV} (h : (Pc.osl v n cs).holds H) : Shows H v n cs := by
  rcases h with ⟨h1, h2⟩ | ⟨id, off, len, pre, rfl, h1, h2, h3, h4⟩
  · exact .inl ⟨h1, h2⟩
  · refine .inr ⟨id, off, len, rfl, h2, h3, by rw [h4, cs_own, List.length_append]; omega, ?_⟩
    rw [h4, cs_own, ← h1, List.drop_left, List.take_length]
theorem Sep.shows {H : Heap} {l : List Pc} (h : Sep H l) (k : Nat) {v : AV} {n : Nat} {cs : List AV} (hk : Go.Ab.nth l k = some (.osl v n cs)) : Shows H v n cs := .of_own (h.nth hk)
theorem Shows.frame {H H' : Heap} {v : AV} {n : Nat} {cs : List AV} (h : Shows H v n cs) (hn : H.n ≤ H'.n) (hf : ∀ off len, v = .sl v.id0 off len n → H'.f v.id0 = H.f v.id0) : Shows H' v n cs := by
  rcases h with h | ⟨id, off, len, rfl, h1, h2⟩
  · exact .inl h
  · exact .inr ⟨id, off, len, rfl, h1, h2.mono hn (hf off len rfl)⟩
/-- An own slice becomes one that is only read. -/
theorem Sep.freeze {H : Heap} {l : List Pc} (h : Sep H l) (k : Nat) {v : AV} {n : Nat} {cs : List AV} (hk : Go.Ab.nth l k = some (.osl v n cs)) :
    Sep H (putP l k (.keep (fun i => ∃ off len n, v = .sl i off len n) fun H => Shows H v n cs)) := by
  refine Sep.change h hk rfl (Nat.le_refl _) (fun _ _ _ => rfl) ⟨fun i hi => Pc.at_lt (h.nth hk) hi, h.shows k hk, fun H' hn hf => ?_⟩ (fun i hi => .inl hi)
  refine (h.shows k hk).frame hn fun off len e => hf _ ⟨off, len, n, e⟩

section
variable {α : Type} {e : α → List AV} {n : Nat}
theorem Shows.len {H : Heap} {v : AV} {xs : List α} (he : ∀ x, (e x).length = n) (h : Shows H v n (enc e xs)) (hn : 0 < n) : (v = .nilsl ∧ xs = []) ∨ ∃ id off, v = .sl id off xs.length n ∧ Row H id off (enc e xs) := by
  rcases h with ⟨h1, h2⟩ | ⟨id, off, len, rfl, h1, h2⟩
  · refine .inl ⟨h1, ?_⟩
    cases xs with
    | nil => rfl
    | cons x xs =>
      have := congrArg List.length h2
      rw [enc_length he, List.length_cons, List.length_nil, Nat.succ_mul] at this
      omega
  · rw [enc_length he] at h1
    have : xs.length = len := Nat.eq_of_mul_eq_mul_right hn h1
    subst this
    exact .inr ⟨id, off, rfl, h2⟩
theorem Shows.at {H : Heap} {v : AV} {xs : List α} (he : ∀ x, (e x).length = n) (h : Shows H v n (enc e xs)) (hn : 0 < n) {z : Int} (h0 : 0 ≤ z ∧ z < xs.length) : v = .sl v.id0 v.of0 xs.length n ∧ Row H v.id0 v.of0 (enc e xs) := by
  rcases h.len he hn with ⟨_, rfl⟩ | ⟨id, off, rfl, h1⟩
  · simp at h0; omega
  · exact ⟨rfl, h1⟩
theorem getD_lt {xs : List α} {z : Int} (h0 : 0 ≤ z ∧ z < xs.length) (d : α) : ∃ h : z.toNat < xs.length, xs.getD z.toNat d = xs[z.toNat] := ⟨by omega, by rw [List.getD_eq_getElem?_getD, List.getElem?_eq_getElem (by omega)]; rfl⟩
theorem Shows.cell {H : Heap} {v : AV} {xs : List α} (he : ∀ x, (e x).length = n) (h : Shows H v n (enc e xs)) {z : Int} (h0 : 0 ≤ z ∧ z < xs.length) (d : α) {j : Nat} {c : α → AV} (hj : ∀ x, (e x)[j]? = some (c x)) :
    rdCell H v.id0 (v.of0 + z.toNat * n + j) = some (c (xs.getD z.toNat d)) := by
  obtain ⟨h1, h2⟩ := getD_lt h0 d
  have hjn : j < n := by
    have := hj (xs.getD z.toNat d)
    obtain ⟨h3, _⟩ := List.getElem?_eq_some_iff.1 this
    rw [he] at h3; exact h3
  obtain ⟨_, h4⟩ := h.at he (by omega) h0
  rw [rdCell_eq, Nat.add_assoc, h4.cell he h1 hjn, hj, h2]
theorem Shows.elem {H : Heap} {v : AV} {xs : List α} (he : ∀ x, (e x).length = n) (h : Shows H v n (enc e xs)) (hn : 0 < n) {z : Int} (h0 : 0 ≤ z ∧ z < xs.length) (d : α) :
    rdCells H v.id0 (v.of0 + z.toNat * n) n = some (e (xs.getD z.toNat d)) := by
  obtain ⟨h1, h2⟩ := getD_lt h0 d
  obtain ⟨_, h4⟩ := h.at he hn h0
  have := h4.agg he h1
  rw [rdCells_eq, if_pos (by rw [Nat.add_assoc, this.1]; trivial), this.2, h2]
/-- A part of a slice. -/
def AV.cut (n a b : Nat) : AV → AV
  | .sl id off _ _ => .sl id (off + a * n) (b - a) n
  | v => v
theorem Shows.cut {H : Heap} {v : AV} {xs : List α} (he : ∀ x, (e x).length = n) (h : Shows H v n (enc e xs)) (hn : 0 < n) {a b : Nat} (hab : a ≤ b ∧ b ≤ xs.length) : Shows H (v.cut n a b) n (enc e ((xs.drop a).take (b - a))) := by
  rcases h.len he hn with ⟨rfl, rfl⟩ | ⟨id, off, rfl, h1⟩
  · exact .inl ⟨rfl, by simp [enc]⟩
  · refine .inr ⟨id, off + a * n, b - a, rfl, ?_, h1.slice he (by omega)⟩
    rw [enc_length he, List.length_take, List.length_drop, Nat.min_eq_left (by omega)]
end

/-! ### what is changed -/
theorem Sep.alloc {H : Heap} {l : List Pc} (h : Sep H l) (cs : List AV) : Sep (H.alloc (.own cs)) (.box H.n cs :: l) :=
  h.add (Nat.le_succ _) (fun i hi => by rw [alloc_f, if_neg (Nat.ne_of_lt hi)]) ⟨Nat.lt_succ_self _, by rw [alloc_f, if_pos rfl]⟩ fun i hi => by cases hi; exact Nat.le_refl _
theorem Sep.allocS {H : Heap} {l : List Pc} (h : Sep H l) {len n : Nat} {cs : List AV} (hc : cs.length = len * n) : Sep (H.alloc (.own cs)) (.osl (.sl H.n 0 len n) n cs :: l) :=
  h.add (Nat.le_succ _) (fun i hi => by rw [alloc_f, if_neg (Nat.ne_of_lt hi)]) (.inr ⟨H.n, 0, len, [], rfl, rfl, hc, Nat.lt_succ_self _, by rw [alloc_f, if_pos rfl]; rfl⟩) fun i hi => by obtain ⟨_, _, _, hi⟩ := hi; cases hi; exact Nat.le_refl _
theorem Sep.nil {H : Heap} {l : List Pc} (h : Sep H l) (n : Nat) : Sep H (.osl .nilsl n [] :: l) :=
  h.add (Nat.le_refl _) (fun _ _ => rfl) (.inl ⟨rfl, rfl⟩) fun i hi => by obtain ⟨_, _, _, hi⟩ := hi; cases hi
theorem splice_pre (pre cs new : List AV) (off j : Nat) (h : pre.length = off) : splice (pre ++ cs) new (off + j) = pre ++ splice cs new j := by
  subst h
  rw [splice, splice, List.take_append, List.take_of_length_le (by omega), show pre.length + j - pre.length = j by omega, List.append_assoc, List.append_assoc]
  congr 1
  rw [List.append_assoc, show pre.length + j + new.length = pre.length + (j + new.length) by omega, List.drop_append]
  rw [List.drop_eq_nil_of_le (show pre.length ≤ pre.length + (j + new.length) by omega), show pre.length + (j + new.length) - pre.length = j + new.length by omega, List.nil_append]
/-- Cells are written. -/
theorem Sep.write {H : Heap} {l : List Pc} (h : Sep H l) (k : Nat) {v : AV} {n j : Nat} {cs new : List AV} (hk : Go.Ab.nth l k = some (.osl v n cs)) (hj : j + new.length ≤ cs.length) (h0 : 0 < new.length) (hs : new.all AV.stor = true) :
    ∃ H', wrCells H v.id0 (v.of0 + j) new = some H' ∧ Sep H' (putP l k (.osl v n (splice cs new j))) := by
  have hp := h.nth hk
  rcases hp with ⟨rfl, rfl⟩ | ⟨id, off, len, pre, rfl, h1, h2, h3, h4⟩
  · rw [List.length_nil] at hj; omega
  · refine ⟨_, wrCells_own h4 (by show off + j + _ ≤ _; rw [List.length_append]; omega) hs, ?_⟩
    show Sep (H.put id (.own (splice (pre ++ cs) new (off + j)))) _
    rw [splice_pre pre cs new off j h1]
    refine h.change hk rfl (Nat.le_refl _) (fun i hi hne => ?_) (.inr ⟨id, off, len, pre, rfl, h1, by rw [splice_len _ _ _ hj]; exact h2, h3, by rw [put_f, if_pos rfl]⟩) fun i hi => .inl hi
    rw [put_f, if_neg]
    rintro rfl
    exact hne ⟨_, _, _, rfl⟩
theorem Sep.set {α : Type} {e : α → List AV} {n : Nat} {H : Heap} {l : List Pc} (h : Sep H l) (k : Nat) {v : AV} {xs : List α} (hk : Go.Ab.nth l k = some (.osl v n (enc e xs))) (he : ∀ x, (e x).length = n) (hn : 0 < n) {z : Int} (h0 : 0 ≤ z ∧ z < xs.length) (x : α) (hs : (e x).all AV.stor = true) :
    ∃ H', wrCells H v.id0 (v.of0 + z.toNat * n) (e x) = some H' ∧ Sep H' (putP l k (.osl v n (enc e (xs.set z.toNat x)))) := by
  obtain ⟨h1, _⟩ := getD_lt h0 x
  have hm : z.toNat * n + n ≤ xs.length * n := by rw [← Nat.succ_mul]; exact Nat.mul_le_mul_right _ h1
  obtain ⟨H', h2, h3⟩ := h.write k hk (j := z.toNat * n) (new := e x) (by rw [he, enc_length he]; exact hm) (by rw [he]; exact hn) hs
  exact ⟨H', h2, by rw [enc_splice he xs _ x h1] at h3; exact h3⟩
/-- Cells behind a pointer. -/
theorem Sep.ld {H : Heap} {l : List Pc} (h : Sep H l) (k : Nat) {id j : Nat} {cs : List AV} {c : AV} (hk : Go.Ab.nth l k = some (.box id cs)) (hc : cs[j]? = some c) : rdCell H id j = some c := by
  have hp := h.nth hk
  rw [rdCell_eq, hp.2, cs_own]; exact hc
theorem Sep.lds {H : Heap} {l : List Pc} (h : Sep H l) (k : Nat) {id j m : Nat} {cs c : List AV} (hk : Go.Ab.nth l k = some (.box id cs)) (hl : j + m ≤ cs.length) (hc : (cs.drop j).take m = c) : rdCells H id j m = some c := by
  have hp := h.nth hk
  rw [rdCells_eq, hp.2, cs_own, if_pos hl, hc]
theorem Sep.st {H : Heap} {l : List Pc} (h : Sep H l) (k : Nat) {id j : Nat} {cs new cs' : List AV} (hk : Go.Ab.nth l k = some (.box id cs)) (hl : j + new.length ≤ cs.length) (hs : new.all AV.stor = true) (hc : splice cs new j = cs') :
    ∃ H', wrCells H id j new = some H' ∧ Sep H' (putP l k (.box id cs')) := by
  have hp := h.nth hk
  refine ⟨_, wrCells_own hp.2 hl hs, ?_⟩
  rw [hc]
  refine h.change hk rfl (Nat.le_refl _) (fun i hi hne => ?_) ⟨hp.1, by rw [put_f, if_pos rfl]⟩ fun i hi => .inl hi
  rw [put_f, if_neg]
  rintro rfl
  exact hne rfl
/-- Something is appended. -/
theorem Sep.app {H : Heap} {l : List Pc} (h : Sep H l) (k : Nat) {v x : AV} {n m len bytes : Nat} {cs new : List AV} (hk : Go.Ab.nth l k = some (.osl v n cs)) (hl : cs.length = len * n) (hn : 0 < n) (hx : cellsOfArg H n x = some (m, new)) (hm : new.length = m * n)
    (hb : (len + m) * bytes ≤ 2 ^ 40) (h5 : bytes ≠ 0) : ∃ v' H', aappend H n bytes v x = some (.v v', H') ∧ (v ≠ .nilsl → v' ≠ .nilsl) ∧ Sep H' (putP l k (.osl v' n (cs ++ new))) := by
  have hp := h.nth hk
  rcases hp with ⟨rfl, rfl⟩ | ⟨id, off, len', pre, rfl, h1, h2, h3, h4⟩
  · have hl0 : len = 0 := by
      cases len with
      | zero => rfl
      | succ len => rw [Nat.succ_mul] at hl; simp at hl; omega
    subst hl0
    by_cases h0 : m = 0
    · subst h0
      refine ⟨.nilsl, H, by simp [aappend, h5, hx], fun c => c, ?_⟩
      have : new = [] := List.eq_nil_of_length_eq_zero (by rw [hm, Nat.zero_mul])
      subst this
      exact h.change hk rfl (Nat.le_refl _) (fun _ _ _ => rfl) (.inl ⟨rfl, rfl⟩) fun i hi => .inl hi
    · refine ⟨_, _, aappend_nil hx h0 (by rw [Nat.zero_add] at hb; exact hb) h5, fun c => absurd rfl c, ?_⟩
      refine h.change hk rfl (Nat.le_succ _) (fun i hi _ => by rw [alloc_f, if_neg (Nat.ne_of_lt hi)]) (.inr ⟨H.n, 0, m, [], rfl, rfl, hm, Nat.lt_succ_self _, by rw [alloc_f, if_pos rfl]; rfl⟩) fun i hi => ?_
      obtain ⟨_, _, _, hi⟩ := hi
      cases hi
      exact .inr (Nat.le_refl _)
  · have e : len = len' := Nat.eq_of_mul_eq_mul_right hn (hl.symm.trans h2)
    subst e
    refine ⟨_, _, aappend_sl h4 (by rw [List.length_append]; omega) hx hb h5, (fun _ c => by cases c), ?_⟩
    rw [← h1, List.drop_left]
    refine h.change hk rfl (Nat.le_succ _) (fun i hi hne => ?_) (.inr ⟨H.n, 0, len + m, [], rfl, rfl, by rw [List.length_append, h2, hm, Nat.add_mul], Nat.lt_succ_self _, by rw [alloc_f]; exact if_pos rfl⟩) fun i hi => ?_
    · have hne' : i ≠ id := fun e => hne (by subst e; exact ⟨_, _, _, rfl⟩)
      rw [alloc_f, if_neg (by show i ≠ H.n; omega), put_f, if_neg hne']
    · obtain ⟨_, _, _, hi⟩ := hi
      cases hi
      exact .inr (Nat.le_refl _)
theorem Shows.arg {α : Type} {e : α → List AV} {n : Nat} {H : Heap} {x : AV} {ys : List α} (he : ∀ x, (e x).length = n) (hn : 0 < n) (h : Shows H x n (enc e ys)) : cellsOfArg H n x = some (ys.length, enc e ys) := by
  rcases h.len he hn with ⟨rfl, rfl⟩ | ⟨id, off, rfl, h1⟩
  · rfl
  · refine arg_sl ?_
    have hl := enc_length he ys
    rw [rdCells_eq, ← hl, if_pos h1.2.1, h1.2.2]
theorem Sep.append {α : Type} {e : α → List AV} {n bytes : Nat} {H : Heap} {l : List Pc} (h : Sep H l) (k : Nat) {v x : AV} {xs ys : List α} (hk : Go.Ab.nth l k = some (.osl v n (enc e xs))) (he : ∀ x, (e x).length = n) (hn : 0 < n) (hx : Shows H x n (enc e ys))
    (hb : (xs.length + ys.length) * bytes ≤ 2 ^ 40) (h5 : bytes ≠ 0) : ∃ v' H', aappend H n bytes v x = some (.v v', H') ∧ (v ≠ .nilsl → v' ≠ .nilsl) ∧ Sep H' (putP l k (.osl v' n (enc e (xs ++ ys)))) := by
  rw [enc_append]
  exact h.app k hk (enc_length he xs) hn (hx.arg he hn) (enc_length he ys) hb h5

end Go.Ab

namespace Go.Ab
set_option linter.unusedVariables false
set_option linter.unusedSimpArgs false

section
variable {P : Program} {t : List Item} {s : Nat → TV} {H : Heap} {R : (Nat → TV) → Heap → Prop}
theorem fi_seq {a b : Code} (h : Fin P (.code a :: .code b :: t) s H R) : Fin P (.code (.seq a b) :: t) s H R := by rw [Fin_seq]; exact h
theorem fi_skip (h : Fin P t s H R) : Fin P (.code .skip :: t) s H R := by rw [Fin_skip]; exact h
theorem fi_block {id : Nat} {c : Code} (h : Fin P (.code c :: .inBlock id :: t) s H R) : Fin P (.code (.block id c) :: t) s H R := by rw [Fin_block]; exact h
theorem fi_inBlock {id : Nat} (h : Fin P t s H R) : Fin P (.inBlock id :: t) s H R := by rw [Fin_inBlock]; exact h
theorem fi_inLoop {c : Code} (h : Fin P (.code c :: .inLoop c :: t) s H R) : Fin P (.inLoop c :: t) s H R := by rw [Fin_inLoop]; exact h
theorem fi_loop {c : Code} (h : Fin P (.inLoop c :: t) s H R) : Fin P (.code (.loop c) :: t) s H R := by rw [Fin_loop]; exact h
theorem fi_ret (h : R s H) : Fin P (.code .ret :: t) s H R := by rw [Fin_ret]; exact h
theorem fi_exit {id : Nat} {t' : List Item} (e : exitTo id t = some t') (h : Fin P t' s H R) : Fin P (.code (.exit id) :: t) s H R := by rw [Fin_exit, e]; exact h
theorem fi_region {id : Nat} {ops : List Oper} {d : Bool} (h : wops P d ops ops 0 s H (FinK P t R)) : Fin P (.code (.region id ops.toArray d) :: t) s H R := by rw [Fin_region]; exact .inl h
theorem fi_true {c : Operand} {a b : Code} {x : Bool} (hx : aeval s c = .v (.bool x)) (hb : x = true) (h1 : Fin P (.code a :: t) s H R) : Fin P (.code (.cond c a b) :: t) s H R := by
  subst hb; rw [Fin_cond, hx, condC_true]; exact h1
theorem fi_false {c : Operand} {a b : Code} {x : Bool} (hx : aeval s c = .v (.bool x)) (hb : x = false) (h1 : Fin P (.code b :: t) s H R) : Fin P (.code (.cond c a b) :: t) s H R := by
  subst hb; rw [Fin_cond, hx, condC_false]; exact h1

/-- A state known at some places. -/
def updL (s : Nat → TV) : List (Nat × TV) → Nat → TV
  | [] => s
  | p :: l => upd (updL s l) p.1 p.2
def agrees (s : Nat → TV) : List (Nat × TV) → Prop
  | [] => True
  | p :: l => s p.1 = p.2 ∧ agrees s l
theorem updL_self : ∀ {s : Nat → TV} {l : List (Nat × TV)}, agrees s l → updL s l = s
  | s, [], _ => rfl
  | s, p :: l, h => by
    rw [updL, updL_self h.2]
    funext j
    simp only [upd]
    split
    · rename_i e; subst e; exact h.1.symm
    · rfl
theorem fi_at (l : List (Nat × TV)) (hl : agrees s l) (h : Fin P t (updL s l) H R) : Fin P t s H R := by rw [updL_self hl] at h; exact h
end

theorem not_t {b : Bool} (h : b = false) : (!b) = true := by rw [h]; rfl
theorem not_f {b : Bool} (h : b = true) : (!b) = false := by rw [h]; rfl

section
variable {P : Program} {q : Bool} {ops r : List Oper} {i : Nat} {s : Nat → TV} {H : Heap} {K : (Nat → TV) → Heap → Prop} {dst : Option Tmp} {ty : TypeId} {pos : String} {after : Array Edge}

theorem so_nil {t : List Item} {R : (Nat → TV) → Heap → Prop} (h : Fin P t s H R) : wops P q ops [] i s H (FinK P t R) := h
theorem so_move {x : Operand} {v : TV} (hx : aeval s x = v) (h : wops P q ops r (i + 1) (aput s dst v) H K) : wops P q ops ({ dst, op := .move x, type := ty, pos, after, guard := none } :: r) i s H K := by rw [wops_move, hx]; exact h
theorem so_assign {x : Operand} {v : TV} (hx : aeval s x = v) (h : wops P q ops r (i + 1) (aput s dst v) H K) : wops P q ops ({ dst, op := .assign x, type := ty, pos, after, guard := none } :: r) i s H K := by rw [wops_assign, hx]; exact h
theorem so_pick_t {c x y : Operand} {b : Bool} {v : TV} (hc : aeval s c = .v (.bool b)) (hb : b = true) (hx : aeval s x = v) (h : wops P q ops r (i + 1) (aput s dst v) H K) : wops P q ops ({ dst, op := .pick c x y, type := ty, pos, after, guard := none } :: r) i s H K := by
  subst hb; rw [wops_pick, hc, tpick_bool, if_pos rfl, stepV_some, hx]; exact h
theorem so_pick_f {c x y : Operand} {b : Bool} {v : TV} (hc : aeval s c = .v (.bool b)) (hb : b = false) (hx : aeval s y = v) (h : wops P q ops r (i + 1) (aput s dst v) H K) : wops P q ops ({ dst, op := .pick c x y, type := ty, pos, after, guard := none } :: r) i s H K := by
  subst hb; rw [wops_pick, hc, tpick_bool, if_neg (by simp), stepV_some, hx]; exact h
theorem so_bin {op : BinOp} {t t2 : TypeId} {x y : Operand} {a b c : AV} (hx : aeval s x = .v a) (hy : aeval s y = .v b) (he : abin P op t a b = some c) (h : wops P q ops r (i + 1) (aput s dst (.v c)) H K) :
    wops P q ops ({ dst, op := .binOp op t x y t2, type := ty, pos, after, guard := none } :: r) i s H K := by
  rw [wops_bin, hx, hy]; simp only [tbin, he, Option.some_or, Option.map_some, stepV_some]; exact h
theorem so_un {op : UnOp} {t : TypeId} {x : Operand} {a c : AV} (hx : aeval s x = .v a) (he : aun op a = some c) (h : wops P q ops r (i + 1) (aput s dst (.v c)) H K) :
    wops P q ops ({ dst, op := .unOp op t x, type := ty, pos, after, guard := none } :: r) i s H K := by
  rw [wops_un, hx]; simp only [tun, he, Option.map_some, stepV_some]; exact h
theorem so_to {o : Oper} {v : TV} {H' : Heap} {z : Option (TV × Heap)} (hw : wops P q ops (o :: r) i s H K = stepTo P q ops r i s dst H K z) (hz : z = some (v, H')) (hq : q = true → H' = H ∨ barrier ops i = true) (h : wops P q ops r (i + 1) (aput s dst v) H' K) : wops P q ops (o :: r) i s H K := by
  rw [hw, hz]; exact ⟨hq, h⟩
theorem so_conv {src d : TypeId} {x : Operand} {a v : TV} {H' : Heap} (hx : aeval s x = a) (hz : tconv P src d H a = some (v, H')) (hq : q = true → H' = H ∨ barrier ops i = true) (h : wops P q ops r (i + 1) (aput s dst v) H' K) :
    wops P q ops ({ dst, op := .convert src d x, type := ty, pos, after, guard := none } :: r) i s H K := so_to (wops_conv.trans (by rw [hx])) hz hq h
theorem so_load {t : TypeId} {x : Operand} {id off : Nat} {c : AV} (hx : aeval s x = .v (.ptr id off)) (ht : tagg P t = some false) (hc : rdCell H id off = some c) (h : wops P q ops r (i + 1) (aput s dst (.v c)) H K) :
    wops P q ops ({ dst, op := .load t x, type := ty, pos, after, guard := none } :: r) i s H K := so_to (wops_load.trans (by rw [hx])) (tload_cell ht hc) (fun _ => .inl rfl) h
theorem so_loadg {t : TypeId} {x : Operand} {id off n : Nat} {c : List AV} (hx : aeval s x = .v (.ptr id off)) (ht : tagg P t = some true) (hn : tsz P t = some n) (hc : rdCells H id off n = some c) (h : wops P q ops r (i + 1) (aput s dst (.g c)) H K) :
    wops P q ops ({ dst, op := .load t x, type := ty, pos, after, guard := none } :: r) i s H K := so_to (wops_load.trans (by rw [hx])) (tload_agg ht hn hc) (fun _ => .inl rfl) h
theorem so_store {t : TypeId} {x y : Operand} {id off n : Nat} {v : TV} {c : List AV} {H' : Heap} (hx : aeval s x = .v (.ptr id off)) (hy : aeval s y = v) (hc : v.cells = some c) (hn : tsz P t = some n) (hl : c.length = n) (hw : wrCells H id off c = some H')
    (hq : q = true → H' = H ∨ barrier ops i = true) (h : wops P q ops r (i + 1) (aput s dst (.v .und)) H' K) : wops P q ops ({ dst, op := .store t x y, type := ty, pos, after, guard := none } :: r) i s H K :=
  so_to (wops_store.trans (by rw [hx, hy])) (tstore_some hc hn hl hw) hq h
theorem so_nilCheck {x : Operand} {id off : Nat} (hx : aeval s x = .v (.ptr id off)) (h : wops P q ops r (i + 1) (aput s dst (.v (.ptr id off))) H K) : wops P q ops ({ dst, op := .nilCheck x, type := ty, pos, after, guard := none } :: r) i s H K :=
  so_to (wops_nilCheck.trans (by rw [hx])) tnilCheck_ptr (fun _ => .inl rfl) h
theorem so_idx {t : TypeId} {x y : Operand} {v : AV} {α : Type} {e : α → List AV} {xs : List α} {n : Nat} {k : IntKind} {z : Int} (hx : aeval s x = .v v) (hy : aeval s y = .v (.int k z)) (ht : (telem P t).bind (tsz P) = some n) (he : ∀ x, (e x).length = n) (hn : 0 < n)
    (hv : Shows H v n (enc e xs)) (h0 : 0 ≤ z ∧ z < xs.length) (h : wops P q ops r (i + 1) (aput s dst (.v (.ptr v.id0 (v.of0 + z.toNat * n)))) H K) :
    wops P q ops ({ dst, op := .indexAddr t x y, type := ty, pos, after, guard := none } :: r) i s H K := by
  obtain ⟨h1, _⟩ := hv.at he hn h0
  refine so_to (wops_indexAddr.trans (by rw [hx, hy])) (v := .v (.ptr v.id0 (v.of0 + z.toNat * n))) (H' := H) ?_ (fun _ => .inl rfl) h
  conv => lhs; rw [h1]
  exact tindexAddr_sl ht h0.1 h0.2
theorem so_extract {j : Nat} {x : Operand} {vs : List TV0} {z : TV0} {v : TV} (hx : aeval s x = .t vs) (hz : vs[j]? = some z) (hv : z.up = v) (h : wops P q ops r (i + 1) (aput s dst v) H K) : wops P q ops ({ dst, op := .extract x j, type := ty, pos, after, guard := none } :: r) i s H K :=
  so_to (wops_extract.trans (by rw [hx])) (by simp only [textract, hz, Option.map_some, hv]) (fun _ => .inl rfl) h
theorem so_fieldAddr {st : TypeId} {f o n : Nat} {b : Bool} {x : Operand} {id off : Nat} (hx : aeval s x = .v (.ptr id off)) (ht : tfield P st f = some (o, n, b)) (h : wops P q ops r (i + 1) (aput s dst (.v (.ptr id (off + o)))) H K) :
    wops P q ops ({ dst, op := .fieldAddr st x f, type := ty, pos, after, guard := none } :: r) i s H K := so_to (wops_fieldAddr.trans (by rw [hx])) (tfieldAddr_some ht) (fun _ => .inl rfl) h
theorem so_alloc {t : TypeId} {z : List AV} (ht : tzero P t = some z) (hs : z.all AV.stor = true) (hq : q = true → H.alloc (.own z) = H ∨ barrier ops i = true) (h : wops P q ops r (i + 1) (aput s dst (.v (.ptr H.n 0))) (H.alloc (.own z)) K) :
    wops P q ops ({ dst, op := .alloc t, type := ty, pos, after, guard := none } :: r) i s H K := so_to wops_alloc (al_ ht hs) hq h
theorem so_box {t : TypeId} {x : Operand} {v : TV} {c : List AV} (hx : aeval s x = v) (hc : v.cells = some c) (ht : (P.info? t).isSome = true) (hs : c.all AV.stor = true) (hq : q = true → H.alloc (.own c) = H ∨ barrier ops i = true)
    (h : wops P q ops r (i + 1) (aput s dst (.v (.ptr H.n 0))) (H.alloc (.own c)) K) : wops P q ops ({ dst, op := .box t x, type := ty, pos, after, guard := none } :: r) i s H K :=
  so_to wops_box (by rw [hx]; simp only [tbox, hc, Option.bind_some, ht, hs, and_self, if_true]) hq h
theorem so_make {t e : TypeId} {sz bys : Nat} {z : List AV} {x y : Operand} {n m : Int} (hx : aeval s x = .v (.int .i64 n)) (hy : aeval s y = .v (.int .i64 m)) (h1 : telem P t = some e) (h2 : tsz P e = some sz) (h3 : tbytes P e = some bys) (h4 : tzero P e = some z) (h5 : z.length = sz) (h6 : z.all AV.stor = true)
    (h7 : 0 ≤ n ∧ n ≤ m ∧ m ≤ 2 ^ 40 ∧ m * bys ≤ 2 ^ 40) (hq : q = true → H.alloc (.own (zerosOf z n.toNat)) = H ∨ barrier ops i = true) (h : wops P q ops r (i + 1) (aput s dst (.v (.sl H.n 0 n.toNat sz))) (H.alloc (.own (zerosOf z n.toNat))) K) :
    wops P q ops ({ dst, op := .makeSlice t x y, type := ty, pos, after, guard := none } :: r) i s H K :=
  so_to (wops_makeSlice.trans (by rw [hx, hy])) (mk_ h1 h2 h3 h4 h5 h6 n m h7.1 h7.2.1 h7.2.2.1 h7.2.2.2) hq h

theorem fill_all {n : Nat} {z : List AV} (hz : z.length = n) : ∀ (css : List (List AV)) (k : Nat) (done : List AV), done.length = k * n → (∀ c ∈ css, c.length = n) →
    fillParts (fun i => some (i * n, n)) (done ++ zerosOf z css.length) ((css.zipIdx k).map fun p => (p.2, p.1)) = some (done ++ css.flatten)
  | [], k, done, _, _ => by simp [fillParts, zerosOf]
  | c :: css, k, done, hd, hc => by
    have hcl := hc c (List.mem_cons_self ..)
    have hl : (zerosOf z (css.length + 1)).length = (css.length + 1) * n := by
      have : ∀ m, (zerosOf z m).length = m * n := fun m => by
        induction m with
        | zero => simp [zerosOf]
        | succ m ih => rw [zerosOf, List.length_append, ih, hz, Nat.succ_mul]; omega
      exact this _
    simp only [List.zipIdx_cons, List.map_cons, fillParts, List.length_cons]
    rw [if_pos ⟨hcl, by rw [List.length_append, hl, hd, hcl, Nat.succ_mul]; omega⟩]
    have e : splice (done ++ zerosOf z (css.length + 1)) c (k * n) = (done ++ c) ++ zerosOf z css.length := by
      have := splice_pre done (zerosOf z (css.length + 1)) c (k * n) 0 hd
      have this : splice (done ++ zerosOf z (css.length + 1)) c (k * n) = done ++ splice (zerosOf z (css.length + 1)) c 0 := this
      rw [this, splice_zero, zerosOf, hcl, ← hz, List.drop_left, List.append_assoc]
    rw [e, fill_all hz css (k + 1) (done ++ c) (by rw [List.length_append, hd, hcl, Nat.succ_mul]) fun c hc' => hc c (List.mem_cons_of_mem _ hc')]
    simp
theorem so_bslice {t e : TypeId} {n len : Nat} {z : List AV} {ps : List (Nat × Operand)} {css : List (List AV)} {cs : List AV} (h1 : telem P t = some e) (h2 : tsz P e = some n) (h3 : tzero P e = some z) (h4 : z.length = n)
    (hp : partsT (ps.map fun p => (p.1, aeval s p.2)) = some ((css.zipIdx 0).map fun p => (p.2, p.1))) (hlen : css.length = len) (hc : ∀ c ∈ css, c.length = n) (hs : ∀ c ∈ css, c.all AV.stor = true) (hb : len * n ≤ 2 ^ 24) (hf : css.flatten = cs)
    (hq : q = true → H.alloc (.own cs) = H ∨ barrier ops i = true) (h : wops P q ops r (i + 1) (aput s dst (.v (.sl H.n 0 len n))) (H.alloc (.own cs)) K) :
    wops P q ops ({ dst, op := .buildSlice t len ps.toArray, type := ty, pos, after, guard := none } :: r) i s H K := by
  refine so_to wops_buildSlice (v := .v (.sl H.n 0 len n)) (H' := H.alloc (.own cs)) ?_ hq h
  have h7 := fill_all h4 css 0 [] (by simp) hc
  rw [List.nil_append, hlen, List.nil_append] at h7
  have h8 : ((css.zipIdx 0).map fun p => (p.2, p.1)).all (fun p => p.2.all AV.stor) = true := by
    rw [List.all_eq_true]
    intro p hp'
    obtain ⟨x, hx, rfl⟩ := List.mem_map.1 hp'
    exact hs x.1 (by have := List.mem_zipIdx hx; rw [this.2.2]; simp)
  have h9 : css.flatten.all AV.stor = true := by
    rw [List.all_eq_true]
    intro c hc'
    obtain ⟨l, hl, hcl⟩ := List.mem_flatten.1 hc'
    exact List.all_eq_true.1 (hs l hl) c hcl
  subst hf
  simp only [tbs, h1, h2, h3, hp]
  rw [if_pos ⟨hb, h4, h8⟩, h7, Option.bind_some, if_pos h9]
def places (P : Program) : List Field → Option (List (Nat × Nat))
  | [] => some []
  | f :: r => match tsz P f.type, places P r with
    | some n, some rs => some ((f.offset, n) :: rs)
    | _, _ => none
def bplan (P : Program) (t : TypeId) : Option (List AV × List (Nat × Nat)) :=
  match tzero P t, tfields P t with
  | some z, some fs => match places P fs with
    | some pl => some (z, pl)
    | none => none
  | _, _ => none
theorem places_all {P : Program} : ∀ {fs : List Field} {pl : List (Nat × Nat)}, places P fs = some pl → fs.all (fun f => (tsz P f.type).isSome) = true ∧ ∀ (i : Nat) p, pl[i]? = some p → structPlaces P fs i = some p
  | [], pl, h => by cases h; exact ⟨rfl, fun i p h => by simp at h⟩
  | f :: r, pl, h => by
    simp only [places] at h
    split at h
    · rename_i n rs h1 h2
      cases h
      obtain ⟨a, b⟩ := places_all h2
      refine ⟨by simp only [List.all_cons, h1, a, Option.isSome_some, Bool.and_self], fun i p hp => ?_⟩
      cases i with
      | zero => simp only [List.getElem?_cons_zero, Option.some.injEq] at hp; subst hp; simp [structPlaces, h1]
      | succ i => simp only [List.getElem?_cons_succ] at hp; have := b i p hp; simpa [structPlaces] using this
    · cases h
theorem fill_le {p1 p2 : Nat → Option (Nat × Nat)} (hp : ∀ i p, p1 i = some p → p2 i = some p) : ∀ {ps : List (Nat × List AV)} {z c : List AV}, fillParts p1 z ps = some c → fillParts p2 z ps = some c
  | [], z, c, h => h
  | (i, v) :: r, z, c, h => by
    simp only [fillParts] at h ⊢
    cases h1 : p1 i with
    | none => rw [h1] at h; cases h
    | some p =>
      rw [h1] at h; rw [hp i p h1]
      simp only at h ⊢
      split at h
      · rename_i hc; rw [if_pos hc]; exact fill_le hp h
      · cases h
theorem so_build {t : TypeId} {ps : List (Nat × Operand)} {z c : List AV} {pl : List (Nat × Nat)} {cps : List (Nat × List AV)} (hb : bplan P t = some (z, pl)) (hp : partsT (ps.map fun p => (p.1, aeval s p.2)) = some cps) (hs : ∀ x ∈ cps.map (·.2), x.all AV.stor = true)
    (hf : fillParts (fun i => pl[i]?) z cps = some c) (h : wops P q ops r (i + 1) (aput s dst (.g c)) H K) :
    wops P q ops ({ dst, op := .build t ps.toArray, type := ty, pos, after, guard := none } :: r) i s H K := by
  refine so_to wops_build (v := .g c) (H' := H) ?_ (fun _ => .inl rfl) h
  have e : partsOf (aeval s) ps = some cps := by rw [partsT_eq]; exact hp
  simp only [bplan] at hb
  split at hb
  · rename_i z' fs h1 h2
    split at hb
    · rename_i pl' h3
      cases hb
      obtain ⟨ha, hq⟩ := places_all h3
      have h8 : cps.all (fun p => p.2.all AV.stor) = true := by
        rw [List.all_eq_true]
        intro p hp'
        exact hs p.2 (List.mem_map.2 ⟨p, hp', rfl⟩)
      simp only [astep, h1, h2, e]
      rw [if_pos ⟨ha, h8⟩, fill_le hq hf, Option.map_some]
    · cases hb
  · cases hb
theorem so_app {b0 b1 : TypeId} {x y : Operand} {n bytes : Nat} {v w v' : AV} {H' : Heap} (hx : aeval s x = .v v) (hy : aeval s y = .v w) (ht : tapp P b0 b1 = some (n, bytes)) (ha : aappend H n bytes v w = some (.v v', H')) (hq : q = true → H' = H ∨ barrier ops i = true)
    (h : wops P q ops r (i + 1) (aput s dst (.v v')) H' K) : wops P q ops ({ dst, op := .call { callee := .builtin .append, args := [x, y].toArray, argTypes := [b0, b1].toArray }, type := ty, pos, after, guard := none } :: r) i s H K :=
  so_to wops_builtin (by simp only [List.map_cons, List.map_nil, hx, hy]; rw [aappend_to ht]; exact ha) hq h
theorem so_len {b0 : TypeId} {x : Operand} {v : AV} {α : Type} {e : α → List AV} {xs : List α} {n : Nat} (hx : aeval s x = .v v) (ht : (telem P b0).isSome = true) (he : ∀ x, (e x).length = n) (hn : 0 < n) (hv : Shows H v n (enc e xs)) (h : wops P q ops r (i + 1) (aput s dst (.v (.int .i64 (xs.length : Int)))) H K) :
    wops P q ops ({ dst, op := .call { callee := .builtin .len, args := [x].toArray, argTypes := [b0].toArray }, type := ty, pos, after, guard := none } :: r) i s H K := by
  refine so_to wops_builtin (v := .v (.int .i64 (xs.length : Int))) (H' := H) ?_ (fun _ => .inl rfl) h
  simp only [List.map_cons, List.map_nil, hx]
  rcases hv.len he hn with ⟨rfl, rfl⟩ | ⟨id, off, rfl, _⟩
  · exact alen_nil ht
  · exact alen_sl ht
theorem so_slice {t : TypeId} {x : Operand} {lo hi : Option Operand} {v : AV} {α : Type} {e : α → List AV} {xs : List α} {n : Nat} {l h' : Option Int} {a b : Int} (hx : aeval s x = .v v) (hl : optAV (lo.map (aeval s)) = some l) (hh : optAV (hi.map (aeval s)) = some h')
    (ht : (telem P t).bind (tsz P) = some n) (he : ∀ x, (e x).length = n) (hn : 0 < n) (hv : Shows H v n (enc e xs)) (ha : l.getD 0 = a) (hb : h'.getD xs.length = b) (h0 : 0 ≤ a ∧ a ≤ b ∧ b ≤ xs.length)
    (h : wops P q ops r (i + 1) (aput s dst (.v (v.cut n a.toNat b.toNat))) H K) : wops P q ops ({ dst, op := .slice t x lo hi none, type := ty, pos, after, guard := none } :: r) i s H K := by
  refine so_to (wops_slice.trans (by rw [hx, hl, hh])) (v := .v (v.cut n a.toNat b.toNat)) (H' := H) ?_ (fun _ => .inl rfl) h
  have hbd : slBounds xs.length l h' = some (a.toNat, b.toNat) := by simp only [slBounds, ha, hb]; rw [if_pos h0]
  rcases hv.len he hn with ⟨rfl, rfl⟩ | ⟨id, off, rfl, _⟩
  · simp only [tslice, ht, Option.isSome_some, if_true, AV.cut]
    rw [List.length_nil] at hbd
    rw [hbd]; rfl
  · exact tslice_sl ht hbd
theorem so_call {f : Operand} {as : List Operand} {tys : Array TypeId} {g : FuncId} {args : List TV} {v : TV} {H' : Heap} (hf : aeval s f = .v (.fn g [])) (ha : as.map (aeval s) = args) (ho : Ok P g args H v H') (hq : q = true → H' = H ∨ barrier ops i = true)
    (h : wops P q ops r (i + 1) (aput s dst v) H' K) : wops P q ops ({ dst, op := .call { callee := .value f, args := as.toArray, argTypes := tys }, type := ty, pos, after, guard := none } :: r) i s H K := by
  rw [wops_call, hf, ha]; exact callG_intro ho ⟨hq, h⟩
theorem so_gyes {op : Op} {j : Nat} {want b : Bool} (hy : ayield ops s j = some (some b)) (hb : b = want) (h : wops P q ops ({ dst, op, type := ty, pos, after, guard := none } :: r) i s H K) :
    wops P q ops ({ dst, op, type := ty, pos, after, guard := some (j, want) } :: r) i s H K := by
  rw [wops_guard, hy]; simp only [guardC, hb, if_true]; exact h
theorem so_gno {op : Op} {j : Nat} {want b : Bool} (hy : ayield ops s j = some (some b)) (hb : b = !want) (h : wops P q ops r (i + 1) (aput s dst (.v .und)) H K) :
    wops P q ops ({ dst, op, type := ty, pos, after, guard := some (j, want) } :: r) i s H K := by
  rw [wops_guard, hy]; subst hb; cases want <;> exact h
theorem so_gund {op : Op} {j : Nat} {want : Bool} (hy : ayield ops s j = some none) (h : wops P q ops r (i + 1) (aput s dst (.v .und)) H K) :
    wops P q ops ({ dst, op, type := ty, pos, after, guard := some (j, want) } :: r) i s H K := by
  rw [wops_guard, hy]; exact h
end

/-! ### what operations yield -/
section
variable {P : Program} {t : TypeId} {k : IntKind} {f : FloatKind} {a b : Int} {x y : Nat}
theorem ab_add : abin P .add t (.int k a) (.int k b) = some (.int k (k.wrap (a + b))) := by simp [abin, iop]
theorem ab_sub : abin P .sub t (.int k a) (.int k b) = some (.int k (k.wrap (a - b))) := by simp [abin, iop]
theorem ab_mul : abin P .mul t (.int k a) (.int k b) = some (.int k (k.wrap (a * b))) := by simp [abin, iop]
theorem ab_quo (h : b ≠ 0) : abin P .quo t (.int k a) (.int k b) = some (.int k (k.wrap (a.tdiv b))) := by simp [abin, iop, h]
theorem ab_rem (h : b ≠ 0) : abin P .rem t (.int k a) (.int k b) = some (.int k (a.tmod b)) := by simp [abin, iop, h]
theorem ab_and : abin P .and t (.int k a) (.int k b) = some (.int k (ibits .and k a b)) := by simp [abin, iop]
theorem ab_eql : abin P .eql t (.int k a) (.int k b) = some (.bool (decide (a = b))) := by simp [abin, iop]; rfl
theorem ab_neq : abin P .neq t (.int k a) (.int k b) = some (.bool (!decide (a = b))) := by simp [abin, iop]; rfl
theorem ab_lss : abin P .lss t (.int k a) (.int k b) = some (.bool (decide (a < b))) := by simp [abin, iop]
theorem ab_leq : abin P .leq t (.int k a) (.int k b) = some (.bool (decide (a ≤ b))) := by simp [abin, iop]
theorem ab_gtr : abin P .gtr t (.int k a) (.int k b) = some (.bool (decide (b < a))) := by simp [abin, iop]
theorem ab_geq : abin P .geq t (.int k a) (.int k b) = some (.bool (decide (b ≤ a))) := by simp [abin, iop]
theorem ab_shl {k2 : IntKind} (h : 0 ≤ b) : abin P .shl t (.int k a) (.int k2 b) = some (.int k (k.wrap (a * 2 ^ (min b.toNat k.bits)))) := by simp [abin, ishift, Int.not_lt.2 h]
theorem ab_shr {k2 : IntKind} (h : 0 ≤ b) : abin P .shr t (.int k a) (.int k2 b) = some (.int k (a.fdiv (2 ^ (min b.toNat k.bits)))) := by simp [abin, ishift, Int.not_lt.2 h]
theorem ab_fadd : abin P .add t (.flt f x) (.flt f y) = some (.flt f (fop .add f x y)) := by simp [abin]
theorem ab_fsub : abin P .sub t (.flt f x) (.flt f y) = some (.flt f (fop .sub f x y)) := by simp [abin]
theorem ab_fmul : abin P .mul t (.flt f x) (.flt f y) = some (.flt f (fop .mul f x y)) := by simp [abin]
theorem ab_fquo : abin P .quo t (.flt f x) (.flt f y) = some (.flt f (fop .quo f x y)) := by simp [abin]
theorem ab_feql : abin P .eql t (.flt f x) (.flt f y) = some (.bool (fcmp .eql f x y)) := by simp [abin]
theorem ab_flss : abin P .lss t (.flt f x) (.flt f y) = some (.bool (fcmp .lss f x y)) := by simp [abin]
theorem ab_fleq : abin P .leq t (.flt f x) (.flt f y) = some (.bool (fcmp .leq f x y)) := by simp [abin]
theorem ab_fgtr : abin P .gtr t (.flt f x) (.flt f y) = some (.bool (fcmp .gtr f x y)) := by simp [abin]
theorem ab_fgeq : abin P .geq t (.flt f x) (.flt f y) = some (.bool (fcmp .geq f x y)) := by simp [abin]
theorem au_neg : aun .neg (.int k a) = some (.int k (k.wrap (0 - a))) := rfl
theorem au_not {b : Bool} : aun .not (.bool b) = some (.bool (!b)) := rfl
end

/-! ### strings as lists of bytes -/
def pk (l : List UInt8) : ByteArray := ⟨l.toArray⟩
theorem pk_size (l : List UInt8) : (pk l).size = l.length := by simp [pk, ByteArray.size]
/-- A byte of a text. -/
def bt (l : List UInt8) (z : Int) : Int := ((l.getD z.toNat 0).toNat : Int)
section
variable {P : Program} {q : Bool} {ops r : List Oper} {i : Nat} {s : Nat → TV} {H : Heap} {K : (Nat → TV) → Heap → Prop} {dst : Option Tmp} {ty : TypeId} {pos : String} {after : Array Edge} {t : TypeId} {l m : List UInt8}
theorem so_index {x y : Operand} {k : IntKind} {z : Int} (hx : aeval s x = .v (.str (pk l))) (hy : aeval s y = .v (.int k z)) (ht : tstr P t = true) (h0 : 0 ≤ z ∧ z < l.length) (h : wops P q ops r (i + 1) (aput s dst (.v (.int .u8 (bt l z)))) H K) :
    wops P q ops ({ dst, op := .index t x y, type := ty, pos, after, guard := none } :: r) i s H K := by
  obtain ⟨h1, h2⟩ := getD_lt h0 (0 : UInt8)
  refine so_to (wops_index.trans (by rw [hx, hy])) (tindex_str ht h0.1 (b := l.getD z.toNat 0) ?_) (fun _ => .inl rfl) h
  have hsz : z.toNat < (pk l).size := by rw [pk_size]; exact h1
  rw [getElem?_pos (pk l) z.toNat hsz, h2]
  rfl
end

/-! ### regions in which some operations are free -/
section
variable {P : Program} {F : List Nat} {ops r : List Oper} {i : Nat} {past : List (Nat × Heap)} {pend : List (Nat × Oper × (Nat → TV) × TV)} {c : Nat} {s : Nat → TV} {H : Heap} {K : (Nat → TV) → Heap → Prop} {o : Oper}
end

end Go.Ab

namespace Go.Ab
set_option linter.unusedVariables false
set_option linter.unusedSimpArgs false

/-! ### elements -/
def eInt (k : IntKind) (n : Int) : List AV := [.int k n]
def eFlt (k : FloatKind) (b : Nat) : List AV := [.flt k b]
def eBool (b : Bool) : List AV := [.bool b]
/-- A number with the other sign. -/
def fneg (f : FloatKind) (b : Nat) : Nat := cz f (Op.negFloat f b)
theorem au_fneg' {f : FloatKind} {x : Nat} : aun .neg (.flt f x) = some (.flt f (fneg f x)) := rfl
section
variable {P : Program} {q : Bool} {ops r : List Oper} {i : Nat} {s : Nat → TV} {H : Heap} {K : (Nat → TV) → Heap → Prop} {dst : Option Tmp} {ty : TypeId} {pos : String} {after : Array Edge} {l : List Pc}

theorem sv_idx {t : TypeId} {x y : Operand} {v : AV} {α : Type} {e : α → List AV} {xs : List α} {n : Nat} {k : IntKind} {z : Int} (hv : Shows H v n (enc e xs)) (h0 : 0 ≤ z ∧ z < xs.length) (he : ∀ x, (e x).length = n) (hn : 0 < n) (hx : aeval s x = .v v) (hy : aeval s y = .v (.int k z)) (ht : (telem P t).bind (tsz P) = some n)
    (h : wops P q ops r (i + 1) (aput s dst (.v (.ptr v.id0 (v.of0 + z.toNat * n)))) H K) :
    wops P q ops ({ dst, op := .indexAddr t x y, type := ty, pos, after, guard := none } :: r) i s H K := so_idx hx hy ht he hn hv h0 h
theorem sv_cell {t : TypeId} {x : Operand} {v : AV} {α : Type} {e : α → List AV} {xs : List α} {n : Nat} {z : Int} (hv : Shows H v n (enc e xs)) (h0 : 0 ≤ z ∧ z < xs.length) (d : α) (j : Nat) (c : α → AV) (he : ∀ x, (e x).length = n) (hj : ∀ x, (e x)[j]? = some (c x))
    (hx : aeval s x = .v (.ptr v.id0 (v.of0 + z.toNat * n + j))) (ht : tagg P t = some false) (h : wops P q ops r (i + 1) (aput s dst (.v (c (xs.getD z.toNat d)))) H K) :
    wops P q ops ({ dst, op := .load t x, type := ty, pos, after, guard := none } :: r) i s H K := so_load hx ht (hv.cell he h0 d hj) h
theorem sv_set {t : TypeId} {a y : Operand} (hs : Sep H l) (k : Nat) {v : AV} {α : Type} {e : α → List AV} {xs : List α} {n : Nat} {z : Int} {w : TV} (hk : nth l k = some (.osl v n (enc e xs))) (h0 : 0 ≤ z ∧ z < xs.length) (x : α) (he : ∀ x, (e x).length = n) (hn : 0 < n) (hst : (e x).all AV.stor = true)
    (hx : aeval s a = .v (.ptr v.id0 (v.of0 + z.toNat * n))) (hy : aeval s y = w) (hc : w.cells = some (e x)) (ht : tsz P t = some n) (hq : q = true → barrier ops i = true)
    (h : ∀ H', Sep H' (putP l k (.osl v n (enc e (xs.set z.toNat x)))) → wops P q ops r (i + 1) (aput s dst (.v .und)) H' K) :
    wops P q ops ({ dst, op := .store t a y, type := ty, pos, after, guard := none } :: r) i s H K := by
  obtain ⟨H', h1, h2⟩ := hs.set k hk he hn h0 x hst
  exact so_store hx hy hc ht (he x) h1 (fun hh => .inr (hq hh)) (h H' h2)
theorem sv_ld {t : TypeId} {x : Operand} (hs : Sep H l) (k : Nat) {id j : Nat} {cs : List AV} {c : AV} (hk : nth l k = some (.box id cs)) (hx : aeval s x = .v (.ptr id j)) (hc : cs[j]? = some c) (ht : tagg P t = some false) (h : wops P q ops r (i + 1) (aput s dst (.v c)) H K) :
    wops P q ops ({ dst, op := .load t x, type := ty, pos, after, guard := none } :: r) i s H K := so_load hx ht (hs.ld k hk hc) h
theorem sv_lds {t : TypeId} {x : Operand} (hs : Sep H l) (k : Nat) {id j m : Nat} {cs c : List AV} (hk : nth l k = some (.box id cs)) (hx : aeval s x = .v (.ptr id j)) (hl : j + m ≤ cs.length) (hc : (cs.drop j).take m = c) (ht : tagg P t = some true) (ht2 : tsz P t = some m) (h : wops P q ops r (i + 1) (aput s dst (.g c)) H K) :
    wops P q ops ({ dst, op := .load t x, type := ty, pos, after, guard := none } :: r) i s H K := so_loadg hx ht ht2 (hs.lds k hk hl hc) h
theorem sv_st {t : TypeId} {a y : Operand} (hs : Sep H l) (k : Nat) {id j m : Nat} {cs c cs' : List AV} {w : TV} (hk : nth l k = some (.box id cs)) (hx : aeval s a = .v (.ptr id j)) (hy : aeval s y = w) (hc : w.cells = some c) (ht : tsz P t = some m) (hm : c.length = m) (hst : c.all AV.stor = true) (hl : j + c.length ≤ cs.length) (hsp : splice cs c j = cs')
    (hq : q = true → barrier ops i = true) (h : ∀ H', Sep H' (putP l k (.box id cs')) → wops P q ops r (i + 1) (aput s dst (.v .und)) H' K) :
    wops P q ops ({ dst, op := .store t a y, type := ty, pos, after, guard := none } :: r) i s H K := by
  obtain ⟨H', h1, h2⟩ := hs.st k hk hl hst hsp
  exact so_store hx hy hc ht hm h1 (fun hh => .inr (hq hh)) (h H' h2)
theorem sv_alloc {t : TypeId} {z : List AV} (hs : Sep H l) (ht : tzero P t = some z) (hst : z.all AV.stor = true) (hq : q = true → barrier ops i = true) (h : ∀ id H', Sep H' (.box id z :: l) → wops P q ops r (i + 1) (aput s dst (.v (.ptr id 0))) H' K) :
    wops P q ops ({ dst, op := .alloc t, type := ty, pos, after, guard := none } :: r) i s H K := so_alloc ht hst (fun hh => .inr (hq hh)) (h _ _ (hs.alloc z))
theorem sv_box {t : TypeId} {x : Operand} {v : TV} {c : List AV} (hs : Sep H l) (hx : aeval s x = v) (hc : v.cells = some c) (ht : (P.info? t).isSome = true) (hst : c.all AV.stor = true) (hq : q = true → barrier ops i = true) (h : ∀ id H', Sep H' (.box id c :: l) → wops P q ops r (i + 1) (aput s dst (.v (.ptr id 0))) H' K) :
    wops P q ops ({ dst, op := .box t x, type := ty, pos, after, guard := none } :: r) i s H K := so_box hx hc ht hst (fun hh => .inr (hq hh)) (h _ _ (hs.alloc c))
theorem sv_bslice {t e : TypeId} {n len : Nat} {z : List AV} {ps : List (Nat × Operand)} {α : Type} (hs : Sep H l) (en : α → List AV) (xs : List α) (css : List (List AV)) (h1 : telem P t = some e) (h2 : tsz P e = some n) (h3 : tzero P e = some z) (h4 : z.length = n)
    (hp : partsT (ps.map fun p => (p.1, aeval s p.2)) = some ((css.zipIdx 0).map fun p => (p.2, p.1))) (hxs : css = xs.map en) (hlen : xs.length = len) (he : ∀ x, (en x).length = n) (hst : (enc en xs).all AV.stor = true) (hb : len * n ≤ 2 ^ 24)
    (hq : q = true → barrier ops i = true) (h : ∀ v H', v ≠ .nilsl → Sep H' (.osl v n (enc en xs) :: l) → wops P q ops r (i + 1) (aput s dst (.v v)) H' K) :
    wops P q ops ({ dst, op := .buildSlice t len ps.toArray, type := ty, pos, after, guard := none } :: r) i s H K := by
  have hf : css.flatten = enc en xs := by rw [hxs, enc, List.flatMap]
  refine so_bslice h1 h2 h3 h4 hp (by rw [hxs, List.length_map, hlen]) (fun c hc => ?_) (fun c hc => ?_) hb hf (fun hh => .inr (hq hh)) (h _ _ (by simp) (hs.allocS (by rw [enc_length he, hlen])))
  · rw [hxs] at hc; obtain ⟨x, _, rfl⟩ := List.mem_map.1 hc; exact he x
  · rw [List.all_eq_true] at hst ⊢
    exact fun y hy => hst y (by rw [← hf]; exact List.mem_flatten.2 ⟨c, hc, hy⟩)
theorem sv_app {b0 b1 : TypeId} {x y : Operand} {n bytes : Nat} {v w : AV} {α : Type} {e : α → List AV} {xs ys : List α} (hs : Sep H l) (k : Nat) (hk : nth l k = some (.osl v n (enc e xs))) (hw : Shows H w n (enc e ys)) (he : ∀ x, (e x).length = n) (hn : 0 < n) (ht : tapp P b0 b1 = some (n, bytes)) (h5 : bytes ≠ 0)
    (hb : (xs.length + ys.length) * bytes ≤ 2 ^ 40) (hx : aeval s x = .v v) (hy : aeval s y = .v w) (hq : q = true → barrier ops i = true)
    (h : ∀ v' H', (v ≠ .nilsl → v' ≠ .nilsl) → Sep H' (putP l k (.osl v' n (enc e (xs ++ ys)))) → wops P q ops r (i + 1) (aput s dst (.v v')) H' K) :
    wops P q ops ({ dst, op := .call { callee := .builtin .append, args := [x, y].toArray, argTypes := [b0, b1].toArray }, type := ty, pos, after, guard := none } :: r) i s H K := by
  obtain ⟨v', H', h1, h3, h2⟩ := hs.append k hk he hn hw hb h5
  exact so_app hx hy ht h1 (fun hh => .inr (hq hh)) (h v' H' h3 h2)
theorem sv_len {b0 : TypeId} {x : Operand} {v : AV} {α : Type} {e : α → List AV} {xs : List α} {n : Nat} (hv : Shows H v n (enc e xs)) (he : ∀ x, (e x).length = n) (hn : 0 < n) (hx : aeval s x = .v v) (ht : (telem P b0).isSome = true) (h : wops P q ops r (i + 1) (aput s dst (.v (.int .i64 (xs.length : Int)))) H K) :
    wops P q ops ({ dst, op := .call { callee := .builtin .len, args := [x].toArray, argTypes := [b0].toArray }, type := ty, pos, after, guard := none } :: r) i s H K := so_len hx ht he hn hv h
theorem sv_slice {t : TypeId} {x : Operand} {lo hi : Option Operand} {v : AV} {α : Type} {e : α → List AV} {xs : List α} {n : Nat} {l1 h1 : Option Int} (hv : Shows H v n (enc e xs)) {a b : Int} (h0 : 0 ≤ a ∧ a ≤ b ∧ b ≤ xs.length) (he : ∀ x, (e x).length = n) (hn : 0 < n) (hx : aeval s x = .v v) (hl : optAV (lo.map (aeval s)) = some l1) (hh : optAV (hi.map (aeval s)) = some h1)
    (ha : l1.getD 0 = a) (hb : h1.getD xs.length = b) (ht : (telem P t).bind (tsz P) = some n) (h : wops P q ops r (i + 1) (aput s dst (.v (v.cut n a.toNat b.toNat))) H K) :
    wops P q ops ({ dst, op := .slice t x lo hi none, type := ty, pos, after, guard := none } :: r) i s H K := so_slice hx hl hh ht he hn hv ha hb h0 h
/-! ### maps from integers to integers -/
/-! ### arrays: a variable that holds one is a row of its cells -/
theorem sv_call {f : Operand} {as : List Operand} {tys : Array TypeId} {g : FuncId} {args : List TV} {Q : TV → Heap → Prop} (ho : OkQ P g args H Q) (hf : aeval s f = .v (.fn g [])) (ha : as.map (aeval s) = args) (hq : q = true → barrier ops i = true)
    (h : ∀ v H', Q v H' → wops P q ops r (i + 1) (aput s dst v) H' K) : wops P q ops ({ dst, op := .call { callee := .value f, args := as.toArray, argTypes := tys }, type := ty, pos, after, guard := none } :: r) i s H K := by
  obtain ⟨v, H', h1, h2⟩ := ho
  exact so_call hf ha h1 (fun hh => .inr (hq hh)) (h v H' h2)
theorem sv_callS {f : Operand} {as : List Operand} {tys : Array TypeId} {g : FuncId} {args : List TV} {Q : TV → Heap → Prop} (ho : OkQ P g args H Q) (hQ : ∀ v H', Q v H' → H = H') (hf : aeval s f = .v (.fn g [])) (ha : as.map (aeval s) = args)
    (h : ∀ v H', Q v H' → wops P q ops r (i + 1) (aput s dst v) H' K) : wops P q ops ({ dst, op := .call { callee := .value f, args := as.toArray, argTypes := tys }, type := ty, pos, after, guard := none } :: r) i s H K := by
  obtain ⟨v, H', h1, h2⟩ := ho
  exact so_call hf ha h1 (fun _ => .inl (hQ v H' h2).symm) (h v H' h2)
theorem so_callc {f : Operand} {as : List Operand} {tys : Array TypeId} {g : FuncId} {caps : List (Nat × Nat)} {args : List TV} {v : TV} {H' : Heap} (hf : aeval s f = .v (.fn g caps)) (ha : as.map (aeval s) ++ caps.map (fun p => TV.v (.ptr p.1 p.2)) = args) (ho : Ok P g args H v H') (hq : q = true → H' = H ∨ barrier ops i = true)
    (h : wops P q ops r (i + 1) (aput s dst v) H' K) : wops P q ops ({ dst, op := .call { callee := .value f, args := as.toArray, argTypes := tys }, type := ty, pos, after, guard := none } :: r) i s H K := by
  rw [wops_call, hf]
  refine ⟨v, H', by rw [ha]; exact ho, ?_⟩
  exact ⟨hq, h⟩
theorem sv_callc {f : Operand} {as : List Operand} {tys : Array TypeId} {g : FuncId} {caps : List (Nat × Nat)} {args : List TV} {Q : TV → Heap → Prop} (ho : OkQ P g args H Q) (hf : aeval s f = .v (.fn g caps)) (ha : as.map (aeval s) ++ caps.map (fun p => TV.v (.ptr p.1 p.2)) = args) (hq : q = true → barrier ops i = true)
    (h : ∀ v H', Q v H' → wops P q ops r (i + 1) (aput s dst v) H' K) : wops P q ops ({ dst, op := .call { callee := .value f, args := as.toArray, argTypes := tys }, type := ty, pos, after, guard := none } :: r) i s H K := by
  obtain ⟨v, H', h1, h2⟩ := ho
  exact so_callc hf ha h1 (fun hh => .inr (hq hh)) (h v H' h2)
theorem so_makeFunc {f : FuncId} {cs : List Operand} {c : List (Nat × Nat)} (hc : capsOf (aeval s) cs = some c) (h : wops P q ops r (i + 1) (aput s dst (.v (.fn f c))) H K) :
    wops P q ops ({ dst, op := .makeFunc (.func f) #[] cs.toArray, type := ty, pos, after, guard := none } :: r) i s H K := by
  refine so_to (wops_op rfl) (v := .v (.fn f c)) (H' := H) ?_ (fun _ => .inl rfl) h
  have e : (#[] : Array Operand).size = 0 := rfl
  show (if (#[] : Array Operand).size = 0 then (capsOf (aeval s) cs.toArray.toList).map fun c => (TV.v (.fn f c), H) else none) = _
  rw [if_pos e]
  show (capsOf (aeval s) cs).map (fun c => (TV.v (.fn f c), H)) = _
  rw [hc]; rfl
/-! ### conversions -/
theorem sv_ii {src d : TypeId} {x : Operand} {k k' : IntKind} {n : Int} (hx : aeval s x = .v (.int k n)) (h1 : (P.underlying src).isSome = true) (h2 : tint P d = some k') (h : wops P q ops r (i + 1) (aput s dst (.v (.int k' (k'.wrap n)))) H K) :
    wops P q ops ({ dst, op := .convert src d x, type := ty, pos, after, guard := none } :: r) i s H K := so_conv hx (tconv_int h1 h2) (fun _ => .inl rfl) h
/-- An integer as a number. -/
def itof (f : FloatKind) (n : Int) : Nat := cz f (floatOfInt f n)
theorem sv_if {src d : TypeId} {x : Operand} {k : IntKind} {f : FloatKind} {n : Int} (hx : aeval s x = .v (.int k n)) (h1 : (P.underlying src).isSome = true) (h2 : tint P d = none) (h3 : tflt P d = some f) (h : wops P q ops r (i + 1) (aput s dst (.v (.flt f (itof f n)))) H K) :
    wops P q ops ({ dst, op := .convert src d x, type := ty, pos, after, guard := none } :: r) i s H K := so_conv hx (tconv_itof h1 h2 h3) (fun _ => .inl rfl) h
/-- A number as an integer. -/
def ftoi (f : FloatKind) (b : Nat) (k : IntKind) : Int := (floatToIntVal f b k).getD 0
theorem sv_fi {src d : TypeId} {x : Operand} {k : IntKind} {f : FloatKind} {b : Nat} (hc : (floatToIntVal f b k).isSome = true) (hx : aeval s x = .v (.flt f b)) (h1 : (P.underlying src).isSome = true) (h2 : tint P d = some k) (h : wops P q ops r (i + 1) (aput s dst (.v (.int k (ftoi f b k)))) H K) :
    wops P q ops ({ dst, op := .convert src d x, type := ty, pos, after, guard := none } :: r) i s H K := by
  obtain ⟨n, hn⟩ := Option.isSome_iff_exists.1 hc
  have : ftoi f b k = n := by rw [ftoi, hn]; rfl
  rw [this] at h
  exact so_conv hx (tconv_ftoi h1 h2 hn) (fun _ => .inl rfl) h
theorem sv_ffw {src d : TypeId} {x : Operand} {b : Nat} (hx : aeval s x = .v (.flt .f32 b)) (h1 : (P.underlying src).isSome = true) (h2 : tint P d = none) (h3 : tflt P d = some .f64) (h : wops P q ops r (i + 1) (aput s dst (.v (.flt .f64 (widen b)))) H K) :
    wops P q ops ({ dst, op := .convert src d x, type := ty, pos, after, guard := none } :: r) i s H K := so_conv hx (tconv_ftof h1 h2 h3 (widen_eq b)) (fun _ => .inl rfl) h
/-- A number narrowed. -/
def narrow (b : Nat) : Nat := (fconv .f64 b .f32).getD 0
theorem sv_ffn {src d : TypeId} {x : Operand} {b : Nat} (hc : (fconv .f64 b .f32).isSome = true) (hx : aeval s x = .v (.flt .f64 b)) (h1 : (P.underlying src).isSome = true) (h2 : tint P d = none) (h3 : tflt P d = some .f32) (h : wops P q ops r (i + 1) (aput s dst (.v (.flt .f32 (narrow b)))) H K) :
    wops P q ops ({ dst, op := .convert src d x, type := ty, pos, after, guard := none } :: r) i s H K := by
  obtain ⟨n, hn⟩ := Option.isSome_iff_exists.1 hc
  have : narrow b = n := by rw [narrow, hn]; rfl
  rw [this] at h
  exact so_conv hx (tconv_ftof h1 h2 h3 hn) (fun _ => .inl rfl) h
/-! ### the greater and the less -/
def mxI (a b : Int) : Int := if b > a then b else a
def mnI (a b : Int) : Int := if b < a then b else a
theorem sv_max {x y : Operand} {tys : Array TypeId} {k : IntKind} {a b : Int} (hx : aeval s x = .v (.int k a)) (hy : aeval s y = .v (.int k b)) (h : wops P q ops r (i + 1) (aput s dst (.v (.int k (mxI a b)))) H K) :
    wops P q ops ({ dst, op := .call { callee := .builtin .max, args := [x, y].toArray, argTypes := tys }, type := ty, pos, after, guard := none } :: r) i s H K :=
  so_to wops_builtin (by simp [hx, hy, abuiltin, argsAV, foldMM, minMax2]; rfl) (fun _ => .inl rfl) h
/-- The greater of two floats. -/
def mxF (k : FloatKind) (a b : Nat) : Nat := match k.format.order a b with
  | none => qnan k
  | some .lt => b
  | some .gt => a
  | some .eq => if (k.decode a).neg then b else a
theorem sv_maxF {x y : Operand} {tys : Array TypeId} {k : FloatKind} {a b : Nat} (hx : aeval s x = .v (.flt k a)) (hy : aeval s y = .v (.flt k b)) (h : wops P q ops r (i + 1) (aput s dst (.v (.flt k (mxF k a b)))) H K) :
    wops P q ops ({ dst, op := .call { callee := .builtin .max, args := [x, y].toArray, argTypes := tys }, type := ty, pos, after, guard := none } :: r) i s H K :=
  so_to wops_builtin (by
    have e : minMax2 true (.flt k a) (.flt k b) = some (.flt k (mxF k a b)) := by
      unfold minMax2 mxF
      simp only [if_true]
      cases k.format.order a b with
      | none => rfl
      | some o => cases o <;> rfl
    simp [hx, hy, abuiltin, argsAV, foldMM, e]) (fun _ => .inl rfl) h
theorem sv_min {x y : Operand} {tys : Array TypeId} {k : IntKind} {a b : Int} (hx : aeval s x = .v (.int k a)) (hy : aeval s y = .v (.int k b)) (h : wops P q ops r (i + 1) (aput s dst (.v (.int k (mnI a b)))) H K) :
    wops P q ops ({ dst, op := .call { callee := .builtin .min, args := [x, y].toArray, argTypes := tys }, type := ty, pos, after, guard := none } :: r) i s H K :=
  so_to wops_builtin (by simp [hx, hy, abuiltin, argsAV, foldMM, minMax2]; rfl) (fun _ => .inl rfl) h
end

/-! ### bodies -/
theorem of_body {P : Program} {f : FuncId} {args : List TV} {H : Heap} {Q : TV → Heap → Prop} (fn : Func) {c : Code} (hm : P.follows .mixedOrders = true) (hf : P.funcs[f]? = some fn) (hb : fn.body = some c)
    (hcall : ∀ (as : Array Value) (w : World), (callFunc f as).run P w = .ok (.enter f as) w) (hok : codeOK fn.ntmps c = true) (hn : args.length ≤ fn.ntmps)
    (h : Fin P [.code c] (init args) H fun s' H' => ∃ r', resultOf P fn s' H' = some r' ∧ Q r' H') : OkQ P f args H Q := OkQ.of_fin hm hf hb hcall hok hn h
theorem by_ret {P : Program} {fn : Func} {Q : TV → Heap → Prop} {t : List Item} {s : Nat → TV} {H : Heap} {r : TV} (hr : resultOf P fn s H = some r) (h : Q r H) : Fin P (.code .ret :: t) s H fun s' H' => ∃ r', resultOf P fn s' H' = some r' ∧ Q r' H' := fi_ret ⟨r, hr, h⟩
theorem by_end {P : Program} {fn : Func} {Q : TV → Heap → Prop} {s : Nat → TV} {H : Heap} {r : TV} (hr : resultOf P fn s H = some r) (h : Q r H) : Fin P [] s H fun s' H' => ∃ r', resultOf P fn s' H' = some r' ∧ Q r' H' := by rw [Fin_nil]; exact ⟨r, hr, h⟩

end Go.Ab
namespace Go.Ab
theorem ofP {p A B : Prop} (h : (p → A) ∧ (¬p → B)) : (p ∧ A) ∨ (¬p ∧ B) := (Classical.em p).elim (fun c => .inl ⟨c, h.1 c⟩) (fun c => .inr ⟨c, h.2 c⟩)
theorem ofT {b : Bool} {A B : Prop} (h : (b = true → A) ∧ (b = false → B)) : (b = true ∧ A) ∨ (b = false ∧ B) := by
  cases b with
  | true => exact .inl ⟨rfl, h.1 rfl⟩
  | false => exact .inr ⟨rfl, h.2 rfl⟩
end Go.Ab

namespace Go.Ab
set_option linter.unusedVariables false
set_option linter.unusedSimpArgs false

/-! ### what may be stored -/
theorem Shows.stor {H : Heap} {v : AV} {n : Nat} {cs : List AV} (h : Shows H v n cs) : v.stor = true := by
  rcases h with ⟨rfl, _⟩ | ⟨_, _, _, rfl, _⟩ <;> simp [AV.stor]
theorem stc {c : AV} {l : List AV} (h : c.stor = true) (k : l.all AV.stor = true) : (c :: l).all AV.stor = true := by simp [h, k]
theorem stn : ([] : List AV).all AV.stor = true := rfl

/-! ### cells behind a pointer that are only read -/
def PtAt (H : Heap) (id off : Nat) (cs : List AV) : Prop := id < H.n ∧ ∀ j c, cs[j]? = some c → rdCell H id (off + j) = some c
theorem PtAt.many {H : Heap} {id off : Nat} {cs : List AV} (h : PtAt H id off cs) (j m : Nat) {c : List AV} (hl : j + m ≤ cs.length) (h0 : 0 < m) (hc : (cs.drop j).take m = c) : rdCells H id (off + j) m = some c := by
  have key : ∀ i, i < m → (H.f id).cs[off + j + i]? = cs[j + i]? := fun i hi => by
    have h1 : cs[j + i]? = some cs[j + i] := List.getElem?_eq_getElem (by omega)
    have := h.2 (j + i) _ h1
    rw [rdCell_eq] at this
    rw [h1, ← this, Nat.add_assoc]
  have hlen : off + j + m ≤ (H.f id).cs.length := by
    have := key (m - 1) (by omega)
    rw [List.getElem?_eq_getElem (by omega : j + (m - 1) < cs.length)] at this
    have := (List.getElem?_eq_some_iff.1 this).1
    omega
  rw [rdCells_eq, if_pos hlen, ← hc]
  congr 1
  apply List.ext_getElem?
  intro i
  rw [List.getElem?_take, List.getElem?_take]
  by_cases hi : i < m
  · rw [if_pos hi, if_pos hi, List.getElem?_drop, List.getElem?_drop, key i hi]
  · rw [if_neg hi, if_neg hi]
theorem PtAt.sub {H : Heap} {id off : Nat} {cs : List AV} (h : PtAt H id off cs) (j m : Nat) {c : List AV} (hc : (cs.drop j).take m = c) : PtAt H id (off + j) c := ⟨h.1, fun i x hx => by
  rw [← hc, List.getElem?_take] at hx
  by_cases hi : i < m
  · rw [if_pos hi, List.getElem?_drop] at hx
    have := h.2 (j + i) x hx
    rw [← Nat.add_assoc] at this; exact this
  · rw [if_neg hi] at hx; cases hx⟩
theorem Sep.ptat {H : Heap} {l : List Pc} (h : Sep H l) (k : Nat) {id : Nat} {cs : List AV} (hk : Go.Ab.nth l k = some (.box id cs)) : PtAt H id 0 cs := ⟨Pc.at_lt (h.nth hk) rfl, fun j c hc => by rw [Nat.zero_add]; exact h.ld k hk hc⟩
theorem Shows.ptat {α : Type} {e : α → List AV} {n : Nat} {H : Heap} {v : AV} {xs : List α} (h : Shows H v n (enc e xs)) {z : Int} (h0 : 0 ≤ z ∧ z < xs.length) (d : α) (he : ∀ x, (e x).length = n) (hn : 0 < n) : PtAt H v.id0 (v.of0 + z.toNat * n) (e (xs.getD z.toNat d)) := by
  obtain ⟨h1, h2⟩ := getD_lt h0 d
  obtain ⟨h3, h4⟩ := h.at he hn h0
  refine ⟨h4.lt, fun j c hc => ?_⟩
  have hjn : j < n := by rw [← he (xs.getD z.toNat d)]; exact (List.getElem?_eq_some_iff.1 hc).1
  rw [rdCell_eq, Nat.add_assoc, h4.cell he h1 hjn, ← h2, hc]

section
variable {P : Program} {q : Bool} {ops r : List Oper} {i : Nat} {s : Nat → TV} {H : Heap} {K : (Nat → TV) → Heap → Prop} {dst : Option Tmp} {ty : TypeId} {pos : String} {after : Array Edge} {l : List Pc}
theorem su_ld {t : TypeId} {x : Operand} {id off : Nat} {cs : List AV} (hp : PtAt H id off cs) (j : Nat) {c : AV} (hc : cs[j]? = some c) (hx : aeval s x = .v (.ptr id (off + j))) (ht : tagg P t = some false) (h : wops P q ops r (i + 1) (aput s dst (.v c)) H K) :
    wops P q ops ({ dst, op := .load t x, type := ty, pos, after, guard := none } :: r) i s H K := so_load hx ht (hp.2 j c hc) h
end

/-! ### results -/
section
variable {P : Program} {s : Nat → TV} {H : Heap} {r : List ResultVar} {vs : List TV}
theorem ar_nil : aresults P s H [] = some [] := rfl
theorem ar_cells {a : Nat} {t : TypeId} {id off n : Nat} {c : List AV} (hx : s a = .v (.ptr id off)) (ht : tagg P t = some true) (hn : tsz P t = some n) (hc : rdCells H id off n = some c) (h : aresults P s H r = some vs) : aresults P s H (.cell a t :: r) = some (.g c :: vs) := by
  rw [aresults_cell, hx, tload_agg ht hn hc, h]; rfl
theorem res_mk {fn : Func} {x : TV} (h : aresults P s H fn.results.toList = some vs) (hp : packTV vs = some x) : resultOf P fn s H = some x := by rw [resultOf, h]; exact hp
end

/-! ### functions without a body -/
/-- What a number is not. -/
def num (k : FloatKind) (x : Nat) : Bool := !(k.decode x).isNaN
section
variable {P : Program} {f : FuncId} {fn : Func} {H : Heap}
theorem callFunc_extD {P : Program} {f : FuncId} {fn : Func} {e : Array Value → Sem Value} (hf : P.funcs[f]? = some fn) (hn : (fn.name == "runtime.NumGoroutine") = false) (hb : fn.body = none) (h1 : (Extern.findNext fn).isNone = true) (h2 : Extern.find fn = some e) (as : Array Value) (w w1 : World) {v : Value} (hv : (e as).run P w = .ok v w1) :
    (callFunc f as).run P w = .ok (.value v) w1 := by
  have h1' := Option.isNone_iff_eq_none.1 h1
  have hb' : fn.body.isNone = true := by rw [hb]; rfl
  unfold callFunc
  simp only [program, Sem.run_bind]
  have hn' : ¬ fn.name = "runtime.NumGoroutine" := by simpa using hn
  simp [Sem.run, hf, hn', hb, h1', h2, mark]
  rw [hv]; rfl
/-- The square root, whatever a not-a-number's bits are. -/
def sqrtW (x : Nat) : Nat := ((FloatKind.f64.format.sqrt x).map (cz .f64)).getD (qnan .f64)
theorem sqrt_cz (b : Nat) : FloatKind.f64.format.sqrt (cz .f64 b) = FloatKind.f64.format.sqrt b := by
  unfold Ieee.Format.sqrt
  have hn : ∀ d : Ieee.Datum, d.isNaN = true → ∀ n, d.root n = none := by
    intro d hd n
    cases d <;> simp [Ieee.Datum.isNaN] at hd
    rfl
  show ((FloatKind.f64.decode (cz .f64 b)).root _).map _ = ((FloatKind.f64.decode b).root _).map _
  rcases decode_cz .f64 b with ⟨h1, h2⟩ | h1
  · rw [hn _ h1, hn _ h2]
  · rw [h1]
theorem sqrt_ok (hf : P.funcs[f]? = some fn) (hn : (fn.name == "runtime.NumGoroutine") = false) (hb : fn.body = none) (h1 : (Extern.findNext fn).isNone = true) (h2 : Extern.find fn = some Extern.MathSqrt.sqrt) (x : Nat) : Ok P f [.v (.flt .f64 x)] H (.v (.flt .f64 (sqrtW x))) H := by
  intro β us w hs ha
  match us, ha with
  | [u], ⟨⟨b, hu, hc⟩, _⟩ =>
    subst hu
    have key : ∃ r n, (Extern.MathSqrt.sqrt #[.float .f64 b]).run P w = .ok (.float .f64 r) { w with drawn := n } ∧ cz .f64 r = sqrtW x := by
      have hx : FloatKind.f64.format.sqrt x = FloatKind.f64.format.sqrt b := by rw [← hc]; exact sqrt_cz b
      have hd : Extern.MathSqrt.sqrt #[.float .f64 b] = (match FloatKind.f64.format.sqrt b with
        | some r => pure (.float .f64 r)
        | none => do pure (.float .f64 (← choose (.nanBits .f64 b b)))) := rfl
      unfold sqrtW
      rw [hx, hd]
      cases hr : FloatKind.f64.format.sqrt b with
      | some r => exact ⟨r, w.drawn, by simp, rfl⟩
      | none =>
        have hq : ∀ t, (FloatKind.f64.decode (Question.cut (.nanBits .f64 b b) t)).isNaN = true := fun t => nan_f64 t
        refine ⟨Question.cut (.nanBits .f64 b b) (w.tape w.drawn (.nanBits .f64 b b)), w.drawn + 1, ?_, by simp [cz, hq]⟩
        simp [Question.forced]
    obtain ⟨r, n, k1, k2⟩ := key
    rw [callFunc_extD hf hn hb h1 h2 #[.float .f64 b] w _ k1]
    exact ⟨_, β, rfl, Le.refl β, hs.draw n, ⟨r, rfl, k2⟩, ⟨rfl, rfl, rfl, Nat.le_refl _, fun _ _ _ => rfl, fun _ _ h => h⟩⟩
end

/-! ### slices of what holds slices -/
structure DSh {α : Type} (H : Heap) (v : AV) (n : Nat) (R : Heap → α → List AV → Prop) (xs : List α) (ws : List (List AV)) : Prop where
  shows : Shows H v n (enc id ws)
  size : ∀ c ∈ ws, c.length = n
  all : All2 (R H) xs ws
theorem DSh.stor {α : Type} {H : Heap} {v : AV} {n : Nat} {R : Heap → α → List AV → Prop} {xs : List α} {ws : List (List AV)} (h : DSh H v n R xs ws) : v.stor = true := h.1.stor
theorem DSh.at {α : Type} {H : Heap} {v : AV} {n : Nat} {R : Heap → α → List AV → Prop} {xs : List α} {ws : List (List AV)} (h : DSh H v n R xs ws) (hn : 0 < n) {z : Int} (h0 : 0 ≤ z ∧ z < xs.length) (d : α) :
    v = .sl v.id0 v.of0 xs.length n ∧ R H (xs.getD z.toNat d) (ws.getD z.toNat []) ∧ PtAt H v.id0 (v.of0 + z.toNat * n) (ws.getD z.toNat []) := by
  obtain ⟨h1, h2⟩ := getD_lt h0 d
  have hl := h.all.len
  have h0' : 0 ≤ z ∧ z < ws.length := by rw [← hl]; exact h0
  obtain ⟨h3, h4⟩ := getD_lt h0' ([] : List AV)
  obtain ⟨b, h5, h6⟩ := h.all.get z.toNat _ (List.getElem?_eq_getElem h1)
  have h7 : ws.getD z.toNat [] = b := by rw [List.getD_eq_getElem?_getD, h5]; rfl
  -- the cells of all elements, one after another
  have hlen : ∀ (l : List (List AV)), (∀ c ∈ l, c.length = n) → (enc id l).length = l.length * n := by
    intro l
    induction l with
    | nil => intro _; simp [enc]
    | cons c l ih =>
      intro hc
      rw [enc_cons, List.length_append, ih fun c hc' => hc c (List.mem_cons_of_mem _ hc'), List.length_cons, Nat.succ_mul]
      have : (id c : List AV).length = n := hc c (List.mem_cons_self ..)
      omega
  have hrow : ∀ (l : List (List AV)) (k : Nat), (∀ c ∈ l, c.length = n) → k < l.length → ((enc id l).drop (k * n)).take n = l.getD k [] := by
    intro l
    induction l with
    | nil => intro k _ hk; simp at hk
    | cons c l ih =>
      intro k hc hk
      have hcn : (id c : List AV).length = n := hc c (List.mem_cons_self ..)
      cases k with
      | zero => rw [Nat.zero_mul, List.drop_zero, enc_cons, ← hcn, List.take_left]; rfl
      | succ k =>
        rw [enc_cons, Nat.succ_mul, Nat.add_comm, ← List.drop_drop]
        rw [show ((id c : List AV) ++ enc id l).drop n = enc id l by rw [← hcn, List.drop_left]]
        rw [ih k (fun c hc' => hc c (List.mem_cons_of_mem _ hc')) (by simpa using hk)]
        rfl
  rcases h.shows with ⟨rfl, he⟩ | ⟨id', off, len, rfl, h8, h9⟩
  · have := hlen ws h.size
    rw [he, List.length_nil] at this
    have : ws.length * n ≠ 0 := Nat.mul_ne_zero (by omega) (by omega)
    omega
  · rw [hlen ws h.size] at h8
    have : ws.length = len := Nat.eq_of_mul_eq_mul_right hn h8
    subst this
    refine ⟨by rw [hl]; rfl, by rw [h2, h7]; exact h6, h9.lt, fun j c hc => ?_⟩
    have hm : z.toNat * n + n ≤ ws.length * n := by rw [← Nat.succ_mul]; exact Nat.mul_le_mul_right _ h3
    have hsz : (ws.getD z.toNat []).length = n := h.size _ (by rw [h4]; exact List.getElem_mem h3)
    have hj : j < n := by rw [← hsz]; exact (List.getElem?_eq_some_iff.1 hc).1
    show (H.f id').cs[off + z.toNat * n + j]? = some c
    rw [Nat.add_assoc, h9.rd (by rw [hlen ws h.size]; omega), ← hc, ← hrow ws z.toNat h.size h3, List.getElem?_take, if_pos hj, List.getElem?_drop]
theorem DSh.len {α : Type} {H : Heap} {v : AV} {n : Nat} {R : Heap → α → List AV → Prop} {xs : List α} {ws : List (List AV)} (h : DSh H v n R xs ws) (hn : 0 < n) : (v = .nilsl ∧ xs.length = 0) ∨ ∃ id off, v = .sl id off xs.length n := by
  rcases Nat.eq_zero_or_pos xs.length with h0 | h0
  · rcases h.shows with ⟨rfl, _⟩ | ⟨id', off, len, rfl, h8, h9⟩
    · exact .inl ⟨rfl, h0⟩
    · have hw : ws = [] := List.eq_nil_of_length_eq_zero (by rw [← h.all.len]; exact h0)
      subst hw
      have : len * n = 0 := h8.symm
      have : len = 0 := by rcases Nat.mul_eq_zero.1 this with h | h <;> omega
      subst this
      exact .inr ⟨id', off, by rw [h0]⟩
  · cases xs with
    | nil => simp at h0
    | cons x xs => exact .inr ⟨_, _, (h.at hn (z := 0) ⟨Int.le_refl _, by rw [List.length_cons]; omega⟩ x).1⟩
section
variable {P : Program} {q : Bool} {ops r : List Oper} {i : Nat} {s : Nat → TV} {H : Heap} {K : (Nat → TV) → Heap → Prop} {dst : Option Tmp} {ty : TypeId} {pos : String} {after : Array Edge} {l : List Pc}
theorem sd_len {b0 : TypeId} {x : Operand} {v : AV} {α : Type} {R : Heap → α → List AV → Prop} {xs : List α} {ws : List (List AV)} {n : Nat} (hv : DSh H v n R xs ws) (hn : 0 < n) (hx : aeval s x = .v v) (ht : (telem P b0).isSome = true) (h : wops P q ops r (i + 1) (aput s dst (.v (.int .i64 (xs.length : Int)))) H K) :
    wops P q ops ({ dst, op := .call { callee := .builtin .len, args := [x].toArray, argTypes := [b0].toArray }, type := ty, pos, after, guard := none } :: r) i s H K := by
  refine so_to wops_builtin (v := .v (.int .i64 (xs.length : Int))) (H' := H) ?_ (fun _ => .inl rfl) h
  simp only [List.map_cons, List.map_nil, hx]
  rcases hv.len hn with ⟨rfl, h0⟩ | ⟨id, off, rfl⟩
  · rw [h0]; exact alen_nil ht
  · exact alen_sl ht
theorem enc_sub {n : Nat} (L : List {c : List AV // c.length = n}) : enc id (L.map Subtype.val) = enc Subtype.val L := by
  induction L with
  | nil => rfl
  | cons a L ih => rw [List.map_cons, enc_cons, enc_cons, ih]; rfl
theorem as_sub {n : Nat} : ∀ (ws : List (List AV)), (∀ c ∈ ws, c.length = n) → ∃ L : List {c : List AV // c.length = n}, L.map Subtype.val = ws
  | [], _ => ⟨[], rfl⟩
  | c :: ws, h => by
    obtain ⟨L, hL⟩ := as_sub ws fun x hx => h x (List.mem_cons_of_mem _ hx)
    exact ⟨⟨c, h c (List.mem_cons_self ..)⟩ :: L, by rw [List.map_cons, hL]⟩
theorem All2.dropt {γ δ : Type} {Q : γ → δ → Prop} : ∀ (k : Nat) {as : List γ} {bs : List δ}, All2 Q as bs → All2 Q (as.drop k) (bs.drop k)
  | 0, as, bs, h => by rw [List.drop_zero, List.drop_zero]; exact h
  | k + 1, [], [], _ => trivial
  | k + 1, _ :: as, _ :: bs, h => All2.dropt k (as := as) (bs := bs) h.2
  | _ + 1, [], _ :: _, h => h.elim
  | _ + 1, _ :: _, [], h => h.elim
theorem All2.taket {γ δ : Type} {Q : γ → δ → Prop} : ∀ (k : Nat) {as : List γ} {bs : List δ}, All2 Q as bs → All2 Q (as.take k) (bs.take k)
  | 0, as, bs, h => by rw [List.take_zero, List.take_zero]; trivial
  | k + 1, [], [], _ => trivial
  | k + 1, _ :: as, _ :: bs, h => ⟨h.1, All2.taket k (as := as) (bs := bs) h.2⟩
  | _ + 1, [], _ :: _, h => h.elim
  | _ + 1, _ :: _, [], h => h.elim
theorem DSh.cut {α : Type} {H : Heap} {v : AV} {n : Nat} {R : Heap → α → List AV → Prop} {xs : List α} {ws : List (List AV)} (h : DSh H v n R xs ws) (hn : 0 < n) {a b : Nat} (hab : a ≤ b ∧ b ≤ xs.length) : DSh H (v.cut n a b) n R ((xs.drop a).take (b - a)) ((ws.drop a).take (b - a)) := by
  have hl := h.all.len
  obtain ⟨L, rfl⟩ := as_sub ws h.size
  have h1 := h.shows
  rw [enc_sub] at h1
  have h2 := h1.cut (fun x => x.2) hn (a := a) (b := b) (by rw [List.length_map] at hl; omega)
  rw [← enc_sub, List.map_take, List.map_drop] at h2
  exact ⟨h2, fun c hc => h.size c (List.mem_of_mem_drop (List.mem_of_mem_take hc)), (h.all.dropt a).taket _⟩
theorem sd_idx {t : TypeId} {x y : Operand} {v : AV} {α : Type} {R : Heap → α → List AV → Prop} {xs : List α} {ws : List (List AV)} {n : Nat} {k : IntKind} {z : Int} (hv : DSh H v n R xs ws) (h0 : 0 ≤ z ∧ z < xs.length) (d : α) (hn : 0 < n) (hx : aeval s x = .v v) (hy : aeval s y = .v (.int k z)) (ht : (telem P t).bind (tsz P) = some n)
    (h : wops P q ops r (i + 1) (aput s dst (.v (.ptr v.id0 (v.of0 + z.toNat * n)))) H K) :
    wops P q ops ({ dst, op := .indexAddr t x y, type := ty, pos, after, guard := none } :: r) i s H K := by
  obtain ⟨h1, _⟩ := hv.at hn h0 d
  refine so_to (wops_indexAddr.trans (by rw [hx, hy])) (v := .v (.ptr v.id0 (v.of0 + z.toNat * n))) (H' := H) ?_ (fun _ => .inl rfl) h
  conv => lhs; rw [h1]
  exact tindexAddr_sl ht h0.1 h0.2
theorem sd_bslice {t e : TypeId} {n len : Nat} {z : List AV} {ps : List (Nat × Operand)} (hs : Sep H l) (css : List (List AV)) (h1 : telem P t = some e) (h2 : tsz P e = some n) (h3 : tzero P e = some z) (h4 : z.length = n)
    (hp : partsT (ps.map fun p => (p.1, aeval s p.2)) = some ((css.zipIdx 0).map fun p => (p.2, p.1))) (hlen : css.length = len) (hc : ∀ c ∈ css, c.length = n) (hst : ∀ c ∈ css, c.all AV.stor = true) (hb : len * n ≤ 2 ^ 24) (hlc : (enc id css).length = len * n)
    (hq : q = true → barrier ops i = true) (h : ∀ v H', v ≠ .nilsl → Sep H' (.osl v n (enc id css) :: l) → wops P q ops r (i + 1) (aput s dst (.v v)) H' K) :
    wops P q ops ({ dst, op := .buildSlice t len ps.toArray, type := ty, pos, after, guard := none } :: r) i s H K := by
  refine so_bslice h1 h2 h3 h4 hp hlen hc hst hb (cs := enc id css) ?_ (fun hh => .inr (hq hh)) (h _ _ (by simp) (hs.allocS hlc))
  rw [enc, List.flatMap_id]
end
theorem whole {c cs : List AV} {m : Nat} (e : c = cs) (hm : cs.length = m) : (c.drop 0).take m = cs := by subst e; rw [List.drop_zero, ← hm, List.take_length]
end Go.Ab
namespace Go.Ab
theorem cutok {a b : Int} {n : Nat} (h : 0 ≤ a ∧ a ≤ b ∧ b ≤ (n : Int)) : a.toNat ≤ b.toNat ∧ b.toNat ≤ n := by omega
end Go.Ab
namespace Go.Ab
theorem leb {a b : Nat} (h : Nat.ble a b = true) : a ≤ b := Nat.le_of_ble_eq_true h
end Go.Ab
namespace Go.Ab
theorem fac {α : Type} {p : α → Prop} {x : α} {l : List α} (h : p x) (k : ∀ y ∈ l, p y) : ∀ y ∈ x :: l, p y := fun y hy => (List.mem_cons.1 hy).elim (fun e => e ▸ h) (k y)
theorem fan {α : Type} {p : α → Prop} : ∀ y ∈ ([] : List α), p y := fun _ hy => absurd hy (List.not_mem_nil)
end Go.Ab

namespace Go.Ab
set_option linter.unusedVariables false
set_option linter.unusedSimpArgs false

def rowOf (v : AV) (i : Nat) : Prop := ∃ off len n, v = .sl i off len n
/-- The slice in an element: its piece. -/
abbrev Inn (α : Type) := α → List AV → Pc
/-- An own row of elements, and the own rows that they lead to, which lie in S. I: the piece that an element leads to. -/
structure DOwn {α : Type} (v : AV) (n : Nat) (R : Heap → α → List AV → Prop) (I : Inn α) (xs : List α) (ws : List (List AV)) (S : Nat → Prop) (H : Heap) : Prop where
  own : (v = .nilsl ∧ enc id ws = []) ∨ ∃ id' off len pre, v = .sl id' off len n ∧ pre.length = off ∧ (enc id ws).length = len * n ∧ id' < H.n ∧ H.f id' = .own (pre ++ enc id ws)
  size : ∀ c ∈ ws, c.length = n
  low : ∀ i, S i → i < H.n
  off : ∀ i, rowOf v i → ¬ S i
  len : xs.length = ws.length
  loc : ∀ (j : Nat) x c, xs[j]? = some x → ws[j]? = some c → ∀ H' : Heap, H.n ≤ H'.n → (∀ i, (I x c).at i → H'.f i = H.f i) → R H' x c
  inn : Sep H (List.zipWith I xs ws)
  ins : ∀ p ∈ List.zipWith I xs ws, p.isOwn = true ∧ ∀ i, p.at i → S i
theorem mem_zip {α β γ : Type} {f : α → β → γ} : ∀ {xs : List α} {ws : List β} {j : Nat} {x : α} {c : β}, xs[j]? = some x → ws[j]? = some c → f x c ∈ List.zipWith f xs ws
  | _ :: _, _ :: _, 0, _, _, h1, h2 => by cases h1; cases h2; exact List.mem_cons_self ..
  | _ :: xs, _ :: ws, j + 1, _, _, h1, h2 => List.mem_cons_of_mem _ (mem_zip (xs := xs) (ws := ws) (j := j) h1 h2)
  | [], _, _, _, _, h1, _ => by simp at h1
  | _ :: _, [], _, _, _, _, h2 => by simp at h2
theorem All2.of_at {α β : Type} {Q : α → β → Prop} : ∀ {xs : List α} {ws : List β}, xs.length = ws.length → (∀ (j : Nat) x c, xs[j]? = some x → ws[j]? = some c → Q x c) → All2 Q xs ws
  | [], [], _, _ => trivial
  | x :: xs, c :: ws, hl, h => ⟨h 0 x c rfl rfl, All2.of_at (xs := xs) (ws := ws) (by simpa using hl) fun j y d h1 h2 => h (j + 1) y d h1 h2⟩
  | [], _ :: _, hl, _ => by simp at hl
  | _ :: _, [], hl, _ => by simp at hl
theorem DOwn.all {α : Type} {v : AV} {n : Nat} {R : Heap → α → List AV → Prop} {I : Inn α} {xs : List α} {ws : List (List AV)} {S : Nat → Prop} {H : Heap} (h : DOwn v n R I xs ws S H) (H' : Heap) (hn : H.n ≤ H'.n) (hf : ∀ i, S i → H'.f i = H.f i) : All2 (R H') xs ws :=
  All2.of_at h.len fun j x c h1 h2 => h.loc j x c h1 h2 H' hn fun i hi => hf i ((h.ins _ (mem_zip h1 h2)).2 i hi)
/-- The piece. -/
def dpc {α : Type} (v : AV) (n : Nat) (R : Heap → α → List AV → Prop) (I : Inn α) (xs : List α) (ws : List (List AV)) (S : Nat → Prop) : Pc := .ex (fun i => rowOf v i ∨ S i) (DOwn v n R I xs ws S)
theorem DOwn.frame {α : Type} {v : AV} {n : Nat} {R : Heap → α → List AV → Prop} {I : Inn α} {xs : List α} {ws : List (List AV)} {S : Nat → Prop} {H H' : Heap} (h : DOwn v n R I xs ws S H) (hn : H.n ≤ H'.n) (hf : ∀ i, rowOf v i ∨ S i → H'.f i = H.f i) : DOwn v n R I xs ws S H' := by
  refine ⟨?_, h.size, fun i hi => Nat.lt_of_lt_of_le (h.low i hi) hn, h.off, h.len, fun j x c h1 h2 H2 hn2 hf2 => h.loc j x c h1 h2 H2 (Nat.le_trans hn hn2) fun i hi => (hf2 i hi).trans (hf i (.inr ((h.ins _ (mem_zip h1 h2)).2 i hi))), h.inn.frame hn fun p hp i hi => hf i (.inr ((h.ins p hp).2 i hi)), h.ins⟩
  rcases h.own with h1 | ⟨id', off, len, pre, h1, h2, h3, h4, h5⟩
  · exact .inl h1
  · exact .inr ⟨id', off, len, pre, h1, h2, h3, Nat.lt_of_lt_of_le h4 hn, by rw [hf id' (.inl ⟨_, _, _, h1⟩)]; exact h5⟩
theorem DOwn.holds {α : Type} {v : AV} {n : Nat} {R : Heap → α → List AV → Prop} {I : Inn α} {xs : List α} {ws : List (List AV)} {S : Nat → Prop} {H : Heap} (h : DOwn v n R I xs ws S H) : (dpc v n R I xs ws S).holds H := by
  refine ⟨fun i hi => ?_, h, fun H' hn hf => h.frame hn hf⟩
  rcases hi with ⟨_, _, _, hi⟩ | hi
  · rcases h.own with ⟨h1, _⟩ | ⟨_, _, _, _, h1, _, _, h2, _⟩
    · rw [h1] at hi; cases hi
    · rw [h1] at hi; cases hi; exact h2
  · exact h.low i hi
/-! ### lists of pieces -/
theorem sep_put {H : Heap} : ∀ {l : List Pc} (j : Nat) {p : Pc}, Sep H l → p.holds H → (∀ k q, k ≠ j → l[k]? = some q → p.apart q) → Sep H (l.set j p)
  | [], _, _, _, _, _ => trivial
  | q :: l, 0, p, h, hp, ha => ⟨hp, fun r hr => by
      obtain ⟨k, hk, rfl⟩ := List.mem_iff_getElem.1 hr
      exact ha (k + 1) _ (by omega) (by rw [List.getElem?_cons_succ, List.getElem?_eq_getElem hk]), h.2.2⟩
  | q :: l, j + 1, p, h, hp, ha => by
    rw [List.set_cons_succ]
    refine ⟨h.1, fun r hr => ?_, sep_put (l := l) j h.2.2 hp fun k r hk hr => ha (k + 1) r (by omega) (by rw [List.getElem?_cons_succ]; exact hr)⟩
    rcases List.mem_or_eq_of_mem_set hr with hr | rfl
    · exact h.2.1 r hr
    · exact (ha 0 q (by omega) rfl).symm
theorem sep_app {H : Heap} {p : Pc} : ∀ {l : List Pc}, Sep H l → p.holds H → (∀ q ∈ l, p.apart q) → Sep H (l ++ [p])
  | [], _, hp, _ => ⟨hp, fun _ hq => absurd hq (List.not_mem_nil), trivial⟩
  | q :: l, h, hp, ha => ⟨h.1, fun r hr => by
      rcases List.mem_append.1 hr with hr | hr
      · exact h.2.1 r hr
      · rw [List.mem_singleton.1 hr]; exact (ha q (List.mem_cons_self ..)).symm, sep_app (l := l) h.2.2 hp fun r hr => ha r (List.mem_cons_of_mem _ hr)⟩
theorem zip_set {α β γ : Type} {f : α → β → γ} : ∀ (xs : List α) (ws : List β) (j : Nat) (x : α) (c : β), List.zipWith f (xs.set j x) (ws.set j c) = (List.zipWith f xs ws).set j (f x c)
  | [], ws, j, x, c => by simp
  | a :: xs, [], j, x, c => by cases j <;> simp
  | a :: xs, b :: ws, 0, x, c => rfl
  | a :: xs, b :: ws, j + 1, x, c => by
    rw [List.set_cons_succ, List.set_cons_succ, List.zipWith_cons_cons, List.zipWith_cons_cons, List.set_cons_succ, zip_set xs ws j x c]
section
variable {α : Type} {v : AV} {n : Nat} {R : Heap → α → List AV → Prop} {I : Inn α} {xs : List α} {ws : List (List AV)} {S : Nat → Prop} {H : Heap} {l : List Pc}
theorem DOwn.shows (h : DOwn v n R I xs ws S H) : DSh H v n R xs ws := ⟨.of_own (n := n) h.own, h.size, h.all H (Nat.le_refl _) fun _ _ => rfl⟩
theorem Sep.dshows (h : Sep H l) (k : Nat) (hk : Go.Ab.nth l k = some (dpc v n R I xs ws S)) : DSh H v n R xs ws := DOwn.shows (h.nth hk).2.1
theorem dlen (hc : ∀ c ∈ ws, c.length = n) : (enc id ws).length = ws.length * n := by
  induction ws with
  | nil => simp [enc]
  | cons c l ih =>
    rw [enc_cons, List.length_append, ih fun c hc' => hc c (List.mem_cons_of_mem _ hc'), List.length_cons, Nat.succ_mul]
    have : (id c : List AV).length = n := hc c (List.mem_cons_self ..)
    omega
/-- Nothing yet. -/
theorem Sep.dnil (h : Sep H l) (n : Nat) (R : Heap → α → List AV → Prop) (I : Inn α) : Sep H (dpc .nilsl n R I [] [] (fun _ => False) :: l) := by
  refine h.add (Nat.le_refl _) (fun _ _ => rfl) (DOwn.holds ⟨.inl ⟨rfl, rfl⟩, fun c hc => absurd hc (List.not_mem_nil), fun _ h => h.elim, fun _ _ h => h, rfl, fun j x c h => by simp at h, trivial, fun p hp => absurd hp (List.not_mem_nil)⟩) fun i hi => ?_
  rcases hi with ⟨_, _, _, hi⟩ | hi
  · cases hi
  · exact hi.elim
/-- What is zero in each place. -/
theorem Sep.dmake (h : Sep H l) (z : α) (zc : List AV) (m : Nat) (R : Heap → α → List AV → Prop) (I : Inn α) (hz : zc.length = n) (hR : ∀ H, R H z zc) (hI : ∃ m0, I z zc = .osl .nilsl m0 []) :
    Sep (H.alloc (.own (zerosOf zc m))) (dpc (.sl H.n 0 m n) n R I (List.replicate m z) (List.replicate m zc) (fun _ => False) :: l) := by
  obtain ⟨m0, hI⟩ := hI
  have e : zerosOf zc m = enc id (List.replicate m zc) := zerosOf_enc (α := List AV) id zc m
  have hsz : ∀ c ∈ List.replicate m zc, c.length = n := fun c hc => by rw [(List.mem_replicate.1 hc).2]; exact hz
  have hzw : ∀ m, List.zipWith I (List.replicate m z) (List.replicate m zc) = List.replicate m (.osl .nilsl m0 []) := fun m => by
    induction m with
    | zero => rfl
    | succ m ih => rw [List.replicate_succ, List.replicate_succ, List.zipWith_cons_cons, ih, hI, ← List.replicate_succ]
  have hnil : ∀ i, ¬ (Pc.osl .nilsl m0 []).at i := fun i ⟨_, _, _, h⟩ => by cases h
  have hsep : ∀ (H : Heap) m, Sep H (List.replicate m (.osl .nilsl m0 [])) := fun H m => by
    induction m with
    | zero => trivial
    | succ m ih => rw [List.replicate_succ]; exact ⟨.inl ⟨rfl, rfl⟩, fun q hq _ i h1 _ => hnil i h1, ih⟩
  have hins : ∀ p ∈ List.zipWith I (List.replicate m z) (List.replicate m zc), p.isOwn = true ∧ ∀ i, p.at i → False := fun p hp => by
    rw [hzw] at hp
    rw [(List.mem_replicate.1 hp).2]
    exact ⟨rfl, fun i hi => absurd hi (hnil i)⟩
  have hloc : ∀ (j : Nat) x c, (List.replicate m z)[j]? = some x → (List.replicate m zc)[j]? = some c → ∀ H' : Heap, (H.alloc (.own (zerosOf zc m))).n ≤ H'.n → (∀ i, (I x c).at i → H'.f i = (H.alloc (.own (zerosOf zc m))).f i) → R H' x c := fun j x c h1 h2 H' _ _ => by
    obtain rfl := (List.mem_replicate.1 (List.mem_of_getElem? h1)).2
    obtain rfl := (List.mem_replicate.1 (List.mem_of_getElem? h2)).2
    exact hR H'
  have hl := dlen hsz
  rw [List.length_replicate] at hl
  refine h.add (Nat.le_succ _) (fun i hi => by rw [alloc_f, if_neg (Nat.ne_of_lt hi)]) (DOwn.holds ⟨.inr ⟨H.n, 0, m, [], rfl, rfl, hl, Nat.lt_succ_self _, by rw [alloc_f, if_pos rfl, e]; rfl⟩, hsz, fun _ h => h.elim, fun _ _ h => h, by rw [List.length_replicate, List.length_replicate], hloc, by rw [hzw]; exact hsep _ m, hins⟩) fun i hi => ?_
  rcases hi with ⟨_, _, _, hi⟩ | hi
  · cases hi; exact Nat.le_refl _
  · exact hi.elim
theorem All2.set {γ δ : Type} {Q : γ → δ → Prop} : ∀ {as : List γ} {bs : List δ} (i : Nat) {a : γ} {b : δ}, All2 Q as bs → Q a b → All2 Q (as.set i a) (bs.set i b)
  | [], [], _, _, _, _, _ => trivial
  | _ :: _, _ :: _, 0, _, _, h, k => ⟨k, h.2⟩
  | _ :: as, _ :: bs, i + 1, _, _, h, k => ⟨h.1, All2.set (as := as) (bs := bs) i h.2 k⟩
  | [], _ :: _, _, _, _, h, _ => h.elim
  | _ :: _, [], _, _, _, h, _ => h.elim
theorem dsplice (hc : ∀ c ∈ ws, c.length = n) (i : Nat) (hi : i < ws.length) (c : List AV) (hcn : c.length = n) : splice (enc id ws) c (i * n) = enc id (ws.set i c) := by
  induction ws generalizing i with
  | nil => simp at hi
  | cons w ws ih =>
    have hw : (id w : List AV).length = n := hc w (List.mem_cons_self ..)
    cases i with
    | zero =>
      rw [Nat.zero_mul, splice_zero, List.set_cons_zero, enc_cons, enc_cons, hcn, ← hw, List.drop_left]; rfl
    | succ i =>
      rw [enc_cons, List.set_cons_succ, enc_cons, Nat.succ_mul, Nat.add_comm, splice_pre _ _ _ _ _ hw, ih (fun c h => hc c (List.mem_cons_of_mem _ h)) i (by simpa using hi)]
/-- Two own pieces of which one comes to hold the other. -/
theorem Sep.join {H' : Heap} {p q r : Pc} (k : Nat) (h : Sep H (p :: l)) (hk : Go.Ab.nth l k = some q) (hp : p.isOwn = true) (ho : q.isOwn = true) (hn : H.n ≤ H'.n) (hf : ∀ i, i < H.n → ¬ p.at i → ¬ q.at i → H'.f i = H.f i) (hr : r.holds H') (hat : ∀ i, r.at i → p.at i ∨ q.at i ∨ H.n ≤ i) : Sep H' (putP l k r) := by
  -- p is laid to q first
  have hpq : p.apart q := h.2.1 q (nth_mem hk)
  have h1 : Sep H (putP l k (.ex (fun i => p.at i ∨ q.at i) fun _ => True)) := by
    have key : ∀ {l : List Pc} {k : Nat}, Sep H l → Go.Ab.nth l k = some q → (∀ x ∈ l, p.apart x) → Sep H (putP l k (.ex (fun i => p.at i ∨ q.at i) fun _ => True)) := by
      intro l
      induction l with
      | nil => intro k _ hk; cases hk
      | cons x l ih =>
        intro k hs hk hx
        cases k with
        | zero =>
          cases hk
          refine ⟨⟨fun i hi => ?_, trivial, fun _ _ _ => trivial⟩, fun y hy _ i h1 h2 => ?_, hs.2.2⟩
          · rcases hi with hi | hi
            · exact Pc.at_lt h.1 hi
            · exact Pc.at_lt hs.1 hi
          · rcases h1 with h1 | h1
            · exact hx y (List.mem_cons_of_mem _ hy) (.inl hp) i h1 h2
            · exact hs.2.1 y hy (.inl ho) i h1 h2
        | succ k =>
          refine ⟨hs.1, fun y hy => ?_, ih (k := k) hs.2.2 hk fun y hy => hx y (List.mem_cons_of_mem _ hy)⟩
          have : y = .ex (fun i => p.at i ∨ q.at i) (fun _ => True) ∨ y ∈ l := by
            clear ih hk hx hs
            induction l generalizing k with
            | nil => cases hy
            | cons z l ih2 =>
              cases k with
              | zero => rcases List.mem_cons.1 hy with hy | hy; exact .inl hy; exact .inr (List.mem_cons_of_mem _ hy)
              | succ k =>
                rcases List.mem_cons.1 hy with hy | hy
                · exact .inr (hy ▸ List.mem_cons_self ..)
                · rcases ih2 k hy with h2 | h2
                  · exact .inl h2
                  · exact .inr (List.mem_cons_of_mem _ h2)
          rcases this with rfl | hy'
          · intro _ i h1 h2
            rcases h2 with h2 | h2
            · exact hx x (List.mem_cons_self ..) (.inl hp) i h2 h1
            · exact hs.2.1 q (nth_mem (l := l) (k := k) hk) (.inr ho) i h1 h2
          · exact hs.2.1 y hy'
    exact key h.2.2 hk h.2.1
  have hnth : ∀ {l : List Pc} {k : Nat} {x y : Pc}, Go.Ab.nth l k = some x → Go.Ab.nth (putP l k y) k = some y := by
    intro l
    induction l with
    | nil => intro k x y h; cases h
    | cons z l ih => intro k x y h; cases k with
      | zero => rfl
      | succ k => exact ih (k := k) h
  have hput : ∀ {l : List Pc} {k : Nat} {x y : Pc}, putP (putP l k x) k y = putP l k y := by
    intro l
    induction l with
    | nil => intro k x y; rfl
    | cons z l ih => intro k x y; cases k with
      | zero => rfl
      | succ k => show z :: _ = z :: _; rw [ih]
  have h2 := h1.change (k := k) (q := r) (hnth hk) rfl hn (fun i hi hne => hf i hi (fun c => hne (.inl c)) (fun c => hne (.inr c))) hr (fun i hi => by
    rcases hat i hi with h | h | h
    · exact .inl (.inl h)
    · exact .inl (.inr h)
    · exact .inr h)
  rw [hput] at h2
  exact h2

variable {P : Program} {q : Bool} {ops r : List Oper} {i : Nat} {s : Nat → TV} {K : (Nat → TV) → Heap → Prop} {dst : Option Tmp} {ty : TypeId} {pos : String} {after : Array Edge}
/-- An element with one own slice in it is stored. -/
theorem Sep.dset {u : AV} {m : Nat} {cs : List AV} (hs : Sep H (.osl u m cs :: l)) (k : Nat) (hk : Go.Ab.nth l k = some (dpc v n R I xs ws S)) {z : Int} (h0 : 0 ≤ z ∧ z < xs.length) (x : α) (c : List AV) (hcn : c.length = n) (hn : 0 < n) (hst : c.all AV.stor = true) (hR : ∀ H', Shows H' u m cs → R H' x c) (hI : I x c = .osl u m cs) :
    ∃ H', wrCells H v.id0 (v.of0 + z.toNat * n) c = some H' ∧ Sep H' (putP l k (dpc v n R I (xs.set z.toNat x) (ws.set z.toNat c) (fun i => S i ∨ rowOf u i))) := by
  have hp := hs.hd
  have hq : (dpc v n R I xs ws S).holds H := hs.tl.nth hk
  have hd : DOwn v n R I xs ws S H := hq.2.1
  have hap : Pc.apart (.osl u m cs) (dpc v n R I xs ws S) := hs.2.1 _ (nth_mem hk)
  have hl : xs.length = ws.length := (hd.all H (Nat.le_refl _) fun _ _ => rfl).len
  have h1 : z.toNat < ws.length := by omega
  rcases hd.own with ⟨h2, h3⟩ | ⟨id', off, len, pre, h2, h3, h4, h5, h6⟩
  · have := dlen hd.size
    rw [h3, List.length_nil] at this
    have : ws.length * n ≠ 0 := Nat.mul_ne_zero (by omega) (by omega)
    omega
  · subst h2
    have hm : z.toNat * n + n ≤ ws.length * n := by rw [← Nat.succ_mul]; exact Nat.mul_le_mul_right _ h1
    refine ⟨_, wrCells_own h6 (by show off + z.toNat * n + _ ≤ _; rw [List.length_append, dlen hd.size, hcn]; omega) hst, ?_⟩
    show Sep (H.put id' (.own (splice (pre ++ enc id ws) c (off + z.toNat * n)))) _
    rw [splice_pre pre _ c off _ h3, dsplice hd.size _ h1 c hcn]
    have hsz : ∀ c' ∈ ws.set z.toNat c, c'.length = n := fun c' hc' => by
      rcases List.mem_or_eq_of_mem_set hc' with h | h
      · exact hd.size c' h
      · rw [h]; exact hcn
    have hne : ∀ i, rowOf u i → i ≠ id' := fun i hi e => by
      subst e
      exact hap (.inl rfl) i hi (.inl ⟨_, _, _, rfl⟩)
    have hSne : ∀ i, S i → i ≠ id' := fun i hi e => hd.off id' ⟨_, _, _, rfl⟩ (e ▸ hi)
    have hput : ∀ i, i ≠ id' → (H.put id' (.own (pre ++ enc id (ws.set z.toNat c)))).f i = H.f i := fun i h => by rw [put_f, if_neg h]
    have huap : ∀ p ∈ List.zipWith I xs ws, (Pc.osl u m cs).apart p := fun p hp _ i hi hp' => hap (.inl rfl) i hi (.inr ((hd.ins p hp).2 i hp'))
    have hinn : Sep (H.put id' (.own (pre ++ enc id (ws.set z.toNat c)))) (List.zipWith I (xs.set z.toNat x) (ws.set z.toNat c)) := by
      rw [zip_set, hI]
      have h0 : Sep (H.put id' (.own (pre ++ enc id (ws.set z.toNat c)))) (List.zipWith I xs ws) := hd.inn.frame (Nat.le_refl _) fun p hp i hi => hput i (hSne i ((hd.ins p hp).2 i hi))
      exact sep_put _ h0 (Pc.frame hp (Nat.le_refl _) fun i hi => hput i (hne i hi)) fun k q _ hq => huap q (List.mem_of_getElem? hq)
    have hins : ∀ p ∈ List.zipWith I (xs.set z.toNat x) (ws.set z.toNat c), p.isOwn = true ∧ ∀ i, p.at i → S i ∨ rowOf u i := fun p hp => by
      rw [zip_set, hI] at hp
      rcases List.mem_or_eq_of_mem_set hp with hp | rfl
      · exact ⟨(hd.ins p hp).1, fun i hi => .inl ((hd.ins p hp).2 i hi)⟩
      · exact ⟨rfl, fun i hi => .inr hi⟩
    have hloc : ∀ (j : Nat) y d, (xs.set z.toNat x)[j]? = some y → (ws.set z.toNat c)[j]? = some d → ∀ H' : Heap, H.n ≤ H'.n → (∀ i, (I y d).at i → H'.f i = (H.put id' (.own (pre ++ enc id (ws.set z.toNat c)))).f i) → R H' y d := fun j y d h1' h2' H' hn' hf' => by
      by_cases hj : z.toNat = j
      · subst hj
        rw [List.getElem?_set_self (by omega)] at h1' h2'
        cases h1'; cases h2'
        rw [hI] at hf'
        refine hR H' ((Shows.of_own hp).frame hn' fun off' len' e => ?_)
        have hr : rowOf u u.id0 := ⟨off', len', m, e⟩
        rw [hf' _ hr, hput _ (hne _ hr)]
      · rw [List.getElem?_set_ne hj] at h1' h2'
        refine hd.loc j y d h1' h2' H' hn' fun i hi => ?_
        rw [hf' i hi, hput i (hSne i ((hd.ins _ (mem_zip h1' h2')).2 i hi))]
    refine Sep.join k hs hk rfl rfl (Nat.le_refl _) (fun i hi _ hq' => ?_) (DOwn.holds ⟨.inr ⟨id', off, len, pre, rfl, h3, ?_, h5, by rw [put_f, if_pos rfl]⟩, hsz, fun i hi => ?_, fun i hi hS => ?_, by rw [List.length_set, List.length_set]; exact hl, hloc, hinn, hins⟩) (fun i hi => ?_)
    · rw [put_f, if_neg]
      rintro rfl
      exact hq' (.inl ⟨_, _, _, rfl⟩)
    · rw [dlen hsz, List.length_set, ← dlen hd.size]; exact h4
    · rcases hi with hi | hi
      · exact hd.low i hi
      · exact Pc.at_lt hp hi
    · obtain ⟨_, _, _, hi⟩ := hi
      cases hi
      rcases hS with hS | hS
      · exact hd.off id' ⟨_, _, _, rfl⟩ hS
      · exact hne id' hS rfl
    · rcases hi with hi | hi | hi
      · exact .inr (.inl (.inl hi))
      · exact .inr (.inl (.inr hi))
      · exact .inl hi
/-- An element with one own slice in it is appended. -/
theorem Sep.dapp {u w : AV} {m bytes : Nat} {cs : List AV} (hs : Sep H (.osl u m cs :: l)) (k : Nat) (hk : Go.Ab.nth l k = some (dpc v n R I xs ws S)) (x : α) (c : List AV) (hw : Shows H w n (enc id [c])) (hcn : c.length = n) (hn : 0 < n) (hR : ∀ H', Shows H' u m cs → R H' x c) (hI : I x c = .osl u m cs)
    (hb : (xs.length + 1) * bytes ≤ 2 ^ 40) (h5 : bytes ≠ 0) : ∃ v' H', aappend H n bytes v w = some (.v v', H') ∧ Sep H' (putP l k (dpc v' n R I (xs ++ [x]) (ws ++ [c]) (fun i => S i ∨ rowOf u i))) := by
  have hp := hs.hd
  have hq : (dpc v n R I xs ws S).holds H := hs.tl.nth hk
  have hd : DOwn v n R I xs ws S H := hq.2.1
  have hap : Pc.apart (.osl u m cs) (dpc v n R I xs ws S) := hs.2.1 _ (nth_mem hk)
  have hl : xs.length = ws.length := (hd.all H (Nat.le_refl _) fun _ _ => rfl).len
  have he1 : enc id [c] = c := by show c ++ [] = c; simp
  have harg : cellsOfArg H n w = some (1, c) := by
    rw [he1] at hw
    rcases hw with ⟨_, h2⟩ | ⟨id', off, len, rfl, h2, h3⟩
    · rw [h2] at hcn; simp at hcn; omega
    · have : len = 1 := Nat.eq_of_mul_eq_mul_right hn (by rw [← h2, hcn, Nat.one_mul])
      subst this
      refine arg_sl ?_
      rw [rdCells_eq, ← h2, if_pos h3.2.1, h3.2.2]
  have hsz : ∀ c' ∈ ws ++ [c], c'.length = n := fun c' hc' => by
    rcases List.mem_append.1 hc' with h | h
    · exact hd.size c' h
    · rw [List.mem_singleton.1 h]; exact hcn
  have hea : enc id (ws ++ [c]) = enc id ws ++ c := by rw [enc_append, he1]
  have hlow : ∀ i, (S i ∨ rowOf u i) → i < H.n := fun i hi => by
    rcases hi with hi | hi
    · exact hd.low i hi
    · exact Pc.at_lt hp hi
  -- the end is the same for both beginnings
  have fin : ∀ (H' : Heap) (len' : Nat), H'.n = H.n + 1 → H'.f H.n = .own (enc id ws ++ c) → (∀ i, i < H.n → ¬ rowOf v i → H'.f i = H.f i) → (enc id ws ++ c).length = len' * n → Sep H' (putP l k (dpc (.sl H.n 0 len' n) n R I (xs ++ [x]) (ws ++ [c]) (fun i => S i ∨ rowOf u i))) := by
    intro H' len' hn' hf0 hfo hlen'
    have hnv : ∀ i, rowOf u i → ¬ rowOf v i := fun i hi hv => hap (.inl rfl) i hi (.inl hv)
    have hput : ∀ i, i < H.n → ¬ rowOf v i → H'.f i = H.f i := hfo
    have hzw : List.zipWith I (xs ++ [x]) (ws ++ [c]) = List.zipWith I xs ws ++ [.osl u m cs] := by rw [List.zipWith_append hd.len, List.zipWith_cons_cons, List.zipWith_nil_left, hI]
    have huap : ∀ p ∈ List.zipWith I xs ws, (Pc.osl u m cs).apart p := fun p hp _ i hi hp' => hap (.inl rfl) i hi (.inr ((hd.ins p hp).2 i hp'))
    have hSv : ∀ i, S i → H'.f i = H.f i := fun i hi => hfo i (hd.low i hi) fun hv => hd.off i hv hi
    have hinn : Sep H' (List.zipWith I (xs ++ [x]) (ws ++ [c])) := by
      rw [hzw]
      exact sep_app (hd.inn.frame (by omega) fun p hp i hi => hSv i ((hd.ins p hp).2 i hi)) (Pc.frame hp (by omega) fun i hi => hfo i (Pc.at_lt hp hi) (hnv i hi)) fun q hq => huap q hq
    have hins : ∀ p ∈ List.zipWith I (xs ++ [x]) (ws ++ [c]), p.isOwn = true ∧ ∀ i, p.at i → S i ∨ rowOf u i := fun p hp => by
      rw [hzw] at hp
      rcases List.mem_append.1 hp with hp | hp
      · exact ⟨(hd.ins p hp).1, fun i hi => .inl ((hd.ins p hp).2 i hi)⟩
      · rw [List.mem_singleton.1 hp]; exact ⟨rfl, fun i hi => .inr hi⟩
    have hloc : ∀ (j : Nat) y d, (xs ++ [x])[j]? = some y → (ws ++ [c])[j]? = some d → ∀ H2 : Heap, H'.n ≤ H2.n → (∀ i, (I y d).at i → H2.f i = H'.f i) → R H2 y d := fun j y d h1' h2' H2 hn2 hf2 => by
      by_cases hj : j < xs.length
      · rw [List.getElem?_append_left hj] at h1'
        rw [List.getElem?_append_left (by have := hd.len; omega)] at h2'
        refine hd.loc j y d h1' h2' H2 (by omega) fun i hi => ?_
        rw [hf2 i hi, hSv i ((hd.ins _ (mem_zip h1' h2')).2 i hi)]
      · rw [List.getElem?_append_right (by omega)] at h1'
        rw [List.getElem?_append_right (by have := hd.len; omega)] at h2'
        obtain rfl := List.mem_singleton.1 (List.mem_of_getElem? h1')
        obtain rfl := List.mem_singleton.1 (List.mem_of_getElem? h2')
        rw [hI] at hf2
        refine hR H2 ((Shows.of_own hp).frame (by omega) fun off' len2 e => ?_)
        have hr : rowOf u u.id0 := ⟨off', len2, m, e⟩
        rw [hf2 _ hr, hfo _ (Pc.at_lt hp hr) (hnv _ hr)]
    refine Sep.join k hs hk rfl rfl (by omega) (fun i hi _ hq' => hfo i hi fun hv => hq' (.inl hv)) (DOwn.holds ⟨.inr ⟨H.n, 0, len', [], rfl, rfl, by rw [hea]; exact hlen', by omega, by rw [hf0, hea]; rfl⟩, hsz, fun i hi => by have := hlow i hi; omega, fun i hi hS => ?_, by rw [List.length_append, List.length_append]; have := hd.len; simp only [List.length_cons, List.length_nil]; omega, hloc, hinn, hins⟩) (fun i hi => ?_)
    · obtain ⟨_, _, _, hi⟩ := hi
      cases hi
      have := hlow _ hS
      omega
    · rcases hi with ⟨_, _, _, hi⟩ | hi | hi
      · cases hi; exact .inr (.inr (Nat.le_refl _))
      · exact .inr (.inl (.inr hi))
      · exact .inl hi
  rcases hd.own with ⟨h2, h3⟩ | ⟨id', off, len, pre, h2, h3, h4, h6, h7⟩
  · subst h2
    have hw0 : ws.length = 0 := by
      have := dlen hd.size
      rw [h3, List.length_nil] at this
      rcases Nat.mul_eq_zero.1 this.symm with h | h <;> omega
    refine ⟨_, _, aappend_nil harg (by decide) (by rw [hl, hw0] at hb; simpa using hb) h5, ?_⟩
    refine fin _ 1 rfl (by rw [alloc_f, if_pos rfl, h3]; rfl) (fun i hi _ => by rw [alloc_f, if_neg (Nat.ne_of_lt hi)]) (by rw [h3, List.nil_append, hcn, Nat.one_mul])
  · subst h2
    have hlen : len = xs.length := by
      rw [dlen hd.size, ← hl] at h4
      exact (Nat.eq_of_mul_eq_mul_right hn h4).symm
    refine ⟨_, _, aappend_sl h7 (by rw [List.length_append]; omega) harg (by rw [hlen]; exact hb) h5, ?_⟩
    rw [← h3, List.drop_left]
    refine fin _ (len + 1) rfl (by rw [alloc_f]; exact if_pos rfl) (fun i hi hv => ?_) (by rw [List.length_append, h4, hcn, Nat.succ_mul])
    have hne : i ≠ id' := fun e => hv (by subst e; exact ⟨_, _, _, rfl⟩)
    rw [alloc_f, if_neg (by show i ≠ H.n; omega), put_f, if_neg hne]

variable {P : Program} {q : Bool} {ops r : List Oper} {i : Nat} {s : Nat → TV} {K : (Nat → TV) → Heap → Prop} {dst : Option Tmp} {ty : TypeId} {pos : String} {after : Array Edge}
theorem sk_make {t e : TypeId} {bys : Nat} {x y : Operand} {a b : Int} (hs : Sep H l) (z : α) (zc : List AV) (R : Heap → α → List AV → Prop) (I : Inn α) (h7 : 0 ≤ a ∧ a ≤ b ∧ b ≤ 2 ^ 40 ∧ b * bys ≤ 2 ^ 40) (hR : ∀ H, R H z zc) (hI : ∃ m0, I z zc = .osl .nilsl m0 []) (hx : aeval s x = .v (.int .i64 a)) (hy : aeval s y = .v (.int .i64 b)) (h1 : telem P t = some e) (h2 : tsz P e = some n) (h3 : tbytes P e = some bys) (h4 : tzero P e = some zc) (hz : zc.length = n)
    (h6 : zc.all AV.stor = true) (hq : q = true → barrier ops i = true) (h : ∀ v ws S H', v ≠ .nilsl → Sep H' (dpc v n R I (List.replicate a.toNat z) ws S :: l) → wops P q ops r (i + 1) (aput s dst (.v v)) H' K) :
    wops P q ops ({ dst, op := .makeSlice t x y, type := ty, pos, after, guard := none } :: r) i s H K :=
  so_make hx hy h1 h2 h3 h4 hz h6 h7 (fun hh => .inr (hq hh)) (h _ _ _ _ (by simp) (hs.dmake z zc a.toNat R I hz hR hI))
theorem sk_empty {t e : TypeId} {z : List AV} (hs : Sep H l) (R : Heap → α → List AV → Prop) (I : Inn α) (h1 : telem P t = some e) (h2 : tsz P e = some n) (h3 : tzero P e = some z) (h4 : z.length = n) (hq : q = true → barrier ops i = true)
    (h : ∀ v ws S H', v ≠ .nilsl → Sep H' (dpc v n R I ([] : List α) ws S :: l) → wops P q ops r (i + 1) (aput s dst (.v v)) H' K) :
    wops P q ops ({ dst, op := .buildSlice t 0 ([] : List (Nat × Operand)).toArray, type := ty, pos, after, guard := none } :: r) i s H K := by
  refine so_bslice (css := []) (cs := []) h1 h2 h3 h4 rfl rfl (fun c hc => absurd hc (List.not_mem_nil)) (fun c hc => absurd hc (List.not_mem_nil)) (by omega) rfl (fun hh => .inr (hq hh)) (h _ [] (fun _ => False) _ (by simp) ?_)
  refine hs.add (Nat.le_succ _) (fun i hi => by rw [alloc_f, if_neg (Nat.ne_of_lt hi)]) (DOwn.holds ⟨.inr ⟨H.n, 0, 0, [], rfl, rfl, by simp [enc], Nat.lt_succ_self _, by rw [alloc_f, if_pos rfl]; rfl⟩, fun c hc => absurd hc (List.not_mem_nil), fun _ h => h.elim, fun _ _ h => h, rfl, fun j x c h => by simp at h, trivial, fun p hp => absurd hp (List.not_mem_nil)⟩) fun i hi => ?_
  rcases hi with ⟨_, _, _, hi⟩ | hi
  · cases hi; exact Nat.le_refl _
  · exact hi.elim
theorem sk_set {t : TypeId} {a y : Operand} {u : AV} {m : Nat} {cs : List AV} (hs : Sep H (.osl u m cs :: l)) (k : Nat) {z : Int} {w : TV} (hk : nth l k = some (dpc v n R I xs ws S)) (h0 : 0 ≤ z ∧ z < xs.length) (x : α) (c : List AV) (hR : ∀ H', Shows H' u m cs → R H' x c) (hI : I x c = .osl u m cs) (hcn : c.length = n) (hn : 0 < n) (hst : c.all AV.stor = true)
    (hx : aeval s a = .v (.ptr v.id0 (v.of0 + z.toNat * n))) (hy : aeval s y = w) (hc : w.cells = some c) (ht : tsz P t = some n) (hq : q = true → barrier ops i = true)
    (h : ∀ ws S H', Sep H' (putP l k (dpc v n R I (xs.set z.toNat x) ws S)) → wops P q ops r (i + 1) (aput s dst (.v .und)) H' K) :
    wops P q ops ({ dst, op := .store t a y, type := ty, pos, after, guard := none } :: r) i s H K := by
  obtain ⟨H', h1, h2⟩ := hs.dset k hk h0 x c hcn hn hst hR hI
  exact so_store hx hy hc ht hcn h1 (fun hh => .inr (hq hh)) (h _ _ H' h2)
theorem sk_app {b0 b1 : TypeId} {x y : Operand} {u w : AV} {m bytes : Nat} {cs : List AV} (hs : Sep H (.osl u m cs :: l)) (k : Nat) (hk : nth l k = some (dpc v n R I xs ws S)) (x0 : α) (c : List AV) (hw : Shows H w n (enc id [c])) (hR : ∀ H', Shows H' u m cs → R H' x0 c) (hI : I x0 c = .osl u m cs) (hcn : c.length = n) (hn : 0 < n) (ht : tapp P b0 b1 = some (n, bytes)) (h5 : bytes ≠ 0)
    (hb : (xs.length + ([x0] : List α).length) * bytes ≤ 2 ^ 40) (hx : aeval s x = .v v) (hy : aeval s y = .v w) (hq : q = true → barrier ops i = true)
    (h : ∀ v' ws S H', Sep H' (putP l k (dpc v' n R I (xs ++ [x0]) ws S)) → wops P q ops r (i + 1) (aput s dst (.v v')) H' K) :
    wops P q ops ({ dst, op := .call { callee := .builtin .append, args := [x, y].toArray, argTypes := [b0, b1].toArray }, type := ty, pos, after, guard := none } :: r) i s H K := by
  obtain ⟨v', H', h1, h2⟩ := hs.dapp k hk x0 c hw hcn hn hR hI hb h5
  exact so_app hx hy ht h1 (fun hh => .inr (hq hh)) (h v' _ _ H' h2)
end

/-! ### what an element leads to, lent and given back; a cell of an element -/
section
variable {α : Type} {v : AV} {n : Nat} {R : Heap → α → List AV → Prop} {I : Inn α} {xs : List α} {ws : List (List AV)} {S : Nat → Prop} {H : Heap} {l : List Pc}
variable {P : Program} {q : Bool} {ops r : List Oper} {i : Nat} {s : Nat → TV} {K : (Nat → TV) → Heap → Prop} {dst : Option Tmp} {ty : TypeId} {pos : String} {after : Array Edge}
end
end Go.Ab

namespace Go.Ab
set_option linter.unusedVariables false
set_option linter.unusedSimpArgs false

def killO : Option Nat → Heap → Heap
  | none, H => H
  | some i, H => H.put i .gone
theorem killO_n (o : Option Nat) (H : Heap) : (killO o H).n = H.n := by cases o <;> rfl
theorem killO_f (o : Option Nat) (H : Heap) (i : Nat) : (killO o H).f i = if o = some i then .gone else H.f i := by
  cases o with
  | none => simp [killO]
  | some j =>
    simp only [killO, put_f, Option.some.injEq]
    by_cases h : i = j
    · subst h; simp
    · rw [if_neg h, if_neg (fun e => h e.symm)]

/-- A new row at the heap's end may as well come to a number that was kept. -/
theorem OpSem.fill {P : Program} {o : Oper} {ev : Operand → TV} {H : Heap} {kill : Option Nat} {cs : List AV} {len n k : Nat} (h : OpSem P o ev H (.v (.sl H.n 0 len n)) ((killO kill H).alloc (.own cs))) (hk : k < H.n) (hh : H.f k = .hole) (hr : ∀ c ∈ cs, c.refs = []) (hkk : kill ≠ some k) :
    OpSem P o ev H (.v (.sl k 0 len n)) ((killO kill H).put k (.own cs)) := by
  intro β a w hs hv K Q hK
  refine h β a w hs hv K Q fun β' u w' hle hs' hu hf => ?_
  have n1 : ((killO kill H).alloc (.own cs)).n = H.n + 1 := by show (killO kill H).n + 1 = _; rw [killO_n]
  have n2 : ((killO kill H).put k (.own cs)).n = H.n := killO_n kill H
  have f1 : ∀ i, ((killO kill H).alloc (.own cs)).f i = if i = H.n then .own cs else if kill = some i then .gone else H.f i := fun i => by
    rw [alloc_f, killO_n, killO_f]
  have f2 : ∀ i, ((killO kill H).put k (.own cs)).f i = if i = k then .own cs else if kill = some i then .gone else H.f i := fun i => by
    rw [put_f, killO_f]
  have hkn : k ≠ H.n := Nat.ne_of_lt hk
  have hβk : β' k = none := by
    cases e : β' k with
    | none => rfl
    | some l =>
      have := hs'.row k l e
      rw [f1, if_neg hkn, if_neg hkk, hh] at this
      exact this.elim
  have hβ0 : β k = none := by
    cases e : β k with
    | none => rfl
    | some l => rw [hle k l e] at hβk; cases hβk
  obtain ⟨ln, hln⟩ := hs'.tot H.n (by rw [n1]; exact Nat.lt_succ_self _) (by rw [f1, if_pos rfl]; exact fun e => Blk.noConfusion e)
  let γ : Emb := fun i => if i = k then β' H.n else if i = H.n then none else β' i
  have γk : γ k = β' H.n := if_pos rfl
  have γn : γ H.n = none := by show (if H.n = k then _ else if H.n = H.n then none else _) = _; rw [if_neg (Ne.symm hkn), if_pos rfl]
  have γo : ∀ i, i ≠ k → i ≠ H.n → γ i = β' i := fun i h1 h2 => by show (if i = k then _ else if i = H.n then _ else _) = _; rw [if_neg h1, if_neg h2]
  have lt : ∀ i l, β i = some l → i < H.n := fun i l e => hs.lt e
  have hγ : Le β γ := fun i l e => by
    have h1 := lt i l e
    rw [γo i (fun e' => by rw [e', hβ0] at e; cases e) (Nat.ne_of_lt h1)]
    exact hle i l e
  -- a cell of a row that was there
  have cells : ∀ i, i ≠ k → i ≠ H.n → ∀ l, β' i = some l → ∀ b : Blk, (b = .gone ∨ b = H.f i) → RowR β' w' l b → RowR γ w' l b := by
    intro i h1 h2 l e b hb hrow
    rcases hb with rfl | rfl
    · exact hrow
    have old : ∀ (j : Nat) (v : AV), (H.f i).cs[j]? = some v → ∀ (ccs : Array Value) (base : Nat), (∃ u, ccs[base + j]? = some u ∧ VS β' v u) → ∃ u : Value, ccs[base + j]? = some u ∧ VS γ v u := by
      intro j v hj ccs base ⟨u, hu, hvs⟩
      refine ⟨u, hu, ?_, hvs.2⟩
      have hi : i < H.n + 1 := by have := hs'.lt e; rw [n1] at this; exact this
      have hne : H.f i ≠ .hole := fun e => by rw [e] at hj; simp [Blk.cs] at hj
      obtain ⟨li, hli⟩ := hs.tot i (by omega) hne
      obtain ⟨u0, _, hv0⟩ := cell_of hs hli hj
      have hrefs := VR_refs hv0.1
      have : v.ren (fun i => i) = v := by cases v <;> simp [AV.ren]
      refine VR.ren (β := β') (ρ := fun i => i) (by rw [this]; exact hvs.1) fun id hid => ?_
      obtain ⟨m, hm⟩ := hrefs id hid
      exact γo id (fun e' => by rw [e', hβ0] at hm; cases hm) (Nat.ne_of_lt (lt id m hm))
    cases hb : H.f i with
    | gone => trivial
    | hole => rw [hb] at hrow; exact hrow.elim
    | mp _ _ _ => rw [hb] at hrow; exact hrow
    | tab b o => rw [hb] at hrow; exact hrow
    | ro cs' =>
      rw [hb] at hrow old
      obtain ⟨ccs, t, fz, k1, k2⟩ := hrow
      exact ⟨ccs, t, fz, k1, fun j v hj => old j v hj ccs l.base (k2 j v hj)⟩
    | own cs' =>
      rw [hb] at hrow old
      obtain ⟨ccs, t, fz, k1, k2, k3⟩ := hrow
      exact ⟨ccs, t, fz, k1, fun j v hj => old j v hj ccs l.base (k2 j v hj), k3⟩
  have blk2 : ∀ i, i ≠ k → (((killO kill H).put k (.own cs)).f i = .gone ∨ ((killO kill H).put k (.own cs)).f i = H.f i) ∧ (i ≠ H.n → ((killO kill H).alloc (.own cs)).f i = ((killO kill H).put k (.own cs)).f i) := by
    intro i h1
    rw [f2, if_neg h1]
    refine ⟨by by_cases h : kill = some i; exact .inl (if_pos h); exact .inr (if_neg h), fun h2 => by rw [f1, if_neg h2]⟩
  have own2 : ∀ i l, γ i = some l → (((killO kill H).put k (.own cs)).f i).isOwn = true → ∃ i', β' i' = some l ∧ (((killO kill H).alloc (.own cs)).f i').isOwn = true ∧ i' = (if i = k then H.n else i) := by
    intro i l e ho
    by_cases h1 : i = k
    · subst h1
      exact ⟨H.n, by rw [← γk]; exact e, by rw [f1, if_pos rfl]; rfl, by rw [if_pos rfl]⟩
    · have h2 : i ≠ H.n := fun e' => by rw [e', γn] at e; cases e
      exact ⟨i, by rw [← γo i h1 h2]; exact e, by rw [(blk2 i h1).2 h2]; exact ho, by rw [if_neg h1]⟩
  refine hK γ u w' hγ ⟨fun i hi => ?_, fun i hi hne => ?_, fun i l e => ?_, fun i j li lj hij ei ej ho hg => ?_⟩ ?_ ⟨hf.os, hf.tape, hf.output, hf.size, hf.block, fun b hb ⟨i, l, e, ho, hl⟩ => ?_⟩
  · rw [n2] at hi
    by_cases h2 : i = H.n
    · rw [h2]; exact γn
    · rw [γo i (by omega) h2]; exact hs'.dom i (by rw [n1]; omega)
  · rw [n2] at hi
    by_cases h1 : i = k
    · exact ⟨ln, by rw [h1, γk]; exact hln⟩
    · have h2 : i ≠ H.n := Nat.ne_of_lt hi
      obtain ⟨l, hl⟩ := hs'.tot i (by rw [n1]; omega) (by rw [(blk2 i h1).2 h2]; exact hne)
      exact ⟨l, by rw [γo i h1 h2]; exact hl⟩
  · by_cases h1 : i = k
    · subst h1
      rw [γk] at e
      have hrow := hs'.row H.n l e
      rw [f1, if_pos rfl] at hrow
      rw [f2, if_pos rfl]
      obtain ⟨ccs, t, fz, k1, k2, k3⟩ := hrow
      refine ⟨ccs, t, fz, k1, fun j v hj => ?_, k3⟩
      obtain ⟨u', hu', hvs⟩ := k2 j v hj
      have hv0 := hr v (List.mem_of_getElem? hj)
      have : v.ren (fun i => i) = v := by cases v <;> simp [AV.ren]
      exact ⟨u', hu', VR.ren (β := β') (ρ := fun i => i) (by rw [this]; exact hvs.1) (fun id hid => by rw [hv0] at hid; cases hid), hvs.2⟩
    · have h2 : i ≠ H.n := fun e' => by rw [e', γn] at e; cases e
      rw [γo i h1 h2] at e
      have hrow := hs'.row i l e
      rw [(blk2 i h1).2 h2] at hrow
      exact cells i h1 h2 l e _ (blk2 i h1).1 hrow
  · obtain ⟨i', e1, o1, q1⟩ := own2 i li ei ho
    by_cases h1 : j = k
    · subst h1
      rw [γk] at ej
      refine hs'.apart i' H.n li lj (by rw [q1, if_neg hij]; exact fun e' => by rw [e', γn] at ei; cases ei) e1 ej o1 (by rw [f1, if_pos rfl]; rfl)
    · have h2 : j ≠ H.n := fun e' => by rw [e', γn] at ej; cases ej
      rw [γo j h1 h2] at ej
      refine hs'.apart i' j li lj ?_ e1 ej o1 (by rw [(blk2 j h1).2 h2]; exact hg)
      rw [q1]; split
      · exact Ne.symm h2
      · exact hij
  · obtain ⟨L, a', cap, e1, e2, e3, e4⟩ := hu
    exact ⟨L, a', cap, by rw [γk]; exact e1, e2, e3, e4⟩
  · obtain ⟨i', e1, o1, _⟩ := own2 i l e ho
    exact hf.owns b hb ⟨i', l, e1, o1, hl⟩

theorem StepR.fill {P : Program} {ops : List Oper} {s : Nat → TV} {o : Oper} {H : Heap} {kill : Option Nat} {cs : List AV} {len n k : Nat} (h : StepR P ops s H o (.v (.sl H.n 0 len n)) ((killO kill H).alloc (.own cs))) (hk : k < H.n) (hh : H.f k = .hole) (hr : ∀ c ∈ cs, c.refs = []) (hkk : kill ≠ some k) :
    StepR P ops s H o (.v (.sl k 0 len n)) ((killO kill H).put k (.own cs)) := by
  generalize hv : TV.v (.sl H.n 0 len n) = v at h
  generalize hH : (killO kill H).alloc (.own cs) = H' at h
  cases h with
  | plain hw h => subst hv; subst hH; exact .plain hw (h.fill hk hh hr hkk)
  | skip hg hy hne => cases hv

/-! ### a call whose result reads no row: memory may be read as it was -/
theorem VR_nr {β γ : Emb} {x : AV} {u : Value} (h : VR β x u) (hr : x.refs = []) : VR γ x u := by
  have e : x.ren (fun i => i) = x := by cases x <;> simp [AV.ren]
  exact VR.ren (β := β) (ρ := fun i => i) (by rw [e]; exact h) fun id hid => by rw [hr] at hid; cases hid
theorem All2.imp {α β : Type} {R S : α → β → Prop} : ∀ {l : List α} {m : List β}, (∀ x ∈ l, ∀ y, R x y → S x y) → All2 R l m → All2 S l m
  | [], [], _, _ => trivial
  | x :: l, y :: m, h, ⟨h1, h2⟩ => ⟨h x (List.mem_cons_self ..) y h1, All2.imp (fun z hz => h z (List.mem_cons_of_mem _ hz)) h2⟩
theorem flat_nil {α β : Type} {f : α → List β} {l : List α} (h : l.flatMap f = []) : ∀ x ∈ l, f x = [] := fun x hx => List.flatMap_eq_nil_iff.1 h x hx
theorem TVR_nr {β γ : Emb} : ∀ {x : TV} {u : Value}, TVR β x u → x.refs = [] → TVR γ x u
  | .v _, _, h, hr => VR_nr h hr
  | .g cs, _, ⟨us, h1, h2⟩, hr => ⟨us, h1, h2.imp fun x hx y h => VR_nr h (flat_nil hr x hx)⟩
  | .t vs, _, ⟨us, h1, h2⟩, hr => ⟨us, h1, h2.imp fun x hx y h => by
      have hx := flat_nil hr x hx
      match x, h, hx with
      | .v _, h, hx => exact VR_nr h hx
      | .g cs, ⟨us, h1, h2⟩, hx => exact ⟨us, h1, h2.imp fun x hx2 y h => VR_nr h (flat_nil hx x hx2)⟩⟩
theorem Back.forget {β : Emb} {H : Heap} {w : World} {r : TV} {H2 : Heap} {e : Ending} {w' : World} (h0 : SR β H w) (h : Back β H w r H2 e w') (hn : H.n ≤ H2.n) (hk : ∀ i, i < H.n → H2.f i = H.f i) (hr : r.refs = []) : Back β H w r H e w' := by
  obtain ⟨rv, β2, he, hle, hs, hv, hf⟩ := h
  have cells : ∀ i l, β i = some l → RowR β w' l (H.f i) := by
    intro i l e
    have hi := h0.lt e
    have hrow := hs.row i l (hle i l e)
    rw [hk i hi] at hrow
    have old : ∀ (j : Nat) (v : AV), (H.f i).cs[j]? = some v → ∀ (ccs : Array Value) (base : Nat), (∃ u, ccs[base + j]? = some u ∧ VS β2 v u) → ∃ u : Value, ccs[base + j]? = some u ∧ VS β v u := by
      intro j v hj ccs base ⟨u, hu, hvs⟩
      refine ⟨u, hu, ?_, hvs.2⟩
      obtain ⟨u0, _, hv0⟩ := cell_of h0 e hj
      have hrefs := VR_refs hv0.1
      have : v.ren (fun i => i) = v := by cases v <;> simp [AV.ren]
      refine VR.ren (β := β2) (ρ := fun i => i) (by rw [this]; exact hvs.1) fun id hid => ?_
      obtain ⟨m, hm⟩ := hrefs id hid
      rw [hm, hle id m hm]
    cases hb : H.f i with
    | gone => trivial
    | hole => rw [hb] at hrow; exact hrow.elim
    | mp _ _ _ => rw [hb] at hrow; exact hrow
    | tab b o => rw [hb] at hrow; exact hrow
    | ro cs' =>
      rw [hb] at hrow old
      obtain ⟨ccs, t, fz, k1, k2⟩ := hrow
      exact ⟨ccs, t, fz, k1, fun j v hj => old j v hj ccs l.base (k2 j v hj)⟩
    | own cs' =>
      rw [hb] at hrow old
      obtain ⟨ccs, t, fz, k1, k2, k3⟩ := hrow
      exact ⟨ccs, t, fz, k1, fun j v hj => old j v hj ccs l.base (k2 j v hj), k3⟩
  refine ⟨rv, β, he, Le.refl β, ⟨h0.dom, h0.tot, cells, h0.apart⟩, TVR_nr hv hr, ⟨hf.os, hf.tape, hf.output, hf.size, hf.block, fun b _ h => h⟩⟩
theorem Ok.forget {P : Program} {f : FuncId} {args : List TV} {H : Heap} {r : TV} {H2 : Heap} (h : Ok P f args H r H2) (hn : H.n ≤ H2.n) (hk : ∀ i, i < H.n → H2.f i = H.f i) (hr : r.refs = []) : Ok P f args H r H := by
  intro β us w hs ha
  have h1 := h β us w hs ha
  split at h1
  · rename_i g cargs w1 e
    exact h1.mono fun e w' hb => hb.forget hs hn hk hr
  · rename_i v w1 e
    exact Back.forget hs h1 hn hk hr
  · exact h1.elim
/-- What came in. -/
def came (H : Heap) : List Pc := [.keep (fun i => i < H.n) fun H' => H.n ≤ H'.n ∧ ∀ i, i < H.n → H'.f i = H.f i]
theorem came_sep (H : Heap) : Sep H (came H) := ⟨⟨fun _ h => h, ⟨Nat.le_refl _, fun _ _ => rfl⟩, fun _ hn hf => ⟨hn, hf⟩⟩, fun _ hq => absurd hq (List.not_mem_nil), trivial⟩
theorem came_shows {H : Heap} {v : AV} {n : Nat} {cs : List AV} (h : Shows H v n cs) : ∀ H', Sep H' (came H) → Shows H' v n cs := fun H' hs => by
  have h1 : H.n ≤ H'.n ∧ ∀ i, i < H.n → H'.f i = H.f i := hs.1.2.1
  refine h.frame h1.1 fun off len e => h1.2 _ ?_
  rcases h with ⟨rfl, _⟩ | ⟨id, o, l, rfl, _, hr⟩
  · cases e
  · exact hr.lt
theorem OkQ.forget {P : Program} {f : FuncId} {args : List TV} {H : Heap} {Q : TV → Heap → Prop} {R : TV → Prop} (h : OkQ P f args H Q) (hq : ∀ r H2, Q r H2 → Sep H2 (came H) ∧ r.refs = [] ∧ R r) : OkQ P f args H (fun r H2 => R r ∧ H = H2) := by
  obtain ⟨r, H2, h1, h2⟩ := h
  obtain ⟨h3, h4, h5⟩ := hq r H2 h2
  have hk : H.n ≤ H2.n ∧ ∀ i, i < H.n → H2.f i = H.f i := h3.1.2.1
  exact ⟨r, H, h1.forget hk.1 hk.2 h4, h5, rfl⟩
/-! ### pieces -/
theorem Sep.ofHole {H : Heap} {l : List Pc} (h : Sep H l) (j : Nat) {k : Nat} (hj : Go.Ab.nth l j = some (.hole k)) : k < H.n ∧ H.f k = .hole := h.nth hj
/-- A kept number is taken. -/
theorem Sep.fill {H : Heap} {l : List Pc} (h : Sep H l) (j : Nat) {k len n : Nat} {v : AV} (hj : Go.Ab.nth l j = some (.hole k)) (cs : List AV) (hl : cs.length = len * n) (hv : v = .sl k 0 len n) : ∃ G, G = H.put k (.own cs) ∧ Sep G (putP l j (.osl v n cs)) := by
  obtain ⟨h1, h2⟩ := h.ofHole j hj
  subst hv
  refine ⟨_, rfl, h.change hj rfl (Nat.le_refl _) (fun i hi hne => ?_) (.inr ⟨k, 0, len, [], rfl, rfl, hl, h1, by rw [put_f, if_pos rfl]; rfl⟩) fun i hi => ?_⟩
  · rw [put_f, if_neg]
    rintro rfl
    exact hne rfl
  · obtain ⟨_, _, _, hi⟩ := hi; cases hi; exact .inl rfl
/-- An own row is given up. -/
theorem Sep.kill {H : Heap} {l : List Pc} (h : Sep H l) (i1 : Nat) {v : AV} {n : Nat} {cs : List AV} (hi : Go.Ab.nth l i1 = some (.osl v n cs)) (hv : v ≠ .nilsl) : ∃ G, G = H.put v.id0 .gone ∧ Sep G (delP l i1) := by
  refine ⟨_, rfl, (h.del i1).frame (Nat.le_refl _) fun p hp i hpi => ?_⟩
  rw [put_f, if_neg]
  rintro rfl
  have hat : (Pc.osl v n cs).at v.id0 := by
    rcases h.nth hi with ⟨e, _⟩ | ⟨id, off, len, pre, rfl, _⟩
    · exact absurd e hv
    · exact ⟨off, len, n, rfl⟩
  exact apart_nth h hi p hp (.inl rfl) _ hat hpi
/-! ### the operations -/
section
variable {P : Program} {ops : List Oper} {s : Nat → TV} {G : Heap} {l : List Pc} {ty : TypeId} {pos : String} {after : Array Edge} {d : Tmp}
end

/-! ### the walk -/
section
variable {P : Program} {ops r : List Oper} {C : List Nat} {Hm : List Bool → Heap} {i : Nat} {s : Nat → TV} {K : (Nat → TV) → Heap → Prop} {o : Oper}
end
end Go.Ab

namespace Go.Ab
set_option linter.unusedVariables false
set_option linter.unusedSimpArgs false
/-! ### tables -/
def HasTab (g : Nat) (φ : Obj → Prop) (H : Heap) : Prop := ∃ i o, i < H.n ∧ H.f i = .tab g o ∧ φ o
theorem HasTab.heap {g : Nat} {φ : Obj → Prop} {H : Heap} (h : HasTab g φ H) {β : Emb} {w : World} (hs : SR β H w) : ∃ o, w.heap[g]? = some o ∧ φ o := by
  obtain ⟨i, o, h1, h2, h3⟩ := h
  obtain ⟨l, hl⟩ := hs.tot i h1 (by rw [h2]; exact fun e => Blk.noConfusion e)
  have := hs.row i l hl
  rw [h2] at this
  exact ⟨o, this.2, h3⟩
/-- A world that has grown behind. -/
theorem SR.later {β : Emb} {H : Heap} {w w' : World} (h : SR β H w) (hw : ∀ b, b < w.heap.size → w'.heap[b]? = w.heap[b]?) : SR β H w' :=
  ⟨h.dom, h.tot, fun i l e => RowR.mono (Le.refl β) (fun hg => hw _ ((h.row i l e).blk_lt hg)) (h.row i l e), h.apart⟩
/-! ### slices that are only read -/
/-! ### slices of slices that are only read: an own row, and what its elements lead to, which is kept -/
def sg (v : AV) : List AV := [v]
/-! ### contracts in memory that holds tables alone, for walks by hand -/
end Go.Ab

namespace Go.Ab
set_option linter.unusedVariables false
set_option linter.unusedSimpArgs false

/-- The shapes of plain values. -/
inductive Sh where
  | bool
  | int (k : IntKind)
  | flt (k : FloatKind)
  | str
  | sl (e : Sh)
  | unit
  | pair (a b : Sh)

def Sh.T : Sh → Type
  | .bool => Bool
  | .int _ => Int
  | .flt _ => Nat
  | .str => ByteArray
  | .sl e => List e.T
  | .unit => Unit
  | .pair a b => a.T × b.T

def Sh.size : Sh → Nat
  | .unit => 0
  | .pair a b => a.size + b.size
  | _ => 1

def Lies (H : Heap) : (s : Sh) → s.T → List AV → Prop
  | .bool, (b : Bool), cs => cs = [.bool b]
  | .int k, (n : Int), cs => cs = [.int k n] ∧ (Lit.int k n).wf = true
  | .flt k, (c : Nat), cs => cs = [.flt k c] ∧ ∃ b, (Lit.float k b).wf = true ∧ cz k b = c
  | .str, (x : ByteArray), cs => cs = [.str x] ∧ x.size ≤ maxLen
  | .sl e, (l : List e.T), cs => ∃ id parts, cs = [.sl id 0 l.length e.size] ∧ id < H.n ∧ l.length ≤ maxLen ∧ ((l = [] ∧ H.f id = .gone) ∨ H.f id = .ro parts.flatten) ∧ All2 (fun x c => Lies H e x c) l parts
  | .unit, _, cs => cs = []
  | .pair a b, (x : a.T × b.T), cs => ∃ c d, cs = c ++ d ∧ Lies H a x.1 c ∧ Lies H b x.2 d

theorem Lies.len {H : Heap} : ∀ {s : Sh} {x : s.T} {cs : List AV}, Lies H s x cs → cs.length = s.size
  | .bool, _, _, h => by cases h; rfl
  | .int _, _, _, ⟨h, _⟩ => by cases h; rfl
  | .flt _, _, _, ⟨h, _⟩ => by cases h; rfl
  | .str, _, _, ⟨h, _⟩ => by cases h; rfl
  | .sl _, _, _, ⟨_, _, h, _⟩ => by cases h; rfl
  | .unit, _, _, h => by cases h; rfl
  | .pair a b, x, _, ⟨c, d, h, h1, h2⟩ => by cases h; rw [List.length_append, h1.len, h2.len]; rfl

/-- Only rows came in. -/
def AllRo (H : Heap) : Prop := ∀ i, (H.f i).isOwn = false
def Ext (H H' : Heap) : Prop := H.n ≤ H'.n ∧ ∀ i, i < H.n → H'.f i = H.f i
theorem Ext.refl (H : Heap) : Ext H H := ⟨Nat.le_refl _, fun _ _ => rfl⟩
theorem Ext.trans {a b c : Heap} (h : Ext a b) (k : Ext b c) : Ext a c := ⟨Nat.le_trans h.1 k.1, fun i hi => (k.2 i (Nat.lt_of_lt_of_le hi h.1)).trans (h.2 i hi)⟩

theorem Lies.ext {H H' : Heap} (he : Ext H H') : ∀ {s : Sh} {x : s.T} {cs : List AV}, Lies H s x cs → Lies H' s x cs
  | .bool, _, _, h => h
  | .int _, _, _, h => h
  | .flt _, _, _, h => h
  | .str, _, _, h => h
  | .sl e, _, _, ⟨id, parts, h, hid, hm, hr, ha⟩ => ⟨id, parts, h, Nat.lt_of_lt_of_le hid he.1, hm, by rw [he.2 id hid]; exact hr, ha.mono fun _ _ h => h.ext he⟩
  | .unit, _, _, h => h
  | .pair a b, x, _, ⟨c, d, h, h1, h2⟩ => ⟨c, d, h, h1.ext he, h2.ext he⟩

theorem Lies.stor {H : Heap} : ∀ {s : Sh} {x : s.T} {cs : List AV}, Lies H s x cs → ∀ c ∈ cs, c.stor = true
  | .bool, _, _, h => by cases h; simp [AV.stor]
  | .int _, _, _, ⟨h, _⟩ => by cases h; simp [AV.stor]
  | .flt _, _, _, ⟨h, _⟩ => by cases h; simp [AV.stor]
  | .str, _, _, ⟨h, _⟩ => by cases h; simp [AV.stor]
  | .sl _, _, _, ⟨_, _, h, _⟩ => by cases h; simp [AV.stor]
  | .unit, _, _, h => by cases h; simp
  | .pair a b, x, _, ⟨c, d, h, h1, h2⟩ => by
    cases h
    intro y hy
    rcases List.mem_append.1 hy with hy | hy
    · exact h1.stor y hy
    · exact h2.stor y hy

def shapeFs (sh : TypeId → Option Sh) : Nat → List Field → Option Sh
  | _, [] => some .unit
  | o, f :: r => if f.offset = o then (sh f.type).bind fun s => (shapeFs sh (o + s.size) r).map (.pair s) else none

def shape0 (P : Program) (sh : TypeId → Option Sh) (t : TypeId) : Option Sh :=
  match P.underlying t with
  | some .bool => some .bool
  | some (.int k) => some (.int k)
  | some (.float k) => some (.flt k)
  | some .string => some .str
  | some (.slice e) => (sh e).map .sl
  | some (.struct fs) => shapeFs sh 0 fs.toList
  | _ => none

/-- The shape of a type. -/
def shape (P : Program) : Nat → TypeId → Option Sh
  | 0, _ => none
  | d + 1, t => (shape0 P (shape P d) t).bind fun s => if s.size = P.cellsOf t ∧ 0 < s.size then some s else none

theorem shape_size {P : Program} : ∀ {d : Nat} {t : TypeId} {s : Sh}, shape P d t = some s → s.size = P.cellsOf t ∧ 0 < s.size
  | 0, _, _, h => by cases h
  | d + 1, t, s, h => by
    simp only [shape, Option.bind_eq_some_iff] at h
    obtain ⟨s', _, h⟩ := h
    split at h
    · cases h; assumption
    · cases h

/-- A state read so far. -/
structure Rd (w : World) (β : Emb) (H : Heap) (β' : Emb) (H' : Heap) : Prop where
  le : Le β β'
  sr : SR β' H' w
  ro : AllRo H'
  ext : Ext H H'

theorem Rd.trans {w : World} {β β' β'' : Emb} {H H' H'' : Heap} (h : Rd w β H β' H') (k : Rd w β' H' β'' H'') : Rd w β H β'' H'' := ⟨h.le.trans k.le, k.sr, k.ro, h.ext.trans k.ext⟩

/-- A new row that came in. -/
theorem SR.addRow {β : Emb} {H : Heap} {w : World} (h : SR β H w) (hro : AllRo H) (l : Loc) (b : Blk) (hb : b.isOwn = false) (hr : RowR β w l b) :
    Rd w β H (fun i => if i = H.n then some l else β i) (H.alloc b) := by
  have hle : Le β (fun i => if i = H.n then some l else β i) := fun i l' e => by
    have := h.lt e
    show (if i = H.n then some l else β i) = some l'
    rw [if_neg (Nat.ne_of_lt this)]; exact e
  have hown : AllRo (H.alloc b) := fun i => by
    rw [alloc_f]; split
    · exact hb
    · exact hro i
  have hmono' : ∀ {l' : Loc} {b : Blk}, RowR β w l' b → RowR (fun i => if i = H.n then some l else β i) w l' b := fun {l' b'} hr => by
    cases b' with
    | gone => trivial
    | ro cs =>
      obtain ⟨ccs, e, fz, h1, h2⟩ := hr
      refine ⟨ccs, e, fz, h1, fun j v hv => ?_⟩
      obtain ⟨u, hu, hvs⟩ := h2 j v hv
      exact ⟨u, hu, hvs.1.mono hle, hvs.2⟩
    | own cs =>
      obtain ⟨ccs, e, fz, h1, h2, h3⟩ := hr
      refine ⟨ccs, e, fz, h1, fun j v hv => ?_, h3⟩
      obtain ⟨u, hu, hvs⟩ := h2 j v hv
      exact ⟨u, hu, hvs.1.mono hle, hvs.2⟩
    | tab b o => exact hr
    | hole => exact hr.elim
    | mp _ _ _ => exact hr
  refine ⟨hle, ⟨fun i hi => ?_, fun i hi hh => ?_, fun i l' e => ?_, fun i j li lj hij hi hj ho hg => ?_⟩, hown, Nat.le_succ _, fun i hi => by rw [alloc_f, if_neg (Nat.ne_of_lt hi)]⟩
  · have hi' : H.n + 1 ≤ i := hi
    show (if i = H.n then some l else β i) = none
    rw [if_neg (by omega)]; exact h.dom i (by omega)
  · have hi' : i < H.n + 1 := hi
    by_cases e : i = H.n
    · exact ⟨l, if_pos e⟩
    · obtain ⟨l', hl'⟩ := h.tot i (by omega) (by rw [alloc_f, if_neg e] at hh; exact hh)
      exact ⟨l', by show (if i = H.n then some l else β i) = some l'; rw [if_neg e]; exact hl'⟩
  · rw [alloc_f]
    by_cases e' : i = H.n
    · rw [if_pos e']
      have : (if i = H.n then some l else β i) = some l' := e
      rw [if_pos e'] at this
      cases this
      exact hmono' hr
    · rw [if_neg e']
      have : (if i = H.n then some l else β i) = some l' := e
      rw [if_neg e'] at this
      exact hmono' (h.row i l' this)
  · rw [hown i] at ho; cases ho

/-- What reading a row of cells as a value of this shape gives. -/
def Opens (w : World) (s : Sh) (cs : List Value) : Prop :=
  ∀ β H, SR β H w → AllRo H → ∃ β' H' x acs, Rd w β H β' H' ∧ All2 (VR β') acs cs ∧ Lies H' s x acs

/-- The same, of many. -/
theorem opens_list {w : World} {s : Sh} {ι : Type} (row : ι → List Value) : ∀ (is : List ι), (∀ i ∈ is, Opens w s (row i)) → ∀ β H, SR β H w → AllRo H →
    ∃ β' H' xs parts, Rd w β H β' H' ∧ All2 (fun p i => All2 (VR β') p (row i)) parts is ∧ All2 (fun x c => Lies H' s x c) xs parts
  | [], _, β, H, hs, hr => ⟨β, H, [], [], ⟨Le.refl β, hs, hr, Ext.refl H⟩, trivial, trivial⟩
  | i :: is, h, β, H, hs, hr => by
    obtain ⟨β1, H1, x, acs, r1, a1, l1⟩ := h i (List.mem_cons_self ..) β H hs hr
    obtain ⟨β2, H2, xs, parts, r2, a2, l2⟩ := opens_list row is (fun j hj => h j (List.mem_cons_of_mem _ hj)) β1 H1 r1.sr r1.ro
    exact ⟨β2, H2, x :: xs, acs :: parts, r1.trans r2, ⟨a1.mono fun _ _ h => h.mono r2.le, a2⟩, ⟨l1.ext r2.ext, l2⟩⟩

theorem mapM_some {α γ : Type} {f : α → Option γ} : ∀ {l : List α} {r : List γ}, l.mapM f = some r → r.length = l.length ∧ ∀ a ∈ l, ∃ c, f a = some c
  | [], r, h => by simp at h; subst h; exact ⟨rfl, by simp⟩
  | a :: l, r, h => by
    rw [List.mapM_cons] at h
    cases ha : f a with
    | none => rw [ha] at h; cases h
    | some c =>
      rw [ha] at h
      cases hl : l.mapM f with
      | none => rw [hl] at h; cases h
      | some cs =>
        rw [hl] at h
        cases h
        obtain ⟨h1, h2⟩ := mapM_some hl
        refine ⟨by simp [h1], fun b hb => ?_⟩
        rcases List.mem_cons.1 hb with rfl | hb
        · exact ⟨c, ha⟩
        · exact h2 b hb

theorem All2.flat {α β γ : Type} {R : α → β → Prop} {row : γ → List β} : ∀ {parts : List (List α)} {is : List γ}, All2 (fun p i => All2 R p (row i)) parts is → All2 R parts.flatten (is.flatMap row)
  | [], [], _ => trivial
  | p :: ps, i :: is, ⟨h, k⟩ => by
    rw [List.flatten_cons, List.flatMap_cons]
    exact All2.append h k.flat

/-- The cells of one place and the next ones. -/
theorem cells_row {w : World} {base : Nat} {a : Addr} {n : Nat} {vs : List Value} (h : w.cells? base a n = some vs) : vs.length = n ∧ ∀ j, j < n → w.cell? (a.add j) = vs[j]? := by
  unfold World.cells? at h
  split at h
  · have : ∀ (m k : Nat) (vs : List Value), ((List.range' k m).mapM fun i => w.cell? (a.add i)) = some vs → vs.length = m ∧ ∀ j, j < m → w.cell? (a.add (k + j)) = vs[j]? := by
      intro m
      induction m with
      | zero => intro k vs h; simp at h; subst h; exact ⟨rfl, fun j hj => absurd hj (Nat.not_lt_zero _)⟩
      | succ m ih =>
        intro k vs h
        rw [List.range'_succ, List.mapM_cons] at h
        cases h1 : w.cell? (a.add k) with
        | none => rw [h1] at h; cases h
        | some v =>
          rw [h1] at h
          cases h2 : (List.range' (k + 1) m).mapM fun i => w.cell? (a.add i) with
          | none => rw [h2] at h; cases h
          | some r =>
            rw [h2] at h
            cases h
            obtain ⟨e1, e2⟩ := ih (k + 1) r h2
            refine ⟨by simp [e1], fun j hj => ?_⟩
            cases j with
            | zero => simpa using h1
            | succ j =>
              have := e2 j (by omega)
              rw [List.getElem?_cons_succ, ← this]
              congr 2; omega
    rw [List.range_eq_range'] at h
    obtain ⟨e1, e2⟩ := this n 0 vs h
    exact ⟨e1, fun j hj => by simpa using e2 j hj⟩
  · cases h

theorem cell_at {w : World} {a : Addr} {j : Nat} {v : Value} (h : w.cell? (a.add j) = some v) : ∃ ccs e fz, w.heap[a.block]? = some (.cells ccs e fz) ∧ ccs[a.off + j]? = some v ∧ (j = 0 → a.spot = none) := by
  unfold World.cell? at h
  have hb : (a.add j).block = a.block := by unfold Addr.add; split <;> rfl
  have ho : (a.add j).off = a.off + j := by unfold Addr.add; split <;> simp_all
  rw [hb, ho] at h
  split at h
  · rename_i ccs e fz hh
    split at h
    · cases h
    · rename_i hn
      refine ⟨ccs, e, fz, hh, h, fun hj => ?_⟩
      subst hj
      simp only [Addr.add, if_true] at hn
      cases hs : a.spot with
      | none => rfl
      | some x => rw [hs] at hn; simp at hn
  · cases h

/-- A list of flat elements, as a row. -/
theorem Lies.row {H : Heap} {e : Sh} {f : e.T → List AV} (hf : ∀ x c, Lies H e x c → c = f x) {l : List e.T} {cs : List AV} (h : Lies H (.sl e) l cs) :
    ∃ id, cs = [.sl id 0 l.length e.size] ∧ Row H id 0 (enc f l) ∧ l.length ≤ maxLen := by
  obtain ⟨id, parts, h1, h2, h3, h4, h5⟩ := h
  have hp : ∀ (l : List e.T) (parts : List (List AV)), All2 (fun x c => Lies H e x c) l parts → parts.flatten = enc f l := by
    intro l
    induction l with
    | nil => intro parts h; cases parts with
      | nil => rfl
      | cons _ _ => cases h
    | cons x l ih => intro parts h; cases parts with
      | nil => cases h
      | cons c ps => rw [List.flatten_cons, ih ps h.2, hf x c h.1]; rfl
  refine ⟨id, h1, ?_, h3⟩
  rcases h4 with ⟨rfl, hg⟩ | hg
  · exact ⟨h2, by rw [hg]; exact Nat.zero_le _, rfl⟩
  · exact Row.of_f h2 (by rw [hg]; exact hp l parts h5)
theorem enc_map {α β : Type} (e : β → List AV) (g : α → β) (l : List α) : enc e (l.map g) = enc (fun x => e (g x)) l := by
  simp [enc, List.flatMap_map]

theorem addr_adds (a : Addr) (x y : Nat) : (a.add x).add y = a.add (x + y) := by
  unfold Addr.add
  by_cases hx : x = 0
  · subst hx; simp
  · by_cases hy : y = 0
    · subst hy; simp
    · have : ¬ x + y = 0 := by omega
      simp [hx, hy, this, Nat.add_assoc]

theorem rows_at {w : World} {a : Addr} {n : Nat} (row : Nat → List Value) : ∀ (m k : Nat), (∀ i, k ≤ i → i < k + m → w.cells? 0 (a.add (i * n)) n = some (row i)) →
    ∀ (j : Nat) (u : Value), ((List.range' k m).flatMap row)[j]? = some u → w.cell? (a.add (k * n + j)) = some u
  | 0, k, _, j, u, h => by simp at h
  | m + 1, k, hr, j, u, h => by
    rw [List.range'_succ, List.flatMap_cons] at h
    obtain ⟨hl, hc⟩ := cells_row (hr k (Nat.le_refl _) (by omega))
    by_cases hj : j < n
    · rw [List.getElem?_append_left (by omega)] at h
      rw [← addr_adds, hc j hj, h]
    · rw [List.getElem?_append_right (by omega), hl] at h
      have := rows_at row m (k + 1) (fun i h1 h2 => hr i (by omega) (by omega)) (j - n) u h
      rw [Nat.succ_mul] at this
      rw [← this]
      congr 2; omega

theorem opens_fields {w : World} {sh : TypeId → Option Sh} {P : Program} (hsz : ∀ t s, sh t = some s → s.size = P.cellsOf t) (cs : List Value) : ∀ (fs : List Field) (o : Nat) (s : Sh), shapeFs sh o fs = some s → cs.length = o + s.size →
    (∀ f ∈ fs, ∀ s, sh f.type = some s → Opens w s ((cs.drop f.offset).take (P.cellsOf f.type))) → Opens w s (cs.drop o)
  | [], o, s, h, hl, _ => by
    cases h
    intro β H hs hr
    refine ⟨β, H, (), [], ⟨Le.refl β, hs, hr, Ext.refl H⟩, ?_, rfl⟩
    have : cs.drop o = [] := List.drop_eq_nil_of_le (by simp [Sh.size] at hl; omega)
    rw [this]; trivial
  | f :: r, o, s, h, hl, hf => by
    unfold shapeFs at h
    split at h
    · rename_i ho
      cases h1 : sh f.type with
      | none => rw [h1] at h; cases h
      | some s1 =>
        rw [h1] at h
        cases h2 : shapeFs sh (o + s1.size) r with
        | none => rw [Option.bind_some, h2] at h; cases h
        | some s2 =>
          rw [Option.bind_some, h2] at h
          cases h
          have hz := hsz _ _ h1
          have k1 := hf f (List.mem_cons_self ..) s1 h1
          have hl' : cs.length = o + s1.size + s2.size := by rw [hl]; simp [Sh.size]; omega
          have k2 := opens_fields hsz cs r (o + s1.size) s2 h2 hl' fun g hg => hf g (List.mem_cons_of_mem _ hg)
          intro β H hs hr
          obtain ⟨β1, H1, x, acs, r1, a1, l1⟩ := k1 β H hs hr
          obtain ⟨β2, H2, y, bcs, r2, a2, l2⟩ := k2 β1 H1 r1.sr r1.ro
          refine ⟨β2, H2, (x, y), acs ++ bcs, r1.trans r2, ?_, ⟨acs, bcs, rfl, l1.ext r2.ext, l2⟩⟩
          have e : cs.drop o = (cs.drop f.offset).take (P.cellsOf f.type) ++ cs.drop (o + s1.size) := by
            rw [ho, ← hz, ← List.drop_drop, List.take_append_drop]
          rw [e]
          exact All2.append (a1.mono fun _ _ h => h.mono r2.le) a2
    · cases h

theorem opens_nil {w : World} {s : Sh} {a : Option Addr} {cap : Nat} (h : a = none ∧ cap = 0 ∨ (∃ b, a = some b ∧ b.spot = none) ∨ cap = 0) : Opens w (.sl s) [.slice a 0 cap] := by
  intro β H hs hr
  have r := SR.addRow hs hr ⟨((a.map (·.block)).getD 0), ((a.map (·.off)).getD 0), cap * s.size⟩ .gone rfl trivial
  refine ⟨_, _, ([] : List s.T), [.sl H.n 0 0 s.size], r, ⟨⟨_, a, cap, if_pos rfl, rfl, Nat.zero_le _, ?_⟩, trivial⟩, ⟨H.n, [], rfl, Nat.lt_succ_self _, Nat.zero_le _, .inl ⟨rfl, by rw [alloc_f, if_pos rfl]⟩, trivial⟩⟩
  rcases h with ⟨rfl, rfl⟩ | ⟨b, rfl, hb⟩ | rfl
  · exact .inr ⟨rfl, rfl⟩
  · left
    refine ⟨?_, by simp⟩
    cases b; simp at hb; subst hb; rfl
  · exact .inr ⟨rfl, rfl⟩

theorem opens_slice {w : World} {s : Sh} {a : Addr} {len cap : Nat} {row : Nat → List Value} (hn : 0 < s.size) (hlen : 0 < len) (hc : len ≤ cap) (hm : cap ≤ maxLen)
    (hrow : ∀ i, i < len → w.cells? 0 (a.add (i * s.size)) s.size = some (row i)) (ho : ∀ i, i < len → Opens w s (row i)) : Opens w (.sl s) [.slice (some a) len cap] := by
  intro β H hs hr
  obtain ⟨β1, H1, xs, parts, r1, a1, l1⟩ := opens_list row (List.range len) (fun i hi => ho i (List.mem_range.1 hi)) β H hs hr
  have hlen1 : parts.length = len := by have := a1.len; simpa using this
  have hlen2 : xs.length = len := by rw [l1.len, hlen1]
  have hfl := a1.flat
  have hat : ∀ (j : Nat) (u : Value), ((List.range len).flatMap row)[j]? = some u → w.cell? (a.add j) = some u := by
    intro j u h
    rw [List.range_eq_range'] at h
    have := rows_at row len 0 (fun i _ h2 => hrow i (by omega)) j u h
    simpa using this
  obtain ⟨hl0, hc0⟩ := cells_row (hrow 0 hlen)
  obtain ⟨u0, hu0⟩ : ∃ u, (row 0)[0]? = some u := ⟨(row 0)[0]'(by omega), by rw [List.getElem?_eq_getElem]⟩
  have h00 := hc0 0 hn
  rw [hu0] at h00
  simp only [Nat.zero_mul] at h00
  have h00' : w.cell? (a.add 0) = some u0 := by rw [addr_adds] at h00; exact h00
  obtain ⟨ccs, e, fz, hheap, _, hspot⟩ := cell_at h00'
  have hspot := hspot rfl
  have hrowR : RowR β1 w ⟨a.block, a.off, cap * s.size⟩ (.ro parts.flatten) := by
    refine ⟨ccs, e, fz, hheap, fun j v hv => ?_⟩
    obtain ⟨u, hu, hvr⟩ := hfl.get j v hv
    obtain ⟨ccs', e', fz', hh', hcc, _⟩ := cell_at (hat j u hu)
    rw [hheap] at hh'
    cases hh'
    refine ⟨u, hcc, hvr, ?_⟩
    obtain ⟨p, hp, hvp⟩ := List.mem_flatten.1 (List.mem_of_getElem? hv)
    obtain ⟨k, hk, rfl⟩ := List.getElem_of_mem hp
    obtain ⟨x, hx⟩ : ∃ x, xs[k]? = some x := ⟨xs[k]'(by omega), by rw [List.getElem?_eq_getElem]⟩
    obtain ⟨p', hp', hl⟩ := l1.get k x hx
    rw [List.getElem?_eq_getElem hk] at hp'
    cases hp'
    exact hl.stor v hvp
  have r2 := SR.addRow r1.sr r1.ro ⟨a.block, a.off, cap * s.size⟩ (.ro parts.flatten) rfl hrowR
  refine ⟨_, _, xs, [.sl H1.n 0 xs.length s.size], r1.trans r2, ⟨⟨_, some a, cap, if_pos rfl, by rw [hlen2], by rw [hlen2]; exact hc, .inl ⟨?_, by simp⟩⟩, trivial⟩,
    ⟨H1.n, parts, rfl, Nat.lt_succ_self _, by rw [hlen2]; omega, .inr (by rw [alloc_f, if_pos rfl]), l1.mono fun _ _ h => h.ext r2.ext⟩⟩
  cases a; simp at hspot; subst hspot; rfl

theorem trod_opens {U : Type} {enc : TypeId × Value → U} {P : Program} {w : World} {held : Bool} : ∀ (d : Nat) (t : TypeId) (s : Sh), shape P d t = some s → ∀ fuel cs dat ps, DataW.trod enc P w 0 (fun _ => true) held fuel t cs = some (dat, ps) → Opens w s cs
  | 0, _, _, h, _, _, _, _, _ => by cases h
  | d + 1, t, s, h, 0, cs, dat, ps, ht => by cases ht
  | d + 1, t, s, h, fuel + 1, cs, dat, ps, ht => by
    have hsz := shape_size h
    simp only [shape, Option.bind_eq_some_iff] at h
    obtain ⟨s', h0, h⟩ := h
    split at h
    case isFalse => cases h
    cases h
    unfold shape0 at h0
    unfold DataW.trod at ht
    split at h0
    case h_1 hu =>
      cases h0
      rw [hu] at ht
      obtain ⟨b, rfl⟩ : ∃ b, cs = [.bool b] := by
        split at ht <;> simp_all
      exact fun β H hs hr => ⟨β, H, b, [.bool b], ⟨Le.refl β, hs, hr, Ext.refl H⟩, ⟨rfl, trivial⟩, rfl⟩
    case h_2 k hu =>
      cases h0
      rw [hu] at ht
      obtain ⟨n, rfl, hw⟩ : ∃ n, cs = [.int k n] ∧ (Lit.int k n).wf = true := by
        split at ht <;> simp_all
      exact fun β H hs hr => ⟨β, H, n, [.int k n], ⟨Le.refl β, hs, hr, Ext.refl H⟩, ⟨rfl, trivial⟩, rfl, hw⟩
    case h_3 k hu =>
      cases h0
      rw [hu] at ht
      obtain ⟨b, rfl, hw⟩ : ∃ b, cs = [.float k b] ∧ (Lit.float k b).wf = true := by
        split at ht <;> simp_all
      exact fun β H hs hr => ⟨β, H, cz k b, [.flt k (cz k b)], ⟨Le.refl β, hs, hr, Ext.refl H⟩, ⟨⟨b, rfl, rfl⟩, trivial⟩, rfl, b, hw, rfl⟩
    case h_4 hu =>
      cases h0
      rw [hu] at ht
      obtain ⟨x, rfl, hw⟩ : ∃ x, cs = [.string x] ∧ x.size ≤ maxLen := by
        split at ht <;> simp_all
      exact fun β H hs hr => ⟨β, H, x, [.str x], ⟨Le.refl β, hs, hr, Ext.refl H⟩, ⟨rfl, trivial⟩, rfl, hw⟩
    case h_5 e hu =>
      rw [hu] at ht
      cases hse : shape P d e with
      | none => rw [hse] at h0; cases h0
      | some se =>
        rw [hse] at h0
        cases h0
        have hez := shape_size hse
        have hcs : (cs = [.slice none 0 0]) ∨ ∃ a len cap, cs = [.slice (some a) len cap] := by
          split at ht <;> simp_all
        rcases hcs with rfl | ⟨a, len, cap, rfl⟩
        · exact opens_nil (.inl ⟨rfl, rfl⟩)
        · simp only at ht
          split at ht
          case isFalse => cases ht
          rename_i hcond
          obtain ⟨_, hlc, hcm⟩ := hcond
          rw [Option.bind_eq_some_iff] at ht
          obtain ⟨elems, hel, ht⟩ := ht
          rw [if_pos trivial] at ht
          rw [Option.map_eq_some_iff] at ht
          obtain ⟨rest, hrest, _⟩ := ht
          have he := (mapM_some hel).2
          have hr := (mapM_some hrest).2
          rcases Nat.eq_zero_or_pos len with rfl | hlen
          · rcases Nat.eq_zero_or_pos cap with rfl | hcap
            · exact opens_nil (.inr (.inr rfl))
            · refine opens_nil (.inr (.inl ⟨a, rfl, ?_⟩))
              obtain ⟨c, hc⟩ := hr 0 (List.mem_range.2 (by omega))
              rw [Option.bind_eq_some_iff] at hc
              obtain ⟨vs, hvs, _⟩ := hc
              obtain ⟨hl, hcell⟩ := cells_row hvs
              have h0 := hcell 0 (by omega)
              rw [addr_adds, List.getElem?_eq_getElem (by omega)] at h0
              simp only [Nat.add_zero, Nat.zero_mul] at h0
              obtain ⟨_, _, _, _, _, hs⟩ := cell_at h0
              exact hs rfl
          · have hrow : ∀ i, i < len → ∃ vs, w.cells? 0 (a.add (i * se.size)) se.size = some vs ∧ Opens w se vs := by
              intro i hi
              obtain ⟨c, hc⟩ := he i (List.mem_range.2 hi)
              rw [Option.bind_eq_some_iff] at hc
              obtain ⟨vs, hvs, hc⟩ := hc
              rw [← hez.1] at hvs
              exact ⟨vs, hvs, trod_opens d e se hse _ vs c.1 c.2 hc⟩
            refine opens_slice (row := fun i => (w.cells? 0 (a.add (i * se.size)) se.size).getD []) hez.2 hlen hlc hcm (fun i hi => ?_) fun i hi => ?_
            · obtain ⟨vs, hvs, _⟩ := hrow i hi
              rw [hvs]; rfl
            · obtain ⟨vs, hvs, ho⟩ := hrow i hi
              rw [hvs]; exact ho
    case h_6 fs hu =>
      rw [hu] at ht
      simp only at ht
      split at ht
      case isFalse => cases ht
      rename_i hlen
      rw [Option.map_eq_some_iff] at ht
      have hm := ht.imp fun _ h => h.1
      obtain ⟨xs, hm⟩ := hm
      have := opens_fields (w := w) (P := P) (fun t s h => (shape_size h).1) cs fs.toList 0 s h0 (by rw [hlen, ← hsz.1, Nat.zero_add]) fun f hf sf hsf => by
        obtain ⟨c, hc⟩ := (mapM_some hm).2 f hf
        exact trod_opens d f.type sf hsf fuel _ c.1 c.2 hc
      simpa using this
    case h_7 => cases h0

end Go.Ab

namespace Go.Ab
open Go.WideShapes Go.RowKit
set_option linter.unusedVariables false
set_option linter.unusedSimpArgs false

def tvOf : Sh → List AV → TV
  | .pair _ _, cs => .g cs
  | .unit, cs => .g cs
  | _, cs => .v (cs.headD .bad)

def argSh : List Sh → Sh
  | [] => .unit
  | s :: r => .pair s (argSh r)

def LiesArgs (H : Heap) : (ss : List Sh) → (argSh ss).T → List TV → Prop
  | [], _, as => as = []
  | s :: r, (x : s.T × (argSh r).T), as => ∃ cs rest, as = tvOf s cs :: rest ∧ Lies H s x.1 cs ∧ LiesArgs H r x.2 rest

theorem LiesArgs.ext {H H' : Heap} (he : Ext H H') : ∀ {ss : List Sh} {x : (argSh ss).T} {as : List TV}, LiesArgs H ss x as → LiesArgs H' ss x as
  | [], _, _, h => h
  | s :: r, x, _, ⟨cs, rest, h, h1, h2⟩ => ⟨cs, rest, h, h1.ext he, h2.ext he⟩

/-- A value of a plain type, as it is handed over. -/
theorem tv_of_ok {P : Program} {w : World} {base d : Nat} {t : TypeId} {s : Sh} {v : Value} (hs : shape P d t = some s) (h : Value.okWide P w .any base t v) {β : Emb} {H : Heap} {x : s.T} {acs : List AV}
    (ha : All2 (VR β) acs v.cells.toList) (hl : Lies H s x acs) : TVR β (tvOf s acs) v := by
  cases d with
  | zero => cases hs
  | succ d =>
    have hsz := shape_size hs
    simp only [shape, Option.bind_eq_some_iff] at hs
    obtain ⟨s', h0, hs⟩ := hs
    split at hs
    case isFalse => cases hs
    cases hs
    unfold shape0 at h0
    have one : ∀ {u : Value}, (∀ cs, v ≠ .agg cs) → v.cells.toList = [v] := fun hne => by
      cases v <;> first | rfl | exact absurd rfl (hne _)
    have scalar : (∀ cs, v ≠ .agg cs) → s.size = 1 → ∃ c, acs = [c] ∧ VR β c v := fun hne hz => by
      have hlen := hl.len
      rw [hz] at hlen
      rw [one (u := v) hne] at ha
      match acs, ha with
      | [c], ⟨hc, _⟩ => exact ⟨c, rfl, hc⟩
      | [], ha => simp at hlen
      | _ :: _ :: _, ha => simp at hlen
    split at h0
    case h_1 hu =>
      cases h0
      obtain ⟨b, rfl⟩ := okWide_bool hu h
      obtain ⟨c, rfl, hc⟩ := scalar (by simp) rfl
      exact hc
    case h_2 k hu =>
      cases h0
      obtain ⟨b, rfl⟩ := okWide_int hu h
      obtain ⟨c, rfl, hc⟩ := scalar (by simp) rfl
      exact hc
    case h_3 k hu =>
      cases h0
      have : ∀ cs, v ≠ .agg cs := by
        intro cs e
        subst e
        simp only [Value.okWide, hu, Cell.okWide, Cell.ok] at h
      obtain ⟨c, rfl, hc⟩ := scalar this rfl
      exact hc
    case h_4 hu =>
      cases h0
      obtain ⟨b, rfl⟩ := okWide_string hu h
      obtain ⟨c, rfl, hc⟩ := scalar (by simp) rfl
      exact hc
    case h_5 e hu =>
      obtain ⟨a, len, cap, rfl⟩ := okWide_slice hu h
      cases hse : shape P d e with
      | none => rw [hse] at h0; cases h0
      | some se =>
        rw [hse] at h0; cases h0
        obtain ⟨c, rfl, hc⟩ := scalar (by simp) rfl
        exact hc
    case h_6 fs hu =>
      obtain ⟨cs, rfl, hcs⟩ := okWide_struct hu h
      have hg : tvOf s acs = .g acs := by
        cases hf : fs.toList with
        | nil => rw [hf] at h0; cases h0; rfl
        | cons f r =>
          rw [hf] at h0
          unfold shapeFs at h0
          split at h0
          · cases h1 : shape P d f.type with
            | none => rw [h1] at h0; cases h0
            | some s1 =>
              rw [h1, Option.bind_some, Option.map_eq_some_iff] at h0
              obtain ⟨s2, _, rfl⟩ := h0
              rfl
          · cases h0
      rw [hg]
      exact ⟨cs.toList, by simp, ha⟩
    case h_7 => cases h0

theorem trodAll_opens {U : Type} {enc : TypeId × Value → U} {P : Program} {w : World} {base d : Nat} : ∀ (ts : List TypeId) (ss : List Sh) (vs : List Value) (ds : List (DataW U)) (p : List MemPlace), ts.map (shape P d) = ss.map some →
    DataW.TrodAll enc P w 0 (fun _ => true) true ts vs ds p → (∀ (j : Nat) t v, ts[j]? = some t → vs[j]? = some v → Value.okWide P w .any base t v) → ∀ β H, SR β H w → AllRo H →
    ∃ β' H' x as, Rd w β H β' H' ∧ All2 (TVR β') as vs ∧ LiesArgs H' ss x as
  | [], [], [], [], p, _, _, _, β, H, hs, hr => ⟨β, H, (), [], ⟨Le.refl β, hs, hr, Ext.refl H⟩, trivial, rfl⟩
  | t :: ts, s :: ss, v :: vs, dd :: ds, p, hsh, ⟨p1, q, ⟨fuel, h1⟩, h2, _⟩, hv, β, H, hs, hr => by
    simp only [List.map_cons, List.cons.injEq] at hsh
    obtain ⟨β1, H1, x, acs, r1, a1, l1⟩ := trod_opens d t s hsh.1 fuel _ dd p1 h1 β H hs hr
    obtain ⟨β2, H2, y, as, r2, a2, l2⟩ := trodAll_opens ts ss vs ds q hsh.2 h2 (fun j t' v' h3 h4 => hv (j + 1) t' v' (by simpa using h3) (by simpa using h4)) β1 H1 r1.sr r1.ro
    refine ⟨β2, H2, (x, y), tvOf s acs :: as, r1.trans r2, ⟨?_, a2⟩, acs, as, rfl, l1.ext r2.ext, l2⟩
    exact (tv_of_ok hsh.1 (hv 0 t v rfl rfl) a1 l1).mono r2.le
  | [], _ :: _, _, _, _, hsh, _, _, _, _, _, _ => by simp at hsh
  | _ :: _, [], _, _, _, hsh, _, _, _, _, _, _ => by simp at hsh

/-- THE FRAME: a law whose contract tells true of all plain arguments answers true in every run, and leaves what was there. -/
theorem law_calls {U : Type} {enc : TypeId × Value → U} {P : Program} {f : FuncId} {ts : List TypeId} {ss : List Sh} {d base : Nat} (hcall : ∀ (as : Array Value) (w : World), (callFunc f as).run P w = .ok (.enter f as) w)
    (hsh : ts.map (shape P d) = ss.map some) (hok : ∀ H x as, AllRo H → LiesArgs H ss x as → ∃ H2, Ok P f as H (.v (.bool true)) H2) {W : World} {args : Array Value} {ds : List (DataW U)} {p : List MemPlace}
    (hA : DataW.TrodAll enc P W 0 (fun _ => true) true ts args.toList ds p) (hval : ∀ (j : Nat) t v, ts[j]? = some t → args[j]? = some v → Value.okWide P W .any base t v) :
    Calls P f args W fun e W' => e = .returned (.bool true) ∧ Below W.heap.size W W' := by
  have h0 : SR (fun _ => none) ⟨0, fun _ => .gone⟩ W := ⟨fun _ _ => rfl, fun i hi => absurd hi (Nat.not_lt_zero i), fun i l e => (by cases e), fun i j li lj _ e => (by cases e)⟩
  obtain ⟨β, H, x, as, r, ha, hl⟩ := trodAll_opens ts ss args.toList ds p hsh hA (fun j t v h1 h2 => hval j t v h1 (by simpa using h2)) _ _ h0 (fun _ => rfl)
  obtain ⟨H2, hk⟩ := hok H x as r.ro hl
  have := hk β args.toList W r.sr ha
  rw [show args.toList.toArray = args by simp, hcall] at this
  refine Calls.mono this fun e W' ⟨rv, β2, he, hle, hs2, hv, hf⟩ => ?_
  refine ⟨by rw [he]; exact congrArg _ hv, hf.os, hf.tape, hf.output, hf.size, fun k hk => hf.block k hk ?_⟩
  rintro ⟨i, l, _, ho, _⟩
  rw [r.ro i] at ho
  cases ho

theorem trodAll_stays {U : Type} {enc : TypeId × Value → U} {P : Program} (hl : laidOutB P = true) {W W' : World} (hb : Below W.heap.size W W') : ∀ (ts : List TypeId) (vs : List Value) (ds : List (DataW U)) (p : List MemPlace),
    (∀ t ∈ ts, P.readableRec t = true ∧ t < P.types.size) → DataW.TrodAll enc P W 0 (fun _ => true) true ts vs ds p → DataW.TrodAll enc P W' 0 (fun b => decide (b < W.heap.size)) true ts vs ds p
  | [], [], [], _, _, h => h
  | t :: ts, v :: vs, d :: ds, _, ht, ⟨p1, q, h1, h2, e⟩ => by
    refine ⟨p1, q, Below.trod hl (ht t (List.mem_cons_self ..)).1 (ht t (List.mem_cons_self ..)).2 h1 hb ?_, trodAll_stays hl hb ts vs ds q (fun t h => ht t (List.mem_cons_of_mem _ h)) h2, e⟩
    obtain ⟨m, hm⟩ := h1
    exact fun y hy => DataW.trod_lt m _ _ _ hm y hy

end Go.Ab

set_option linter.unusedVariables false
namespace Go.Ab
theorem lies_flat {H : Heap} {e : Sh} {α : Type} {f : α → List AV} {g : e.T → α} {n : Nat} (hn : e.size = n) (hf : ∀ x c, Lies H e x c → c = f (g x)) {l : List e.T} {cs : List AV} (h : Lies H (.sl e) l cs) :
    ∃ v, cs = [v] ∧ Shows H v n (enc f (l.map g)) ∧ l.length ≤ maxLen := by
  obtain ⟨id, rfl, hr, hm⟩ := Lies.row (f := fun x => f (g x)) hf h
  have he : enc (fun x => f (g x)) l = enc f (l.map g) := (enc_map f g l).symm
  have hlen : (enc f (l.map g)).length = l.length * n := by
    rw [← he]
    have h' := h
    obtain ⟨id', parts, _, _, _, _, hp⟩ := h'
    have key : ∀ (xs : List e.T) (ps : List (List AV)), All2 (fun x c => Lies H e x c) xs ps → (enc (fun x => f (g x)) xs).length = xs.length * n := by
      intro xs
      induction xs with
      | nil => intro ps _; simp [enc]
      | cons x xs ih =>
        intro ps hp
        cases ps with
        | nil => exact hp.elim
        | cons p ps =>
          have h1 := hf x p hp.1
          rw [enc_cons, List.length_append, ih ps hp.2, ← h1, hp.1.len, hn, List.length_cons, Nat.succ_mul]; omega
    exact key l parts hp
  refine ⟨_, rfl, .inr ⟨id, 0, l.length, by rw [hn], hlen, ?_⟩, hm⟩
  rw [← he]; exact hr
theorem okq_true {P : Program} {f : FuncId} {vs : List TV} {H : Heap} {Q : TV → Heap → Prop} (h : OkQ P f vs H Q) (hq : ∀ r H2, Q r H2 → r = .v (.bool true)) : ∃ H2, Ok P f vs H (.v (.bool true)) H2 := by
  obtain ⟨r, H2, h1, h2⟩ := h
  have := hq r H2 h2
  subst this
  exact ⟨H2, h1⟩
open Go.WideShapes Go.RowKit
/-! ### a law whose row lists a table -/
end Go.Ab

