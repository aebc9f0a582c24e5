/-
  REGIONS IN A DRAWN ORDER WITH SEVERAL CHANGES OF MEMORY that don't wait for one another. By an AI agent; nothing here is trusted.
-/
import Derived.Test.YtfhlhgnipmgfdaaAbJ
namespace Go.Ab
set_option linter.unusedVariables false
set_option linter.unusedSimpArgs false

/-- What has been done, with all that goes ahead of it. -/
def closedD (ops : List Oper) (D : Nat → Bool) : Prop := ∀ j, j < ops.length → D j = true → ∀ k, (maskAt ops j).testBit k = true → D k = true

structure TraceM (P : Program) (ops : List Oper) (S : Nat → Nat → TV) (Hs : (Nat → Bool) → Heap) (V : Nat → TV) : Prop where
  next : ∀ j o, ops[j]? = some o → S (j + 1) = aput (S j) o.dst (V j)
  step : ∀ i o, ops[i]? = some o → ∀ D, D i = false → closedD ops D → (∀ k, (maskAt ops i).testBit k = true → D k = true) → StepR P ops (S i) (Hs D) o (V i) (Hs (fun j => D j || j == i))

section
variable {P : Program} {ops : Array Oper} {N : Nat} {S : Nat → Nat → TV} {Hs : (Nat → Bool) → Heap} {V : Nat → TV}

theorem look_traceM (ht : TraceM P ops.toList S Hs V) (t : Tmp) : ∀ i, i ≤ ops.size → S i t = look ops.toList V (S 0 t) (fun j => decide (j < i)) t i
  | 0, _ => rfl
  | i + 1, h => by
    have ho : ops.toList[i]? = some ops[i] := by simp
    rw [ht.next i ops[i] ho]
    have ih := look_traceM ht t i (by omega)
    have e : look ops.toList V (S 0 t) (fun j => decide (j < i + 1)) t i = look ops.toList V (S 0 t) (fun j => decide (j < i)) t i :=
      look_congr i fun j hj _ => by simp; omega
    simp only [look, ho, Option.bind_some]
    rw [e, ← ih]
    cases hd : (ops[i]).dst with
    | none => simp [aput]
    | some d =>
      simp only [aput, upd]
      by_cases hdt : t = d
      · subst hdt; simp
      · rw [if_neg hdt, if_neg (by simp; exact fun e => hdt e.symm)]

/-- The state in the middle of such a region. -/
structure MidM (P : Program) (ops : Array Oper) (N : Nat) (S : Nat → Nat → TV) (Hs : (Nat → Bool) → Heap) (V : Nat → TV) (β0 : Emb) (w0 : World) (E : Array Bool) (a : Act) (w : World) (β : Emb) : Prop where
  le : Le β0 β
  sr : SR β (Hs (fun j => E.getD j false)) w
  fr : Fr β0 (Hs (fun _ => false)) w0 β (Hs (fun j => E.getD j false)) w
  size : a.tmps.size = N
  defers : a.defers = []
  val : ∀ t, TVR β (look ops.toList V (S 0 t) (fun j => E.getD j false) t ops.size) (a.tmps.getD t undef)
  esize : E.size = ops.size
  closed : ∀ j, j < ops.size → E.getD j false = true → ∀ i, (maskAt ops.toList j).testBit i = true → E.getD i false = true

theorem MidM.ready {β0 : Emb} {w0 : World} {E : Array Bool} {a : Act} {w : World} {β : Emb} (hok : orderOK ops.toList = true) (h : MidM P ops N S Hs V β0 w0 E a w β) {i : Nat}
    (hi : i ∈ Region.ready .any ops E) : i < ops.size ∧ E.getD i true = false ∧ ∀ k, (maskAt ops.toList i).testBit k = true → E.getD k false = true := by
  obtain ⟨h1, o, ho, h2⟩ := mem_ready.1 hi
  have hlt : i < ops.size := by
    rcases Nat.lt_or_ge i ops.size with h' | h'
    · exact h'
    · simp [Array.getElem?_eq_none h'] at ho
  refine ⟨hlt, h1, fun k hk => ?_⟩
  obtain ⟨e, he, hb, hor⟩ := maskAt_bit hok (j := i) (i := k) (o := o) (by simpa using ho) hk
  have hE := h2 e (by simpa using he) hb
  rcases hor with rfl | hor
  · exact hE
  · have hel : e.on < ops.size := by
      rcases Nat.lt_or_ge e.on ops.size with h' | h'
      · exact h'
      · rw [← h.esize] at h'
        simp [Array.getD_eq_getD_getElem?, Array.getElem?_eq_none h'] at hE
    exact h.closed e.on hel hE k hor

/-- What a ready operation names is what the text's order has there. -/
theorem MidM.names {β0 : Emb} {w0 : World} {E : Array Bool} {a : Act} {w : World} {β : Emb} (hok : orderOK ops.toList = true) (h : MidM P ops N S Hs V β0 w0 E a w β) {i : Nat} {o : Oper}
    (hi : i ∈ Region.ready .any ops E) (ho : ops[i]? = some o) {t : Tmp} (htn : t ∈ named ops.toList o) : ∀ j, j < ops.size → (ops.toList[j]?).bind (·.dst) = some t → (E.getD j false = true ↔ j < i) := by
  obtain ⟨hlt, he, hbits⟩ := h.ready hok hi
  have hEi : E.getD i false = false := by rw [getD_bool (by rw [h.esize]; exact hlt) false true]; exact he
  intro j hj hjd
  have hoj : ops.toList[j]? = some ops[j] := by simp [hj]
  rw [hoj] at hjd
  simp only [Option.bind_some] at hjd
  have hcl := clash_of (i := i) (j := j) (by simpa using ho) hoj htn hjd
  have hlen : ops.toList.length = ops.size := by simp
  constructor
  · intro hE
    rcases Nat.lt_trichotomy j i with h1 | h1 | h1
    · exact h1
    · subst h1; rw [hEi] at hE; cases hE
    · have := clash_bit hok h1 (by omega) hcl.1
      rw [h.closed j hj hE i this] at hEi
      cases hEi
  · intro h1
    exact hbits j (clash_bit hok h1 (by omega) hcl.2)

theorem region_anyM (ht : TraceM P ops.toList S Hs V) (hok : orderOK ops.toList = true) (hd : ∀ o ∈ ops.toList, ∀ d, o.dst = some d → d < N) {Q : Exit → Act → World → Prop} {β0 : Emb} {w0 : World}
    (hQ : ∀ β' a' w', Le β0 β' → AR β' (S ops.size) a' N → SR β' (Hs (fun j => decide (j < ops.size))) w' → Fr β0 (Hs (fun _ => false)) w0 β' (Hs (fun j => decide (j < ops.size))) w' → Q .normal a' w') :
    ∀ (fuel : Nat) (E : Array Bool) (a : Act) (w : World) (β : Emb), unl E ops.size = fuel → MidM P ops N S Hs V β0 w0 E a w β → wpAny P .any ops Q fuel E a w := by
  have hlen : ops.toList.length = ops.size := by simp
  have finish : ∀ (E : Array Bool) (a : Act) (w : World) (β : Emb), MidM P ops N S Hs V β0 w0 E a w β → (∀ j, j < ops.size → E.getD j true = true) → Q .normal a w := by
    intro E a w β h hall
    have hallf : ∀ j, j < ops.size → E.getD j false = true := fun j hj => by rw [getD_bool (by rw [h.esize]; exact hj) false true]; exact hall j hj
    have hsr := h.sr
    have hfr := h.fr
    have hD : (fun j => E.getD j false) = fun j => decide (j < ops.size) := funext fun j => by
      by_cases hj : j < ops.size
      · rw [hallf j hj, decide_eq_true hj]
      · rw [decide_eq_false hj]; simp [Array.getD_eq_getD_getElem?, Array.getElem?_eq_none (show E.size ≤ j by rw [h.esize]; omega)]
    rw [hD] at hsr hfr
    refine hQ β a w h.le ⟨h.size, fun t => ?_, h.defers⟩ hsr hfr
    rw [look_traceM ht t ops.size (Nat.le_refl _)]
    rw [look_congr (E' := fun j => E.getD j false) ops.size fun j hj _ => by simp [hj, hallf j hj]]
    exact h.val t
  have ready_nil : ∀ (E : Array Bool) (a : Act) (w : World) (β : Emb), MidM P ops N S Hs V β0 w0 E a w β → Region.ready .any ops E = [] → ∀ j, j < ops.size → E.getD j true = true := by
    intro E a w β h hnil j
    induction j using Nat.strongRecOn with
    | _ j ih =>
      intro hj
      cases hE : E.getD j true with
      | true => rfl
      | false =>
        have : j ∈ Region.ready .any ops E := by
          refine mem_ready.2 ⟨hE, ops[j], by simp [hj], fun e he hb => ?_⟩
          have hlt : e.on < j := by
            have hok' := hok
            unfold orderOK at hok'
            rw [Bool.and_eq_true] at hok'
            have := List.all_eq_true.1 hok'.1 j (List.mem_range.2 (by omega))
            rw [show ops.toList[j]? = some ops[j] by simp [hj]] at this
            have := List.all_eq_true.1 this e (by simpa using he)
            rw [hb] at this
            simpa using this
          have := ih e.on hlt (by omega)
          rw [getD_bool (by rw [h.esize]; omega) false true]
          exact this
        rw [hnil] at this
        cases this
  intro fuel
  induction fuel with
  | zero =>
    intro E a w β hu h
    have hall := unl_zero E ops.size hu
    refine ⟨?_, finish E a w β h hall⟩
    cases hr : Region.ready .any ops E with
    | nil => rfl
    | cons i r =>
      have hi : i ∈ Region.ready .any ops E := by rw [hr]; simp
      obtain ⟨h1, h2, _⟩ := h.ready hok hi
      rw [hall i h1] at h2
      cases h2
  | succ fuel ih =>
    intro E a w β hu h
    refine ⟨fun hnil => finish E a w β h (ready_nil E a w β h hnil), fun i hi => ?_⟩
    obtain ⟨hlt, he, hbits⟩ := h.ready hok hi
    have hisz : i < E.size := by rw [h.esize]; exact hlt
    have hEi : E.getD i false = false := by rw [getD_bool hisz false true]; exact he
    have ho : ops[i]? = some ops[i] := by simp [hlt]
    have hoL : ops.toList[i]? = some ops[i] := by simp [hlt]
    have hval : ∀ t ∈ named ops.toList ops[i], TVR β (S i t) (a.tmps.getD t undef) := by
      intro t htn
      rw [look_traceM ht t i (by omega), ← look_beyond i ops.size (by omega)]
      rw [look_congr (E' := fun j => E.getD j false) ops.size fun j hj hjd => by
        have := h.names hok hi ho htn j hj hjd
        cases hE : E.getD j false with
        | true => simp [this.1 hE]
        | false => simp; exact Nat.le_of_not_lt fun hlt' => by rw [this.2 hlt'] at hE; cases hE]
      exact h.val t
    have hu' : unl (E.setIfInBounds i true) ops.size = fuel := by
      have := unl_set E i hisz he ops.size
      rw [if_pos hlt] at this
      omega
    have hset : ∀ j, j ≠ i → (E.setIfInBounds i true).getD j false = E.getD j false := fun j hj => getD_set_ne' false (Ne.symm hj)
    have hseti : (E.setIfInBounds i true).getD i false = true := getD_set_same false hisz
    have hsize' : ∀ u, (a.put ops[i].dst u).tmps.size = N := fun u => by
      cases ops[i].dst <;> simp [Act.put, h.size]
    have hdef' : ∀ u, (a.put ops[i].dst u).defers = [] := fun u => by
      cases ops[i].dst <;> exact h.defers
    have hvals : ∀ (β' : Emb) (u : Value), Le β β' → TVR β' (V i) u → ∀ t, TVR β' (look ops.toList V (S 0 t) (fun j => (E.setIfInBounds i true).getD j false) t ops.size) ((a.put ops[i].dst u).tmps.getD t undef) := by
      intro β' u h1 h3
      intro t
      cases hdst : ops[i].dst with
      | none =>
        show TVR β' _ (a.tmps.getD t undef)
        rw [look_congr (E' := fun j => E.getD j false) ops.size fun j hj hjd => by
          by_cases hji : j = i
          · subst hji; rw [hoL] at hjd; simp [hdst] at hjd
          · exact hset j hji]
        exact TVR.mono h1 (h.val t)
      | some d =>
        rw [getD_put a d u t (by rw [h.size]; exact hd ops[i] (by simp) d hdst)]
        by_cases htd : t = d
        · rw [if_pos htd]
          subst htd
          have htn : t ∈ named ops.toList ops[i] := by
            unfold named
            simp [hdst]
          have e1 : look ops.toList V (S 0 t) (fun j => (E.setIfInBounds i true).getD j false) t ops.size = look ops.toList V (S 0 t) (fun j => decide (j < i + 1)) t ops.size := by
            refine look_congr ops.size fun j hj hjd => ?_
            by_cases hji : j = i
            · subst hji; rw [hseti]; simp
            · rw [hset j hji]
              have := h.names hok hi ho htn j hj hjd
              cases hE : E.getD j false with
              | true => have := this.1 hE; simp; omega
              | false =>
                simp
                have : ¬ j < i := fun hlt' => by rw [this.2 hlt'] at hE; cases hE
                omega
          rw [e1, look_beyond (i + 1) ops.size (by omega), ← look_traceM ht t (i + 1) (by omega), ht.next i ops[i] hoL, hdst]
          show TVR β' (if t = t then V i else S i t) u
          rw [if_pos rfl]
          exact h3
        · rw [if_neg htd]
          rw [look_congr (E' := fun j => E.getD j false) ops.size fun j hj hjd => by
            by_cases hji : j = i
            · subst hji; rw [hoL] at hjd; simp [hdst] at hjd; exact absurd hjd.symm htd
            · exact hset j hji]
          exact TVR.mono h1 (h.val t)
    have hclosed' : ∀ j, j < ops.size → (E.setIfInBounds i true).getD j false = true → ∀ k, (maskAt ops.toList j).testBit k = true → (E.setIfInBounds i true).getD k false = true := by
      intro j hj hEj k hk
      by_cases hki : k = i
      · subst hki; exact hseti
      · rw [hset k hki]
        by_cases hji : j = i
        · subst hji; exact hbits k hk
        · rw [hset j hji] at hEj
          exact h.closed j hj hEj k hk
    have hDn : (fun j => (E.setIfInBounds i true).getD j false) = fun j => E.getD j false || j == i := funext fun j => by
      by_cases hj : j = i
      · subst hj; rw [hseti]; simp
      · rw [hset j hj, show (j == i) = false by simpa using hj, Bool.or_false]
    have hst := ht.step i _ hoL (fun j => E.getD j false) hEi (fun j hj hD k hk => h.closed j (by simpa using hj) hD k hk) hbits
    rw [← hDn] at hst
    refine step_op hd ho hst h.sr h.size h.defers hval fun β' u w' h1 h2 h3 h4 => ?_
    exact ih _ _ _ β' hu' ⟨h.le.trans h1, h2, h.fr.trans h4, hsize' u, hdef' u, hvals β' u h1 h3, by simp [h.esize], hclosed'⟩
end

/-! ### the walk -/
/-- May the operation i come where of the changes C those have been done? -/
def mayM (ops : List Oper) (C : List Nat) (i : Nat) (m : List Bool) : Bool :=
  (C.zip m).all fun p => (!(maskAt ops i).testBit p.1 || p.2) && (!(maskAt ops p.1).testBit i || !p.2) && (!(p.1 == i) || !p.2) && (C.zip m).all fun q => !(maskAt ops p.1).testBit q.1 || !p.2 || q.2
def boolsOf : Nat → List (List Bool)
  | 0 => [[]]
  | n + 1 => (boolsOf n).map (false :: ·) ++ (boolsOf n).map (true :: ·)
def statesM (ops : List Oper) (C : List Nat) (i : Nat) : List (List Bool) := (boolsOf C.length).filter (mayM ops C i)
def nextM (C : List Nat) (i : Nat) (m : List Bool) : List Bool := (C.zip m).map fun p => p.2 || p.1 == i
theorem boolsOf_all : ∀ (m : List Bool), m ∈ boolsOf m.length
  | [] => by simp [boolsOf]
  | b :: m => by
    have := boolsOf_all m
    show b :: m ∈ (boolsOf m.length).map (false :: ·) ++ (boolsOf m.length).map (true :: ·)
    rw [List.mem_append]
    cases b
    · exact .inl (List.mem_map.2 ⟨m, this, rfl⟩)
    · exact .inr (List.mem_map.2 ⟨m, this, rfl⟩)
theorem zip_mapD (C : List Nat) (D : Nat → Bool) : C.zip (C.map D) = C.map fun k => (k, D k) := by
  induction C with
  | nil => rfl
  | cons k C ih => rw [List.map_cons, List.zip_cons_cons, ih]; rfl

/-- The walk of a region with the changes C: Hm: memory where these have been done. -/
def wopm (P : Program) (ops : List Oper) (C : List Nat) (Hm : List Bool → Heap) : List Oper → Nat → (Nat → TV) → ((Nat → TV) → Heap → Prop) → Prop
  | [], _, s, K => K s (Hm (C.map fun _ => true))
  | o :: r, i, s, K => ∃ v, ((C.contains i = false ∧ ∀ G, StepR P ops s G o v G) ∨ ∀ m ∈ statesM ops C i, StepR P ops s (Hm m) o v (Hm (nextM C i m))) ∧ wopm P ops C Hm r (i + 1) (aput s o.dst v) K

theorem wopm_mono {P : Program} {ops : List Oper} {C : List Nat} {Hm : List Bool → Heap} {K K' : (Nat → TV) → Heap → Prop} (h : ∀ s H, K s H → K' s H) : ∀ (l : List Oper) (i : Nat) (s : Nat → TV), wopm P ops C Hm l i s K → wopm P ops C Hm l i s K'
  | [], _, _, hw => h _ _ hw
  | o :: r, i, s, ⟨v, h1, h2⟩ => ⟨v, h1, wopm_mono h r _ _ h2⟩
theorem wopm_ex {P : Program} {ops : List Oper} {C : List Nat} {Hm : List Bool → Heap} {ι : Type} {K : ι → (Nat → TV) → Heap → Prop} : ∀ (l : List Oper) (i : Nat) (s : Nat → TV), wopm P ops C Hm l i s (fun s H => ∃ k, K k s H) → ∃ k, wopm P ops C Hm l i s (K k)
  | [], _, _, hw => hw
  | o :: r, i, s, ⟨v, h1, h2⟩ => by obtain ⟨k, hk⟩ := wopm_ex r _ _ h2; exact ⟨k, v, h1, hk⟩
theorem wopm_pick {P : Program} {ops : List Oper} {C : List Nat} {Hm : List Bool → Heap} {K : (Nat → TV) → Heap → Prop} (l : List Oper) (i : Nat) (s : Nat → TV) (h : wopm P ops C Hm l i s K) : ∃ s' H', K s' H' ∧ wopm P ops C Hm l i s (fun x y => x = s' ∧ y = H') := by
  have h1 : wopm P ops C Hm l i s (fun x y => ∃ p : {p : (Nat → TV) × Heap // K p.1 p.2}, x = p.1.1 ∧ y = p.1.2) := wopm_mono (fun s H hk => ⟨⟨(s, H), hk⟩, rfl, rfl⟩) l i s h
  obtain ⟨⟨p, hp⟩, h2⟩ := wopm_ex l i s h1
  exact ⟨p.1, p.2, hp, h2⟩

theorem wopm_trace {P : Program} {ops : List Oper} {C : List Nat} {Hm : List Bool → Heap} {K : (Nat → TV) → Heap → Prop} : ∀ (l : List Oper) (i : Nat) (s : Nat → TV), wopm P ops C Hm l i s K →
    ∃ (S : Nat → Nat → TV) (V : Nat → TV), S 0 = s ∧ (∀ j o, l[j]? = some o → S (j + 1) = aput (S j) o.dst (V j)) ∧
      (∀ j o, l[j]? = some o → (C.contains (i + j) = false ∧ ∀ G, StepR P ops (S j) G o (V j) G) ∨ ∀ m ∈ statesM ops C (i + j), StepR P ops (S j) (Hm m) o (V j) (Hm (nextM C (i + j) m))) ∧ K (S l.length) (Hm (C.map fun _ => true))
  | [], i, s, h => ⟨fun _ => s, fun _ => .v .und, rfl, fun j o e => by simp at e, fun j o e => by simp at e, h⟩
  | o :: r, i, s, ⟨v, h1, h2⟩ => by
    obtain ⟨S, V, g1, g2, g3, g4⟩ := wopm_trace r (i + 1) _ h2
    refine ⟨fun n => match n with | 0 => s | n + 1 => S n, fun n => match n with | 0 => v | n + 1 => V n, rfl, fun j o' e => ?_, fun j o' e => ?_, by simpa using g4⟩
    · cases j with
      | zero => simp at e; subst e; exact g1
      | succ j => exact g2 j o' (by simpa using e)
    · cases j with
      | zero => simp at e; subst e; exact h1
      | succ j =>
        have := g3 j o' (by simpa using e)
        rw [show i + 1 + j = i + (j + 1) by omega] at this
        exact this

/-- Numbers that are kept for rows to come. -/
def holes : Nat → Heap → Heap
  | 0, H => H
  | n + 1, H => (holes n H).alloc .hole
theorem SR.hole {β : Emb} {H : Heap} {w : World} (h : SR β H w) : SR β (H.alloc .hole) w := by
  have hn : ∀ i l, β i = some l → i ≠ H.n := fun i l e => Nat.ne_of_lt (h.lt e)
  refine ⟨fun i hi => h.dom i (Nat.le_of_succ_le hi), fun i hi hh => ?_, fun i l e => ?_, fun i j li lj hij ei ej ho hg => ?_⟩
  · have hi' : i < H.n + 1 := hi
    by_cases e : i = H.n
    · subst e; exact absurd (show (H.alloc .hole).f H.n = .hole by simp [Heap.alloc, upd]) hh
    · exact h.tot i (by omega) (by simpa [Heap.alloc, upd, e] using hh)
  · have := hn i l e
    rw [show (H.alloc .hole).f i = H.f i by simp [Heap.alloc, upd, this]]; exact h.row i l e
  · rw [show (H.alloc .hole).f i = H.f i by simp [Heap.alloc, upd, hn i li ei]] at ho
    rw [show (H.alloc .hole).f j = H.f j by simp [Heap.alloc, upd, hn j lj ej]] at hg
    exact h.apart i j li lj hij ei ej ho hg
theorem Owns.hole {β : Emb} {H : Heap} {b : Nat} (h : Owns β (H.alloc .hole) b) : Owns β H b := by
  obtain ⟨i, l, e, ho, hl⟩ := h
  refine ⟨i, l, e, ?_, hl⟩
  by_cases hi : i = H.n
  · subst hi; simp [Heap.alloc, upd, Blk.isOwn] at ho
  · simpa [Heap.alloc, upd, hi] using ho
theorem Owns.hole' {β : Emb} {H : Heap} {w : World} (hs : SR β H w) {b : Nat} (h : Owns β H b) : Owns β (H.alloc .hole) b := by
  obtain ⟨i, l, e, ho, hl⟩ := h
  refine ⟨i, l, e, ?_, hl⟩
  have : i ≠ H.n := Nat.ne_of_lt (hs.lt e)
  simpa [Heap.alloc, upd, this] using ho
theorem Fr.hole {β β' : Emb} {H H' : Heap} {w w' : World} (hs : SR β H w) (h : Fr β (H.alloc .hole) w β' H' w') : Fr β H w β' H' w' :=
  ⟨h.os, h.tape, h.output, h.size, fun b hb hn => h.block b hb fun ho => hn ho.hole, fun b hb ho => (h.owns b hb ho).hole⟩
theorem SR.holes {β : Emb} {H : Heap} {w : World} (h : SR β H w) : ∀ n, SR β (holes n H) w
  | 0 => h
  | n + 1 => (SR.holes h n).hole
theorem Fr.holes {β β' : Emb} {H H' : Heap} {w w' : World} (hs : SR β H w) : ∀ n, Fr β (holes n H) w β' H' w' → Fr β H w β' H' w'
  | 0, h => h
  | n + 1, h => Fr.holes hs n (Fr.hole (SR.holes hs n) h)

theorem anyM_sound {P : Program} {N : Nat} {C : List Nat} {Hm : List Bool → Heap} {nh : Nat} {ops : Array Oper} (hm : P.follows .mixedOrders = true) (ho : orderOK ops.toList = true) (hd : ∀ o ∈ ops.toList, ∀ t, o.dst = some t → t < N) {id : Nat} {s : Nat → TV} {H : Heap} {K : (Nat → TV) → Heap → Prop} (hC : ∀ k ∈ C, k < ops.size) (h0 : Hm (C.map fun _ => false) = holes nh H) (h : wopm P ops.toList C Hm ops.toList 0 s K)
    {β : Emb} {ac : Act} {w : World} (ha : AR β s ac N) (hs : SR β H w) {Q : Exit → Act → World → Prop} (hQ : ∀ β' s' H' a' w', K s' H' → Le β β' → AR β' s' a' N → SR β' H' w' → Fr β H w β' H' w' → Q .normal a' w') :
    (Code.region id ops true).wp P Q ac w := by
  obtain ⟨S, V, rfl, g2, g3, hK⟩ := wopm_trace _ _ _ h
  have hlen : ops.toList.length = ops.size := by simp
  have ht : TraceM P ops.toList S (fun D => Hm (C.map D)) V := ⟨g2, fun i o e D hDi hcl hmask => by
    have hnx : C.map (fun j => D j || j == i) = nextM C i (C.map D) := by rw [nextM, zip_mapD, List.map_map]; rfl
    rcases g3 i o e with ⟨hc, hall⟩ | hall
    · rw [Nat.zero_add] at hc
      have : C.map (fun j => D j || j == i) = C.map D := List.map_congr_left fun k hk => by
        have : (k == i) = false := by
          cases hki : k == i with
          | false => rfl
          | true =>
            have : k = i := by simpa using hki
            subst this
            rw [List.contains_iff_mem.2 hk] at hc; cases hc
        rw [this, Bool.or_false]
      show StepR P ops.toList (S i) (Hm (C.map D)) o (V i) (Hm (C.map fun j => D j || j == i))
      rw [this]; exact hall _
    · rw [Nat.zero_add] at hall
      show StepR P ops.toList (S i) (Hm (C.map D)) o (V i) (Hm (C.map fun j => D j || j == i))
      rw [hnx]
      refine hall _ ?_
      unfold statesM
      rw [List.mem_filter]
      have hb := boolsOf_all (C.map D)
      rw [List.length_map] at hb
      refine ⟨hb, ?_⟩
      unfold mayM
      rw [zip_mapD, List.all_eq_true]
      intro p hp
      obtain ⟨k, hk, rfl⟩ := List.mem_map.1 hp
      have hk' := hC k hk
      have k1 := hmask k
      have k2 : D k = true → (maskAt ops.toList k).testBit i = false := fun hD => by
        cases hb : (maskAt ops.toList k).testBit i with
        | false => rfl
        | true => rw [hcl k (by omega) hD i hb] at hDi; cases hDi
      have k3 : D k = true → (k == i) = false := fun hD => by
        cases hki : k == i with
        | false => rfl
        | true => rw [show k = i by simpa using hki, hDi] at hD; cases hD
      have k4 : ((C.map fun k => (k, D k)).all fun q => !(maskAt ops.toList k).testBit q.1 || !D k || q.2) = true := by
        rw [List.all_eq_true]
        intro q hq
        obtain ⟨k', hk', rfl⟩ := List.mem_map.1 hq
        have := hcl k (by omega)
        cases h1 : (maskAt ops.toList k).testBit k' <;> cases h2 : D k <;> simp_all
      rw [Bool.and_eq_true]
      refine ⟨?_, k4⟩
      clear g2 g3 hall hK hQ h hd hm ho k4
      cases h1 : (maskAt ops.toList i).testBit k <;> cases h2 : D k <;> cases h3 : (maskAt ops.toList k).testBit i <;> cases h4 : (k == i) <;> simp_all⟩
  rw [hlen] at hK
  have hfull : C.map (fun j => decide (j < ops.size)) = C.map fun _ => true := List.map_congr_left fun k hk => decide_eq_true (hC k hk)
  refine wp_region_any hm ?_
  have h0f : (fun k => (Array.replicate ops.size false).getD k false) = fun _ => false := funext fun k => by
    simp only [Array.getD_eq_getD_getElem?, Array.getElem?_replicate]; split <;> rfl
  have h0k : ∀ k, (Array.replicate ops.size false).getD k false = false := fun k => congrFun h0f k
  have := region_anyM ht ho hd (β0 := β) (w0 := w) (Q := Q) (fun β' a' w' h1 h2 h3 h4 => by
      simp only [hfull, h0] at h3 h4
      exact hQ β' _ _ a' w' hK h1 h2 h3 (Fr.holes hs nh h4)) ops.size (Array.replicate ops.size false) ac { w with drawn := w.drawn + 1 } β (unl_replicate _ _ (Nat.le_refl _))
    ⟨Le.refl β, by rw [h0f]; simp only [h0]; exact (SR.holes hs nh).draw _, by rw [h0f]; simp only [h0]; exact Fr.draw _, ha.size, ha.defers, fun t => ?_, by simp, fun j hj hE => ?_⟩
  · exact this
  · rw [look_congr (E' := fun j => decide (j < 0)) ops.size fun j hj _ => by simp [Array.getD_eq_getD_getElem?, hj]]
    rw [look_beyond 0 ops.size (Nat.zero_le _)]
    exact ha.val t
  · rw [h0k] at hE; cases hE

/-- A region, in the text's order or in any. -/
def wopa (P : Program) (d : Bool) (ops : List Oper) (s : Nat → TV) (H : Heap) (K : (Nat → TV) → Heap → Prop) : Prop :=
  wops P d ops ops 0 s H K ∨ (d = true ∧ ((∃ F, wopf P F ops ops 0 [] [] 0 s H K) ∨ ∃ C Hm nh, (∀ k ∈ C, k < ops.length) ∧ Hm (C.map fun _ => false) = holes nh H ∧ wopm P ops C Hm ops 0 s K))

end Go.Ab
