/-
  REGIONS IN A DRAWN ORDER WITH TWO CHANGES OF MEMORY, neither of which waits for the other. By an AI agent; nothing here is trusted.
-/
import Derived.Test.YtcgiboeilcdonaaDoorAbJ
namespace Go.Ab
set_option linter.unusedVariables false
set_option linter.unusedSimpArgs false

/-- May the operation i come where of the two changes a and b these have been done? -/
def mayG (ops : List Oper) (a b i : Nat) (x y : Bool) : Bool :=
  (!(maskAt ops i).testBit a || x) && (!(maskAt ops i).testBit b || y) && (!(maskAt ops a).testBit i || !x) && (!(maskAt ops b).testBit i || !y)

def selG (H Ha Hb Hab : Heap) : Bool → Bool → Heap
  | false, false => H
  | true, false => Ha
  | false, true => Hb
  | true, true => Hab

structure TraceG (P : Program) (ops : List Oper) (a b : Nat) (S : Nat → Nat → TV) (Hs : Bool → Bool → Heap) (V : Nat → TV) : Prop where
  next : ∀ j o, ops[j]? = some o → S (j + 1) = aput (S j) o.dst (V j)
  oth : ∀ j o, ops[j]? = some o → j ≠ a → j ≠ b → ∀ x y, mayG ops a b j x y = true → StepR P ops (S j) (Hs x y) o (V j) (Hs x y)
  sa : ∀ o, ops[a]? = some o → ∀ y, StepR P ops (S a) (Hs false y) o (V a) (Hs true y)
  sb : ∀ o, ops[b]? = some o → ∀ x, StepR P ops (S b) (Hs x false) o (V b) (Hs x true)
  ab : a < b
  lt : b < ops.length

section
variable {P : Program} {ops : Array Oper} {N ia ib : Nat} {S : Nat → Nat → TV} {Hs : Bool → Bool → Heap} {V : Nat → TV}

theorem look_traceG (ht : TraceG P ops.toList ia ib S Hs V) (t : Tmp) : ∀ i, i ≤ ops.size → S i t = look ops.toList V (S 0 t) (fun j => decide (j < i)) t i
  | 0, _ => rfl
  | i + 1, h => by
    have ho : ops.toList[i]? = some ops[i] := by simp
    rw [ht.next i ops[i] ho]
    have ih := look_traceG ht t i (by omega)
    have e : look ops.toList V (S 0 t) (fun j => decide (j < i + 1)) t i = look ops.toList V (S 0 t) (fun j => decide (j < i)) t i :=
      look_congr i fun j hj _ => by simp; omega
    simp only [look, ho, Option.bind_some]
    rw [e, ← ih]
    cases hd : (ops[i]).dst with
    | none => simp [aput]
    | some d =>
      simp only [aput, upd]
      by_cases hdt : t = d
      · subst hdt; simp
      · rw [if_neg hdt, if_neg (by simp; exact fun e => hdt e.symm)]

/-- The state in the middle of such a region. -/
structure MidG (P : Program) (ops : Array Oper) (N ia ib : Nat) (S : Nat → Nat → TV) (Hs : Bool → Bool → Heap) (V : Nat → TV) (β0 : Emb) (w0 : World) (E : Array Bool) (a : Act) (w : World) (β : Emb) : Prop where
  le : Le β0 β
  sr : SR β (Hs (E.getD ia false) (E.getD ib false)) w
  fr : Fr β0 (Hs false false) w0 β (Hs (E.getD ia false) (E.getD ib false)) w
  size : a.tmps.size = N
  defers : a.defers = []
  val : ∀ t, TVR β (look ops.toList V (S 0 t) (fun j => E.getD j false) t ops.size) (a.tmps.getD t undef)
  esize : E.size = ops.size
  closed : ∀ j, j < ops.size → E.getD j false = true → ∀ i, (maskAt ops.toList j).testBit i = true → E.getD i false = true

theorem MidG.ready {β0 : Emb} {w0 : World} {E : Array Bool} {a : Act} {w : World} {β : Emb} (hok : orderOK ops.toList = true) (h : MidG P ops N ia ib S Hs V β0 w0 E a w β) {i : Nat}
    (hi : i ∈ Region.ready .any ops E) : i < ops.size ∧ E.getD i true = false ∧ ∀ k, (maskAt ops.toList i).testBit k = true → E.getD k false = true := by
  obtain ⟨h1, o, ho, h2⟩ := mem_ready.1 hi
  have hlt : i < ops.size := by
    rcases Nat.lt_or_ge i ops.size with h' | h'
    · exact h'
    · simp [Array.getElem?_eq_none h'] at ho
  refine ⟨hlt, h1, fun k hk => ?_⟩
  obtain ⟨e, he, hb, hor⟩ := maskAt_bit hok (j := i) (i := k) (o := o) (by simpa using ho) hk
  have hE := h2 e (by simpa using he) hb
  rcases hor with rfl | hor
  · exact hE
  · have hel : e.on < ops.size := by
      rcases Nat.lt_or_ge e.on ops.size with h' | h'
      · exact h'
      · rw [← h.esize] at h'
        simp [Array.getD_eq_getD_getElem?, Array.getElem?_eq_none h'] at hE
    exact h.closed e.on hel hE k hor

/-- What a ready operation names is what the text's order has there. -/
theorem MidG.names {β0 : Emb} {w0 : World} {E : Array Bool} {a : Act} {w : World} {β : Emb} (hok : orderOK ops.toList = true) (h : MidG P ops N ia ib S Hs V β0 w0 E a w β) {i : Nat} {o : Oper}
    (hi : i ∈ Region.ready .any ops E) (ho : ops[i]? = some o) {t : Tmp} (htn : t ∈ named ops.toList o) : ∀ j, j < ops.size → (ops.toList[j]?).bind (·.dst) = some t → (E.getD j false = true ↔ j < i) := by
  obtain ⟨hlt, he, hbits⟩ := h.ready hok hi
  have hEi : E.getD i false = false := by rw [getD_bool (by rw [h.esize]; exact hlt) false true]; exact he
  intro j hj hjd
  have hoj : ops.toList[j]? = some ops[j] := by simp [hj]
  rw [hoj] at hjd
  simp only [Option.bind_some] at hjd
  have hcl := clash_of (i := i) (j := j) (by simpa using ho) hoj htn hjd
  have hlen : ops.toList.length = ops.size := by simp
  constructor
  · intro hE
    rcases Nat.lt_trichotomy j i with h1 | h1 | h1
    · exact h1
    · subst h1; rw [hEi] at hE; cases hE
    · have := clash_bit hok h1 (by omega) hcl.1
      rw [h.closed j hj hE i this] at hEi
      cases hEi
  · intro h1
    exact hbits j (clash_bit hok h1 (by omega) hcl.2)

theorem region_anyG (ht : TraceG P ops.toList ia ib S Hs V) (hok : orderOK ops.toList = true) (hd : ∀ o ∈ ops.toList, ∀ d, o.dst = some d → d < N) {Q : Exit → Act → World → Prop} {β0 : Emb} {w0 : World}
    (hQ : ∀ β' a' w', Le β0 β' → AR β' (S ops.size) a' N → SR β' (Hs true true) w' → Fr β0 (Hs false false) w0 β' (Hs true true) w' → Q .normal a' w') :
    ∀ (fuel : Nat) (E : Array Bool) (a : Act) (w : World) (β : Emb), unl E ops.size = fuel → MidG P ops N ia ib S Hs V β0 w0 E a w β → wpAny P .any ops Q fuel E a w := by
  have hlen : ops.toList.length = ops.size := by simp
  have hab := ht.ab
  have hlt' := ht.lt
  have finish : ∀ (E : Array Bool) (a : Act) (w : World) (β : Emb), MidG P ops N ia ib S Hs V β0 w0 E a w β → (∀ j, j < ops.size → E.getD j true = true) → Q .normal a w := by
    intro E a w β h hall
    have hallf : ∀ j, j < ops.size → E.getD j false = true := fun j hj => by rw [getD_bool (by rw [h.esize]; exact hj) false true]; exact hall j hj
    have hsr := h.sr
    have hfr := h.fr
    rw [hallf ia (by omega), hallf ib (by omega)] at hsr hfr
    refine hQ β a w h.le ⟨h.size, fun t => ?_, h.defers⟩ hsr hfr
    rw [look_traceG ht t ops.size (Nat.le_refl _)]
    rw [look_congr (E' := fun j => E.getD j false) ops.size fun j hj _ => by simp [hj, hallf j hj]]
    exact h.val t
  have ready_nil : ∀ (E : Array Bool) (a : Act) (w : World) (β : Emb), MidG P ops N ia ib S Hs V β0 w0 E a w β → Region.ready .any ops E = [] → ∀ j, j < ops.size → E.getD j true = true := by
    intro E a w β h hnil j
    induction j using Nat.strongRecOn with
    | _ j ih =>
      intro hj
      cases hE : E.getD j true with
      | true => rfl
      | false =>
        have : j ∈ Region.ready .any ops E := by
          refine mem_ready.2 ⟨hE, ops[j], by simp [hj], fun e he hb => ?_⟩
          have hlt : e.on < j := by
            have hok' := hok
            unfold orderOK at hok'
            rw [Bool.and_eq_true] at hok'
            have := List.all_eq_true.1 hok'.1 j (List.mem_range.2 (by omega))
            rw [show ops.toList[j]? = some ops[j] by simp [hj]] at this
            have := List.all_eq_true.1 this e (by simpa using he)
            rw [hb] at this
            simpa using this
          have := ih e.on hlt (by omega)
          rw [getD_bool (by rw [h.esize]; omega) false true]
          exact this
        rw [hnil] at this
        cases this
  intro fuel
  induction fuel with
  | zero =>
    intro E a w β hu h
    have hall := unl_zero E ops.size hu
    refine ⟨?_, finish E a w β h hall⟩
    cases hr : Region.ready .any ops E with
    | nil => rfl
    | cons i r =>
      have hi : i ∈ Region.ready .any ops E := by rw [hr]; simp
      obtain ⟨h1, h2, _⟩ := h.ready hok hi
      rw [hall i h1] at h2
      cases h2
  | succ fuel ih =>
    intro E a w β hu h
    refine ⟨fun hnil => finish E a w β h (ready_nil E a w β h hnil), fun i hi => ?_⟩
    obtain ⟨hlt, he, hbits⟩ := h.ready hok hi
    have hisz : i < E.size := by rw [h.esize]; exact hlt
    have hEi : E.getD i false = false := by rw [getD_bool hisz false true]; exact he
    have ho : ops[i]? = some ops[i] := by simp [hlt]
    have hoL : ops.toList[i]? = some ops[i] := by simp [hlt]
    have hval : ∀ t ∈ named ops.toList ops[i], TVR β (S i t) (a.tmps.getD t undef) := by
      intro t htn
      rw [look_traceG ht t i (by omega), ← look_beyond i ops.size (by omega)]
      rw [look_congr (E' := fun j => E.getD j false) ops.size fun j hj hjd => by
        have := h.names hok hi ho htn j hj hjd
        cases hE : E.getD j false with
        | true => simp [this.1 hE]
        | false => simp; exact Nat.le_of_not_lt fun hlt' => by rw [this.2 hlt'] at hE; cases hE]
      exact h.val t
    have hu' : unl (E.setIfInBounds i true) ops.size = fuel := by
      have := unl_set E i hisz he ops.size
      rw [if_pos hlt] at this
      omega
    have hset : ∀ j, j ≠ i → (E.setIfInBounds i true).getD j false = E.getD j false := fun j hj => getD_set_ne' false (Ne.symm hj)
    have hseti : (E.setIfInBounds i true).getD i false = true := getD_set_same false hisz
    have hsize' : ∀ u, (a.put ops[i].dst u).tmps.size = N := fun u => by
      cases ops[i].dst <;> simp [Act.put, h.size]
    have hdef' : ∀ u, (a.put ops[i].dst u).defers = [] := fun u => by
      cases ops[i].dst <;> exact h.defers
    have hvals : ∀ (β' : Emb) (u : Value), Le β β' → TVR β' (V i) u → ∀ t, TVR β' (look ops.toList V (S 0 t) (fun j => (E.setIfInBounds i true).getD j false) t ops.size) ((a.put ops[i].dst u).tmps.getD t undef) := by
      intro β' u h1 h3
      intro t
      cases hdst : ops[i].dst with
      | none =>
        show TVR β' _ (a.tmps.getD t undef)
        rw [look_congr (E' := fun j => E.getD j false) ops.size fun j hj hjd => by
          by_cases hji : j = i
          · subst hji; rw [hoL] at hjd; simp [hdst] at hjd
          · exact hset j hji]
        exact TVR.mono h1 (h.val t)
      | some d =>
        rw [getD_put a d u t (by rw [h.size]; exact hd ops[i] (by simp) d hdst)]
        by_cases htd : t = d
        · rw [if_pos htd]
          subst htd
          have htn : t ∈ named ops.toList ops[i] := by
            unfold named
            simp [hdst]
          have e1 : look ops.toList V (S 0 t) (fun j => (E.setIfInBounds i true).getD j false) t ops.size = look ops.toList V (S 0 t) (fun j => decide (j < i + 1)) t ops.size := by
            refine look_congr ops.size fun j hj hjd => ?_
            by_cases hji : j = i
            · subst hji; rw [hseti]; simp
            · rw [hset j hji]
              have := h.names hok hi ho htn j hj hjd
              cases hE : E.getD j false with
              | true => have := this.1 hE; simp; omega
              | false =>
                simp
                have : ¬ j < i := fun hlt' => by rw [this.2 hlt'] at hE; cases hE
                omega
          rw [e1, look_beyond (i + 1) ops.size (by omega), ← look_traceG ht t (i + 1) (by omega), ht.next i ops[i] hoL, hdst]
          show TVR β' (if t = t then V i else S i t) u
          rw [if_pos rfl]
          exact h3
        · rw [if_neg htd]
          rw [look_congr (E' := fun j => E.getD j false) ops.size fun j hj hjd => by
            by_cases hji : j = i
            · subst hji; rw [hoL] at hjd; simp [hdst] at hjd; exact absurd hjd.symm htd
            · exact hset j hji]
          exact TVR.mono h1 (h.val t)
    have hclosed' : ∀ j, j < ops.size → (E.setIfInBounds i true).getD j false = true → ∀ k, (maskAt ops.toList j).testBit k = true → (E.setIfInBounds i true).getD k false = true := by
      intro j hj hEj k hk
      by_cases hki : k = i
      · subst hki; exact hseti
      · rw [hset k hki]
        by_cases hji : j = i
        · subst hji; exact hbits k hk
        · rw [hset j hji] at hEj
          exact h.closed j hj hEj k hk
    have main : ∀ G, StepR P ops.toList (S i) (Hs (E.getD ia false) (E.getD ib false)) ops[i] (V i) G → G = Hs ((E.setIfInBounds i true).getD ia false) ((E.setIfInBounds i true).getD ib false) → wpOp P ops Q i (fun a' w' => wpAny P .any ops Q fuel (E.setIfInBounds i true) a' w') a w := by
      intro G hst hG
      subst hG
      refine step_op hd ho hst h.sr h.size h.defers hval fun β' u w' h1 h2 h3 h4 => ?_
      exact ih _ _ _ β' hu' ⟨h.le.trans h1, h2, h.fr.trans h4, hsize' u, hdef' u, hvals β' u h1 h3, by simp [h.esize], hclosed'⟩
    by_cases hia : i = ia
    · subst hia
      refine main _ ?_ rfl
      rw [hseti, hset ib (by omega), hEi]
      exact ht.sa _ hoL _
    · by_cases hib : i = ib
      · subst hib
        refine main _ ?_ rfl
        rw [hseti, hset ia (by omega), hEi]
        exact ht.sb _ hoL _
      · refine main _ (ht.oth i _ hoL hia hib _ _ ?_) (by rw [hset ia (fun e => hia e.symm), hset ib (fun e => hib e.symm)])
        unfold mayG
        have k1 : ((maskAt ops.toList i).testBit ia = true → E.getD ia false = true) := hbits ia
        have k2 : ((maskAt ops.toList i).testBit ib = true → E.getD ib false = true) := hbits ib
        have k3 : E.getD ia false = true → (maskAt ops.toList ia).testBit i = false := fun hE => by
          cases hb : (maskAt ops.toList ia).testBit i with
          | false => rfl
          | true => rw [h.closed ia (by omega) hE i hb] at hEi; cases hEi
        have k4 : E.getD ib false = true → (maskAt ops.toList ib).testBit i = false := fun hE => by
          cases hb : (maskAt ops.toList ib).testBit i with
          | false => rfl
          | true => rw [h.closed ib (by omega) hE i hb] at hEi; cases hEi
        cases hx : E.getD ia false <;> cases hy : E.getD ib false <;> cases m1 : (maskAt ops.toList i).testBit ia <;> cases m2 : (maskAt ops.toList i).testBit ib <;> simp_all
end

/-- How far the walk is: before the first change; between the two; behind both. -/
inductive GM where
  | m0 (H : Heap)
  | m1 (H Ha : Heap) (o : Oper) (s : Nat → TV) (v : TV)
  | m2 (H Ha Hb Hab : Heap)

def Pend := Nat × Oper × (Nat → TV) × TV
def okG (P : Program) (ops : List Oper) (a b : Nat) (H Ha Hb Hab : Heap) (p : Pend) : Prop :=
  ∀ x y, mayG ops a b p.1 x y = true → StepR P ops p.2.2.1 (selG H Ha Hb Hab x y) p.2.1 p.2.2.2 (selG H Ha Hb Hab x y)

/-- One operation of such a walk. -/
def stepG (P : Program) (ops : List Oper) (a b : Nat) (o : Oper) (i : Nat) (m : GM) (pend : List Pend) (s : Nat → TV) (k : GM → List Pend → TV → Prop) : Prop :=
  (i ≠ a ∧ i ≠ b ∧ ∃ v, (∀ G, StepR P ops s G o v G) ∧ k m pend v) ∨
    (match m with
    | .m0 H => if i = a then ∃ v Ha, StepR P ops s H o v Ha ∧ k (.m1 H Ha o s v) pend v
      else i ≠ b ∧ ∃ v, k m ((i, o, s, v) :: pend) v
    | .m1 H Ha oa sa va => if i = b then ∃ v Hb Hab, StepR P ops s Ha o v Hab ∧ StepR P ops s H o v Hb ∧ StepR P ops sa Hb oa va Hab ∧ (∀ p ∈ pend, okG P ops a b H Ha Hb Hab p) ∧ k (.m2 H Ha Hb Hab) [] v
      else i ≠ a ∧ ∃ v, k m ((i, o, s, v) :: pend) v
    | .m2 H Ha Hb Hab => i ≠ a ∧ i ≠ b ∧ ∃ v, okG P ops a b H Ha Hb Hab (i, o, s, v) ∧ k m [] v)

/-- The walk of a region with the two changes a and b: pend: the operations so far whose value may be read in several states. -/
def wopg (P : Program) (ops : List Oper) (a b : Nat) : List Oper → Nat → GM → List Pend → (Nat → TV) → ((Nat → TV) → Heap → Prop) → Prop
  | [], _, m, _, s, K => match m with
    | .m2 _ _ _ Hab => K s Hab
    | _ => False
  | o :: r, i, m, pend, s, K => stepG P ops a b o i m pend s fun m' pend' v => wopg P ops a b r (i + 1) m' pend' (aput s o.dst v) K

theorem wopg_mono {P : Program} {ops : List Oper} {a b : Nat} {K K' : (Nat → TV) → Heap → Prop} (h : ∀ s H, K s H → K' s H) : ∀ (l : List Oper) (i : Nat) (m : GM) (pend : List Pend) (s : Nat → TV), wopg P ops a b l i m pend s K → wopg P ops a b l i m pend s K'
  | [], _, .m0 .., _, _, hw => hw.elim
  | [], _, .m1 .., _, _, hw => hw.elim
  | [], _, .m2 .., _, _, hw => h _ _ hw
  | o :: r, i, m, pend, s, hw => by
    rw [wopg] at hw ⊢
    unfold stepG at hw ⊢
    rcases hw with ⟨h1, h2, v, h3, h4⟩ | hw
    · exact .inl ⟨h1, h2, v, h3, wopg_mono h r _ _ _ _ h4⟩
    · right
      cases m with
      | m0 H =>
        simp only at hw ⊢
        split at hw
        · rename_i hi; rw [if_pos hi]; obtain ⟨v, Ha, h1, h2⟩ := hw; exact ⟨v, Ha, h1, wopg_mono h r _ _ _ _ h2⟩
        · rename_i hi; rw [if_neg hi]; obtain ⟨h0, v, h1⟩ := hw; exact ⟨h0, v, wopg_mono h r _ _ _ _ h1⟩
      | m1 H Ha oa sa va =>
        simp only at hw ⊢
        split at hw
        · rename_i hi; rw [if_pos hi]; obtain ⟨v, Hb, Hab, h1, h2, h3, h4, h5⟩ := hw; exact ⟨v, Hb, Hab, h1, h2, h3, h4, wopg_mono h r _ _ _ _ h5⟩
        · rename_i hi; rw [if_neg hi]; obtain ⟨h0, v, h1⟩ := hw; exact ⟨h0, v, wopg_mono h r _ _ _ _ h1⟩
      | m2 H Ha Hb Hab =>
        simp only at hw ⊢
        obtain ⟨h0, h0', v, h1, h2⟩ := hw; exact ⟨h0, h0', v, h1, wopg_mono h r _ _ _ _ h2⟩
theorem wopg_ex {P : Program} {ops : List Oper} {a b : Nat} {ι : Type} {K : ι → (Nat → TV) → Heap → Prop} : ∀ (l : List Oper) (i : Nat) (m : GM) (pend : List Pend) (s : Nat → TV), wopg P ops a b l i m pend s (fun s H => ∃ k, K k s H) → ∃ k, wopg P ops a b l i m pend s (K k)
  | [], _, .m0 .., _, _, hw => hw.elim
  | [], _, .m1 .., _, _, hw => hw.elim
  | [], _, .m2 .., _, _, hw => hw
  | o :: r, i, m, pend, s, hw => by
    rw [wopg] at hw
    unfold stepG at hw
    rcases hw with ⟨h1, h2, v, h3, h4⟩ | hw
    · obtain ⟨k, hk⟩ := wopg_ex r _ _ _ _ h4; exact ⟨k, by rw [wopg]; unfold stepG; exact .inl ⟨h1, h2, v, h3, hk⟩⟩
    · cases m with
      | m0 H =>
        simp only at hw
        split at hw
        · rename_i hi; obtain ⟨v, Ha, h1, h2⟩ := hw; obtain ⟨k, hk⟩ := wopg_ex r _ _ _ _ h2; exact ⟨k, by rw [wopg]; unfold stepG; simp only; rw [if_pos hi]; exact .inr ⟨v, Ha, h1, hk⟩⟩
        · rename_i hi; obtain ⟨h0, v, h1⟩ := hw; obtain ⟨k, hk⟩ := wopg_ex r _ _ _ _ h1; exact ⟨k, by rw [wopg]; unfold stepG; simp only; rw [if_neg hi]; exact .inr ⟨h0, v, hk⟩⟩
      | m1 H Ha oa sa va =>
        simp only at hw
        split at hw
        · rename_i hi; obtain ⟨v, Hb, Hab, h1, h2, h3, h4, h5⟩ := hw; obtain ⟨k, hk⟩ := wopg_ex r _ _ _ _ h5; exact ⟨k, by rw [wopg]; unfold stepG; simp only; rw [if_pos hi]; exact .inr ⟨v, Hb, Hab, h1, h2, h3, h4, hk⟩⟩
        · rename_i hi; obtain ⟨h0, v, h1⟩ := hw; obtain ⟨k, hk⟩ := wopg_ex r _ _ _ _ h1; exact ⟨k, by rw [wopg]; unfold stepG; simp only; rw [if_neg hi]; exact .inr ⟨h0, v, hk⟩⟩
      | m2 H Ha Hb Hab =>
        simp only at hw
        obtain ⟨h0, h0', v, h1, h2⟩ := hw; obtain ⟨k, hk⟩ := wopg_ex r _ _ _ _ h2; exact ⟨k, by rw [wopg]; unfold stepG; exact .inr ⟨h0, h0', v, h1, hk⟩⟩
theorem wopg_pick {P : Program} {ops : List Oper} {a b : Nat} {K : (Nat → TV) → Heap → Prop} (l : List Oper) (i : Nat) (m : GM) (pend : List Pend) (s : Nat → TV) (h : wopg P ops a b l i m pend s K) : ∃ s' H', K s' H' ∧ wopg P ops a b l i m pend s (fun x y => x = s' ∧ y = H') := by
  have h1 : wopg P ops a b l i m pend s (fun x y => ∃ p : {p : (Nat → TV) × Heap // K p.1 p.2}, x = p.1.1 ∧ y = p.1.2) := wopg_mono (fun s H hk => ⟨⟨(s, H), hk⟩, rfl, rfl⟩) l i m pend s h
  obtain ⟨⟨p, hp⟩, h2⟩ := wopg_ex l i m pend s h1
  exact ⟨p.1, p.2, hp, h2⟩

/-- What the walk leads to: the values before each operation, what each yields. -/
theorem wopg_trace {P : Program} {ops : List Oper} {a b : Nat} (hab : a < b) {K : (Nat → TV) → Heap → Prop} : ∀ (l : List Oper) (i : Nat) (m : GM) (pend : List Pend) (s : Nat → TV), wopg P ops a b l i m pend s K → (match m with | .m0 _ => i ≤ a | .m1 .. => a < i ∧ i ≤ b | .m2 .. => b < i) →
    ∃ (S : Nat → Nat → TV) (V : Nat → TV) (H Ha Hb Hab : Heap), S 0 = s ∧ (∀ j o, l[j]? = some o → S (j + 1) = aput (S j) o.dst (V j)) ∧
      (∀ j o, l[j]? = some o → i + j ≠ a → i + j ≠ b → okG P ops a b H Ha Hb Hab (i + j, o, S j, V j)) ∧
      (∀ j o, l[j]? = some o → i + j = a → StepR P ops (S j) H o (V j) Ha ∧ StepR P ops (S j) Hb o (V j) Hab) ∧
      (∀ j o, l[j]? = some o → i + j = b → StepR P ops (S j) Ha o (V j) Hab ∧ StepR P ops (S j) H o (V j) Hb) ∧
      (∀ p ∈ pend, (match m with | .m2 .. => False | _ => True) → okG P ops a b H Ha Hb Hab p) ∧ K (S l.length) Hab ∧
      (match m with | .m0 G => G = H ∧ b < i + l.length | .m1 G Ga o s v => G = H ∧ Ga = Ha ∧ StepR P ops s Hb o v Hab ∧ b < i + l.length | .m2 G Ga Gb Gab => G = H ∧ Ga = Ha ∧ Gb = Hb ∧ Gab = Hab)
  | [], i, .m0 .., _, s, h, _ => h.elim
  | [], i, .m1 .., _, s, h, _ => h.elim
  | [], i, .m2 H Ha Hb Hab, pend, s, h, _ => ⟨fun _ => s, fun _ => .v .und, H, Ha, Hb, Hab, rfl, fun j o e => by simp at e, fun j o e => by simp at e, fun j o e => by simp at e, fun j o e => by simp at e, fun _ _ h => h.elim, h, rfl, rfl, rfl, rfl⟩
  | o :: r, i, m, pend, s, h, hi => by
    -- from the tail
    have glue : ∀ (v : TV) (S : Nat → Nat → TV) (V : Nat → TV) (H Ha Hb Hab : Heap), S 0 = aput s o.dst v → (∀ j o, r[j]? = some o → S (j + 1) = aput (S j) o.dst (V j)) →
        (∀ j o, r[j]? = some o → i + 1 + j ≠ a → i + 1 + j ≠ b → okG P ops a b H Ha Hb Hab (i + 1 + j, o, S j, V j)) →
        (∀ j o, r[j]? = some o → i + 1 + j = a → StepR P ops (S j) H o (V j) Ha ∧ StepR P ops (S j) Hb o (V j) Hab) →
        (∀ j o, r[j]? = some o → i + 1 + j = b → StepR P ops (S j) Ha o (V j) Hab ∧ StepR P ops (S j) H o (V j) Hb) → K (S r.length) Hab →
        (i ≠ a → i ≠ b → okG P ops a b H Ha Hb Hab (i, o, s, v)) → (i = a → StepR P ops s H o v Ha ∧ StepR P ops s Hb o v Hab) → (i = b → StepR P ops s Ha o v Hab ∧ StepR P ops s H o v Hb) →
        ∃ (S : Nat → Nat → TV) (V : Nat → TV), S 0 = s ∧ (∀ j o', (o :: r)[j]? = some o' → S (j + 1) = aput (S j) o'.dst (V j)) ∧
      (∀ j o', (o :: r)[j]? = some o' → i + j ≠ a → i + j ≠ b → okG P ops a b H Ha Hb Hab (i + j, o', S j, V j)) ∧
      (∀ j o', (o :: r)[j]? = some o' → i + j = a → StepR P ops (S j) H o' (V j) Ha ∧ StepR P ops (S j) Hb o' (V j) Hab) ∧
      (∀ j o', (o :: r)[j]? = some o' → i + j = b → StepR P ops (S j) Ha o' (V j) Hab ∧ StepR P ops (S j) H o' (V j) Hb) ∧ K (S (o :: r).length) Hab := by
      intro v S V H Ha Hb Hab h1 h2 h3 h4 h5 h6 k1 k2 k3
      refine ⟨fun n => match n with | 0 => s | n + 1 => S n, fun n => match n with | 0 => v | n + 1 => V n, rfl, fun j o' e => ?_, fun j o' e => ?_, fun j o' e => ?_, fun j o' e => ?_, by simpa using h6⟩
      all_goals
        cases j with
        | zero =>
          simp at e
          subst e
          first | exact h1 | exact k1 | exact k2 | exact k3
        | succ j =>
          have e' : r[j]? = some o' := by simpa using e
          first
            | exact h2 j o' e'
            | (have := h3 j o' e'; rw [show i + 1 + j = i + (j + 1) by omega] at this; exact this)
            | (have := h4 j o' e'; rw [show i + 1 + j = i + (j + 1) by omega] at this; exact this)
            | (have := h5 j o' e'; rw [show i + 1 + j = i + (j + 1) by omega] at this; exact this)
    rw [wopg] at h
    unfold stepG at h
    rcases h with ⟨ha, hb, v, h1, h2⟩ | h
    · obtain ⟨S, V, H, Ha, Hb, Hab, g1, g2, g3, g4, g5, g6, g7, g8⟩ := wopg_trace hab r (i + 1) m pend _ h2 (by cases m <;> simp only at hi ⊢ <;> omega)
      obtain ⟨S', V', f1, f2, f3, f4, f5, f6⟩ := glue v S V H Ha Hb Hab g1 g2 g3 g4 g5 g7 (fun _ _ x y _ => h1 _) (fun e => absurd e ha) (fun e => absurd e hb)
      refine ⟨S', V', H, Ha, Hb, Hab, f1, f2, f3, f4, f5, g6, f6, ?_⟩
      cases m <;> simp only [List.length_cons] at g8 ⊢
      · exact ⟨g8.1, by omega⟩
      · exact ⟨g8.1, g8.2.1, g8.2.2.1, by omega⟩
      · exact g8
    · cases m with
      | m0 G =>
        simp only at h hi
        split at h
        · rename_i hia
          obtain ⟨v, Ga, h1, h2⟩ := h
          obtain ⟨S, V, H, Ha, Hb, Hab, g1, g2, g3, g4, g5, g6, g7, g8⟩ := wopg_trace hab r (i + 1) (.m1 G Ga o s v) pend _ h2 (by simp only; omega)
          obtain ⟨rfl, rfl, g9, g10⟩ := g8
          obtain ⟨S', V', f1, f2, f3, f4, f5, f6⟩ := glue v S V _ _ Hb Hab g1 g2 g3 g4 g5 g7 (fun e => absurd hia e) (fun _ => ⟨h1, g9⟩) (fun e => by omega)
          exact ⟨S', V', _, _, Hb, Hab, f1, f2, f3, f4, f5, fun p hp _ => g6 p hp trivial, f6, rfl, by simp only [List.length_cons]; omega⟩
        · rename_i hia
          obtain ⟨hib, v, h2⟩ := h
          obtain ⟨S, V, H, Ha, Hb, Hab, g1, g2, g3, g4, g5, g6, g7, g8⟩ := wopg_trace hab r (i + 1) (.m0 G) ((i, o, s, v) :: pend) _ h2 (by simp only; omega)
          obtain ⟨rfl, g10⟩ := g8
          obtain ⟨S', V', f1, f2, f3, f4, f5, f6⟩ := glue v S V _ Ha Hb Hab g1 g2 g3 g4 g5 g7 (fun _ _ => g6 _ (List.mem_cons_self ..) trivial) (fun e => absurd e hia) (fun e => absurd e hib)
          exact ⟨S', V', _, _, Hb, Hab, f1, f2, f3, f4, f5, fun p hp _ => g6 p (List.mem_cons_of_mem _ hp) trivial, f6, rfl, by simp only [List.length_cons]; omega⟩
      | m1 G Ga oa sa va =>
        simp only at h hi
        split at h
        · rename_i hib
          obtain ⟨v, Gb, Gab, h1, h1', h1'', hp, h2⟩ := h
          obtain ⟨S, V, H, Ha, Hb, Hab, g1, g2, g3, g4, g5, g6, g7, g8⟩ := wopg_trace hab r (i + 1) (.m2 G Ga Gb Gab) [] _ h2 (by simp only; omega)
          obtain ⟨rfl, rfl, rfl, rfl⟩ := g8
          obtain ⟨S', V', f1, f2, f3, f4, f5, f6⟩ := glue v S V _ _ _ _ g1 g2 g3 g4 g5 g7 (fun _ e => absurd hib e) (fun e => by omega) (fun _ => ⟨h1, h1'⟩)
          exact ⟨S', V', _, _, _, _, f1, f2, f3, f4, f5, fun p hp' _ => hp p hp', f6, rfl, rfl, h1'', by simp only [List.length_cons]; omega⟩
        · rename_i hib
          obtain ⟨hia, v, h2⟩ := h
          obtain ⟨S, V, H, Ha, Hb, Hab, g1, g2, g3, g4, g5, g6, g7, g8⟩ := wopg_trace hab r (i + 1) (.m1 G Ga oa sa va) ((i, o, s, v) :: pend) _ h2 (by simp only; omega)
          obtain ⟨rfl, rfl, g9, g10⟩ := g8
          obtain ⟨S', V', f1, f2, f3, f4, f5, f6⟩ := glue v S V _ _ Hb Hab g1 g2 g3 g4 g5 g7 (fun _ _ => g6 _ (List.mem_cons_self ..) trivial) (fun e => absurd e hia) (fun e => absurd e hib)
          exact ⟨S', V', _, _, Hb, Hab, f1, f2, f3, f4, f5, fun p hp _ => g6 p (List.mem_cons_of_mem _ hp) trivial, f6, rfl, rfl, g9, by simp only [List.length_cons]; omega⟩
      | m2 G Ga Gb Gab =>
        simp only at h hi
        obtain ⟨hia, hib, v, h1, h2⟩ := h
        obtain ⟨S, V, H, Ha, Hb, Hab, g1, g2, g3, g4, g5, g6, g7, g8⟩ := wopg_trace hab r (i + 1) (.m2 G Ga Gb Gab) [] _ h2 (by simp only; omega)
        obtain ⟨rfl, rfl, rfl, rfl⟩ := g8
        obtain ⟨S', V', f1, f2, f3, f4, f5, f6⟩ := glue v S V _ _ _ _ g1 g2 g3 g4 g5 g7 (fun _ _ => h1) (fun e => absurd e hia) (fun e => absurd e hib)
        exact ⟨S', V', _, _, _, _, f1, f2, f3, f4, f5, fun p _ hf => hf.elim, f6, rfl, rfl, rfl, rfl⟩

theorem anyG_sound {P : Program} {N : Nat} {a b : Nat} {ops : Array Oper} (hab : a < b) (hm : P.follows .mixedOrders = true) (ho : orderOK ops.toList = true) (hd : ∀ o ∈ ops.toList, ∀ t, o.dst = some t → t < N) {id : Nat} {s : Nat → TV} {H : Heap} {K : (Nat → TV) → Heap → Prop} (h : wopg P ops.toList a b ops.toList 0 (.m0 H) [] s K)
    {β : Emb} {ac : Act} {w : World} (ha : AR β s ac N) (hs : SR β H w) {Q : Exit → Act → World → Prop} (hQ : ∀ β' s' H' a' w', K s' H' → Le β β' → AR β' s' a' N → SR β' H' w' → Fr β H w β' H' w' → Q .normal a' w') :
    (Code.region id ops true).wp P Q ac w := by
  obtain ⟨S, V, H0, Ha, Hb, Hab, rfl, g2, g3, g4, g5, _, hK, rfl, g8⟩ := wopg_trace hab _ _ _ _ _ h (Nat.zero_le _)
  have hlen : ops.toList.length = ops.size := by simp
  have ht : TraceG P ops.toList a b S (selG H Ha Hb Hab) V := ⟨g2, fun j o e h1 h2 x y hm => by
    have := g3 j o e (by omega) (by omega) x y (by rw [show (0 + j, o, S j, V j).1 = j by show 0 + j = j; omega]; exact hm)
    exact this, fun o e y => by
    have := g4 a o e (by omega)
    cases y; exact this.1; exact this.2, fun o e x => by
    have := g5 b o e (by omega)
    cases x; exact this.2; exact this.1, hab, by omega⟩
  rw [hlen] at hK
  refine wp_region_any hm ?_
  have h0 : ∀ k, (Array.replicate ops.size false).getD k false = false := fun k => by
    simp only [Array.getD_eq_getD_getElem?, Array.getElem?_replicate]; split <;> rfl
  have := region_anyG ht ho hd (β0 := β) (w0 := w) (Q := Q) (fun β' a' w' h1 h2 h3 h4 => hQ β' _ _ a' w' hK h1 h2 h3 h4) ops.size (Array.replicate ops.size false) ac { w with drawn := w.drawn + 1 } β (unl_replicate _ _ (Nat.le_refl _))
    ⟨Le.refl β, by rw [h0, h0]; exact hs.draw _, by rw [h0, h0]; exact Fr.draw _, ha.size, ha.defers, fun t => ?_, by simp, fun j hj hE => ?_⟩
  · exact this
  · rw [look_congr (E' := fun j => decide (j < 0)) ops.size fun j hj _ => by simp [Array.getD_eq_getD_getElem?, hj]]
    rw [look_beyond 0 ops.size (Nat.zero_le _)]
    exact ha.val t
  · rw [h0] at hE; cases hE

/-- A region, in the text's order or in any. -/
def wopa (P : Program) (d : Bool) (ops : List Oper) (s : Nat → TV) (H : Heap) (K : (Nat → TV) → Heap → Prop) : Prop := wops P d ops ops 0 s H K ∨ (d = true ∧ ((∃ F, wopf P F ops ops 0 [] [] 0 s H K) ∨ ∃ a b, a < b ∧ wopg P ops a b ops 0 (.m0 H) [] s K))

end Go.Ab
