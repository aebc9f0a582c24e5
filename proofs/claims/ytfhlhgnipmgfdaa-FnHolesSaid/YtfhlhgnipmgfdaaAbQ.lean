/-
  CONTRACTS WITH A POSTCONDITION: a call ends in a state of which something holds; nothing is said of rows that nobody keeps. By an AI agent; nothing here is trusted.
-/
import Derived.Test.YtfhlhgnipmgfdaaAbH
namespace Go.Ab
set_option linter.unusedVariables false
set_option linter.unusedSimpArgs false

def OkQ (P : Program) (f : FuncId) (args : List TV) (H : Heap) (Q : TV → Heap → Prop) : Prop := ∃ r H2, Ok P f args H r H2 ∧ Q r H2

theorem OkQ.mono {P : Program} {f : FuncId} {args : List TV} {H : Heap} {Q Q' : TV → Heap → Prop} (h : OkQ P f args H Q) (k : ∀ r H2, Q r H2 → Q' r H2) : OkQ P f args H Q' := by
  obtain ⟨r, H2, h1, h2⟩ := h
  exact ⟨r, H2, h1, k _ _ h2⟩

section
variable {P : Program}
theorem wop_pick {ev : Operand → TV} {op : Op} {H : Heap} {K : TV → Heap → Prop} (h : wop P ev op H K) : ∃ v H', K v H' ∧ wop P ev op H (fun a b => a = v ∧ b = H') := by
  unfold wop at h
  split at h
  · rename_i f args hc
    split at h
    · rename_i g caps he
      obtain ⟨r, H2, h1, h2⟩ := h
      refine ⟨r, H2, h2, ?_⟩
      unfold wop
      rw [hc]
      simp only [he]
      exact ⟨r, H2, h1, rfl, rfl⟩
    · exact h.elim
  · rename_i hc
    split at h
    · rename_i v H' he
      refine ⟨v, H', h, ?_⟩
      unfold wop
      rw [hc]
      rw [he]
      exact ⟨rfl, rfl⟩
    · exact h.elim

theorem wops_pick1 {q : Bool} {ops : List Oper} : ∀ (l : List Oper) (i : Nat) (s : Nat → TV) (H : Heap) (K : (Nat → TV) → Heap → Prop), wops P q ops l i s H K →
    ∃ s' H', K s' H' ∧ wops P q ops l i s H (fun a b => a = s' ∧ b = H')
  | [], i, s, H, K, h => ⟨s, H, h, rfl, rfl⟩
  | o :: r, i, s, H, K, h => by
    have go : wop P (aeval s) o.op H (fun v H' => (q = true → H' = H ∨ barrier ops i = true) ∧ wops P q ops r (i + 1) (aput s o.dst v) H' K) →
        ∃ s' H', K s' H' ∧ wop P (aeval s) o.op H (fun v G => (q = true → G = H ∨ barrier ops i = true) ∧ wops P q ops r (i + 1) (aput s o.dst v) G (fun a b => a = s' ∧ b = H')) := fun h => by
      obtain ⟨v, H', ⟨h1, h2⟩, h3⟩ := wop_pick h
      obtain ⟨s2, H2, h4, h5⟩ := wops_pick1 r _ _ _ _ h2
      refine ⟨s2, H2, h4, wop_mono (fun a b hab => ?_) h3⟩
      obtain ⟨rfl, rfl⟩ := hab
      exact ⟨h1, h5⟩
    rw [wops] at h
    split at h
    · rename_i hg
      obtain ⟨s', H', h1, h2⟩ := go h
      refine ⟨s', H', h1, ?_⟩
      rw [wops, hg]
      exact h2
    · rename_i j want hg
      split at h
      · rename_i y hy
        split at h
        · rename_i hyw
          obtain ⟨s', H', h1, h2⟩ := go h
          refine ⟨s', H', h1, ?_⟩
          rw [wops, hg]
          simp only [hy, if_pos hyw]
          exact h2
        · rename_i hyw
          obtain ⟨s', H', h1, h2⟩ := wops_pick1 r _ _ _ _ h
          refine ⟨s', H', h1, ?_⟩
          rw [wops, hg]
          simp only [hy, if_neg hyw]
          exact h2
      · exact h.elim

theorem wopf_pick1 {F : List Nat} {ops : List Oper} : ∀ (l : List Oper) (i : Nat) (past : List (Nat × Heap)) (pend : List (Nat × Oper × (Nat → TV) × TV)) (c : Nat) (s : Nat → TV) (H : Heap) (K : (Nat → TV) → Heap → Prop), wopf P F ops l i past pend c s H K →
    ∃ s' H', K s' H' ∧ wopf P F ops l i past pend c s H (fun a b => a = s' ∧ b = H')
  | [], _, _, _, _, s, H, _, h => ⟨s, H, h, rfl, rfl⟩
  | o :: r, i, past, pend, c, s, H, K, hw => by
    rw [wopf] at hw
    rcases hw with ⟨h1, hb, v, h2, h3⟩ | ⟨hb, v, h1, h2⟩ | ⟨hb, v, h1, h1', h2⟩ | ⟨h0, v, H', h1, h2, h3⟩
    · obtain ⟨s', H2, k1, k2⟩ := wopf_pick1 r _ _ _ _ _ _ _ h3; exact ⟨s', H2, k1, by rw [wopf]; exact .inl ⟨h1, hb, v, h2, k2⟩⟩
    · obtain ⟨s', H2, k1, k2⟩ := wopf_pick1 r _ _ _ _ _ _ _ h2; exact ⟨s', H2, k1, by rw [wopf]; exact .inr (.inl ⟨hb, v, h1, k2⟩)⟩
    · obtain ⟨s', H2, k1, k2⟩ := wopf_pick1 r _ _ _ _ _ _ _ h2; exact ⟨s', H2, k1, by rw [wopf]; exact .inr (.inr (.inl ⟨hb, v, h1, h1', k2⟩))⟩
    · obtain ⟨s', H2, k1, k2⟩ := wopf_pick1 r _ _ _ _ _ _ _ h3; exact ⟨s', H2, k1, by rw [wopf]; exact .inr (.inr (.inr ⟨h0, v, H', h1, h2, k2⟩))⟩

theorem fin_pick : ∀ (k : Nat) (todo : List Item) (s : Nat → TV) (H : Heap) (R : (Nat → TV) → Heap → Prop), fin P k todo s H R → ∃ s' H', R s' H' ∧ fin P k todo s H (fun a b => a = s' ∧ b = H') := by
  intro k
  induction k with
  | zero => intro todo s H R h; exact h.elim
  | succ k ih =>
    intro todo s H R h
    unfold fin at h
    split at h
    · exact ⟨s, H, h, rfl, rfl⟩
    · rename_i c t
      split at h
      · obtain ⟨s', H', h1, h2⟩ := ih _ _ _ _ h; exact ⟨s', H', h1, by unfold fin; exact h2⟩
      · obtain ⟨s', H', h1, h2⟩ := ih _ _ _ _ h; exact ⟨s', H', h1, by unfold fin; exact h2⟩
      · obtain ⟨s', H', h1, h2⟩ := ih _ _ _ _ h; exact ⟨s', H', h1, by unfold fin; exact h2⟩
      · rename_i cnd x y
        split at h
        · rename_i b he
          cases b with
          | true =>
            rw [if_pos rfl] at h
            obtain ⟨s', H', h1, h2⟩ := ih _ _ _ _ h
            exact ⟨s', H', h1, by unfold fin; simp only [he, if_pos]; exact h2⟩
          | false =>
            rw [if_neg (by simp)] at h
            obtain ⟨s', H', h1, h2⟩ := ih _ _ _ _ h
            exact ⟨s', H', h1, by unfold fin; simp only [he]; rw [if_neg (by simp)]; exact h2⟩
        · exact h.elim
      · obtain ⟨s', H', h1, h2⟩ := ih _ _ _ _ h; exact ⟨s', H', h1, by unfold fin; exact h2⟩
      · obtain ⟨s', H', h1, h2⟩ := ih _ _ _ _ h; exact ⟨s', H', h1, by unfold fin; exact h2⟩
      · split at h
        · rename_i t' he
          obtain ⟨s', H', h1, h2⟩ := ih _ _ _ _ h
          exact ⟨s', H', h1, by unfold fin; simp only [he]; exact h2⟩
        · exact h.elim
      · exact ⟨s, H, h, by unfold fin; exact ⟨rfl, rfl⟩⟩
      · rcases h with h | ⟨hd, ⟨F, h⟩ | ⟨C, Hm, nh, hC, hH, h⟩⟩
        · obtain ⟨s', H', h1, h2⟩ := wops_pick1 _ _ _ _ _ h
          obtain ⟨s2, H2, h3, h4⟩ := ih _ _ _ _ h1
          refine ⟨s2, H2, h3, ?_⟩
          unfold fin
          refine .inl (wops_mono (fun a b hab => ?_) _ _ _ _ h2)
          obtain ⟨rfl, rfl⟩ := hab
          exact h4
        · obtain ⟨s', H', h1, h2⟩ := wopf_pick1 _ _ _ _ _ _ _ _ h
          obtain ⟨s2, H2, h3, h4⟩ := ih _ _ _ _ h1
          refine ⟨s2, H2, h3, ?_⟩
          unfold fin
          refine .inr ⟨hd, .inl ⟨F, wopf_mono (fun a b hab => ?_) _ _ _ _ _ _ _ h2⟩⟩
          obtain ⟨rfl, rfl⟩ := hab
          exact h4
        · obtain ⟨s', H', h1, h2⟩ := wopm_pick _ _ _ h
          obtain ⟨s2, H2, h3, h4⟩ := ih _ _ _ _ h1
          refine ⟨s2, H2, h3, ?_⟩
          unfold fin
          refine .inr ⟨hd, .inr ⟨C, Hm, nh, hC, hH, wopm_mono (fun a b hab => ?_) _ _ _ h2⟩⟩
          obtain ⟨rfl, rfl⟩ := hab
          exact h4
      · exact h.elim
    · obtain ⟨s', H', h1, h2⟩ := ih _ _ _ _ h; exact ⟨s', H', h1, by unfold fin; exact h2⟩
    · obtain ⟨s', H', h1, h2⟩ := ih _ _ _ _ h; exact ⟨s', H', h1, by unfold fin; exact h2⟩
    · exact h.elim

/-- A FUNCTION ENDS SO. -/
theorem OkQ.of_fin {f : FuncId} {fn : Func} {c : Code} {args : List TV} {H : Heap} {Q : TV → Heap → Prop} (hm : P.follows .mixedOrders = true) (hf : P.funcs[f]? = some fn) (hb : fn.body = some c)
    (hcall : ∀ (as : Array Value) (w : World), (callFunc f as).run P w = .ok (.enter f as) w) (hok : codeOK fn.ntmps c = true) (hn : args.length ≤ fn.ntmps)
    (h : Fin P [.code c] (init args) H fun s' H' => ∃ r', resultOf P fn s' H' = some r' ∧ Q r' H') : OkQ P f args H Q := by
  obtain ⟨k, hk⟩ := h
  obtain ⟨s2, H2, ⟨r, hr, hq⟩, hk⟩ := fin_pick k _ _ _ _ hk
  refine ⟨r, H2, ?_, hq⟩
  intro β us w hs hargs
  rw [hcall]
  simp only
  intro cs
  let b : Frame := { (default : Frame) with fn := f, kind := .normal }
  let a : Act := { tmps := us.toArray ++ Array.replicate (fn.ntmps - us.toArray.size) undef, defers := [] }
  have hlen : us.length = args.length := hargs.len.symm
  have henter : Frame.enter P f us.toArray .normal = b.at a [.code c] := by
    simp [Frame.enter, Frame.at, hf, hb, b, a]
  have ha : AR β (init args) a fn.ntmps := by
    refine ⟨by simp [a]; omega, fun t => ?_, rfl⟩
    unfold init
    rcases Nat.lt_or_ge t us.length with ht | ht
    · obtain ⟨x, hx⟩ : ∃ x, args[t]? = some x := ⟨args[t]'(by omega), by simp⟩
      obtain ⟨u, hu, hxu⟩ := hargs.get t x hx
      have e1 : args.getD t (.v .und) = x := by simp [List.getD_eq_getElem?_getD, hx]
      have e2 : a.tmps.getD t undef = u := by
        simp [a, Array.getD_eq_getD_getElem?, Array.getElem?_append_left, ht] at hu ⊢
        exact hu
      rw [e1, e2]
      exact hxu
    · have e1 : args.getD t (.v .und) = .v .und := by simp [List.getD_eq_getElem?_getD, List.getElem?_eq_none (show args.length ≤ t by omega)]
      have e2 : a.tmps.getD t undef = undef := by
        simp only [a, Array.getD_eq_getD_getElem?]
        rw [Array.getElem?_append_right (by simpa using ht)]
        simp only [Array.getElem?_replicate]
        split <;> rfl
      rw [e1, e2]
      rfl
  obtain ⟨β', s', H', a', w', todo', ⟨rfl, rfl⟩, h1, h2, h3, h4, h5⟩ := fin_sound (N := fn.ntmps) hm k _ _ _ _ hk (by simp [itemOK, hok]) β a w b cs ha hs
  obtain ⟨rv, hrv, hrr⟩ := resultOf_run h2 h3 hr
  refine ⟨.returned rv, w', { b.at a' todo' with mode := .returning }, ⟨rv, β', rfl, h1, h3, hrr, h4⟩, ?_, rfl, ?_⟩
  · show Steps P _ _
    rw [henter]
    exact h5
  · exact ⟨rfl, h2.defers, rfl, fn, hf, hrv⟩
end

end Go.Ab
