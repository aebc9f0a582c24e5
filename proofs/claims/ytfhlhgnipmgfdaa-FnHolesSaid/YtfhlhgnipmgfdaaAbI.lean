/-
  WHAT A LAW IS HANDED, as pieces that are only read. By an AI agent; nothing here is trusted.
-/
import Derived.Test.YtfhlhgnipmgfdaaAbG
import Derived.Test.YtfhlhgnipmgfdaaAbM
set_option linter.unusedVariables false
namespace Go.Ab
theorem lies_flat {H : Heap} {e : Sh} {α : Type} {f : α → List AV} {g : e.T → α} {n : Nat} (hn : e.size = n) (hf : ∀ x c, Lies H e x c → c = f (g x)) {l : List e.T} {cs : List AV} (h : Lies H (.sl e) l cs) :
    ∃ v, cs = [v] ∧ Shows H v n (enc f (l.map g)) ∧ l.length ≤ maxLen := by
  obtain ⟨id, rfl, hr, hm⟩ := Lies.row (f := fun x => f (g x)) hf h
  have he : enc (fun x => f (g x)) l = enc f (l.map g) := (enc_map f g l).symm
  have hlen : (enc f (l.map g)).length = l.length * n := by
    rw [← he]
    have h' := h
    obtain ⟨id', parts, _, _, _, _, hp⟩ := h'
    have key : ∀ (xs : List e.T) (ps : List (List AV)), All2 (fun x c => Lies H e x c) xs ps → (enc (fun x => f (g x)) xs).length = xs.length * n := by
      intro xs
      induction xs with
      | nil => intro ps _; simp [enc]
      | cons x xs ih =>
        intro ps hp
        cases ps with
        | nil => exact hp.elim
        | cons p ps =>
          have h1 := hf x p hp.1
          rw [enc_cons, List.length_append, ih ps hp.2, ← h1, hp.1.len, hn, List.length_cons, Nat.succ_mul]; omega
    exact key l parts hp
  refine ⟨_, rfl, .inr ⟨id, 0, l.length, by rw [hn], hlen, ?_⟩, hm⟩
  rw [← he]; exact hr
theorem okq_true {P : Program} {f : FuncId} {vs : List TV} {H : Heap} {Q : TV → Heap → Prop} (h : OkQ P f vs H Q) (hq : ∀ r H2, Q r H2 → r = .v (.bool true)) : ∃ H2, Ok P f vs H (.v (.bool true)) H2 := by
  obtain ⟨r, H2, h1, h2⟩ := h
  have := hq r H2 h2
  subst this
  exact ⟨H2, h1⟩
open Go.WideShapes Go.RowKit
/-! ### a law whose row lists a table -/
theorem add_tabs {W : World} : ∀ (T : List (Nat × (Obj → Prop))), (∀ p ∈ T, ∃ o, W.heap[p.1]? = some o ∧ p.2 o) → ∃ β H, SR β H W ∧ AllRo H ∧ ∀ p ∈ T, HasTab p.1 p.2 H
  | [], _ => ⟨fun _ => none, ⟨0, fun _ => .gone⟩, ⟨fun _ _ => rfl, fun i hi => absurd hi (Nat.not_lt_zero i), fun i l e => (by cases e), fun i j li lj _ e => (by cases e)⟩, fun _ => rfl, fun p hp => absurd hp (List.not_mem_nil)⟩
  | p :: T, h => by
    obtain ⟨β, H, h1, h2, h3⟩ := add_tabs T fun q hq => h q (List.mem_cons_of_mem _ hq)
    obtain ⟨o, ho, hφ⟩ := h p (List.mem_cons_self ..)
    have r := SR.addRow h1 h2 ⟨p.1, 0, 0⟩ (.tab p.1 o) rfl ⟨rfl, ho⟩
    refine ⟨_, _, r.sr, r.ro, fun q hq => ?_⟩
    rcases List.mem_cons.1 hq with rfl | hq
    · exact ⟨H.n, o, Nat.lt_succ_self _, by rw [alloc_f, if_pos rfl], hφ⟩
    · obtain ⟨i, o', k1, k2, k3⟩ := h3 q hq
      exact ⟨i, o', Nat.lt_succ_of_lt k1, by rw [alloc_f, if_neg (Nat.ne_of_lt k1)]; exact k2, k3⟩
theorem law_callsT {U : Type} {enc : TypeId × Value → U} {P : Program} {f : FuncId} {ts : List TypeId} {ss : List Sh} {d base : Nat} {T : List (Nat × (Obj → Prop))} (hcall : ∀ (as : Array Value) (w : World), (callFunc f as).run P w = .ok (.enter f as) w)
    (hsh : ts.map (shape P d) = ss.map some) (hok : ∀ H x as, AllRo H → (∀ p ∈ T, HasTab p.1 p.2 H) → LiesArgs H ss x as → ∃ H2, Ok P f as H (.v (.bool true)) H2) {W : World} {args : Array Value} {ds : List (DataW U)} {p : List MemPlace} (ht : ∀ p ∈ T, ∃ o, W.heap[p.1]? = some o ∧ p.2 o)
    (hA : DataW.TrodAll enc P W 0 (fun _ => true) true ts args.toList ds p) (hval : ∀ (j : Nat) t v, ts[j]? = some t → args[j]? = some v → Value.okWide P W .any base t v) :
    Calls P f args W fun e W' => e = .returned (.bool true) ∧ Below W.heap.size W W' := by
  obtain ⟨β0, H0, h1, h2, h3⟩ := add_tabs T ht
  obtain ⟨β, H, x, as, r, ha, hl⟩ := trodAll_opens ts ss args.toList ds p hsh hA (fun j t v h1 h2 => hval j t v h1 (by simpa using h2)) _ _ h1 h2
  have hx := r.ext
  obtain ⟨H2, hk⟩ := hok H x as r.ro (fun p hp => by
    obtain ⟨i, o, k1, k2, k3⟩ := h3 p hp
    exact ⟨i, o, Nat.lt_of_lt_of_le k1 hx.1, (hx.2 i k1).trans k2, k3⟩) hl
  have := hk β args.toList W r.sr ha
  rw [show args.toList.toArray = args by simp, hcall] at this
  refine Calls.mono this fun e W' ⟨rv, β2, he, hle, hs2, hv, hf⟩ => ?_
  refine ⟨by rw [he]; exact congrArg _ hv, hf.os, hf.tape, hf.output, hf.size, fun k hk => hf.block k hk ?_⟩
  rintro ⟨i, l, _, ho, _⟩
  rw [r.ro i] at ho
  cases ho
end Go.Ab
