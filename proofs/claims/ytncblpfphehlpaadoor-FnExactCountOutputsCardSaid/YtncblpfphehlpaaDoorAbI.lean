/-
  WHAT A LAW IS HANDED, as pieces that are only read. By an AI agent; nothing here is trusted.
-/
import Derived.Test.YtncblpfphehlpaaDoorAbK
import Derived.Test.YtncblpfphehlpaaDoorAbM
set_option linter.unusedVariables false
namespace Go.Ab
/-- What came in. -/
def came (H : Heap) : List Pc := [.keep (fun i => i < H.n) fun H' => H.n ≤ H'.n ∧ ∀ i, i < H.n → H'.f i = H.f i]
theorem came_sep (H : Heap) : Sep H (came H) := ⟨⟨fun _ h => h, ⟨Nat.le_refl _, fun _ _ => rfl⟩, fun _ hn hf => ⟨hn, hf⟩⟩, fun _ hq => absurd hq (List.not_mem_nil), trivial⟩
theorem came_shows {H : Heap} {v : AV} {n : Nat} {cs : List AV} (h : Shows H v n cs) : ∀ H', Sep H' (came H) → Shows H' v n cs := fun H' hs => by
  have h1 : H.n ≤ H'.n ∧ ∀ i, i < H.n → H'.f i = H.f i := hs.1.2.1
  refine h.frame h1.1 fun off len e => h1.2 _ ?_
  rcases h with ⟨rfl, _⟩ | ⟨id, o, l, rfl, _, hr⟩
  · cases e
  · exact hr.lt
theorem lies_flat {H : Heap} {e : Sh} {α : Type} {f : α → List AV} {g : e.T → α} {n : Nat} (hn : e.size = n) (hf : ∀ x c, Lies H e x c → c = f (g x)) {l : List e.T} {cs : List AV} (h : Lies H (.sl e) l cs) :
    ∃ v, cs = [v] ∧ Shows H v n (enc f (l.map g)) ∧ l.length ≤ maxLen := by
  obtain ⟨id, rfl, hr, hm⟩ := Lies.row (f := fun x => f (g x)) hf h
  have he : enc (fun x => f (g x)) l = enc f (l.map g) := (enc_map f g l).symm
  have hlen : (enc f (l.map g)).length = l.length * n := by
    rw [← he]
    have h' := h
    obtain ⟨id', parts, _, _, _, _, hp⟩ := h'
    have key : ∀ (xs : List e.T) (ps : List (List AV)), All2 (fun x c => Lies H e x c) xs ps → (enc (fun x => f (g x)) xs).length = xs.length * n := by
      intro xs
      induction xs with
      | nil => intro ps _; simp [enc]
      | cons x xs ih =>
        intro ps hp
        cases ps with
        | nil => exact hp.elim
        | cons p ps =>
          have h1 := hf x p hp.1
          rw [enc_cons, List.length_append, ih ps hp.2, ← h1, hp.1.len, hn, List.length_cons, Nat.succ_mul]; omega
    exact key l parts hp
  refine ⟨_, rfl, .inr ⟨id, 0, l.length, by rw [hn], hlen, ?_⟩, hm⟩
  rw [← he]; exact hr
theorem okq_true {P : Program} {f : FuncId} {vs : List TV} {H : Heap} {Q : TV → Heap → Prop} (h : OkQ P f vs H Q) (hq : ∀ r H2, Q r H2 → r = .v (.bool true)) : ∃ H2, Ok P f vs H (.v (.bool true)) H2 := by
  obtain ⟨r, H2, h1, h2⟩ := h
  have := hq r H2 h2
  subst this
  exact ⟨H2, h1⟩
end Go.Ab
