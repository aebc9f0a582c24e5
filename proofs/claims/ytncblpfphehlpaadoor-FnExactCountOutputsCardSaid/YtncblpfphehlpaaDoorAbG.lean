/-
  THE LIBRARY's FUNCTIONS by their contracts; slices that are only read. By an AI agent; nothing here is trusted.
-/
import Derived.Test.YtncblpfphehlpaaDoorAbK
import Derived.Lib.Bytealg
namespace Go.Ab
set_option linter.unusedVariables false
set_option linter.unusedSimpArgs false
/-- A function that hands back a value and leaves the world as it was. -/
theorem ok_lib {P : Program} {f : FuncId} {args : List TV} {H : Heap} {r : TV} (us0 : List Value) (rv : Value) (hcall : ∀ us w, (callFunc f us).run P w = .ok (.enter f us) w) (hargs : ∀ β us, All2 (TVR β) args us → us = us0) (hrv : ∀ β, TVR β r rv)
    (h : ∀ w, Calls P f us0.toArray w fun e w' => e = .returned rv ∧ w' = w) : Ok P f args H r H := by
  intro β us w hs ha
  rw [hargs β us ha, hcall]
  exact (h w).mono fun e w' ⟨he, hw⟩ => by subst he; subst hw; exact ⟨rv, β, rfl, Le.refl β, hs, hrv β, Fr.refl β H w'⟩
theorem args_ss (a b : ByteArray) : ∀ (β : Emb) (us : List Value), All2 (TVR β) [.v (.str a), .v (.str b)] us → us = [.string a, .string b]
  | β, [u, v], ⟨h1, h2, _⟩ => by
    have h1 : u = .string a := h1
    have h2 : v = .string b := h2
    rw [h1, h2]
theorem args_sb (a : ByteArray) (k : IntKind) (c : Int) : ∀ (β : Emb) (us : List Value), All2 (TVR β) [.v (.str a), .v (.int k c)] us → us = [.string a, .int k c]
  | β, [u, v], ⟨h1, h2, _⟩ => by
    have h1 : u = .string a := h1
    have h2 : v = .int k c := h2
    rw [h1, h2]
/-! ### slices that are only read -/
def rdp (v : AV) (n : Nat) (cs : List AV) : Pc := .keep (rowOf v) (fun H => Shows H v n cs)
theorem Sep.rshows {H : Heap} {l : List Pc} {v : AV} {n : Nat} {cs : List AV} (h : Sep H l) (k : Nat) (hk : Go.Ab.nth l k = some (rdp v n cs)) : Shows H v n cs := Pc.holds.eq_3 H _ _ ▸ (h.nth hk) |>.2.1
theorem Sep.tord {H : Heap} {l : List Pc} {v v' : AV} {n : Nat} {cs cs' : List AV} (h : Sep H (.osl v n cs :: l)) (c : Shows H v' n cs') (hr : ∀ i, rowOf v' i → rowOf v i) : Sep H (rdp v' n cs' :: l) :=
  ⟨⟨fun i hi => Pc.at_lt h.1 (hr i hi), c, fun H' hn hf => c.frame hn fun off len e => hf _ ⟨off, len, n, e⟩⟩, fun q hq ho i h1 h2 => h.2.1 q hq (.inl rfl) i (hr i h1) h2, h.2.2⟩
theorem Sep.tord2 {H : Heap} {l : List Pc} {v v' : AV} {n : Nat} {cs cs' : List AV} (h : Sep H (rdp v n cs :: l)) (c : Shows H v' n cs') (hr : ∀ i, rowOf v' i → rowOf v i) : Sep H (rdp v' n cs' :: l) :=
  ⟨⟨fun i hi => Pc.at_lt h.1 (hr i hi), c, fun H' hn hf => c.frame hn fun off len e => hf _ ⟨off, len, n, e⟩⟩, fun q hq ho i h1 h2 => h.2.1 q hq ho i (hr i h1) h2, h.2.2⟩
theorem cut_row (v : AV) (n a b : Nat) : ∀ i, rowOf (v.cut n a b) i → rowOf v i := by
  intro i hi
  obtain ⟨off, len, m, hi⟩ := hi
  cases v <;> simp only [AV.cut] at hi <;> first | (cases hi; done) | (cases hi; exact ⟨_, _, _, rfl⟩)
end Go.Ab
