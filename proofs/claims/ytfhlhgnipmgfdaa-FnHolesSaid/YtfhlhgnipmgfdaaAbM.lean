/-
  FRAME, second part: from a contract of a law's function to a run of it. By an AI agent; nothing here is trusted.
-/
import Derived.Test.YtfhlhgnipmgfdaaAbL
import Derived.WideShapes
import Derived.Carry
import Derived.ChangeOld
namespace Go.Ab
open Go.WideShapes Go.RowKit
set_option linter.unusedVariables false
set_option linter.unusedSimpArgs false

def tvOf : Sh → List AV → TV
  | .pair _ _, cs => .g cs
  | .unit, cs => .g cs
  | _, cs => .v (cs.headD .bad)

def argSh : List Sh → Sh
  | [] => .unit
  | s :: r => .pair s (argSh r)

def LiesArgs (H : Heap) : (ss : List Sh) → (argSh ss).T → List TV → Prop
  | [], _, as => as = []
  | s :: r, (x : s.T × (argSh r).T), as => ∃ cs rest, as = tvOf s cs :: rest ∧ Lies H s x.1 cs ∧ LiesArgs H r x.2 rest

theorem LiesArgs.ext {H H' : Heap} (he : Ext H H') : ∀ {ss : List Sh} {x : (argSh ss).T} {as : List TV}, LiesArgs H ss x as → LiesArgs H' ss x as
  | [], _, _, h => h
  | s :: r, x, _, ⟨cs, rest, h, h1, h2⟩ => ⟨cs, rest, h, h1.ext he, h2.ext he⟩

/-- A value of a plain type, as it is handed over. -/
theorem tv_of_ok {P : Program} {w : World} {base d : Nat} {t : TypeId} {s : Sh} {v : Value} (hs : shape P d t = some s) (h : Value.okWide P w .any base t v) {β : Emb} {H : Heap} {x : s.T} {acs : List AV}
    (ha : All2 (VR β) acs v.cells.toList) (hl : Lies H s x acs) : TVR β (tvOf s acs) v := by
  cases d with
  | zero => cases hs
  | succ d =>
    have hsz := shape_size hs
    simp only [shape, Option.bind_eq_some_iff] at hs
    obtain ⟨s', h0, hs⟩ := hs
    split at hs
    case isFalse => cases hs
    cases hs
    unfold shape0 at h0
    have one : ∀ {u : Value}, (∀ cs, v ≠ .agg cs) → v.cells.toList = [v] := fun hne => by
      cases v <;> first | rfl | exact absurd rfl (hne _)
    have scalar : (∀ cs, v ≠ .agg cs) → s.size = 1 → ∃ c, acs = [c] ∧ VR β c v := fun hne hz => by
      have hlen := hl.len
      rw [hz] at hlen
      rw [one (u := v) hne] at ha
      match acs, ha with
      | [c], ⟨hc, _⟩ => exact ⟨c, rfl, hc⟩
      | [], ha => simp at hlen
      | _ :: _ :: _, ha => simp at hlen
    split at h0
    case h_1 hu =>
      cases h0
      obtain ⟨b, rfl⟩ := okWide_bool hu h
      obtain ⟨c, rfl, hc⟩ := scalar (by simp) rfl
      exact hc
    case h_2 k hu =>
      cases h0
      obtain ⟨b, rfl⟩ := okWide_int hu h
      obtain ⟨c, rfl, hc⟩ := scalar (by simp) rfl
      exact hc
    case h_3 k hu =>
      cases h0
      have : ∀ cs, v ≠ .agg cs := by
        intro cs e
        subst e
        simp only [Value.okWide, hu, Cell.okWide, Cell.ok] at h
      obtain ⟨c, rfl, hc⟩ := scalar this rfl
      exact hc
    case h_4 hu =>
      cases h0
      obtain ⟨b, rfl⟩ := okWide_string hu h
      obtain ⟨c, rfl, hc⟩ := scalar (by simp) rfl
      exact hc
    case h_5 e hu =>
      obtain ⟨a, len, cap, rfl⟩ := okWide_slice hu h
      cases hse : shape P d e with
      | none => rw [hse] at h0; cases h0
      | some se =>
        rw [hse] at h0; cases h0
        obtain ⟨c, rfl, hc⟩ := scalar (by simp) rfl
        exact hc
    case h_6 fs hu =>
      obtain ⟨cs, rfl, hcs⟩ := okWide_struct hu h
      have hg : tvOf s acs = .g acs := by
        cases hf : fs.toList with
        | nil => rw [hf] at h0; cases h0; rfl
        | cons f r =>
          rw [hf] at h0
          unfold shapeFs at h0
          split at h0
          · cases h1 : shape P d f.type with
            | none => rw [h1] at h0; cases h0
            | some s1 =>
              rw [h1, Option.bind_some, Option.map_eq_some_iff] at h0
              obtain ⟨s2, _, rfl⟩ := h0
              rfl
          · cases h0
      rw [hg]
      exact ⟨cs.toList, by simp, ha⟩
    case h_7 => cases h0

theorem trodAll_opens {U : Type} {enc : TypeId × Value → U} {P : Program} {w : World} {base d : Nat} : ∀ (ts : List TypeId) (ss : List Sh) (vs : List Value) (ds : List (DataW U)) (p : List MemPlace), ts.map (shape P d) = ss.map some →
    DataW.TrodAll enc P w 0 (fun _ => true) true ts vs ds p → (∀ (j : Nat) t v, ts[j]? = some t → vs[j]? = some v → Value.okWide P w .any base t v) → ∀ β H, SR β H w → AllRo H →
    ∃ β' H' x as, Rd w β H β' H' ∧ All2 (TVR β') as vs ∧ LiesArgs H' ss x as
  | [], [], [], [], p, _, _, _, β, H, hs, hr => ⟨β, H, (), [], ⟨Le.refl β, hs, hr, Ext.refl H⟩, trivial, rfl⟩
  | t :: ts, s :: ss, v :: vs, dd :: ds, p, hsh, ⟨p1, q, ⟨fuel, h1⟩, h2, _⟩, hv, β, H, hs, hr => by
    simp only [List.map_cons, List.cons.injEq] at hsh
    obtain ⟨β1, H1, x, acs, r1, a1, l1⟩ := trod_opens d t s hsh.1 fuel _ dd p1 h1 β H hs hr
    obtain ⟨β2, H2, y, as, r2, a2, l2⟩ := trodAll_opens ts ss vs ds q hsh.2 h2 (fun j t' v' h3 h4 => hv (j + 1) t' v' (by simpa using h3) (by simpa using h4)) β1 H1 r1.sr r1.ro
    refine ⟨β2, H2, (x, y), tvOf s acs :: as, r1.trans r2, ⟨?_, a2⟩, acs, as, rfl, l1.ext r2.ext, l2⟩
    exact (tv_of_ok hsh.1 (hv 0 t v rfl rfl) a1 l1).mono r2.le
  | [], _ :: _, _, _, _, hsh, _, _, _, _, _, _ => by simp at hsh
  | _ :: _, [], _, _, _, hsh, _, _, _, _, _, _ => by simp at hsh

/-- THE FRAME: a law whose contract tells true of all plain arguments answers true in every run, and leaves what was there. -/
theorem law_calls {U : Type} {enc : TypeId × Value → U} {P : Program} {f : FuncId} {ts : List TypeId} {ss : List Sh} {d base : Nat} (hcall : ∀ (as : Array Value) (w : World), (callFunc f as).run P w = .ok (.enter f as) w)
    (hsh : ts.map (shape P d) = ss.map some) (hok : ∀ H x as, AllRo H → LiesArgs H ss x as → ∃ H2, Ok P f as H (.v (.bool true)) H2) {W : World} {args : Array Value} {ds : List (DataW U)} {p : List MemPlace}
    (hA : DataW.TrodAll enc P W 0 (fun _ => true) true ts args.toList ds p) (hval : ∀ (j : Nat) t v, ts[j]? = some t → args[j]? = some v → Value.okWide P W .any base t v) :
    Calls P f args W fun e W' => e = .returned (.bool true) ∧ Below W.heap.size W W' := by
  have h0 : SR (fun _ => none) ⟨0, fun _ => .gone⟩ W := ⟨fun _ _ => rfl, fun i hi => absurd hi (Nat.not_lt_zero i), fun i l e => (by cases e), fun i j li lj _ e => (by cases e)⟩
  obtain ⟨β, H, x, as, r, ha, hl⟩ := trodAll_opens ts ss args.toList ds p hsh hA (fun j t v h1 h2 => hval j t v h1 (by simpa using h2)) _ _ h0 (fun _ => rfl)
  obtain ⟨H2, hk⟩ := hok H x as r.ro hl
  have := hk β args.toList W r.sr ha
  rw [show args.toList.toArray = args by simp, hcall] at this
  refine Calls.mono this fun e W' ⟨rv, β2, he, hle, hs2, hv, hf⟩ => ?_
  refine ⟨by rw [he]; exact congrArg _ hv, hf.os, hf.tape, hf.output, hf.size, fun k hk => hf.block k hk ?_⟩
  rintro ⟨i, l, _, ho, _⟩
  rw [r.ro i] at ho
  cases ho

theorem trodAll_stays {U : Type} {enc : TypeId × Value → U} {P : Program} (hl : laidOutB P = true) {W W' : World} (hb : Below W.heap.size W W') : ∀ (ts : List TypeId) (vs : List Value) (ds : List (DataW U)) (p : List MemPlace),
    (∀ t ∈ ts, P.readableRec t = true ∧ t < P.types.size) → DataW.TrodAll enc P W 0 (fun _ => true) true ts vs ds p → DataW.TrodAll enc P W' 0 (fun b => decide (b < W.heap.size)) true ts vs ds p
  | [], [], [], _, _, h => h
  | t :: ts, v :: vs, d :: ds, _, ht, ⟨p1, q, h1, h2, e⟩ => by
    refine ⟨p1, q, Below.trod hl (ht t (List.mem_cons_self ..)).1 (ht t (List.mem_cons_self ..)).2 h1 hb ?_, trodAll_stays hl hb ts vs ds q (fun t h => ht t (List.mem_cons_of_mem _ h)) h2, e⟩
    obtain ⟨m, hm⟩ := h1
    exact fun y hy => DataW.trod_lt m _ _ _ hm y hy

end Go.Ab
