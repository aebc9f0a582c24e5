/-
  ROWS of one-cell elements, and the marks that laws make. By an AI agent; nothing here is trusted.
-/
import Derived.Test.YtfhlhgnipmgfdaaAbN
namespace Go.Ab
set_option linter.unusedVariables false
set_option linter.unusedSimpArgs false

/-- Numbers of single precision, as cells; integers; truths. -/
def eF (l : List Nat) : List AV := l.map (AV.flt .f32)
def eI (l : List Int) : List AV := l.map (AV.int .i64)
def eB (l : List Bool) : List AV := l.map AV.bool

theorem eF_length (l : List Nat) : (eF l).length = l.length := by simp [eF]
theorem eI_length (l : List Int) : (eI l).length = l.length := by simp [eI]
theorem eB_length (l : List Bool) : (eB l).length = l.length := by simp [eB]
theorem eF_plain (l : List Nat) : ∀ c ∈ eF l, c.refs = [] := by intro c h; simp only [eF, List.mem_map] at h; obtain ⟨_, _, rfl⟩ := h; rfl
theorem eI_plain (l : List Int) : ∀ c ∈ eI l, c.refs = [] := by intro c h; simp only [eI, List.mem_map] at h; obtain ⟨_, _, rfl⟩ := h; rfl
theorem eB_plain (l : List Bool) : ∀ c ∈ eB l, c.refs = [] := by intro c h; simp only [eB, List.mem_map] at h; obtain ⟨_, _, rfl⟩ := h; rfl

theorem Row.atF {H : Heap} {id off : Nat} {l : List Nat} (h : Row H id off (eF l)) {i : Nat} (hi : i < l.length) : (H.f id).cs[off + i]? = some (.flt .f32 l[i]) := by
  rw [h.rd (by rw [eF_length]; exact hi)]; simp [eF, hi]
theorem Row.atI {H : Heap} {id off : Nat} {l : List Int} (h : Row H id off (eI l)) {i : Nat} (hi : i < l.length) : (H.f id).cs[off + i]? = some (.int .i64 l[i]) := by
  rw [h.rd (by rw [eI_length]; exact hi)]; simp [eI, hi]
theorem Row.atB {H : Heap} {id off : Nat} {l : List Bool} (h : Row H id off (eB l)) {i : Nat} (hi : i < l.length) : (H.f id).cs[off + i]? = some (.bool l[i]) := by
  rw [h.rd (by rw [eB_length]; exact hi)]; simp [eB, hi]

theorem eF_at {l : List Nat} {i : Nat} (hi : i < l.length) : (eF l)[i]? = some (.flt .f32 l[i]) := by simp [eF, hi]
theorem eI_at {l : List Int} {i : Nat} (hi : i < l.length) : (eI l)[i]? = some (.int .i64 l[i]) := by simp [eI, hi]
theorem eB_at {l : List Bool} {i : Nat} (hi : i < l.length) : (eB l)[i]? = some (.bool l[i]) := by simp [eB, hi]

theorem splice_one {c x : AV} {cs : List AV} {i : Nat} (hi : i < cs.length) : splice cs [x] i = cs.set i x := by
  rw [splice, List.set_eq_take_append_cons_drop, if_pos hi, List.append_assoc]; rfl
theorem wrF {H : Heap} {id i x : Nat} {l : List Nat} (hi : i < l.length) : wrB H id i [.flt .f32 x] (.own (eF l)) = some (H.put id (.own (eF (l.set i x)))) := by
  rw [wrB_own, if_pos ⟨by rw [eF_length]; exact hi, rfl⟩, splice_one (c := .flt .f32 x) (by rw [eF_length]; exact hi)]; simp [eF, List.map_set]
theorem wrI {H : Heap} {id i : Nat} {x : Int} {l : List Int} (hi : i < l.length) : wrB H id i [.int .i64 x] (.own (eI l)) = some (H.put id (.own (eI (l.set i x)))) := by
  rw [wrB_own, if_pos ⟨by rw [eI_length]; exact hi, rfl⟩, splice_one (c := .int .i64 x) (by rw [eI_length]; exact hi)]; simp [eI, List.map_set]
theorem wrBo {H : Heap} {id i : Nat} {x : Bool} {l : List Bool} (hi : i < l.length) : wrB H id i [.bool x] (.own (eB l)) = some (H.put id (.own (eB (l.set i x)))) := by
  rw [wrB_own, if_pos ⟨by rw [eB_length]; exact hi, rfl⟩, splice_one (c := .bool x) (by rw [eB_length]; exact hi)]; simp [eB, List.map_set]

theorem zeros_one (c : AV) (n : Nat) : zerosOf [c] n = List.replicate n c := by
  induction n with
  | zero => rfl
  | succ n ih => rw [zerosOf, ih]; rfl
theorem zerosF (n : Nat) : zerosOf [.flt .f32 0] n = eF (List.replicate n 0) := by rw [zeros_one]; simp [eF]
theorem zerosI (n : Nat) : zerosOf [.int .i64 0] n = eI (List.replicate n 0) := by rw [zeros_one]; simp [eI]
theorem zerosB (n : Nat) : zerosOf [.bool false] n = eB (List.replicate n false) := by rw [zeros_one]; simp [eB]

/-- A number put behind a list. -/
theorem app1F {H : Heap} {N : Nat} {l : List Nat} (hN : N < H.n) (h : H.f N = .own (eF l)) (hl : l.length < 2 ^ 30) (x : Nat) :
    aappend (H.alloc (.own [.flt .f32 x])) 1 4 (.sl N 0 l.length 1) (.sl H.n 0 1 1) = some (.v (.sl (H.n + 1) 0 (l.length + 1) 1), ((H.alloc (.own [.flt .f32 x])).put N .gone).alloc (.own (eF (l ++ [x])))) := by
  rw [aappend_sl (cs := eF l) (n := 1) (new := [.flt .f32 x]) (by rw [alloc_f, if_neg (Nat.ne_of_lt hN)]; exact h) (by rw [eF_length]; omega) ?_ (by omega) (by decide)]
  · simp [eF, alloc_n]
  · refine arg_sl ?_
    rw [rdCells_eq, alloc_f, if_pos rfl]
    rfl

/-! ### numbers that are no NaN -/
theorem word_mod (f : Ieee.Format) (neg : Bool) (r : Nat) (h : r < f.signWeight) : f.word neg r % f.signWeight = r := by
  unfold Ieee.Format.word
  cases neg
  · simp only [Bool.false_eq_true, if_false]; exact Nat.mod_eq_of_lt h
  · simp only [if_true]; rw [Nat.add_mod_left]; exact Nat.mod_eq_of_lt h
theorem word_num (f : Ieee.Format) (neg : Bool) (r : Nat) (h : r ≤ f.infRung) (hs : f.infRung < f.signWeight) : (f.read (f.word neg r)).isNaN = false := by
  have hr := word_mod f neg r (by omega)
  unfold Ieee.Format.read
  simp only [hr]
  split
  · rfl
  · split
    · rfl
    · split
      · rfl
      · omega
theorem nearest_num (f : Ieee.Format) (neg : Bool) (m : Nat) (e : Int) (hs : f.infRung < f.signWeight) : (f.read (f.nearest neg m e)).isNaN = false := by
  unfold Ieee.Format.nearest
  split
  · exact word_num f neg 0 (Nat.zero_le _) hs
  · exact word_num f neg _ (Nat.min_le_right _ _) hs
/-- An integer as a number of single precision. -/
def fl (n : Int) : Nat := cz .f32 (floatOfInt .f32 n)
theorem fl_num (n : Int) : (FloatKind.f32.decode (fl n)).isNaN = false := by
  have h : (FloatKind.f32.decode (floatOfInt .f32 n)).isNaN = false := nearest_num Ieee.single _ _ _ (by decide +kernel)
  have e : fl n = floatOfInt .f32 n := by unfold fl cz; rw [if_neg (by rw [h]; exact Bool.false_ne_true)]
  rw [e]; exact h
theorem order_num {k : FloatKind} {x : Nat} (h : (k.decode x).isNaN = false) : k.format.order x x = some .eq := by
  rcases order_self k.format x with h1 | h1
  · exfalso
    unfold Ieee.Format.order at h1
    unfold FloatKind.decode at h
    cases hr : k.format.read x with
    | nan s t => rw [hr] at h; cases h
    | infinity s => rw [hr] at h1; simp [Ieee.Datum.order] at h1
    | number s m e => rw [hr] at h1; simp [Ieee.Datum.order] at h1
  · exact h1
theorem fl_neq (n : Int) : fcmp .neq .f32 (fl n) (fl n) = false := by simp [fcmp, order_num (fl_num n)]

/-- The marks k, k + 1, .. -/
def marks (k : Int) : Nat → List Nat
  | 0 => []
  | n + 1 => fl k :: marks (k + 1) n
theorem marks_length (k : Int) (n : Nat) : (marks k n).length = n := by
  induction n generalizing k with
  | zero => rfl
  | succ n ih => simp [marks, ih]
theorem marks_at (k : Int) (n i : Nat) (h : i < (marks k n).length) : (marks k n)[i] = fl (k + i) := by
  induction n generalizing k i with
  | zero => cases h
  | succ n ih =>
    cases i with
    | zero => simp [marks]
    | succ i =>
      simp only [marks, List.getElem_cons_succ]
      rw [ih]
      congr 1
      rw [Int.natCast_add, Int.natCast_one]; omega
theorem marks_step {l : List Nat} {i m : Nat} (k : Int) (h : i + m = l.length) (hi : i < l.length) : (marks k i ++ l.drop i).set i (fl (k + i)) = marks k (i + 1) ++ l.drop (i + 1) := by
  rw [List.set_append_right _ _ (by rw [marks_length]; omega), marks_length, Nat.sub_self, List.drop_eq_getElem_cons hi, List.set_cons_zero]
  have : ∀ (k : Int) (i : Nat) , marks k (i + 1) = marks k i ++ [fl (k + i)] := by
    intro k i
    induction i generalizing k with
    | zero => simp [marks]
    | succ i ih =>
      have e : k + 1 + (i : Int) = k + ((i + 1 : Nat) : Int) := by omega
      rw [marks, ih, marks, List.cons_append, e]
  rw [this, List.append_assoc]; rfl

/-- The marks k, k + 1, .. as integers. -/
def marksI (k : Int) : Nat → List Int
  | 0 => []
  | n + 1 => k :: marksI (k + 1) n
theorem marksI_length (k : Int) (n : Nat) : (marksI k n).length = n := by
  induction n generalizing k with
  | zero => rfl
  | succ n ih => simp [marksI, ih]
theorem marksI_at (k : Int) (n i : Nat) (h : i < (marksI k n).length) : (marksI k n)[i] = k + i := by
  induction n generalizing k i with
  | zero => cases h
  | succ n ih =>
    cases i with
    | zero => simp [marksI]
    | succ i =>
      simp only [marksI, List.getElem_cons_succ]
      rw [ih]
      rw [Int.natCast_add, Int.natCast_one]; omega
theorem marksI_step {l : List Int} {i m : Nat} (k : Int) (h : i + m = l.length) (hi : i < l.length) : (marksI k i ++ l.drop i).set i (k + i) = marksI k (i + 1) ++ l.drop (i + 1) := by
  rw [List.set_append_right _ _ (by rw [marksI_length]; omega), marksI_length, Nat.sub_self, List.drop_eq_getElem_cons hi, List.set_cons_zero]
  have : ∀ (k : Int) (i : Nat) , marksI k (i + 1) = marksI k i ++ [k + i] := by
    intro k i
    induction i generalizing k with
    | zero => simp [marksI]
    | succ i ih =>
      have e : k + 1 + (i : Int) = k + ((i + 1 : Nat) : Int) := by omega
      rw [marksI, ih, marksI, List.cons_append, e]
  rw [this, List.append_assoc]; rfl
/-- An integer put behind a list. -/
theorem app1I {H : Heap} {N : Nat} {l : List Int} (hN : N < H.n) (h : H.f N = .own (eI l)) (hl : l.length < 2 ^ 30) (x : Int) :
    aappend (H.alloc (.own [.int .i64 x])) 1 8 (.sl N 0 l.length 1) (.sl H.n 0 1 1) = some (.v (.sl (H.n + 1) 0 (l.length + 1) 1), ((H.alloc (.own [.int .i64 x])).put N .gone).alloc (.own (eI (l ++ [x])))) := by
  rw [aappend_sl (cs := eI l) (n := 1) (new := [.int .i64 x]) (by rw [alloc_f, if_neg (Nat.ne_of_lt hN)]; exact h) (by rw [eI_length]; omega) ?_ (by omega) (by decide)]
  · simp [eI, alloc_n]
  · refine arg_sl ?_
    rw [rdCells_eq, alloc_f, if_pos rfl]
    rfl

end Go.Ab
