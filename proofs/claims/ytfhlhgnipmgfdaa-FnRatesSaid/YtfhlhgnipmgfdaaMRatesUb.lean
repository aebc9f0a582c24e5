/-
  What the formulas say, over numbers and lists alone. Nothing here is trusted.
-/
import Derived.Test.YtfhlhgnipmgfdaaMRatesWa
import Derived.Test.YtfhlhgnipmgfdaaMRatesUa
namespace Go.Proofs.Ytfhlhgnipmgfdaa.G
open Go Go.Ab
set_option maxRecDepth 100000
set_option linter.unusedVariables false
set_option linter.unusedSimpArgs false
set_option maxHeartbeats 1000000
set_option exponentiation.threshold 4000
open Ieee in
def vv (x : Nat) : Int := match (FloatKind.f32.format).read x with
  | .number s m e => vD (FloatKind.f32.format).leastPlace s m e
  | _ => 0
theorem vv_of {x : Nat} {a : Int} (h : Vl .f32 x a) : vv x = a := by
  obtain ⟨s, m, e, r, _, v⟩ := h
  unfold vv
  rw [r]; exact v
/-- A number between two bounds. -/
def In (x : Nat) (M : Int) : Prop := Vl .f32 x (vv x) ∧ -M ≤ vv x ∧ vv x ≤ M
def InL (l : List Nat) (M : Int) : Prop := ∀ j, j < l.length → In (l.getD j 0) M
theorem in_mk {x : Nat} {a M : Int} (h : Vl .f32 x a) (h1 : -M ≤ a) (h2 : a ≤ M) : In x M := by
  have := vv_of h
  exact ⟨by rw [this]; exact h, by omega, by omega⟩
theorem inl_fin {l : List Nat} {M : Int} (h : InL l M) : pAll l = true := by
  unfold pAll
  rw [List.all_eq_true]
  intro x hx
  obtain ⟨j, hj, rfl⟩ := List.getElem_of_mem hx
  have := (h j hj).1
  rw [gD hj] at this
  exact vl_fin this
/-! ### where what is split and woven stands -/
theorem ga1 {a b : List Nat} {j : Nat} (h : j < a.length) : (a ++ b).getD j 0 = a.getD j 0 := by
  rw [gD (by rw [List.length_append]; omega), List.getElem_append_left h, gD h]
theorem ga2 {a : List Nat} {x : Nat} : (a ++ [x]).getD a.length 0 = x := by
  rw [gD (by rw [List.length_append, len1]; omega), List.getElem_append_right (Nat.le_refl _)]; simp
theorem spE_at (l : List Nat) : ∀ i j, j < (i + 1) / 2 → (spE l i).getD j 0 = l.getD (2 * j) 0
  | 0, j, h => by omega
  | i + 1, j, h => by
    have hl := spE_len l i
    rw [spE]
    by_cases c : i % 2 = 0
    · rw [if_pos c]
      by_cases c2 : j < (i + 1) / 2
      · rw [ga1 (by omega), spE_at l i j c2]
      · have e : j = (spE l i).length := by omega
        rw [e, ga2]
        congr 1; omega
    · rw [if_neg c]
      exact spE_at l i j (by omega)
theorem spO_at (l : List Nat) : ∀ i j, j < i / 2 → (spO l i).getD j 0 = l.getD (2 * j + 1) 0
  | 0, j, h => by omega
  | i + 1, j, h => by
    have hl := spO_len l i
    rw [spO]
    by_cases c : i % 2 = 0
    · rw [if_pos c]
      exact spO_at l i j (by omega)
    · rw [if_neg c]
      by_cases c2 : j < i / 2
      · rw [ga1 (by omega), spO_at l i j c2]
      · have e : j = (spO l i).length := by omega
        rw [e, ga2]
        congr 1; omega
theorem wvF_at {ev od : List Nat} (h : ev.length ≤ od.length + 1) : ∀ i j, i ≤ ev.length → j < i + min i od.length → (wvF ev od i).getD j 0 = if j % 2 = 0 then ev.getD (j / 2) 0 else od.getD (j / 2) 0
  | 0, j, _, hj => by omega
  | i + 1, j, hi, hj => by
    have hl := wvF_len ev od i
    rw [wvF]
    by_cases c : i < od.length
    · rw [if_pos c]
      have h2 : (wvF ev od i ++ [ev.getD i 0]).length = 2 * i + 1 := by rw [List.length_append, len1]; omega
      by_cases c2 : j < 2 * i
      · rw [ga1 (by omega), ga1 (by omega)]
        exact wvF_at h i j (by omega) (by omega)
      · by_cases c3 : j = 2 * i
        · rw [ga1 (by omega), show j = (wvF ev od i).length by omega, ga2, if_pos (by omega)]
          congr 1; omega
        · rw [show j = (wvF ev od i ++ [ev.getD i 0]).length by omega, ga2, if_neg (by omega)]
          congr 1; omega
    · rw [if_neg c]
      by_cases c2 : j < 2 * i
      · rw [ga1 (by omega)]
        exact wvF_at h i j (by omega) (by omega)
      · rw [show j = (wvF ev od i).length by omega, ga2, if_pos (by omega)]
        congr 1; omega
/-! ### single steps -/
theorem so_f (k : Nat) (hk : k ≤ 60) {x a b : Nat} {M : Int} (hM : M ≤ 3276800 * T k) (hx : In x M) (ha : In a M) (hb : In b M) : ∃ r, Vl .f32 (stp false wm5 x (fop .add .f32 a b)) r ∧ -(7 * T k) ≤ 2 * r - 2 * vv x + (vv a + vv b) ∧ 2 * r - 2 * vv x + (vv a + vv b) ≤ 7 * T k := by
  have hT := T_pos k
  obtain ⟨x0, x1, x2⟩ := hx
  obtain ⟨a0, a1, a2⟩ := ha
  obtain ⟨b0, b1, b2⟩ := hb
  obtain ⟨s, hs, s1, s2⟩ := radd k hk a0 b0 (by omega) (by omega)
  obtain ⟨m, hm, m1, m2⟩ := rm5 k hk hs (by omega) (by omega)
  obtain ⟨r, hr, r1, r2⟩ := radd k hk x0 hm (by omega) (by omega)
  exact ⟨r, hr, by omega, by omega⟩
theorem so_t (k : Nat) (hk : k ≤ 60) {x a b : Nat} {M : Int} (hM : M ≤ 3276800 * T k) (hx : In x M) (ha : In a M) (hb : In b M) : ∃ r, Vl .f32 (stp true wm5 x (fop .add .f32 a b)) r ∧ -(7 * T k) ≤ 2 * r - 2 * vv x - (vv a + vv b) ∧ 2 * r - 2 * vv x - (vv a + vv b) ≤ 7 * T k := by
  have hT := T_pos k
  obtain ⟨x0, x1, x2⟩ := hx
  obtain ⟨a0, a1, a2⟩ := ha
  obtain ⟨b0, b1, b2⟩ := hb
  obtain ⟨s, hs, s1, s2⟩ := radd k hk a0 b0 (by omega) (by omega)
  obtain ⟨m, hm, m1, m2⟩ := rm5 k hk hs (by omega) (by omega)
  obtain ⟨r, hr, r1, r2⟩ := rsub k hk x0 hm (by omega) (by omega)
  exact ⟨r, hr, by omega, by omega⟩
theorem se_f (k : Nat) (hk : k ≤ 60) {x a b : Nat} {M : Int} (hM : M ≤ 3276800 * T k) (hx : In x M) (ha : In a M) (hb : In b M) : ∃ r, Vl .f32 (stp false wp25 x (fop .add .f32 a b)) r ∧ -(13 * T k) ≤ 4 * r - 4 * vv x - (vv a + vv b) ∧ 4 * r - 4 * vv x - (vv a + vv b) ≤ 13 * T k := by
  have hT := T_pos k
  obtain ⟨x0, x1, x2⟩ := hx
  obtain ⟨a0, a1, a2⟩ := ha
  obtain ⟨b0, b1, b2⟩ := hb
  obtain ⟨s, hs, s1, s2⟩ := radd k hk a0 b0 (by omega) (by omega)
  obtain ⟨m, hm, m1, m2⟩ := rp25 k hk hs (by omega) (by omega)
  obtain ⟨r, hr, r1, r2⟩ := radd k hk x0 hm (by omega) (by omega)
  exact ⟨r, hr, by omega, by omega⟩
theorem se_t (k : Nat) (hk : k ≤ 60) {x a b : Nat} {M : Int} (hM : M ≤ 3276800 * T k) (hx : In x M) (ha : In a M) (hb : In b M) : ∃ r, Vl .f32 (stp true wp25 x (fop .add .f32 a b)) r ∧ -(13 * T k) ≤ 4 * r - 4 * vv x + (vv a + vv b) ∧ 4 * r - 4 * vv x + (vv a + vv b) ≤ 13 * T k := by
  have hT := T_pos k
  obtain ⟨x0, x1, x2⟩ := hx
  obtain ⟨a0, a1, a2⟩ := ha
  obtain ⟨b0, b1, b2⟩ := hb
  obtain ⟨s, hs, s1, s2⟩ := radd k hk a0 b0 (by omega) (by omega)
  obtain ⟨m, hm, m1, m2⟩ := rp25 k hk hs (by omega) (by omega)
  obtain ⟨r, hr, r1, r2⟩ := rsub k hk x0 hm (by omega) (by omega)
  exact ⟨r, hr, by omega, by omega⟩
theorem T_abs (k : Nat) : (3276800 * T k).natAbs ≤ 2 ^ (157 + k) := by
  unfold T
  rw [Int.natAbs_mul, Int.natAbs_natCast, show 157 + k = 22 + (135 + k) by omega, Nat.pow_add 2 22 (135 + k)]
  exact Nat.mul_le_mul_right _ (show (3276800 : Int).natAbs ≤ 2 ^ 22 by decide)
theorem rq1 (k : Nat) (hk : k ≤ 60) {x : Nat} {M : Int} (hM : M ≤ 3276800 * T k) (hx : In x M) : ∃ r, Vl .f32 (fop .quo .f32 x w1c) r ∧ -(2 * T k) ≤ r - vv x ∧ r - vv x ≤ 2 * T k := by
  obtain ⟨x0, x1, x2⟩ := hx
  have hO : (0 : Int) < One := by decide +kernel
  have hta := T_abs k
  obtain ⟨r, hr, r1, r2, _⟩ := rquo k hk x0 w1_v hO (by
    rw [One_abs]
    exact Nat.mul_le_mul_right _ (by omega))
  have r1 := Int.le_of_mul_le_mul_right r1 hO
  have r2 := Int.le_of_mul_le_mul_right r2 hO
  exact ⟨r, hr, by omega, by omega⟩
theorem rm1 (k : Nat) (hk : k ≤ 60) {x : Nat} {M : Int} (hM : M ≤ 3276800 * T k) (hx : In x M) : ∃ r, Vl .f32 (fop .mul .f32 x w1c) r ∧ -(2 * T k) ≤ r - vv x ∧ r - vv x ≤ 2 * T k := by
  have hT := T_pos k
  obtain ⟨x0, x1, x2⟩ := hx
  obtain ⟨r, hr, r1, r2⟩ := r1 k hk x0 (by omega) (by omega)
  exact ⟨r, hr, by omega, by omega⟩
def wsL : List Nat := [wm5, wp25]
theorem lftX_is (l : List Nat) : lftX wsL w1c l = ((wE (spE l l.length) (wO (spE l l.length) (spO l l.length) wm5 false) wp25 false).map fun x => fop .mul .f32 x w1c, (wO (spE l l.length) (spO l l.length) wm5 false).map fun x => fop .quo .f32 x w1c) := rfl
def evu (ev : List Nat) : List Nat := ev.map fun x => fop .quo .f32 x w1c
def odu (od : List Nat) : List Nat := od.map fun x => fop .mul .f32 x w1c
def evr (ev od : List Nat) : List Nat := wE (evu ev) (odu od) wp25 true
def odr (ev od : List Nat) : List Nat := wO (evr ev od) (odu od) wm5 true
theorem drpX_is (ev od : List Nat) : drpX wsL w1c ev od = (evr ev od, odr ev od) := rfl
theorem wO_len (ev od : List Nat) (w : Nat) (b : Bool) : (wO ev od w b).length = od.length := by simp [wO]
theorem wE_len (ev od : List Nat) (w : Nat) (b : Bool) : (wE ev od w b).length = ev.length := by simp [wE]
theorem evu_len (ev : List Nat) : (evu ev).length = ev.length := List.length_map ..
theorem odu_len (od : List Nat) : (odu od).length = od.length := List.length_map ..
theorem evr_len (ev od : List Nat) : (evr ev od).length = ev.length := by unfold evr; rw [wE_len, evu_len]
theorem odr_len (ev od : List Nat) : (odr ev od).length = od.length := by unfold odr; rw [wO_len, odu_len]
/-! ### led back -/
theorem back_facts (k : Nat) (hk : k ≤ 60) {ev od : List Nat} {G H : Int} (hf : Fit ev od) (he : InL ev G) (ho : InL od H) (hG : G + 2 * H ≤ 3276800 * T k) (hG0 : 0 ≤ G) (hH0 : 100 * T k ≤ H) :
    (∀ j, j < ev.length → In ((evu ev).getD j 0) (G + 2 * T k) ∧ -(2 * T k) ≤ vv ((evu ev).getD j 0) - vv (ev.getD j 0) ∧ vv ((evu ev).getD j 0) - vv (ev.getD j 0) ≤ 2 * T k) ∧
    (∀ j, j < od.length → In ((odu od).getD j 0) (H + 2 * T k) ∧ -(2 * T k) ≤ vv ((odu od).getD j 0) - vv (od.getD j 0) ∧ vv ((odu od).getD j 0) - vv (od.getD j 0) ≤ 2 * T k) ∧
    (∀ j, j < ev.length → In ((evr ev od).getD j 0) (G + H) ∧ -(13 * T k) ≤ 4 * vv ((evr ev od).getD j 0) - 4 * vv ((evu ev).getD j 0) + (vv ((odu od).getD (j - 1) 0) + vv ((odu od).getD (min j (od.length - 1)) 0)) ∧ 4 * vv ((evr ev od).getD j 0) - 4 * vv ((evu ev).getD j 0) + (vv ((odu od).getD (j - 1) 0) + vv ((odu od).getD (min j (od.length - 1)) 0)) ≤ 13 * T k) ∧
    (∀ j, j < od.length → In ((odr ev od).getD j 0) (G + 2 * H) ∧ -(7 * T k) ≤ 2 * vv ((odr ev od).getD j 0) - 2 * vv ((odu od).getD j 0) - (vv ((evr ev od).getD j 0) + vv ((evr ev od).getD (min (j + 1) (ev.length - 1)) 0)) ∧ 2 * vv ((odr ev od).getD j 0) - 2 * vv ((odu od).getD j 0) - (vv ((evr ev od).getD j 0) + vv ((evr ev od).getD (min (j + 1) (ev.length - 1)) 0)) ≤ 7 * T k) := by
  have hT := T_pos k
  obtain ⟨fa, fb, fc, fd⟩ := hf
  have l1 := evu_len ev
  have l2 := odu_len od
  have l3 := evr_len ev od
  have p1 : ∀ j, j < ev.length → In ((evu ev).getD j 0) (G + 2 * T k) ∧ -(2 * T k) ≤ vv ((evu ev).getD j 0) - vv (ev.getD j 0) ∧ vv ((evu ev).getD j 0) - vv (ev.getD j 0) ≤ 2 * T k := by
    intro j hj
    have hx := he j hj
    obtain ⟨r, hr, r1, r2⟩ := rq1 k hk (by omega) hx
    have hx2 := hx.2
    unfold evu
    rw [mp_at hj, vv_of hr]
    exact ⟨in_mk hr (by omega) (by omega), by omega, by omega⟩
  have p2 : ∀ j, j < od.length → In ((odu od).getD j 0) (H + 2 * T k) ∧ -(2 * T k) ≤ vv ((odu od).getD j 0) - vv (od.getD j 0) ∧ vv ((odu od).getD j 0) - vv (od.getD j 0) ≤ 2 * T k := by
    intro j hj
    have hx := ho j hj
    obtain ⟨r, hr, r1, r2⟩ := rm1 k hk (by omega) hx
    have hx2 := hx.2
    unfold odu
    rw [mp_at hj, vv_of hr]
    exact ⟨in_mk hr (by omega) (by omega), by omega, by omega⟩
  have up_ : ∀ {x : Nat} {A : Int}, In x A → A ≤ G + 2 * H → In x (G + 2 * H) := fun h hA => ⟨h.1, by have := h.2.1; omega, by have := h.2.2; omega⟩
  have p3 : ∀ j, j < ev.length → In ((evr ev od).getD j 0) (G + H) ∧ -(13 * T k) ≤ 4 * vv ((evr ev od).getD j 0) - 4 * vv ((evu ev).getD j 0) + (vv ((odu od).getD (j - 1) 0) + vv ((odu od).getD (min j (od.length - 1)) 0)) ∧ 4 * vv ((evr ev od).getD j 0) - 4 * vv ((evu ev).getD j 0) + (vv ((odu od).getD (j - 1) 0) + vv ((odu od).getD (min j (od.length - 1)) 0)) ≤ 13 * T k := by
    intro j hj
    have hx := p1 j hj
    have ha := p2 (j - 1) (by omega)
    have hb := p2 (min j (od.length - 1)) (by omega)
    obtain ⟨r, hr, r1, r2⟩ := se_t k hk hG (up_ hx.1 (by omega)) (up_ ha.1 (by omega)) (up_ hb.1 (by omega))
    have e : (evr ev od).getD j 0 = stp true wp25 ((evu ev).getD j 0) (fop .add .f32 ((odu od).getD (j - 1) 0) ((odu od).getD (min j (od.length - 1)) 0)) := by
      unfold evr wE
      rw [rg_at (by omega), besE, l2]
    have hx2 := hx.1.2
    have ha2 := ha.1.2
    have hb2 := hb.1.2
    rw [e, vv_of hr]
    exact ⟨in_mk hr (by omega) (by omega), r1, r2⟩
  refine ⟨p1, p2, p3, fun j hj => ?_⟩
  have hx := p2 j hj
  have ha := p3 j (by omega)
  have hb := p3 (min (j + 1) (ev.length - 1)) (by omega)
  obtain ⟨r, hr, r1, r2⟩ := so_t k hk hG (up_ hx.1 (by omega)) (up_ ha.1 (by omega)) (up_ hb.1 (by omega))
  have e : (odr ev od).getD j 0 = stp true wm5 ((odu od).getD j 0) (fop .add .f32 ((evr ev od).getD j 0) ((evr ev od).getD (min (j + 1) (ev.length - 1)) 0)) := by
    unfold odr wO
    rw [rg_at (by omega), besO, l3]
  -- the tighter bound of the evens
  have t1 := p1 j (by omega)
  have t2 := p1 (min (j + 1) (ev.length - 1)) (by omega)
  have u1 := p2 (j - 1) (by omega)
  have u2 := p2 (min j (od.length - 1)) (by omega)
  have u3 := p2 (min (j + 1) (ev.length - 1) - 1) (by omega)
  have u4 := p2 (min (min (j + 1) (ev.length - 1)) (od.length - 1)) (by omega)
  have a1 := t1.1.2
  have a2 := t2.1.2
  have a3 := u1.1.2
  have a4 := u2.1.2
  have a5 := u3.1.2
  have a6 := u4.1.2
  have a7 := hx.1.2
  have a8 := ha.2
  have a9 := hb.2
  rw [e, vv_of hr]
  exact ⟨in_mk hr (by omega) (by omega), r1, r2⟩
theorem drp_at {ev od : List Nat} (hf : Fit ev od) {j : Nat} (hj : j < ev.length + od.length) : (drpL wsL w1c ev od).getD j 0 = if j % 2 = 0 then (evr ev od).getD (j / 2) 0 else (odr ev od).getD (j / 2) 0 := by
  obtain ⟨fa, fb, fc, fd⟩ := hf
  have l3 := evr_len ev od
  have l4 := odr_len ev od
  unfold drpL
  rw [drpX_is]
  dsimp only
  exact wvF_at (by omega) _ _ (Nat.le_refl _) (by omega)
theorem drop_in (k : Nat) (hk : k ≤ 60) {ev od : List Nat} {G H : Int} (hf : Fit ev od) (he : InL ev G) (ho : InL od H) (hG : G + 2 * H ≤ 3276800 * T k) (hG0 : 0 ≤ G) (hH0 : 100 * T k ≤ H) : InL (drpL wsL w1c ev od) (G + 2 * H) := by
  obtain ⟨p1, p2, p3, p4⟩ := back_facts k hk hf he ho hG hG0 hH0
  have hT := T_pos k
  have hl := drpL_len (ws := wsL) (sc := w1c) hf
  intro j hj
  rw [drp_at hf (by omega)]
  obtain ⟨fa, fb, fc, fd⟩ := hf
  split
  · have := (p3 (j / 2) (by omega)).1
    exact ⟨this.1, by have := this.2.1; omega, by have := this.2.2; omega⟩
  · exact (p4 (j / 2) (by omega)).1
theorem ud_fin {d : List (List Nat)} {H : Int} (hH0 : 100 * T 3 ≤ H) (hd : ∀ i, i < d.length → InL (d.getD i ([] : List Nat)) H) : ∀ m now G, m < d.length → szF (szL d) m (now.length : Int) = true → InL now G → 0 ≤ G → G + 2 * H * (m : Int) ≤ 3276800 * T 3 → ∃ b, udF wsL w1c d m now = some b ∧ InL b (G + 2 * H * (m : Int))
  | 0, now, G, _, _, h, _, _ => ⟨now, rfl, by simpa using h⟩
  | m + 1, now, G, hm, hz, h, h0, hb => by
    have hT := T_pos 3
    obtain ⟨g1, g2⟩ := szF_fit (by omega) hz
    have hmm : 0 ≤ 2 * H * (m : Int) := Int.mul_nonneg (by omega) (by omega)
    rw [show ((m + 1 : Nat) : Int) = (m : Int) + 1 by omega, Int.mul_add, Int.mul_one] at hb ⊢
    have hi := drop_in 3 (by decide) g1 h (hd m (by omega)) (by omega) h0 hH0
    have hdl := drpL_len (ws := wsL) (sc := w1c) g1
    obtain ⟨b, b1, b2⟩ := ud_fin hH0 hd m (drpL wsL w1c now (d.getD m ([] : List Nat))) (G + 2 * H) (by omega) (by rw [hdl, show (((now.length + (d.getD m ([] : List Nat)).length : Nat)) : Int) = (now.length : Int) + ((d.getD m ([] : List Nat)).length : Int) by omega]; exact g2) hi (by omega) (by omega)
    refine ⟨b, ?_, ?_⟩
    · rw [udF, if_pos (inl_fin hi)]; exact b1
    · rw [show G + (2 * H * (m : Int) + 2 * H) = G + 2 * H + 2 * H * (m : Int) by omega]; exact b2
/-! ### lifted -/
theorem lift_facts {now : List Nat} {M : Int} (hn : 2 ≤ now.length ∧ now.length ≤ 128) (hM : M ≤ 71 * One) (hM0 : 0 ≤ M) (h : InL now M) :
    (∀ j, j < (spO now now.length).length → In ((wO (spE now now.length) (spO now now.length) wm5 false).getD j 0) (2 * M + 100 * T 0) ∧ -(7 * T 0) ≤ 2 * vv ((wO (spE now now.length) (spO now now.length) wm5 false).getD j 0) - 2 * vv ((spO now now.length).getD j 0) + (vv ((spE now now.length).getD j 0) + vv ((spE now now.length).getD (min (j + 1) ((spE now now.length).length - 1)) 0)) ∧ 2 * vv ((wO (spE now now.length) (spO now now.length) wm5 false).getD j 0) - 2 * vv ((spO now now.length).getD j 0) + (vv ((spE now now.length).getD j 0) + vv ((spE now now.length).getD (min (j + 1) ((spE now now.length).length - 1)) 0)) ≤ 7 * T 0) ∧
    (∀ j, j < (spE now now.length).length → In ((wE (spE now now.length) (wO (spE now now.length) (spO now now.length) wm5 false) wp25 false).getD j 0) (2 * M + 100 * T 0) ∧ -(13 * T 0) ≤ 4 * vv ((wE (spE now now.length) (wO (spE now now.length) (spO now now.length) wm5 false) wp25 false).getD j 0) - 4 * vv ((spE now now.length).getD j 0) - (vv ((wO (spE now now.length) (spO now now.length) wm5 false).getD (j - 1) 0) + vv ((wO (spE now now.length) (spO now now.length) wm5 false).getD (min j ((spO now now.length).length - 1)) 0)) ∧ 4 * vv ((wE (spE now now.length) (wO (spE now now.length) (spO now now.length) wm5 false) wp25 false).getD j 0) - 4 * vv ((spE now now.length).getD j 0) - (vv ((wO (spE now now.length) (spO now now.length) wm5 false).getD (j - 1) 0) + vv ((wO (spE now now.length) (spO now now.length) wm5 false).getD (min j ((spO now now.length).length - 1)) 0)) ≤ 13 * T 0) := by
  have hT := T_pos 0
  have hO := One_T
  have le := spE_len now now.length
  have lo := spO_len now now.length
  have ie : InL (spE now now.length) M := fun j hj => by rw [spE_at now now.length j (by omega)]; exact h _ (by omega)
  have io : InL (spO now now.length) M := fun j hj => by rw [spO_at now now.length j (by omega)]; exact h _ (by omega)
  generalize spE now now.length = ev at *
  generalize spO now now.length = od at *
  have p1 : ∀ j, j < od.length → In ((wO ev od wm5 false).getD j 0) (2 * M + 100 * T 0) ∧ -(7 * T 0) ≤ 2 * vv ((wO ev od wm5 false).getD j 0) - 2 * vv (od.getD j 0) + (vv (ev.getD j 0) + vv (ev.getD (min (j + 1) (ev.length - 1)) 0)) ∧ 2 * vv ((wO ev od wm5 false).getD j 0) - 2 * vv (od.getD j 0) + (vv (ev.getD j 0) + vv (ev.getD (min (j + 1) (ev.length - 1)) 0)) ≤ 7 * T 0 := by
    intro j hj
    have hx := io j hj
    have ha := ie j (by omega)
    have hb := ie (min (j + 1) (ev.length - 1)) (by omega)
    obtain ⟨r, hr, r1, r2⟩ := so_f 0 (by decide) (by omega) hx ha hb
    have e : (wO ev od wm5 false).getD j 0 = stp false wm5 (od.getD j 0) (fop .add .f32 (ev.getD j 0) (ev.getD (min (j + 1) (ev.length - 1)) 0)) := by
      unfold wO
      rw [rg_at hj, besO]
    have hx2 := hx.2
    have ha2 := ha.2
    have hb2 := hb.2
    rw [e, vv_of hr]
    exact ⟨in_mk hr (by omega) (by omega), r1, r2⟩
  refine ⟨p1, fun j hj => ?_⟩
  have hx := ie j hj
  have ha := p1 (j - 1) (by omega)
  have hb := p1 (min j (od.length - 1)) (by omega)
  have up_ : ∀ {x : Nat}, In x M → In x (2 * M + 100 * T 0) := fun h => ⟨h.1, by have := h.2.1; omega, by have := h.2.2; omega⟩
  obtain ⟨r, hr, r1, r2⟩ := se_f 0 (by decide) (by omega) (up_ hx) ha.1 hb.1
  have e : (wE ev (wO ev od wm5 false) wp25 false).getD j 0 = stp false wp25 (ev.getD j 0) (fop .add .f32 ((wO ev od wm5 false).getD (j - 1) 0) ((wO ev od wm5 false).getD (min j (od.length - 1)) 0)) := by
    unfold wE
    rw [rg_at hj, besE, wO_len]
  have hx2 := hx.2
  have ha2 := ha.1.2
  have hb2 := hb.1.2
  rw [e, vv_of hr]
  exact ⟨in_mk hr (by omega) (by omega), r1, r2⟩
def NumL (l : List Nat) : Prop := ∀ j, j < l.length → Vl .f32 (l.getD j 0) (vv (l.getD j 0))
theorem num_all {l : List Nat} (h : NumL l) : pAll l = true := by
  unfold pAll
  rw [List.all_eq_true]
  intro x hx
  obtain ⟨j, hj, rfl⟩ := List.getElem_of_mem hx
  have := h j hj
  rw [gD hj] at this
  exact vl_fin this
theorem T2_T : T 2 = 4 * T 0 := by decide +kernel
theorem lvl_near {now lb hb : List Nat} {M A2 C : Int} (hn : 2 ≤ now.length ∧ now.length ≤ 128) (hM : M ≤ 71 * One) (hM0 : 0 ≤ M) (h : InL now M) (hC0 : 0 ≤ C) (hC1 : C ≤ 3 * One) (hA0 : 0 ≤ A2) (hA1 : A2 ≤ 50 * One) (l1 : lb.length = (now.length + 1) / 2) (l2 : hb.length = now.length / 2)
    (hA : ∀ j, j < lb.length → Vl .f32 (lb.getD j 0) (vv (lb.getD j 0)) ∧ -A2 ≤ 2 * vv (lb.getD j 0) - 2 * vv ((lftX wsL w1c now).1.getD j 0) ∧ 2 * vv (lb.getD j 0) - 2 * vv ((lftX wsL w1c now).1.getD j 0) ≤ A2)
    (hC : ∀ j, j < hb.length → Vl .f32 (hb.getD j 0) (vv (hb.getD j 0)) ∧ -C ≤ vv (hb.getD j 0) - vv ((lftX wsL w1c now).2.getD j 0) ∧ vv (hb.getD j 0) - vv ((lftX wsL w1c now).2.getD j 0) ≤ C) :
    Fit lb hb ∧ ∀ j, j < now.length → Vl .f32 ((drpL wsL w1c lb hb).getD j 0) (vv ((drpL wsL w1c lb hb).getD j 0)) ∧ -(A2 + 3 * C + 120 * T 0) ≤ 2 * vv ((drpL wsL w1c lb hb).getD j 0) - 2 * vv (now.getD j 0) ∧ 2 * vv ((drpL wsL w1c lb hb).getD j 0) - 2 * vv (now.getD j 0) ≤ A2 + 3 * C + 120 * T 0 := by
  have hT := T_pos 0
  have hO := One_T
  have h2 := T2_T
  obtain ⟨f1, f2⟩ := lift_facts hn hM hM0 h
  have hf : Fit lb hb := ⟨by omega, by omega, by omega, by omega⟩
  have le := spE_len now now.length
  have lo := spO_len now now.length
  have se := spE_at now now.length
  have so := spO_at now now.length
  rw [lftX_is] at hA hC
  dsimp only at hA hC
  generalize spE now now.length = ev at *
  generalize spO now now.length = od at *
  have lwO := wO_len ev od wm5 false
  have lwE := wE_len ev (wO ev od wm5 false) wp25 false
  generalize wO ev od wm5 false = od1 at *
  generalize wE ev od1 wp25 false = ev1 at *
  -- what was told, against what was lifted
  have qA : ∀ j, j < lb.length → In (lb.getD j 0) (170 * One) ∧ -(A2 + 4 * T 0) ≤ 2 * vv (lb.getD j 0) - 2 * vv (ev1.getD j 0) ∧ 2 * vv (lb.getD j 0) - 2 * vv (ev1.getD j 0) ≤ A2 + 4 * T 0 := by
    intro j hj
    have a1 := hA j hj
    have a2 := f2 j (by omega)
    obtain ⟨r, hr, r1, r2⟩ := rm1 0 (by decide) (by omega) a2.1
    rw [mp_at (by omega), vv_of hr] at a1
    have a3 := a2.1.2
    exact ⟨⟨a1.1, by omega, by omega⟩, by omega, by omega⟩
  have qC : ∀ j, j < hb.length → In (hb.getD j 0) (147 * One) ∧ -(C + 2 * T 0) ≤ vv (hb.getD j 0) - vv (od1.getD j 0) ∧ vv (hb.getD j 0) - vv (od1.getD j 0) ≤ C + 2 * T 0 := by
    intro j hj
    have a1 := hC j hj
    have a2 := f1 j (by omega)
    obtain ⟨r, hr, r1, r2⟩ := rq1 0 (by decide) (by omega) a2.1
    rw [mp_at (by omega), vv_of hr] at a1
    have a3 := a2.1.2
    exact ⟨⟨a1.1, by omega, by omega⟩, by omega, by omega⟩
  obtain ⟨p1, p2, p3, p4⟩ := back_facts 2 (by decide) (G := 170 * One) (H := 147 * One) hf (fun j hj => (qA j hj).1) (fun j hj => (qC j hj).1) (by omega) (by omega) (by omega)
  have l3 := evu_len lb
  have l4 := odu_len hb
  have dE : ∀ j, j < lb.length → -(2 * A2 + 2 * C + 125 * T 0) ≤ 4 * vv ((evr lb hb).getD j 0) - 4 * vv (ev.getD j 0) ∧ 4 * vv ((evr lb hb).getD j 0) - 4 * vv (ev.getD j 0) ≤ 2 * A2 + 2 * C + 125 * T 0 := by
    intro j hj
    have a1 := (p3 j hj).2
    have a2 := (f2 j (by omega)).2
    have a3 := (p1 j hj).2
    have a4 := (qA j hj).2
    have a5 := (p2 (j - 1) (by omega)).2
    have a6 := (qC (j - 1) (by omega)).2
    have a7 := (p2 (min j (hb.length - 1)) (by omega)).2
    have a8 := (qC (min j (hb.length - 1)) (by omega)).2
    rw [show od.length = hb.length by omega] at a2
    omega
  refine ⟨hf, fun j hj => ?_⟩
  rw [drp_at hf (by omega)]
  split
  · rename_i c
    have b1 := dE (j / 2) (by omega)
    have b2 := (p3 (j / 2) (by omega)).1.1
    have b3 := se (j / 2) (by omega)
    rw [show 2 * (j / 2) = j by omega] at b3
    rw [b3] at b1
    exact ⟨b2, by omega, by omega⟩
  · rename_i c
    have hj2 : j / 2 < hb.length := by omega
    have b1 := (p4 (j / 2) hj2).2
    have b2 := (p4 (j / 2) hj2).1.1
    have b3 := so (j / 2) (by omega)
    rw [show 2 * (j / 2) + 1 = j by omega] at b3
    have b4 := (f1 (j / 2) (by omega)).2
    rw [b3] at b4
    have b5 := (p2 (j / 2) hj2).2
    have b6 := (qC (j / 2) hj2).2
    have b7 := dE (j / 2) (by omega)
    have b8 := dE (min (j / 2 + 1) (lb.length - 1)) (by omega)
    rw [show ev.length = lb.length by omega] at b4
    exact ⟨b2, by omega, by omega⟩
/-! ### all levels -/
def Mb (f : Nat) : Int := (match f with | 0 => 143 | 1 => 71 | 2 => 35 | 3 => 17 | _ => 8) * One
def AE : Nat → Int → Int
  | 0, C => 2 * C
  | f + 1, C => AE f C + 3 * C + 120 * T 0
theorem AE_le {f : Nat} (hf : f ≤ 4) {C : Int} (hC : 0 ≤ C) : 0 ≤ AE f C ∧ AE f C ≤ 14 * C + 480 * T 0 ∧ 2 * C ≤ AE f C := by
  have hT := T_pos 0
  have : f = 0 ∨ f = 1 ∨ f = 2 ∨ f = 3 ∨ f = 4 := by omega
  rcases this with rfl | rfl | rfl | rfl | rfl <;> simp only [AE] <;> omega
theorem Mb_s {f : Nat} (hf : f ≤ 3) : 2 * Mb (f + 1) + 200 * T 0 ≤ Mb f ∧ Mb (f + 1) ≤ 71 * One ∧ 0 ≤ Mb (f + 1) ∧ Mb (f + 1) ≤ 143 * One := by
  have hT := T_pos 0
  have hO := One_T
  have : f = 0 ∨ f = 1 ∨ f = 2 ∨ f = 3 := by omega
  rcases this with rfl | rfl | rfl | rfl <;> simp only [Mb] <;> omega
theorem udF_cons {ws : List Nat} {sc : Nat} {h : List Nat} {d : List (List Nat)} : ∀ m now, udF ws sc (h :: d) (m + 1) now = (udF ws sc d m now).bind fun y => if pAll (drpL ws sc y h) = true then some (drpL ws sc y h) else none
  | 0, now => by
    rw [udF, udF]
    show (if pAll (drpL ws sc now h) = true then udF ws sc (h :: d) 0 (drpL ws sc now h) else none) = if pAll (drpL ws sc now h) = true then some (drpL ws sc now h) else none
    rfl
  | m + 1, now => by
    show (if pAll (drpL ws sc now (d.getD m ([] : List Nat))) = true then udF ws sc (h :: d) (m + 1) (drpL ws sc now (d.getD m ([] : List Nat))) else none) = (if pAll (drpL ws sc now (d.getD m ([] : List Nat))) = true then udF ws sc d m (drpL ws sc now (d.getD m ([] : List Nat))) else none).bind fun y => if pAll (drpL ws sc y h) = true then some (drpL ws sc y h) else none
    by_cases c : pAll (drpL ws sc now (d.getD m ([] : List Nat))) = true
    · rw [if_pos c, if_pos c]; exact udF_cons m _
    · rw [if_neg c, if_neg c]; rfl
theorem udL_cons {ws : List Nat} {sc : Nat} {h : List Nat} {d : List (List Nat)} (hd : 1 ≤ d.length) : udL ws sc (h :: d) = (udL ws sc d).bind fun y => if pAll (drpL ws sc y h) = true then some (drpL ws sc y h) else none := by
  obtain ⟨n, hn⟩ : ∃ n, d.length = n + 1 := ⟨d.length - 1, by omega⟩
  unfold udL
  rw [List.length_cons, hn, Nat.add_sub_cancel, Nat.add_sub_cancel, show (h :: d).getD (n + 1) ([] : List Nat) = d.getD n ([] : List Nat) from rfl]
  exact udF_cons n _
theorem deep_near : ∀ f now, f ≤ 4 → InL now (Mb f) → 1 ≤ now.length ∧ now.length ≤ 128 → ∃ t, (∀ out, dpF wsL w1c f now out = some (out ++ t)) ∧ 1 ≤ t.length ∧ (∀ i, i < t.length → InL (t.getD i ([] : List Nat)) (144 * One)) ∧ ∀ (g : Nat → Nat) (C : Int), 0 ≤ C → C ≤ 3 * One → (∀ x, In x (144 * One) → Vl .f32 (g x) (vv (g x)) ∧ -C ≤ vv (g x) - vv x ∧ vv (g x) - vv x ≤ C) → ∃ b, udL wsL w1c (t.map (List.map g)) = some b ∧ b.length = now.length ∧ ∀ j, j < now.length → Vl .f32 (b.getD j 0) (vv (b.getD j 0)) ∧ -(AE f C) ≤ 2 * vv (b.getD j 0) - 2 * vv (now.getD j 0) ∧ 2 * vv (b.getD j 0) - 2 * vv (now.getD j 0) ≤ AE f C := by
  have hT := T_pos 0
  have hO := One_T
  -- a list alone
  have alone : ∀ f now, f ≤ 4 → InL now (144 * One) → (∀ i, i < ([now] : List (List Nat)).length → InL (([now] : List (List Nat)).getD i ([] : List Nat)) (144 * One)) ∧ ∀ (g : Nat → Nat) (C : Int), 0 ≤ C → C ≤ 3 * One → (∀ x, In x (144 * One) → Vl .f32 (g x) (vv (g x)) ∧ -C ≤ vv (g x) - vv x ∧ vv (g x) - vv x ≤ C) → ∃ b, udL wsL w1c (([now] : List (List Nat)).map (List.map g)) = some b ∧ b.length = now.length ∧ ∀ j, j < now.length → Vl .f32 (b.getD j 0) (vv (b.getD j 0)) ∧ -(AE f C) ≤ 2 * vv (b.getD j 0) - 2 * vv (now.getD j 0) ∧ 2 * vv (b.getD j 0) - 2 * vv (now.getD j 0) ≤ AE f C := by
    intro f now hf hi
    refine ⟨fun i hii => ?_, fun g C hC0 hC1 hg => ⟨now.map g, rfl, List.length_map .., fun j hj => ?_⟩⟩
    · have : i = 0 := by rw [len1] at hii; omega
      subst this; exact hi
    · have := hg _ (hi j hj)
      have hA := AE_le hf hC0
      rw [mp_at hj]
      exact ⟨this.1, by omega, by omega⟩
  intro f
  induction f with
  | zero =>
    intro now hf hi hl
    have e0 : Mb 0 = 143 * One := rfl
    have hi' : InL now (144 * One) := fun j hj => ⟨(hi j hj).1, by have := (hi j hj).2; omega, by have := (hi j hj).2; omega⟩
    obtain ⟨a1, a2⟩ := alone 0 now (by omega) hi'
    exact ⟨[now], fun _ => rfl, by simp, a1, a2⟩
  | succ f ih =>
    intro now hf hi hl
    have hmb := Mb_s (f := f) (by omega)
    have hi' : InL now (144 * One) := fun j hj => ⟨(hi j hj).1, by have := (hi j hj).2; omega, by have := (hi j hj).2; omega⟩
    by_cases c : 2 ≤ now.length
    · obtain ⟨f1, f2⟩ := lift_facts (M := Mb (f + 1)) ⟨c, hl.2⟩ hmb.2.1 hmb.2.2.1 hi
      have hlen := lftX_len wsL w1c now
      have le := spE_len now now.length
      have lo := spO_len now now.length
      have iLo : InL (lftX wsL w1c now).1 (Mb f) := by
        intro j hj
        rw [lftX_is]
        dsimp only
        have a2 := (f2 j (by omega)).1
        obtain ⟨r, hr, r1, r2⟩ := rm1 0 (by decide) (by omega) a2
        rw [mp_at (by rw [wE_len]; omega)]
        have a3 := a2.2
        exact in_mk hr (by omega) (by omega)
      have iHi : InL (lftX wsL w1c now).2 (144 * One) := by
        intro j hj
        rw [lftX_is]
        dsimp only
        have a2 := (f1 j (by omega)).1
        obtain ⟨r, hr, r1, r2⟩ := rq1 0 (by decide) (by omega) a2
        rw [mp_at (by rw [wO_len]; omega)]
        have a3 := a2.2
        exact in_mk hr (by omega) (by omega)
      obtain ⟨t, t1, t2, t3, t4⟩ := ih (lftX wsL w1c now).1 (by omega) iLo (by omega)
      have hok : lftOk wsL w1c now = true := by
        unfold lftOk
        rw [inl_fin iLo, inl_fin iHi]; rfl
      refine ⟨(lftX wsL w1c now).2 :: t, fun out => ?_, by simp, fun i hii => ?_, fun g C hC0 hC1 hg => ?_⟩
      · rw [dpF, if_pos c, if_pos hok, t1, List.append_assoc]; rfl
      · cases i with
        | zero => exact iHi
        | succ i => exact t3 i (by rw [List.length_cons] at hii; omega)
      · obtain ⟨b, b1, b2, b3⟩ := t4 g C hC0 hC1 hg
        have hA := AE_le (f := f) (by omega) hC0
        obtain ⟨g1, g2⟩ := lvl_near (lb := b) (hb := (lftX wsL w1c now).2.map g) (M := Mb (f + 1)) (A2 := AE f C) (C := C) ⟨c, hl.2⟩ hmb.2.1 hmb.2.2.1 hi hC0 hC1 hA.1 (by omega) (by omega) (by rw [List.length_map]; omega) (fun j hj => b3 j (by omega)) (fun j hj => by
          rw [List.length_map] at hj
          rw [mp_at hj]; exact hg _ (iHi j hj))
        have hdl := drpL_len (ws := wsL) (sc := w1c) g1
        rw [List.length_map] at hdl
        have hdl2 : (drpL wsL w1c b ((lftX wsL w1c now).2.map g)).length = now.length := by omega
        refine ⟨_, ?_, hdl2, fun j hj => ?_⟩
        · rw [List.map_cons, udL_cons (by rw [List.length_map]; exact t2), b1]
          show (if pAll (drpL wsL w1c b ((lftX wsL w1c now).2.map g)) = true then _ else none) = _
          rw [if_pos (num_all fun j hj => (g2 j (by omega)).1)]
        · rw [AE]; exact g2 j hj
    · have h1 : now.length = 1 := by omega
      obtain ⟨a1, a2⟩ := alone (f + 1) now hf hi'
      refine ⟨[now], fun out => ?_, by simp, a1, a2⟩
      rw [dpF, if_neg c]
open Ieee in
theorem root_le {m k : Nat} {e : Int} (l : -1074 ≤ e) (hm : m ≠ 0) (hv : m * 2 ^ (e + 1074).toNat ≤ 2 ^ 1202) {z : Nat} (hz : ((Datum.number false m e).root 54).map double.write = some z) : ∃ r, Vl .f64 z r ∧ 0 ≤ r ∧ (1 ≤ k → k ≤ 16 → m * 2 ^ (e + 1074).toNat ≤ k * k * 2 ^ 1074 → r ≤ (k : Int) * ((2 ^ 1074 : Nat) : Int)) := by
  unfold Datum.root at hz
  dsimp only at hz
  rw [if_neg hm, if_neg (by decide)] at hz
  generalize hmore : 2 * 54 - m.log2 + ((e - ((2 * 54 - m.log2 : Nat) : Int)) % 2).toNat = more at hz
  have hev : (e - (more : Int)) % 2 = 0 := by omega
  generalize hwh : Datum.rootFrom (m <<< more) ((m <<< more).log2 / 2 + 1) 0 = whole at hz
  have hw : whole * whole ≤ m * 2 ^ more := by
    have := root_from (m <<< more) ((m <<< more).log2 / 2 + 1) 0 (by simp)
    rw [hwh, Nat.shiftLeft_eq] at this
    exact this
  have hlog := log_le hm hv
  rw [Nat.shiftLeft_eq] at hz
  have hb : (whole * whole != m * 2 ^ more).toNat ≤ 1 ∧ (whole * whole = m * 2 ^ more → (whole * whole != m * 2 ^ more).toNat = 0) := by
    by_cases c : whole * whole = m * 2 ^ more
    · rw [c]; simp
    · have : (whole * whole != m * 2 ^ more) = true := by simpa using c
      rw [this]; exact ⟨by decide, fun h => absurd h c⟩
  generalize (whole * whole != m * 2 ^ more).toNat = b at hb hz
  have hL : (FloatKind.f64.format).leastPlace = -1074 := by decide
  have hp : (FloatKind.f64.format).fractionBits = 52 := by decide
  have hxb : (FloatKind.f64.format).exponentBits = 11 := by decide
  have hz : double.nearest false (2 * whole + b) ((e - (more : Int)) / 2 - 1) = z := by
    have h : some (double.nearest false (2 * whole + b) ((e - (more : Int)) / 2 - 1)) = some z := hz
    exact Option.some.inj h
  generalize hE : (e - (more : Int)) / 2 - 1 = E at hz
  obtain ⟨r, w1, w2⟩ := rndZ (k := .f64) (M := 2 * whole + b) (a := (E - -1074).toNat) (b := (-1074 - E).toNat) (e := E) (S := ((2 * whole + b : Nat) : Int) * ((2 ^ (E - -1074).toNat : Nat) : Int)) fmt2 false (by rw [hL]; omega) (fun hM => by
    rw [hL, hp, hxb]
    have hwl : whole.log2 ≤ 2000 ∧ (whole ≠ 0 → 2 * whole.log2 < m.log2 + 1 + more) := by
      by_cases c : whole = 0
      · rw [c]; exact ⟨by decide, fun h => absurd rfl h⟩
      · have h1 : 2 ^ whole.log2 * 2 ^ whole.log2 ≤ whole * whole := Nat.mul_le_mul (Nat.log2_self_le c) (Nat.log2_self_le c)
        have h2 : m * 2 ^ more < 2 ^ (m.log2 + 1) * 2 ^ more := Nat.mul_lt_mul_of_pos_right Nat.lt_log2_self (Nat.two_pow_pos _)
        rw [← Nat.pow_add] at h1 h2
        have := (Nat.pow_lt_pow_iff_right (a := 2) (by decide)).1 (Nat.lt_of_le_of_lt h1 (Nat.lt_of_le_of_lt hw h2))
        exact ⟨by omega, fun _ => by omega⟩
    have g1 : (2 * whole + b).log2 ≤ whole.log2 + 1 := by
      have h1 : 2 * whole + b < 2 ^ (whole.log2 + 1 + 1) := by
        have := Nat.lt_log2_self (n := whole)
        rw [Nat.pow_succ]; omega
      have := (Nat.log2_lt hM).2 h1
      omega
    by_cases c : whole = 0
    · have h1 : whole.log2 = 0 := by rw [c]; decide
      omega
    · have := hwl.2 c
      omega) (by rw [Int.natAbs_mul, Int.natAbs_natCast, Int.natAbs_natCast]) (fun c => (by cases c)) (fun _ => Int.mul_nonneg (Int.natCast_nonneg _) (Int.natCast_nonneg _))
  rw [show (FloatKind.f64.format).nearest false (2 * whole + b) E = z from hz] at w1
  refine ⟨r, w1, (w2 0 ⟨0, 0, by decide, by decide, rfl⟩).2 (by rw [Int.zero_mul]; exact Int.mul_nonneg (Int.natCast_nonneg _) (Int.natCast_nonneg _)), fun h1 h2 h3 => ?_⟩
  refine (w2 ((k : Int) * ((2 ^ 1074 : Nat) : Int)) ⟨k, 1074, by rw [hp]; omega, by rw [hp, hxb]; decide, by rw [Int.natAbs_mul, Int.natAbs_natCast, Int.natAbs_natCast]⟩).1 ?_
  -- the root, whole
  have hml : m.log2 + (e + 1074).toNat ≤ 1082 := by
    have h4 : k * k ≤ 2 ^ 8 := Nat.le_trans (Nat.mul_le_mul h2 h2) (by decide)
    have h5 : m * 2 ^ (e + 1074).toNat ≤ 2 ^ (8 + 1074) := by
      rw [Nat.pow_add]; exact Nat.le_trans h3 (Nat.mul_le_mul_right _ h4)
    exact log_le hm h5
  obtain ⟨G, hG⟩ : ∃ G : Nat, E = -(G : Int) - 1 := ⟨(-E - 1).toNat, by omega⟩
  have hn : m * 2 ^ more ≤ (k * 2 ^ G) * (k * 2 ^ G) := by
    have e1 : (k * 2 ^ G) * (k * 2 ^ G) = k * k * 2 ^ (2 * G) := by
      rw [Nat.two_mul, Nat.pow_add]; ac_rfl
    rw [e1]
    have h6 : m * 2 ^ more * 2 ^ ((e + 1074).toNat) ≤ k * k * 2 ^ (2 * G) * 2 ^ ((e + 1074).toNat) := by
      have h7 := Nat.mul_le_mul_right (2 ^ more) h3
      have e2 : ∀ q : Nat, q * 2 ^ 1074 * 2 ^ more = q * 2 ^ (2 * G) * 2 ^ ((e + 1074).toNat) := fun q => by
        rw [Nat.mul_assoc, ← Nat.pow_add, Nat.mul_assoc, ← Nat.pow_add]
        congr 2; omega
      rw [e2 (k * k)] at h7
      rw [show m * 2 ^ more * 2 ^ (e + 1074).toNat = m * 2 ^ (e + 1074).toNat * 2 ^ more by ac_rfl]
      exact h7
    exact Nat.le_of_mul_le_mul_right h6 (Nat.two_pow_pos _)
  have hwk : whole ≤ k * 2 ^ G := Nat.mul_self_le_mul_self_iff.1 (Nat.le_trans hw hn)
  have hMk : 2 * whole + b ≤ k * 2 ^ (G + 1) := by
    rw [Nat.pow_succ, ← Nat.mul_assoc]
    rcases Nat.lt_or_eq_of_le hwk with c | c
    · omega
    · have : whole * whole = m * 2 ^ more := Nat.le_antisymm hw (by rw [c]; exact hn)
      have := hb.2 this
      omega
  have hfin : (2 * whole + b) * 2 ^ (E - -1074).toNat ≤ k * 2 ^ 1074 * 2 ^ (-1074 - E).toNat := by
    refine Nat.le_trans (Nat.mul_le_mul_right _ hMk) (Nat.le_of_eq ?_)
    rw [Nat.mul_assoc, ← Nat.pow_add, Nat.mul_assoc, ← Nat.pow_add]
    congr 2; omega
  have := Int.ofNat_le.2 hfin
  rw [Int.natCast_mul, Int.natCast_mul, Int.natCast_mul] at this
  exact this
theorem OneN : One = ((2 ^ 149 : Nat) : Int) := rfl
theorem One925 : One * ((2 ^ 925 : Nat) : Int) = ((2 ^ 1074 : Nat) : Int) := by decide +kernel
open Ieee in
/-- The narrow of a number of double precision. -/
theorem narrow_v {z : Nat} {r : Int} (h : Vl .f64 z r) (hb : Bf .f64 z 1170) (hs : (fconv .f64 z .f32).isSome = true) (h0 : 0 ≤ r) : ∃ v, Vl .f32 (narrow z) v ∧ 0 ≤ v ∧ ∀ k : Nat, k ≤ 16 → r ≤ (k : Int) * ((2 ^ 1074 : Nat) : Int) → v ≤ (k : Int) * One := by
  obtain ⟨s, m, e, r1, l, rfl⟩ := h
  obtain ⟨s', m', e', r1', l', v'⟩ := hb
  rw [r1] at r1'
  cases r1'
  have hL : (FloatKind.f64.format).leastPlace = -1074 := by decide
  have hL1 : (FloatKind.f32.format).leastPlace = -149 := by decide
  have hp : (FloatKind.f32.format).fractionBits = 23 := by decide
  have hxb : (FloatKind.f32.format).exponentBits = 8 := by decide
  have ha := vD_abs (FloatKind.f64.format).leastPlace s m e
  have hsg := vD_sign (FloatKind.f64.format).leastPlace s m e
  rw [hL] at l v' ha hsg h0 ⊢
  obtain ⟨q, w1, w2⟩ := rndZ (k := .f32) (M := m) (a := (e - -1074).toNat) (b := 925) (e := e) (S := vD (-1074) s m e) fmt1 s (by rw [hL1]; omega) (fun hM => by
    have := log_le hM v'
    rw [hL1, hp, hxb]; omega) ha hsg.1 hsg.2
  have hn : narrow z = (FloatKind.f32.format).nearest s m e := by
    have hq := w1
    obtain ⟨s2, m2, e2, k1, k2, k3⟩ := hq
    have : fconv .f64 z .f32 = some ((FloatKind.f32.format).nearest s m e) := by
      unfold fconv
      rw [if_neg (by decide), show FloatKind.f64.decode z = (FloatKind.f64.format).read z from rfl, r1]
      dsimp only
      rw [show FloatKind.f32.decode (FloatKind.encode .f32 (.number s m e)) = (FloatKind.f32.format).read ((FloatKind.f32.format).nearest s m e) from rfl, k1]
      show (if false = true then none else some (cz .f32 ((FloatKind.f32.format).nearest s m e))) = _
      rw [if_neg (by decide), vl_cz w1]
    rw [narrow, this]; rfl
  rw [hn]
  refine ⟨q, w1, (w2 0 ⟨0, 0, by decide, by decide, rfl⟩).2 (by rw [Int.zero_mul]; exact h0), fun k hk hr => ?_⟩
  refine (w2 ((k : Int) * One) ⟨k, 149, by rw [hp]; omega, by rw [hp, hxb]; decide, by rw [Int.natAbs_mul, Int.natAbs_natCast, One_abs]⟩).1 ?_
  rw [Int.mul_assoc, One925]; exact hr
open Ieee in
theorem rt_num {x : Nat} {v : Int} (h : Vl .f32 x v) (h0 : 0 ≤ v) (hb : v.natAbs ≤ 2 ^ 270) : ∃ r, Vl .f32 (rtW x) r ∧ 0 ≤ r ∧ ∀ k : Nat, 1 ≤ k → k ≤ 16 → v ≤ (k : Int) * (k : Int) * One → r ≤ (k : Int) * One := by
  have hw := vl_widen h
  obtain ⟨s, m, e, r1, l, hv⟩ := hw
  have hL : (FloatKind.f64.format).leastPlace = -1074 := by decide
  have ha := vD_abs (FloatKind.f64.format).leastPlace s m e
  have hsg := vD_sign (FloatKind.f64.format).leastPlace s m e
  rw [hv] at ha hsg
  rw [hL] at l ha
  have hP := unit_pos 925
  have hvn : (v * ((2 ^ 925 : Nat) : Int)).natAbs = v.natAbs * 2 ^ 925 := by rw [Int.natAbs_mul, Int.natAbs_natCast]
  rw [hvn] at ha
  have hv0 : 0 ≤ v * ((2 ^ 925 : Nat) : Int) := Int.mul_nonneg h0 (Int.le_of_lt hP)
  have hm1 : m * 2 ^ (e - -1074).toNat ≤ 2 ^ 1202 := by
    rw [← ha]
    have := Nat.mul_le_mul_right (2 ^ 925) hb
    rw [← Nat.pow_add] at this
    exact Nat.le_trans this (Nat.pow_le_pow_right (by decide) (by decide))
  rw [show e - -1074 = e + 1074 by omega] at hm1 ha
  have hsq : FloatKind.f64.format.sqrt (widen x) = ((Datum.number s m e).root 54).map double.write := by
    unfold Format.sqrt
    rw [r1]; rfl
  have hsome := rt_some x
  unfold rtW
  by_cases hm : m = 0
  · -- nothing
    have hz : sqrtW (widen x) = cz .f64 (double.nearest s 0 e) := by
      unfold sqrtW
      rw [hsq, hm]; rfl
    obtain ⟨q, w1, w2⟩ := rndZ (k := .f64) (M := 0) (a := (e - -1074).toNat) (b := (-1074 - e).toNat) (e := e) (S := 0) fmt2 s (by rw [hL]; omega) (fun c => absurd rfl c) (by simp) (fun _ => Int.le_refl _) (fun _ => Int.le_refl _)
    have q0 : RepZ (FloatKind.f64.format) 0 := ⟨0, 0, by decide, by decide, rfl⟩
    have g1 := (w2 0 q0).1 (by simp)
    have g2 := (w2 0 q0).2 (by simp)
    obtain rfl : q = 0 := by omega
    have w1' : Vl .f64 (double.nearest s 0 e) 0 := w1
    rw [hz, vl_cz w1'] at hsome ⊢
    have hbf : Bf .f64 (double.nearest s 0 e) 1170 := by
      obtain ⟨s2, m2, e2, k1, k2, k3⟩ := w1'
      refine ⟨s2, m2, e2, k1, k2, ?_⟩
      have := vD_abs (FloatKind.f64.format).leastPlace s2 m2 e2
      rw [k3] at this
      rw [← this]; exact Nat.zero_le _
    obtain ⟨v', n1, n2, n3⟩ := narrow_v w1' hbf hsome (Int.le_refl _)
    exact ⟨v', n1, n2, fun k _ hk _ => n3 k hk (Int.mul_nonneg (Int.natCast_nonneg _) (Int.natCast_nonneg _))⟩
  · obtain rfl : s = false := by
      cases s with
      | false => rfl
      | true =>
        exfalso
        have h1 := hsg.1 rfl
        have h2 : v.natAbs * 2 ^ 925 = 0 := by rw [← hvn]; omega
        rw [h2] at ha
        rcases Nat.mul_eq_zero.1 ha.symm with h3 | h3
        · exact hm h3
        · have := Nat.two_pow_pos (e + 1074).toNat; omega
    rcases root_bf l hm1 false with hnone | ⟨z, hz, hbz⟩
    · exfalso
      unfold Datum.root at hnone
      dsimp only at hnone
      rw [if_neg hm, if_neg (by decide)] at hnone
      cases hnone
    · have hzz : sqrtW (widen x) = z := by
        unfold sqrtW
        rw [hsq, hz]
        show cz .f64 z = z
        exact bf_cz hbz
      rw [hzz] at hsome ⊢
      obtain ⟨r, k1, k2, _⟩ := root_le (k := 1) l hm hm1 hz
      obtain ⟨v', n1, n2, n3⟩ := narrow_v k1 hbz hsome k2
      refine ⟨v', n1, n2, fun k hk1 hk2 hvk => n3 k hk2 ?_⟩
      obtain ⟨r', k1', _, k3'⟩ := root_le (k := k) l hm hm1 hz
      have hrr : r' = r := by
        obtain ⟨a1, a2, a3, a4, a5, a6⟩ := k1
        obtain ⟨b1, b2, b3, b4, b5, b6⟩ := k1'
        rw [a4] at b4
        cases b4
        rw [← a6, ← b6]
      rw [← hrr]
      refine k3' hk1 hk2 ?_
      rw [← ha]
      have h5 : v.natAbs ≤ k * k * 2 ^ 149 := by
        have h6 : ((v.natAbs : Nat) : Int) ≤ ((k * k * 2 ^ 149 : Nat) : Int) := by
          rw [Int.natCast_mul, Int.natCast_mul, ← OneN]; omega
        exact Int.ofNat_le.1 h6
      have h7 := Nat.mul_le_mul_right (2 ^ 925) h5
      rw [Nat.mul_assoc, ← Nat.pow_add] at h7
      exact h7
/-! ### sums of squares -/
theorem sq_nonneg (d : Int) : 0 ≤ d * d := by
  rcases Int.le_total 0 d with h | h
  · exact Int.mul_nonneg h h
  · exact Int.mul_nonneg_of_nonpos_of_nonpos h h
theorem ssq_in {l r : List Nat} {q e n : Nat} (hq : 16 * q < 2 ^ 24) (he : e ≤ 200) (hn : n ≤ 16) (hd : ∀ j, j < n → ∃ d, Vl .f32 (fop .sub .f32 (l.getD j 0) (r.getD j 0)) d ∧ d * d ≤ ((q * 2 ^ e : Nat) : Int) * One) : ∀ i, i ≤ n → ∃ v, Vl .f32 (ssq l r i) v ∧ 0 ≤ v ∧ v ≤ ((i * (q * 2 ^ e) : Nat) : Int)
  | 0, _ => ⟨0, by rw [ssq]; exact vl_of (by decide +kernel), Int.le_refl _, by simp⟩
  | i + 1, hi => by
    obtain ⟨v, v1, v2, v3⟩ := ssq_in hq he hn hd i (by omega)
    obtain ⟨d, d1, d2⟩ := hd i (by omega)
    have hp : (FloatKind.f32.format).fractionBits = 23 := by decide
    have hx : (FloatKind.f32.format).exponentBits = 8 := by decide
    have rep : ∀ c : Nat, c ≤ 16 → RepZ (FloatKind.f32.format) ((c * (q * 2 ^ e) : Nat) : Int) ∧ ((c * (q * 2 ^ e) : Nat) : Int).natAbs ≤ 2 ^ 250 := by
      intro c hc
      have h1 : c * q < 2 ^ 24 := Nat.lt_of_le_of_lt (Nat.mul_le_mul_right _ hc) hq
      refine ⟨⟨c * q, e, by rw [hp]; exact h1, by rw [hp, hx]; omega, by rw [Int.natAbs_natCast, Nat.mul_assoc]⟩, ?_⟩
      rw [Int.natAbs_natCast, ← Nat.mul_assoc]
      have h2 := Nat.mul_le_mul (Nat.le_of_lt h1) (Nat.pow_le_pow_right (show 0 < 2 by decide) he)
      rw [← Nat.pow_add] at h2
      exact Nat.le_trans h2 (Nat.pow_le_pow_right (by decide) (by decide))
    have r0 : RepZ (FloatKind.f32.format) 0 := ⟨0, 0, by decide, by decide, rfl⟩
    have e1 : ((q * 2 ^ e : Nat) : Int) = ((1 * (q * 2 ^ e) : Nat) : Int) := by rw [Nat.one_mul]
    have hsq := sq_nonneg d
    have hOne : One = ((2 ^ 149 : Nat) : Int) := rfl
    obtain ⟨s, s1, s2, s3⟩ := iv_mul (k := .f32) (A := 250) (b' := 149) fmt1 (by decide) d1 d1.iv r0 (rep 1 (by decide)).1 (by rw [Int.zero_mul]; exact hsq) (by rw [Int.zero_mul]; exact hsq) (by rw [← e1, ← hOne]; exact d2) (by rw [← e1, ← hOne]; exact d2) (by decide) (rep 1 (by decide)).2 (by decide)
    rw [← e1] at s3
    have hsum : ((i * (q * 2 ^ e) : Nat) : Int) + ((q * 2 ^ e : Nat) : Int) = (((i + 1) * (q * 2 ^ e) : Nat) : Int) := by
      rw [Nat.add_mul, Nat.one_mul]; omega
    obtain ⟨w, w1, w2, w3⟩ := iv_add (k := .f32) (A := 250) fmt1 v1.iv s1.iv r0 (rep (i + 1) (by omega)).1 (by omega) (by omega) (by decide) (rep (i + 1) (by omega)).2 (by decide)
    exact ⟨w, w1, w2, w3⟩
theorem far_in {l r : List Nat} {q e k : Nat} (hk : k ≤ 60) (hq : 16 * q < 2 ^ 24) (he : e ≤ 200) (hn : 1 ≤ l.length ∧ l.length ≤ 16) (hQ : q * 2 ^ e ≤ 2 ^ (157 + k)) (hd : ∀ j, j < l.length → ∃ d, Vl .f32 (fop .sub .f32 (l.getD j 0) (r.getD j 0)) d ∧ d * d ≤ ((q * 2 ^ e : Nat) : Int) * One) : ∃ w, Vl .f32 (farW l r) w ∧ 0 ≤ w ∧ ∀ c : Nat, 1 ≤ c → c ≤ 16 → ((q * 2 ^ e : Nat) : Int) + 2 * T k ≤ (c : Int) * (c : Int) * One → w ≤ (c : Int) * One := by
  obtain ⟨v, v1, v2, v3⟩ := ssq_in hq he hn.2 hd l.length (Nat.le_refl _)
  have hO : (0 : Int) < One := by decide +kernel
  have hs := int_v (n := (l.length : Int)) (by omega) (by omega)
  have hs0 : 0 < (l.length : Int) * One := Int.mul_pos (by omega) hO
  have hvn : v.natAbs ≤ l.length * (q * 2 ^ e) := by omega
  obtain ⟨x, x1, x2, x3, x4⟩ := rquo k hk v1 hs hs0 (by
    rw [Int.natAbs_mul, Int.natAbs_natCast, One_abs, ← Nat.mul_assoc]
    refine Nat.mul_le_mul_right _ (Nat.le_trans hvn ?_)
    rw [Nat.mul_comm]
    exact Nat.mul_le_mul_right _ hQ)
  have x4 := x4 v2
  have hxn : (x - 2 * T k) * (l.length : Int) ≤ v := by
    have e1 : (x - 2 * T k) * ((l.length : Int) * One) = (x - 2 * T k) * (l.length : Int) * One := (Int.mul_assoc _ _ _).symm
    rw [e1] at x2
    exact Int.le_of_mul_le_mul_right x2 hO
  have hxQ : x ≤ ((q * 2 ^ e : Nat) : Int) + 2 * T k := by
    have h1 : (x - 2 * T k) * (l.length : Int) ≤ ((q * 2 ^ e : Nat) : Int) * (l.length : Int) := by
      refine Int.le_trans hxn (Int.le_trans v3 ?_)
      rw [Nat.mul_comm, Int.natCast_mul]; exact Int.le_refl _
    have := Int.le_of_mul_le_mul_right h1 (by omega)
    omega
  obtain ⟨w, w1, w2, w3⟩ := rt_num x1 x4 (by
    have h1 : q * 2 ^ e ≤ 2 ^ 224 := by
      have h2 := Nat.mul_le_mul (show q ≤ 2 ^ 24 by omega) (Nat.pow_le_pow_right (show 0 < 2 by decide) he)
      rw [← Nat.pow_add] at h2
      exact h2
    have h3 : T k ≤ ((2 ^ 195 : Nat) : Int) := by
      unfold T
      exact Int.ofNat_le.2 (Nat.pow_le_pow_right (by decide) (by omega))
    have h4 : x ≤ ((2 ^ 224 : Nat) : Int) + 2 * ((2 ^ 195 : Nat) : Int) := by
      have := Int.ofNat_le.2 h1
      omega
    have h5 : ((2 ^ 224 : Nat) : Int) + 2 * ((2 ^ 195 : Nat) : Int) ≤ ((2 ^ 270 : Nat) : Int) := by decide +kernel
    have h6 : ((x.natAbs : Nat) : Int) ≤ ((2 ^ 270 : Nat) : Int) := by omega
    exact Int.ofNat_le.1 h6)
  exact ⟨w, w1, w2, fun c hc1 hc2 hc => w3 c hc1 hc2 (by omega)⟩
theorem sq_le {d c : Int} (h1 : -c ≤ d) (h2 : d ≤ c) : d * d ≤ c * c := by
  rcases Int.le_total 0 d with h | h
  · exact Int.mul_le_mul h2 h2 h (by omega)
  · have := Int.mul_le_mul (show -d ≤ c by omega) (show -d ≤ c by omega) (by omega) (by omega)
    rw [Int.neg_mul_neg] at this; exact this
theorem big_sq : (2048 * One) * (2048 * One) ≤ ((1 * 2 ^ 171 : Nat) : Int) * One := by decide +kernel
theorem far_fin {l r : List Nat} (hn : 1 ≤ l.length ∧ l.length ≤ 16) (h : ∀ j, j < l.length → In (l.getD j 0) (8 * One) ∧ In (r.getD j 0) (1500 * One)) : pFin (farW l r) = true ∧ ∃ w, Vl .f32 (farW l r) w ∧ 0 ≤ w := by
  have hT := T_pos 0
  have hO := One_T
  have h3 := T3_T
  obtain ⟨w, w1, w2, _⟩ := far_in (l := l) (r := r) (q := 1) (e := 171) (k := 14) (by decide) (by decide) (by decide) hn (by decide) (fun j hj => by
    obtain ⟨a, b⟩ := h j hj
    have a2 := a.2
    have b2 := b.2
    obtain ⟨d, d1, d2, d3⟩ := rsub 3 (by decide) a.1 b.1 (by omega) (by omega)
    exact ⟨d, d1, Int.le_trans (sq_le (c := 2048 * One) (by omega) (by omega)) big_sq⟩)
  exact ⟨vl_fin w1, w, w1, w2⟩
theorem unit_sq : ((2 ^ 144 : Nat) : Int) * ((2 ^ 144 : Nat) : Int) = ((2 ^ 139 : Nat) : Int) * One := by decide +kernel
theorem T0_139 : 16 * T 0 = ((2 ^ 139 : Nat) : Int) := by decide +kernel
theorem One_139 : One = 1024 * ((2 ^ 139 : Nat) : Int) := by decide +kernel
theorem T0_144 : 512 * T 0 = ((2 ^ 144 : Nat) : Int) := by decide +kernel
theorem far_near {l r : List Nat} {k : Nat} (hk : 1 ≤ k ∧ k ≤ 16) (hn : 1 ≤ l.length ∧ l.length ≤ 16) (h : ∀ j, j < l.length → In (l.getD j 0) (8 * One) ∧ Vl .f32 (r.getD j 0) (vv (r.getD j 0)) ∧ -(14 * stV k + 1376 * T 0) ≤ 2 * vv (r.getD j 0) - 2 * vv (l.getD j 0) ∧ 2 * vv (r.getD j 0) - 2 * vv (l.getD j 0) ≤ 14 * stV k + 1376 * T 0) : ∃ w, Vl .f32 (farW l r) w ∧ w ≤ (k : Int) * One := by
  have hT := T_pos 0
  have hO := One_T
  have eV : stV k = 2048 * ((k : Int) * T 0) := by unfold stV; exact Int.mul_left_comm _ _ _
  have hkT : (k : Int) * T 0 ≤ 16 * T 0 := Int.mul_le_mul_of_nonneg_right (by omega) (Int.le_of_lt hT)
  have hkT1 : T 0 ≤ (k : Int) * T 0 := by
    have := Int.mul_le_mul_of_nonneg_right (show (1 : Int) ≤ (k : Int) by omega) (Int.le_of_lt hT)
    omega
  obtain ⟨w, w1, w2, w3⟩ := far_in (l := l) (r := r) (q := (32 * k - 1) * (32 * k - 1)) (e := 139) (k := 0) (by decide) (by
    have := Nat.mul_le_mul (show 32 * k - 1 ≤ 511 by omega) (show 32 * k - 1 ≤ 511 by omega)
    omega) (by decide) hn (by
    have := Nat.mul_le_mul (show 32 * k - 1 ≤ 511 by omega) (show 32 * k - 1 ≤ 511 by omega)
    have := Nat.mul_le_mul_right (2 ^ 139) this
    exact Nat.le_trans this (by decide)) (fun j hj => by
    obtain ⟨a, b0, b1, b2⟩ := h j hj
    have a2 := a.2
    obtain ⟨d, d1, d2, d3⟩ := rsub 0 (by decide) a.1 b0 (by omega) (by omega)
    refine ⟨d, d1, Int.le_trans (sq_le (c := ((32 * k - 1 : Nat) : Int) * ((2 ^ 144 : Nat) : Int)) ?_ ?_) (Int.le_of_eq ?_)⟩
    · have e1 : ((32 * k - 1 : Nat) : Int) * ((2 ^ 144 : Nat) : Int) = 16384 * ((k : Int) * T 0) - 512 * T 0 := by
        rw [show ((32 * k - 1 : Nat) : Int) = 32 * (k : Int) - 1 by omega, Int.sub_mul, Int.one_mul, ← T0_144, Int.mul_assoc, Int.mul_left_comm (k : Int) 512]; omega
      rw [e1]; omega
    · have e1 : ((32 * k - 1 : Nat) : Int) * ((2 ^ 144 : Nat) : Int) = 16384 * ((k : Int) * T 0) - 512 * T 0 := by
        rw [show ((32 * k - 1 : Nat) : Int) = 32 * (k : Int) - 1 by omega, Int.sub_mul, Int.one_mul, ← T0_144, Int.mul_assoc, Int.mul_left_comm (k : Int) 512]; omega
      rw [e1]; omega
    · rw [Int.natCast_mul, Int.natCast_mul, Int.mul_assoc (((32 * k - 1 : Nat) : Int) * ((32 * k - 1 : Nat) : Int)), ← unit_sq]
      ac_rfl)
  refine ⟨w, w1, w3 k hk.1 hk.2 ?_⟩
  rw [Int.natCast_mul]
  have e2 : (k : Int) * (k : Int) * One = (1024 * ((k : Int) * (k : Int))) * ((2 ^ 139 : Nat) : Int) := by
    rw [One_139, ← Int.mul_assoc, Int.mul_comm ((k : Int) * (k : Int)) 1024]
  have e3 : 2 * T 0 ≤ 1 * ((2 ^ 139 : Nat) : Int) := by have := T0_139; omega
  rw [e2]
  have e4 : (((32 * k - 1) * (32 * k - 1) : Nat) : Int) + 1 ≤ 1024 * ((k : Int) * (k : Int)) := by
    rw [Int.natCast_mul, show ((32 * k - 1 : Nat) : Int) = 32 * (k : Int) - 1 by omega]
    have : (32 * (k : Int) - 1) * (32 * (k : Int) - 1) = 1024 * ((k : Int) * (k : Int)) - 64 * (k : Int) + 1 := by
      rw [Int.sub_mul, Int.mul_sub, Int.one_mul, Int.mul_one, Int.mul_assoc, Int.mul_left_comm (k : Int) 32]; omega
    rw [this]; omega
  have := Int.mul_le_mul_of_nonneg_right e4 (show (0 : Int) ≤ ((2 ^ 139 : Nat) : Int) from Int.natCast_nonneg _)
  rw [Int.add_mul] at this
  omega
/-! ### what is flattened is cut again -/
theorem flF_app {d : List (List Nat)} : ∀ m o, flF d m o = o ++ flF d m []
  | 0, o => by rw [flF, flF, List.append_nil]
  | m + 1, o => by
    rw [flF, flF_app m, flF, flF_app m ([] ++ d.getD m ([] : List Nat)), List.nil_append, List.append_assoc]
theorem flF_pre {d : List (List Nat)} : ∀ k j, j + k = d.length → ∃ P, flL' d = flF d j P ∧ (P.length : Int) = sumTo (szL d) d.length - sumTo (szL d) j
  | 0, j, h => ⟨[], by unfold flL'; rw [show j = d.length by omega], by rw [show j = d.length by omega, Int.sub_self]; rfl⟩
  | k + 1, j, h => by
    obtain ⟨P, h1, h2⟩ := flF_pre (d := d) k (j + 1) (by omega)
    refine ⟨P ++ d.getD j ([] : List Nat), by rw [h1, flF], ?_⟩
    rw [sumTo, szL_at (by omega)] at h2
    rw [List.length_append]; omega
theorem cutB_flat {d : List (List Nat)} {n : Nat} (h : Bds d n) {k : Nat} (hk : k < d.length) : cutB (flL' d) (szL d) k = d.getD k ([] : List Nat) := by
  obtain ⟨P, h1, h2⟩ := flF_pre (d := d) (d.length - (k + 1)) (k + 1) (by omega)
  have h3 := h.z.off (k := k) (by rw [szL_len]; exact hk)
  have h4 := h.z.s
  rw [szL_len] at h4
  have hoff : offN (szL d) k = P.length := by omega
  have hsz := szL_at hk
  unfold cutB
  rw [hoff, h1, flF, flF_app, List.append_assoc, List.drop_left' rfl, hsz, nn, List.take_left' rfl]
theorem cut_flat {d : List (List Nat)} {n : Nat} (h : Bds d n) (g : Nat → Nat) : cutL ((flL' d).map g) (szL d) = d.map (List.map g) := by
  refine List.ext_getElem (by rw [cutL_len, szL_len, List.length_map]) fun i h1 h2 => ?_
  have hi : i < d.length := by rw [List.length_map] at h2; exact h2
  have e1 := cutL_at (l := (flL' d).map g) (S := szL d) (k := i) (by rw [szL_len]; exact hi)
  rw [gD h1] at e1
  rw [e1, List.getElem_map]
  have e2 := cutB_flat h hi
  rw [gD hi] at e2
  rw [← e2]
  unfold cutB
  rw [← List.map_drop, ← List.map_take]
theorem flF_mem {d : List (List Nat)} {x : Nat} : ∀ m o, x ∈ flF d m o → x ∈ o ∨ ∃ i, i < m ∧ x ∈ d.getD i ([] : List Nat)
  | 0, o, h => .inl h
  | m + 1, o, h => by
    rw [flF] at h
    rcases flF_mem m _ h with h | ⟨i, h1, h2⟩
    · rcases List.mem_append.1 h with h | h
      · exact .inl h
      · exact .inr ⟨m, by omega, h⟩
    · exact .inr ⟨i, by omega, h2⟩
theorem bandsI_len : ∀ (r : Nat) (n : Int), (bandsI r n).length ≤ r + 1
  | 0, n => by simp [bandsI]
  | r + 1, n => by
    rw [bandsI]
    split
    · rw [List.length_cons]; have := bandsI_len r ((n + 1) / 2); omega
    · simp
/-! ### bits grow -/
theorem plane_len (l : List Int) (k : Nat) : l.length ≤ (planeC l k).length := by
  unfold planeC
  induction l with
  | nil => simp
  | cons a l ih =>
    have : 1 ≤ (oneC a k).length := by unfold oneC; split <;> (try split) <;> simp
    rw [List.flatMap_cons, List.length_append, List.length_cons]; omega
theorem code_low (l : List Int) (p : Nat) : ∀ j, codeC l p (j + 1) = codeC l (p + 1) j ++ planeC l p
  | 0 => by simp [codeC]
  | j + 1 => by
    rw [codeC, code_low l p j, codeC, List.append_assoc, show p + (j + 1) = p + 1 + j by omega]
theorem code_grows {l : List Int} (hl : 1 ≤ l.length) (p j : Nat) : (codeC l (p + 1) j).length < (codeC l p (j + 1)).length := by
  have := plane_len l p
  rw [code_low, List.length_append]; omega
/-! ### the table in closed form -/
theorem tbl_run {ws : List Nat} {sc : Nat} {l : List Nat} {cd : List Int} {lv st n : Nat} {rr : Nat → List Nat} (h : ∀ m, m ≤ n → backF ws sc cd lv st m = some (rr m) ∧ pFin (farW l (rr m)) = true) : ∀ m, m ≤ n + 1 → tblF ws sc l cd lv st n m ((List.range (n + 1 - m)).map fun j => ((codeC cd (n - j) j).length : Int)) ((List.range (n + 1 - m)).map fun j => farW l (rr (n - j))) = some ((List.range (n + 1)).map fun j => ((codeC cd (n - j) j).length : Int), (List.range (n + 1)).map fun j => farW l (rr (n - j)))
  | 0, _ => rfl
  | m + 1, hm => by
    obtain ⟨h1, h2⟩ := h m (by omega)
    have ih := tbl_run h m (by omega)
    rw [tblF, h1]
    dsimp only
    rw [if_pos h2]
    rw [show n + 1 - m = (n + 1 - (m + 1)) + 1 by omega, List.range_succ, List.map_append, List.map_append] at ih
    have e : n - (n + 1 - (m + 1)) = m := by omega
    rw [List.map_cons, List.map_nil, List.map_cons, List.map_nil, e, show n + 1 - (m + 1) = n - m by omega] at ih
    rw [show n + 1 - (m + 1) = n - m by omega]
    exact ih
theorem ri_at {n i : Nat} {f : Nat → Int} (h : i < n) : ((List.range n).map f).getD i 0 = f i := by
  rw [gD (by simpa using h)]; simp
theorem wsL_ok : isSch wsL w1c = true := by decide +kernel
theorem rate_ok {l : List Nat} {k lv : Nat} (hl : InL l (8 * One)) (h1 : 1 ≤ l.length ∧ l.length ≤ 12) (hk : 1 ≤ k ∧ k ≤ 16) (hv : 1 ≤ lv ∧ lv ≤ 4) : ∃ n b ms, rateF wsL w1c l (lv : Int) (stW k) = some (b, ms) ∧ b.length = n + 1 ∧ ms.length = n + 1 ∧ n ≤ 20 ∧ b.getD 0 0 = 0 ∧ (∀ i, i < n → b.getD i 0 < b.getD (i + 1) 0) ∧ (∀ i, i < n + 1 → ∃ w, Vl .f32 (ms.getD i 0) w ∧ 0 ≤ w) ∧ ∃ w, Vl .f32 (ms.getD n 0) w ∧ w ≤ (k : Int) * One := by
  have hT := T_pos 0
  have hO := One_T
  have h3 := T3_T
  have hisl : isL l = true := isL_of (by omega) (inl_fin hl)
  have hmb : InL l (Mb lv) := by
    have e : 8 * One ≤ Mb lv := by
      have : lv = 1 ∨ lv = 2 ∨ lv = 3 ∨ lv = 4 := by omega
      rcases this with rfl | rfl | rfl | rfl <;> simp only [Mb] <;> omega
    exact fun j hj => ⟨(hl j hj).1, by have := (hl j hj).2; omega, by have := (hl j hj).2; omega⟩
  obtain ⟨t, t1, t2, t3, t4⟩ := deep_near lv l hv.2 hmb (by omega)
  have hdp : dpL wsL w1c l (lv : Int) = some t := by
    unfold dpL
    rw [if_pos ⟨wsL_ok, hisl, by omega⟩, nn, t1]; rfl
  obtain ⟨_, hb⟩ := dp_bds hdp
  obtain ⟨t', e1, e2, _⟩ := dpF_is lv l [] t hisl (by rw [t1]; rfl)
  rw [List.nil_append] at e1
  subst e1
  have htl : t.length ≤ 5 := by
    have := bandsI_len lv (l.length : Int)
    rw [← e2, szL_len] at this; omega
  have hfl := flL'_len hb
  -- the coefficients
  have hmem : ∀ x ∈ flL' t, In x (144 * One) := by
    intro x hx
    rcases flF_mem _ _ hx with h | ⟨i, hi, h⟩
    · cases h
    · obtain ⟨j, hj, rfl⟩ := List.getElem_of_mem h
      have := t3 i hi j hj
      rw [gD hj] at this
      exact this
  have hco : ∀ x, In x (144 * One) → okM (qW x k) = true ∧ (-1200 ≤ cW x k ∧ cW x k ≤ 1200) ∧ ∀ p, ∃ v, Vl .f32 (tvW p k x) v ∧ (-(146 * One) ≤ v ∧ v ≤ 146 * One) ∧ (p = 0 → -(stV k + 64 * T 0) ≤ v - vv x ∧ v - vv x ≤ stV k + 64 * T 0) := fun x hx => coef hx.1 hx.2 hk.1 hk.2
  have hov := (st_v hk.1 hk.2).2
  have hfin : pAll (flL' t) = true := by
    unfold pAll
    rw [List.all_eq_true]
    exact fun x hx => vl_fin (hmem x hx).1
  have hslo : slOk (flL' t) (stW k) = true := by
    unfold slOk
    rw [isL_of (by omega) hfin, hov, Bool.true_and, Bool.true_and, List.all_eq_true]
    exact fun x hx => (hco x (hmem x hx)).1
  have hcd : slL (flL' t) (stW k) = (flL' t).map fun x => cW x k := rfl
  have hcl : (slL (flL' t) (stW k)).length = l.length := by rw [hcd, List.length_map, hfl]
  have hcs : ∀ n ∈ slL (flL' t) (stW k), -1200 ≤ n ∧ n ≤ 1200 := by
    intro n hn
    rw [hcd] at hn
    obtain ⟨x, hx, rfl⟩ := List.mem_map.1 hn
    exact (hco x (hmem x hx)).2.1
  obtain ⟨n0, hn0⟩ := top_ex (slL (flL' t) (stW k))
  have hex : ∃ n, IsTop (slL (flL' t) (stW k)) n := ⟨n0, hn0⟩
  have htop := Classical.choose_spec hex
  have hn20 := top_le (fun x hx => ⟨by have := hcs x hx; omega, by have := hcs x hx; omega⟩) htop
  have hrate : rateF wsL w1c l (lv : Int) (stW k) = tblF wsL w1c l (slL (flL' t) (stW k)) lv (stW k) (Classical.choose hex) (Classical.choose hex + 1) [] [] := by
    unfold rateF
    rw [hdp]
    dsimp only
    rw [if_pos hslo, dif_pos hex, nn]
  generalize Classical.choose hex = n at *
  -- what planes tell
  have htold : ∀ p, told (slL (flL' t) (stW k)) (stW k) p = (flL' t).map (tvW p k) := by
    intro p
    unfold told
    rw [hcd, List.map_map, List.map_map]; rfl
  have htok : ∀ p, toldOk (slL (flL' t) (stW k)) (stW k) p = true := by
    intro p
    unfold toldOk losOk
    have g1 : isI ((slL (flL' t) (stW k)).map (abvF p)) = true := by
      unfold isI bnd
      rw [List.length_map, hcl, decide_eq_true (by omega), Bool.true_and, List.all_eq_true]
      intro y hy
      obtain ⟨x, hx, rfl⟩ := List.mem_map.1 hy
      have := hcs x hx
      have := (abv_le p x).1
      exact decide_eq_true (by omega)
    have g2 : pAll (((slL (flL' t) (stW k)).map (abvF p)).map fun n => unsc n (stW k) (cz .f32 1056964608)) = true := by
      have := htold p
      unfold told at this
      rw [this]
      unfold pAll
      rw [List.all_eq_true]
      intro y hy
      obtain ⟨x, hx, rfl⟩ := List.mem_map.1 hy
      obtain ⟨v, v1, _⟩ := (hco x (hmem x hx)).2.2 p
      exact vl_fin v1
    have g3 : isShare (cz .f32 1056964608) = true := by decide +kernel
    rw [g1, hov, g3, g2]; rfl
  have hback : ∀ p, backF wsL w1c (slL (flL' t) (stW k)) lv (stW k) p = udL wsL w1c (t.map (List.map (tvW p k))) := by
    intro p
    unfold backF
    rw [if_pos (htok p), htold p, List.length_map, hfl, ← e2, cut_flat hb]
  have hbm : ∀ g : Nat → Nat, Bds (t.map (List.map g)) l.length → True := fun _ _ => trivial
  have hszm : ∀ p, szL (t.map (List.map (tvW p k))) = szL t := by
    intro p
    unfold szL
    rw [List.map_map]
    refine List.map_congr_left fun y _ => ?_
    show (((y.map (tvW p k)).length : Nat) : Int) = _
    rw [List.length_map]
  have hgd : ∀ p i, i < t.length → (t.map (List.map (tvW p k))).getD i ([] : List Nat) = (t.getD i ([] : List Nat)).map (tvW p k) := by
    intro p i hi
    rw [gD (by rw [List.length_map]; exact hi), gD hi, List.getElem_map]
  have hin : ∀ p i, i < t.length → InL ((t.map (List.map (tvW p k))).getD i ([] : List Nat)) (146 * One) := by
    intro p i hi j hj
    rw [hgd p i hi] at hj ⊢
    rw [List.length_map] at hj
    rw [mp_at hj]
    obtain ⟨v, v1, v2, _⟩ := (hco _ (t3 i hi j hj)).2.2 p
    exact in_mk v1 v2.1 v2.2
  have hall : ∀ p, ∃ r, backF wsL w1c (slL (flL' t) (stW k)) lv (stW k) p = some r ∧ r.length = l.length ∧ InL r (1500 * One) := by
    intro p
    have hlm : (t.map (List.map (tvW p k))).length = t.length := List.length_map ..
    have hlast := bds_last hb
    have hz : szF (szL (t.map (List.map (tvW p k)))) (t.length - 1) (((t.map (List.map (tvW p k))).getD (t.length - 1) ([] : List Nat)).length : Int) = true := by
      rw [hszm, hgd p _ (by omega), List.length_map]; exact hlast
    obtain ⟨r, r1, r2⟩ := ud_fin (d := t.map (List.map (tvW p k))) (H := 146 * One) (by omega) (fun i hi => hin p i (by omega)) (t.length - 1) _ (146 * One) (by omega) hz (hin p _ (by omega)) (by omega) (by
      have : 2 * (146 * One) * ((t.length - 1 : Nat) : Int) ≤ 2 * (146 * One) * 4 := Int.mul_le_mul_of_nonneg_left (by omega) (by omega)
      omega)
    have hr : backF wsL w1c (slL (flL' t) (stW k)) lv (stW k) p = some r := by
      rw [hback p]
      unfold udL
      rw [hlm]; exact r1
    have hrl := backF_len (by omega) (by omega) hr
    refine ⟨r, hr, by omega, fun j hj => ?_⟩
    have hx := r2 j hj
    have : 2 * (146 * One) * ((t.length - 1 : Nat) : Int) ≤ 2 * (146 * One) * 4 := Int.mul_le_mul_of_nonneg_left (by omega) (by omega)
    exact ⟨hx.1, by have := hx.2.1; omega, by have := hx.2.2; omega⟩
  have hrr : ∀ p, backF wsL w1c (slL (flL' t) (stW k)) lv (stW k) p = some (Classical.choose (hall p)) := fun p => (Classical.choose_spec (hall p)).1
  have hrp : ∀ p, (Classical.choose (hall p)).length = l.length ∧ InL (Classical.choose (hall p)) (1500 * One) := fun p => (Classical.choose_spec (hall p)).2
  generalize hrrd : (fun p => Classical.choose (hall p)) = rr at *
  have hrr : ∀ p, backF wsL w1c (slL (flL' t) (stW k)) lv (stW k) p = some (rr p) := fun p => by rw [← hrrd]; exact hrr p
  have hrp : ∀ p, (rr p).length = l.length ∧ InL (rr p) (1500 * One) := fun p => by rw [← hrrd]; exact hrp p
  have hff : ∀ p, pFin (farW l (rr p)) = true ∧ ∃ w, Vl .f32 (farW l (rr p)) w ∧ 0 ≤ w := fun p => far_fin (by omega) fun j hj => ⟨hl j hj, (hrp p).2 j (by rw [(hrp p).1]; exact hj)⟩
  have hrun := tbl_run (ws := wsL) (sc := w1c) (l := l) (cd := slL (flL' t) (stW k)) (lv := lv) (st := stW k) (n := n) (rr := rr) (fun m _ => ⟨hrr m, (hff m).1⟩) (n + 1) (Nat.le_refl _)
  rw [Nat.sub_self] at hrun
  refine ⟨n, _, _, by rw [hrate]; exact hrun, by simp, by simp, hn20, ?_, fun i hi => ?_, fun i hi => ?_, ?_⟩
  · rw [ri_at (by omega)]; rfl
  · rw [ri_at (by omega), ri_at (by omega)]
    have := code_grows (l := slL (flL' t) (stW k)) (by omega) (n - (i + 1)) i
    rw [show n - (i + 1) + 1 = n - i by omega] at this
    omega
  · rw [rg_at hi]
    exact (hff (n - i)).2
  · rw [rg_at (by omega), Nat.sub_self]
    have eV : stV k = 2048 * ((k : Int) * T 0) := by unfold stV; exact Int.mul_left_comm _ _ _
    have hkT : (k : Int) * T 0 ≤ 16 * T 0 := Int.mul_le_mul_of_nonneg_right (by omega) (Int.le_of_lt hT)
    have hkT1 : 0 ≤ (k : Int) * T 0 := Int.mul_nonneg (by omega) (Int.le_of_lt hT)
    obtain ⟨b, b1, b2, b3⟩ := t4 (tvW 0 k) (stV k + 64 * T 0) (by omega) (by omega) (fun x hx => by
      obtain ⟨v, v1, _, v3⟩ := (hco x hx).2.2 0
      have v3 := v3 rfl
      have := vv_of v1
      exact ⟨by rw [this]; exact v1, by omega, by omega⟩)
    have hb0 := hrr 0
    rw [hback 0, b1] at hb0
    have hb0 := Option.some.inj hb0
    rw [← hb0]
    have hA := (AE_le (f := lv) hv.2 (C := stV k + 64 * T 0) (by omega)).2.1
    exact far_near hk (by omega) fun j hj => ⟨hl j hj, (b3 j hj).1, by have := (b3 j hj).2; omega, by have := (b3 j hj).2; omega⟩
/-! ### what is drawn -/
/-- A list of quarters. -/
def Qrt (l : List Nat) : Prop := ∀ j, j < l.length → ∃ w, w < 65 ∧ l.getD j 0 = xL.getD w 0
theorem x_of {w : Int} (h1 : 0 ≤ w) (h2 : w < 65) : fop .quo .f32 (itof .f32 (w - 32)) (cz .f32 1082130432) = xL.getD w.toNat 0 := by
  have h := x_lit w.toNat (by omega)
  rw [Bool.and_eq_true, decide_eq_true_eq, show (w.toNat : Int) = w by omega] at h
  exact h.1
theorem qrt_in {l : List Nat} (h : Qrt l) : InL l (8 * One) := by
  have hT := T_pos 0
  have hO := One_T
  intro j hj
  obtain ⟨w, h1, h2⟩ := h j hj
  have h3 := x_lit w h1
  rw [Bool.and_eq_true] at h3
  rw [h2]
  have h4 : -(32 * (4096 * T 0)) ≤ ((w : Int) - 32) * (4096 * T 0) ∧ ((w : Int) - 32) * (4096 * T 0) ≤ 32 * (4096 * T 0) := by
    rw [← Int.neg_mul]
    exact ⟨Int.mul_le_mul_of_nonneg_right (by omega) (by omega), Int.mul_le_mul_of_nonneg_right (by omega) (by omega)⟩
  exact in_mk (vl_of h3.2) (by omega) (by omega)
theorem spec_l02DrawOk_wp {l : List Int} {K : List Nat → Int → Int → Prop} (hl : Byt l) (h : ∀ (o : List Nat) (b t : Int), (1 ≤ o.length ∧ o.length ≤ 12) → Qrt o → K o b t) : spec_l02DrawOk.wp l 0 0 K := by
  refine spec_pick_wp hl (by omega) (by omega) fun v b t hv hb => ?_
  intro X hX
  have key : ∀ (m : Nat) (o : List Nat) (b t : Int), (o.length : Int) + m = 1 + v → 0 ≤ b ∧ b ≤ 2 + 2 * o.length → Qrt o → X o b t (m : Int) := by
    intro m
    induction m with
    | zero =>
      intro o b t h1 h2 h3
      exact hX _ _ _ _ ⟨fun c => absurd c (by decide), fun _ => h o b t (by omega) h3⟩
    | succ m ih =>
      intro o b t h1 h2 h3
      refine hX _ _ _ _ ⟨fun _ => spec_pick_wp hl (by omega) (by omega) fun w b' t' hw hb' => ⟨?_, ?_⟩, fun c => absurd (show (0 : Int) < ((m + 1 : Nat) : Int) by omega) c⟩
      · rw [len1]; omega
      · rw [wI (n := w - 32) (by omega), show IntKind.i64.wrap (((m + 1 : Nat) : Int) - 1) = (m : Int) by rw [wI (by omega)]; omega, x_of hw.1 hw.2]
        refine ih _ _ _ (by rw [List.length_append, len1]; omega) (by rw [List.length_append, len1]; omega) fun j hj => ?_
        rw [List.length_append, len1] at hj
        by_cases e : j < o.length
        · rw [ga1 e]; exact h3 j e
        · rw [show j = o.length by omega, ga2]
          exact ⟨w.toNat, by omega, rfl⟩
  rw [show IntKind.i64.wrap (1 + v) = ((1 + v.toNat : Nat) : Int) by rw [wI (by omega)]; omega]
  exact key _ [] _ _ (by simp; omega) (by simp; omega) (fun j hj => by simp at hj)
theorem spec_R8List_wp {l : List Int} {K : List Nat → Prop} (hl : Byt l) (h : ∀ o : List Nat, (1 ≤ o.length ∧ o.length ≤ 12) → Qrt o → K o) : spec_R8List.wp l K :=
  ⟨fun _ => spec_l02DrawOk_wp hl fun o _ _ h1 h2 => h o h1 h2, fun c => (by cases c)⟩
/-- What has been drawn of a table. -/
structure Tp (bx : List Int) (my qs : List Nat) (n : Nat) (at_ : Int) : Prop where
  len : bx.length = n ∧ my.length = n ∧ qs.length = n
  q : ∀ i, i < n → qs.getD i 0 < 33 ∧ my.getD i 0 = yL.getD (qs.getD i 0) 0
  x : ∀ i, i < n → 0 ≤ bx.getD i 0 ∧ bx.getD i 0 < at_ ∧ bx.getD i 0 ≤ 3 + 6 * (i : Int)
  d : ∀ i j, i < j → j < n → bx.getD i 0 < bx.getD j 0
  a : 0 ≤ at_ ∧ at_ ≤ 3 + 6 * (n : Int)
theorem y_of {q : Int} (h1 : 0 ≤ q) (h2 : q < 33) : fop .quo .f32 (itof .f32 q) (cz .f32 1082130432) = yL.getD q.toNat 0 := by
  have h := y_lit q.toNat (by omega)
  rw [Bool.and_eq_true, decide_eq_true_eq] at h
  have := h.1
  unfold yW at this
  rw [show (q.toNat : Int) = q by omega] at this
  exact this
theorem spec_R8Table_wp {l : List Int} {K : List Int → List Nat → Prop} (hl : Byt l) (h : ∀ bx my qs, Tab bx my qs → K bx my) : spec_R8Table.wp l K := by
  refine ⟨fun _ => ?_, fun c => (by cases c)⟩
  refine spec_pick_wp hl (by omega) (by omega) fun at0 b0 t0 hat hb0 => spec_pick_wp hl (by omega) (by omega) fun v b t hv hb => ?_
  intro X hX
  have key : ∀ (m : Nat) (bx : List Int) (my qs : List Nat) (b t at_ : Int), (bx.length : Int) + m = 1 + v → 0 ≤ b ∧ b ≤ 4 + 4 * bx.length → Tp bx my qs bx.length at_ → X my bx b t at_ (m : Int) := by
    intro m
    induction m with
    | zero =>
      intro bx my qs b t at_ h1 h2 h3
      refine hX _ _ _ _ _ _ ⟨fun c => absurd c (by decide), fun _ => h bx my qs ⟨by omega, by have := h3.len; omega, h3.q, fun i hi => ?_, h3.d⟩⟩
      have hx := h3.x i hi
      omega
    | succ m ih =>
      intro bx my qs b t at_ h1 h2 h3
      have hn := h3.len
      have ha := h3.a
      refine hX _ _ _ _ _ _ ⟨fun _ => ⟨by rw [len1]; omega, spec_pick_wp hl (by omega) (by omega) fun q b1 t1 hq hb1 => ⟨by rw [len1]; omega, spec_pick_wp hl (by omega) (by omega) fun w b2 t2 hw hb2 => ?_⟩⟩, fun c => absurd (show (0 : Int) < ((m + 1 : Nat) : Int) by omega) c⟩
      rw [wI (n := 1 + w) (by omega), wI (n := at_ + (1 + w)) (by omega), show IntKind.i64.wrap (((m + 1 : Nat) : Int) - 1) = (m : Int) by rw [wI (by omega)]; omega, y_of hq.1 hq.2]
      have hlen : (bx ++ [at_]).length = bx.length + 1 := by rw [List.length_append, len1]
      refine ih (bx ++ [at_]) (my ++ [yL.getD q.toNat 0]) (qs ++ [q.toNat]) _ _ _ (by rw [hlen]; omega) (by rw [hlen]; omega) ?_
      rw [hlen]
      refine ⟨⟨by omega, by rw [List.length_append, len1]; omega, by rw [List.length_append, len1]; omega⟩, fun i hi => ?_, fun i hi => ?_, fun i j hij hj => ?_, by omega⟩
      · by_cases e : i < bx.length
        · rw [ga1 (by omega), ga1 (by omega)]; exact h3.q i e
        · have ei : i = qs.length := by omega
          have ei2 : i = my.length := by omega
          have g1 : (qs ++ [q.toNat]).getD i 0 = q.toNat := by rw [ei, ga2]
          have g2 : (my ++ [yL.getD q.toNat 0]).getD i 0 = yL.getD q.toNat 0 := by rw [ei2, ga2]
          rw [g1, g2]; exact ⟨by omega, rfl⟩
      · by_cases e : i < bx.length
        · rw [gi1 e]; have := h3.x i e; omega
        · rw [show i = bx.length by omega, gi2]; omega
      · by_cases e : j < bx.length
        · rw [gi1 (by omega), gi1 e]; exact h3.d i j hij e
        · rw [gi1 (by omega), show j = bx.length by omega, gi2]
          exact (h3.x i (by omega)).2.1
  rw [show IntKind.i64.wrap (1 + v) = ((1 + v.toNat : Nat) : Int) by rw [wI (by omega)]; omega]
  exact key _ [] [] [] _ _ _ (by simp; omega) (by simp; omega) ⟨by simp, fun i hi => by simp at hi, fun i hi => by simp at hi, fun i j _ hj => by simp at hj, by simp; omega⟩
/-! ### the list -/
theorem st_is {k : Nat} (h1 : 1 ≤ k) (h2 : k ≤ 16) : stW k = stL.getD k 0 := by
  have h := st_lit k (by omega)
  rw [decide_eq_false (by omega), Bool.false_or, decide_eq_true_eq] at h
  exact h
theorem gap_ok {l : List Nat} (h : Qrt l) {k : Nat} (h1 : 1 ≤ k) (h2 : k ≤ 16) {j : Nat} (hj : j < l.length) : fcmp .gtr .f64 (mxF .f64 (fop .sub .f64 (widen (unsc (cW (l.getD j 0) k) (stW k) (cz .f32 1056964608))) (widen (l.getD j 0))) (fop .sub .f64 (widen (l.getD j 0)) (widen (unsc (cW (l.getD j 0) k) (stW k) (cz .f32 1056964608))))) (fop .mul .f64 (widen (stW k)) (cz .f64 4607186922399644778)) = false := by
  obtain ⟨w, hw, e⟩ := h j hj
  have hg := gap_tab hw (k := k) ⟨h1, h2⟩
  rw [← st_is h1 h2, ← e] at hg
  unfold gapB at hg
  simpa [cW, qW] using hg
theorem slo_ok {l : List Nat} (h : Qrt l) (hl : 1 ≤ l.length ∧ l.length ≤ 12) {k : Nat} (h1 : 1 ≤ k) (h2 : k ≤ 16) : slOk l (stW k) = true ∧ losOk (slL l (stW k)) (stW k) (cz .f32 1056964608) = true := by
  have hT := T_pos 0
  have hO := One_T
  have hin := qrt_in h
  have hx : ∀ x ∈ l, In x (8 * One) := fun x hx => by
    obtain ⟨j, hj, rfl⟩ := List.getElem_of_mem hx
    have := hin j hj
    rw [gD hj] at this; exact this
  have hov := (st_v h1 h2).2
  have hco := fun x (hx1 : x ∈ l) => coef (hx x hx1).1 (by have := (hx x hx1).2; omega) h1 h2
  have hcd : slL l (stW k) = l.map fun x => cW x k := rfl
  constructor
  · unfold slOk
    rw [isL_of (by omega) (inl_fin hin), hov, Bool.true_and, Bool.true_and, List.all_eq_true]
    exact fun x hx => (hco x hx).1
  · unfold losOk
    have g1 : isI (slL l (stW k)) = true := by
      unfold isI bnd
      rw [hcd, List.length_map, decide_eq_true (by omega), Bool.true_and, List.all_eq_true]
      intro y hy
      obtain ⟨x, hx, rfl⟩ := List.mem_map.1 hy
      have := (hco x hx).2.1
      exact decide_eq_true (by omega)
    have g2 : pAll ((slL l (stW k)).map fun n => unsc n (stW k) (cz .f32 1056964608)) = true := by
      unfold pAll
      rw [List.all_eq_true]
      intro y hy
      obtain ⟨n, hn, rfl⟩ := List.mem_map.1 hy
      rw [hcd] at hn
      obtain ⟨x, hx, rfl⟩ := List.mem_map.1 hn
      obtain ⟨v, v1, _⟩ := (hco x hx).2.2 0
      unfold tvW at v1
      rw [(abv_le 0 (cW x k)).2.2.2] at v1
      exact vl_fin v1
    have g3 : isShare (cz .f32 1056964608) = true := by decide +kernel
    rw [g1, hov, g3, g2]; rfl
theorem eight_v : Vl .f64 (cz .f64 4620693217682128896) (8 * P74) := vl_of (by decide +kernel)
theorem T_925 : 2048 * T 0 * (((2 ^ 925 : Nat) : Int) * 8) = P74 := by decide +kernel
theorem P74_is : P74 = ((2 ^ 1074 : Nat) : Int) := rfl
theorem le_eq {a b : Int} (h : a = b) : a ≤ b := Int.le_of_eq h
theorem last_ok {x : Nat} {w : Int} {k : Nat} (h1 : 1 ≤ k) (h2 : k ≤ 16) (hx : Vl .f32 x w) (hw : w ≤ (k : Int) * One) : fcmp .gtr .f64 (widen x) (fop .mul .f64 (cz .f64 4620693217682128896) (widen (stW k))) = false := by
  have hT := T_pos 0
  have hs := vl_widen (st_v h1 h2).1
  have hp : (FloatKind.f64.format).fractionBits = 52 := by decide
  have hxb : (FloatKind.f64.format).exponentBits = 11 := by decide
  have rep : RepZ (FloatKind.f64.format) ((k : Int) * P74) ∧ ((k : Int) * P74).natAbs ≤ 2 ^ 1500 := by
    have e : ((k : Int) * P74).natAbs = k * 2 ^ 1074 := by
      unfold P74
      rw [Int.natAbs_mul, Int.natAbs_natCast, Int.natAbs_natCast]
    refine ⟨⟨k, 1074, by rw [hp]; omega, by rw [hp, hxb]; decide, e⟩, ?_⟩
    rw [e]
    have := Nat.mul_le_mul_right (2 ^ 1074) (show k ≤ 2 ^ 5 by omega)
    rw [← Nat.pow_add] at this
    exact Nat.le_trans this (Nat.pow_le_pow_right (by decide) (by decide))
  have e8 : 8 * P74 * (stV k * ((2 ^ 925 : Nat) : Int)) = (k : Int) * P74 * ((2 ^ 1074 : Nat) : Int) := by
    have e1 : stV k * ((2 ^ 925 : Nat) : Int) * 8 = (k : Int) * P74 := by
      unfold stV
      rw [Int.mul_assoc, Int.mul_assoc, T_925]
    rw [← e1, ← P74_is]
    generalize P74 = q
    generalize ((2 ^ 925 : Nat) : Int) = c
    ac_rfl
  obtain ⟨r, r1, r2, r3⟩ := iv_mul (k := .f64) (A := 1500) (b' := 1074) fmt2 (by decide) eight_v hs.iv rep.1 rep.1 (le_eq e8.symm) (le_eq e8.symm) (le_eq e8) (le_eq e8) rep.2 rep.2 (by decide)
  rw [vl_gtr (vl_widen hx) r1]
  refine decide_eq_false ?_
  have := Int.mul_le_mul_of_nonneg_right hw (show (0 : Int) ≤ ((2 ^ 925 : Nat) : Int) from Int.natCast_nonneg _)
  rw [Int.mul_assoc, One925] at this
  unfold P74 at r2
  omega
theorem hull_part {bx : List Int} {my qs : List Nat} (ht : Tab bx my qs) {K : Bool → Prop} (hKt : K true) : impl_HullOf.wp bx my fun y172 y175 => impl_LastOfHull.wp bx my fun y177 y178 => ((y175 = true → ((y178 = true → (((y172.length : Int) < (1 : Int) → K (false)) ∧ (¬((y172.length : Int) < (1 : Int)) → (0 ≤ (0 : Int) ∧ (0 : Int) < (y172.length : Int)) ∧ (((y172.getD ((0 : Int)).toNat (0 : Int)) = (0 : Int) → (0 ≤ (IntKind.i64.wrap ((y172.length : Int) - (1 : Int))) ∧ (IntKind.i64.wrap ((y172.length : Int) - (1 : Int))) < (y172.length : Int)) ∧ (((y172.getD ((IntKind.i64.wrap ((y172.length : Int) - (1 : Int)))).toNat (0 : Int)) = y177 → ∀ X187 : Int → Prop, (∀ (k188 : Int), ((k188 < (y172.length : Int) → (0 ≤ (IntKind.i64.wrap (k188 - (1 : Int))) ∧ (IntKind.i64.wrap (k188 - (1 : Int))) < (y172.length : Int)) ∧ (0 ≤ k188 ∧ k188 < (y172.length : Int)) ∧ (((y172.getD (k188).toNat (0 : Int)) ≤ (y172.getD ((IntKind.i64.wrap (k188 - (1 : Int)))).toNat (0 : Int)) → K (false)) ∧ (¬((y172.getD (k188).toNat (0 : Int)) ≤ (y172.getD ((IntKind.i64.wrap (k188 - (1 : Int)))).toNat (0 : Int))) → (((bx.length : Int) ≤ (y172.getD (k188).toNat (0 : Int)) → K (false)) ∧ (¬((bx.length : Int) ≤ (y172.getD (k188).toNat (0 : Int))) → (0 ≤ (y172.getD (k188).toNat (0 : Int)) ∧ (y172.getD (k188).toNat (0 : Int)) < (my.length : Int)) ∧ (0 ≤ (y172.getD ((IntKind.i64.wrap (k188 - (1 : Int)))).toNat (0 : Int)) ∧ (y172.getD ((IntKind.i64.wrap (k188 - (1 : Int)))).toNat (0 : Int)) < (my.length : Int)) ∧ (((fcmp .geq .f32 (my.getD ((y172.getD (k188).toNat (0 : Int))).toNat (0 : Nat)) (my.getD ((y172.getD ((IntKind.i64.wrap (k188 - (1 : Int)))).toNat (0 : Int))).toNat (0 : Nat))) = true → K (false)) ∧ ((fcmp .geq .f32 (my.getD ((y172.getD (k188).toNat (0 : Int))).toNat (0 : Nat)) (my.getD ((y172.getD ((IntKind.i64.wrap (k188 - (1 : Int)))).toNat (0 : Int))).toNat (0 : Nat))) = false → (0 ≤ (y172.getD (k188).toNat (0 : Int)) ∧ (y172.getD (k188).toNat (0 : Int)) < (bx.length : Int)) ∧ (0 ≤ (y172.getD ((IntKind.i64.wrap (k188 - (1 : Int)))).toNat (0 : Int)) ∧ (y172.getD ((IntKind.i64.wrap (k188 - (1 : Int)))).toNat (0 : Int)) < (bx.length : Int)) ∧ ∀ X199 : Int → Prop, (∀ (i200 : Int), ((i200 < (bx.length : Int) → (0 ≤ i200 ∧ i200 < (my.length : Int)) ∧ (0 ≤ i200 ∧ i200 < (bx.length : Int)) ∧ (((fcmp .gtr .f64 (fop .quo .f64 (fop .sub .f64 (widen (my.getD ((y172.getD ((IntKind.i64.wrap (k188 - (1 : Int)))).toNat (0 : Int))).toNat (0 : Nat))) (widen (my.getD (i200).toNat (0 : Nat)))) (itof .f64 (IntKind.i64.wrap ((bx.getD (i200).toNat (0 : Int)) - (bx.getD ((y172.getD ((IntKind.i64.wrap (k188 - (1 : Int)))).toNat (0 : Int))).toNat (0 : Int)))))) (fop .add .f64 (fop .quo .f64 (fop .sub .f64 (widen (my.getD ((y172.getD ((IntKind.i64.wrap (k188 - (1 : Int)))).toNat (0 : Int))).toNat (0 : Nat))) (widen (my.getD ((y172.getD (k188).toNat (0 : Int))).toNat (0 : Nat)))) (itof .f64 (IntKind.i64.wrap ((bx.getD ((y172.getD (k188).toNat (0 : Int))).toNat (0 : Int)) - (bx.getD ((y172.getD ((IntKind.i64.wrap (k188 - (1 : Int)))).toNat (0 : Int))).toNat (0 : Int)))))) (cz .f64 4547007122018943789))) = true → K (false)) ∧ ((fcmp .gtr .f64 (fop .quo .f64 (fop .sub .f64 (widen (my.getD ((y172.getD ((IntKind.i64.wrap (k188 - (1 : Int)))).toNat (0 : Int))).toNat (0 : Nat))) (widen (my.getD (i200).toNat (0 : Nat)))) (itof .f64 (IntKind.i64.wrap ((bx.getD (i200).toNat (0 : Int)) - (bx.getD ((y172.getD ((IntKind.i64.wrap (k188 - (1 : Int)))).toNat (0 : Int))).toNat (0 : Int)))))) (fop .add .f64 (fop .quo .f64 (fop .sub .f64 (widen (my.getD ((y172.getD ((IntKind.i64.wrap (k188 - (1 : Int)))).toNat (0 : Int))).toNat (0 : Nat))) (widen (my.getD ((y172.getD (k188).toNat (0 : Int))).toNat (0 : Nat)))) (itof .f64 (IntKind.i64.wrap ((bx.getD ((y172.getD (k188).toNat (0 : Int))).toNat (0 : Int)) - (bx.getD ((y172.getD ((IntKind.i64.wrap (k188 - (1 : Int)))).toNat (0 : Int))).toNat (0 : Int)))))) (cz .f64 4547007122018943789))) = false → X199 (IntKind.i64.wrap (i200 + (1 : Int)))))) ∧ (¬(i200 < (bx.length : Int)) → X187 (IntKind.i64.wrap (k188 + (1 : Int))))) → X199 i200) → X199 (IntKind.i64.wrap ((y172.getD ((IntKind.i64.wrap (k188 - (1 : Int)))).toNat (0 : Int)) + (1 : Int)))))))))) ∧ (¬(k188 < (y172.length : Int)) → ∀ X207 : Int → Prop, (∀ (i208 : Int), ((i208 < (bx.length : Int) → (0 ≤ i208 ∧ i208 < (my.length : Int)) ∧ (0 ≤ y177 ∧ y177 < (my.length : Int)) ∧ (((fcmp .lss .f32 (my.getD (i208).toNat (0 : Nat)) (my.getD (y177).toNat (0 : Nat))) = true → K (false)) ∧ ((fcmp .lss .f32 (my.getD (i208).toNat (0 : Nat)) (my.getD (y177).toNat (0 : Nat))) = false → X207 (IntKind.i64.wrap (i208 + (1 : Int)))))) ∧ (¬(i208 < (bx.length : Int)) → K (true))) → X207 i208) → X207 (IntKind.i64.wrap (y177 + (1 : Int))))) → X187 k188) → X187 (1 : Int)) ∧ (¬((y172.getD ((IntKind.i64.wrap ((y172.length : Int) - (1 : Int)))).toNat (0 : Int)) = y177) → K (false)))) ∧ (¬((y172.getD ((0 : Int)).toNat (0 : Int)) = (0 : Int)) → K (false)))))) ∧ (y178 = false → K (false)))) ∧ (y175 = false → K (false))) := by
  refine impl_HullOf_wp ht (impl_LastOfHull_wp ht (tT (tT ?_)))
  obtain ⟨hh, hlast, hlen⟩ := ht.hull
  have hn := ht.n
  have hm := ht.m
  generalize hullL bx qs = h at *
  have h1 := hh.a.1
  have hw1 : IntKind.i64.wrap ((h.length : Int) - 1) = ((h.length - 1 : Nat) : Int) := by rw [wI (by omega)]; omega
  rw [hw1, nn]
  refine tN (by omega) ⟨⟨by omega, by omega⟩, tP (by rw [show (0 : Int).toNat = 0 from rfl]; exact hh.a.2) ⟨⟨by omega, by omega⟩, tP rfl fun Z hZ => ?_⟩⟩
  have hlb := hh.b (h.length - 1) (by omega)
  have hyv : ∀ i, i < bx.length → Vl .f32 (my.getD i 0) ((qs.getD i 0 : Int) * (4096 * T 0)) := fun i hi => by
    obtain ⟨a1, b1⟩ := ht.q i hi
    have := y_tab _ a1
    rw [Bool.and_eq_true] at this
    rw [b1]; exact vl_of this.1
  have hT : (0 : Int) ≤ 4096 * T 0 := by have := T_pos 0; omega
  have key : ∀ m k, k + m = h.length → 1 ≤ k → Z (k : Int) := by
    intro m
    induction m with
    | zero =>
      intro k hk _
      refine hZ _ ⟨fun c => absurd c (by omega), fun _ => fun U hU => ?_⟩
      -- behind the last
      have hlb' : ((h.getD (h.length - 1) 0).toNat : Int) = h.getD (h.length - 1) 0 := by omega
      generalize hla : (h.getD (h.length - 1) 0).toNat = a at *
      rw [← hlb']
      have kin : ∀ q i, i + q = bx.length → a < i → U (i : Int) := by
        intro q
        induction q with
        | zero => intro i hi _; exact hU _ ⟨fun c => absurd c (by omega), fun _ => hKt⟩
        | succ q ihq =>
          intro i hi hai
          refine hU _ ⟨fun _ => ⟨⟨by omega, by omega⟩, ⟨by omega, by omega⟩, ?_⟩, fun c => absurd (show (i : Int) < bx.length by omega) c⟩
          have hv := hlast i hai (by omega)
          have hr := ht.rng hai (show i < bx.length by omega)
          have hsg := row_sign hr.1 hr.2 (ht.num hai (by omega))
          have hN : ¬ 0 < qN qs a i := fun c => by have := hsg.2 c; omega
          rw [nn, w1 (by omega), vl_lss (hyv i (by omega)) (hyv a (by omega))]
          refine ⟨fun c => ?_, fun _ => ihq (i + 1) (by omega) (by omega)⟩
          have c := of_decide_eq_true c
          unfold qN at hN
          have := Int.mul_le_mul_of_nonneg_right (show (qs.getD a 0 : Int) ≤ (qs.getD i 0 : Int) by omega) hT
          omega
      rw [w1 (by omega)]
      exact kin (bx.length - (a + 1)) (a + 1) (by omega) (by omega)
    | succ m ih =>
      intro k hk hk1
      have hc := hh.c (k - 1) (by omega)
      have hba := hh.b (k - 1) (by omega)
      have hbb := hh.b k (by omega)
      rw [show k - 1 + 1 = k by omega] at hc
      have hw2 : IntKind.i64.wrap ((k : Int) - 1) = ((k - 1 : Nat) : Int) := by rw [wI (by omega)]; omega
      refine hZ _ ⟨fun _ => ?_, fun c => absurd (show (k : Int) < h.length by omega) c⟩
      rw [hw2, nn, nn]
      have ea : h.getD (k - 1) 0 = ((h.getD (k - 1) 0).toNat : Int) := by omega
      have eb : h.getD k 0 = ((h.getD k 0).toNat : Int) := by omega
      generalize (h.getD (k - 1) 0).toNat = a at *
      generalize (h.getD k 0).toNat = b at *
      obtain ⟨c1, c2, c3⟩ := hc
      rw [ea, eb]
      have hb' : b < bx.length := by omega
      have hr := ht.rng c1 hb'
      have hN := (row_sign hr.1 hr.2 (ht.num c1 hb')).1 c2
      refine ⟨⟨by omega, by omega⟩, ⟨by omega, by omega⟩, tN (by omega) (tN (by omega) ⟨⟨by omega, by omega⟩, ⟨by omega, by omega⟩, ?_⟩)⟩
      rw [vl_geq (hyv b hb') (hyv a (by omega)), decide_eq_false (by
        unfold qN at hN
        have := Int.mul_le_mul_of_nonneg_right (show (qs.getD b 0 : Int) + 1 ≤ (qs.getD a 0 : Int) by omega) hT
        have hT1 := T_pos 0
        rw [Int.add_mul, Int.one_mul] at this
        omega)]
      refine tF ⟨⟨by omega, by omega⟩, ⟨by omega, by omega⟩, fun U hU => ?_⟩
      rw [ht.wq64 c1 hb'] at hU
      have kin : ∀ q i, i + q = bx.length → a < i → U (i : Int) := by
        intro q
        induction q with
        | zero =>
          intro i hi _
          refine hU _ ⟨fun c => absurd c (by omega), fun _ => ?_⟩
          rw [w1 (by omega)]
          exact ih (k + 1) (by omega) (by omega)
        | succ q ihq =>
          intro i hi hai
          have hi' : i < bx.length := by omega
          refine hU _ ⟨fun _ => ⟨⟨by omega, by omega⟩, ⟨by omega, by omega⟩, ?_⟩, fun c => absurd (show (i : Int) < bx.length by omega) c⟩
          have hri := ht.rng hai hi'
          rw [nn, ht.wq64 hai hi', w1 (by omega), row_order hri.1 hri.2 hr.1 hr.2 (ht.num hai hi') (ht.num c1 hb') (c3 i hai hi')]
          exact tF (ihq (i + 1) (by omega) (by omega))
      rw [w1 (by omega)]
      exact kin (bx.length - (a + 1)) (a + 1) (by omega) (by omega)
  exact key (h.length - 1) 1 (by omega) (by omega)
theorem impl_LinesScheme_wp {K : List Nat → Nat → Prop} (h : K wsL w1c) : impl_LinesScheme.wp K := h
theorem r8Gap_wp {a b : Nat} {K : Nat → Prop} (h : K (mxF .f64 (fop .sub .f64 a b) (fop .sub .f64 b a))) : laws_r8Gap.wp a b K := h
theorem st_def (k : Nat) : fop .quo .f32 (itof .f32 (k : Int)) (cz .f32 1090519040) = stW k := rfl
theorem endT_some {K : List Int → List Nat → Bool → Prop} {b : List Int} {ms : List Nat} : endT K (some (b, ms)) = K b ms true := rfl
-- HYPE: 0 1
theorem pureRates (l0 l1 : List Int) (hb0 : ∀ y ∈ l0, 0 ≤ y ∧ y < 256) (hb1 : ∀ y ∈ l1, 0 ≤ y ∧ y < 256) : laws_FnRates.wp l0 l1 (fun b => b = true) := by
  have hlong : ∀ {K : Bool → Prop}, (K true) → (l0.length ≤ 48 → l1.length ≤ 48 → K false) → laws_r8Long.wp l0 l1 K := by
    intro K h1 h2
    refine ⟨fun _ => h1, fun c => ?_⟩
    by_cases d : (48 : Int) < (l1.length : Int)
    · rw [decide_eq_true d]; exact h1
    · rw [decide_eq_false d]; exact h2 (by omega) (by omega)
  refine hlong (tT rfl) fun hl0 hl1 => tF ?_
  have B0 : Byt l0 := ⟨by omega, hb0⟩
  have B1 : Byt l1 := ⟨by omega, hb1⟩
  refine spec_R8List_wp B0 fun l hl hq => ?_
  refine r8At_wp B1 (by omega) (by omega) fun y hy => r8At_wp B1 (by omega) (by omega) fun z hz => ?_
  have hk1 : IntKind.i64.wrap (1 + (y : Int)) = ((1 + y : Nat) : Int) := by rw [wI (by omega)]; omega
  have hv1 : IntKind.i64.wrap (1 + (z : Int)) = ((1 + z : Nat) : Int) := by rw [wI (by omega)]; omega
  rw [hk1, hv1]
  obtain ⟨k, hk⟩ : ∃ k, k = 1 + y := ⟨_, rfl⟩
  obtain ⟨lv, hlv⟩ : ∃ k, k = 1 + z := ⟨_, rfl⟩
  rw [← hk, ← hlv]
  rw [st_def k]
  obtain ⟨s1, s2⟩ := slo_ok hq hl (k := k) (by omega) (by omega)
  have hsl : (slL l (stW k)).length = l.length := List.length_map ..
  refine (sl_wp l (stW k) (by omega)).2 _ ?_
  rw [s1, if_pos rfl]
  refine (los_wp (slL l (stW k)) (stW k) (cz .f32 1056964608) (by omega)).2 _ ?_
  rw [s2, if_pos rfl]
  have htl : ((slL l (stW k)).map fun n => unsc n (stW k) (cz .f32 1056964608)).length = l.length := by rw [List.length_map, hsl]
  refine tT (tT (tP (by omega) (tP (by omega) fun X hX => ?_)))
  refine up (Y := fun j => X (j : Int)) l.length (hX _ ⟨fun c => absurd c (by omega), fun _ => ?_⟩) fun j hj hx => hX _ ⟨fun _ => ⟨⟨by omega, by omega⟩, ⟨by omega, by omega⟩, ?_⟩, fun c => absurd (show (j : Int) < l.length by omega) c⟩
  rotate_left
  · rw [nn, w1 (by omega)]
    have e : ((slL l (stW k)).map fun n => unsc n (stW k) (cz .f32 1056964608)).getD j 0 = unsc (cW (l.getD j 0) k) (stW k) (cz .f32 1056964608) := by
      have e5 : (slL l (stW k)).getD j 0 = cW (l.getD j 0) k := by
        show (l.map fun x => cW x k).getD j 0 = _
        rw [gD (by rw [List.length_map]; exact hj), List.getElem_map, gD hj]
      have hj2 : j < (slL l (stW k)).length := by omega
      rw [gD (by omega), List.getElem_map, ← gD hj2 0, e5]
    rw [e]
    have hg := gap_ok hq (k := k) (by omega) (by omega) hj
    refine r8Gap_wp ?_
    rw [hg]
    exact tF hx
  -- the table
  obtain ⟨n, b, ms, t1, t2, t3, t4, t5, t6, t7, w, t8, t9⟩ := rate_ok (k := k) (lv := lv) (qrt_in hq) hl (by omega) (by omega)
  refine impl_LinesScheme_wp ?_
  refine impl_RateTable_wp (by decide) (by omega) ?_
  rw [t1, endT_some]
  refine tT (tN (by omega) (tP (by omega) ⟨⟨by omega, by omega⟩, tP (by rw [show (0 : Int).toNat = 0 from rfl]; exact t5) fun Y hY => ?_⟩))
  have hz0 : Vl .f32 (cz .f32 0) 0 := vl_of (by decide +kernel)
  refine up (Y := fun j => Y (j : Int)) (n + 1) (hY _ ⟨fun c => absurd c (by omega), fun _ => ?_⟩) fun j hj hx => hY _ ⟨fun _ => ⟨fun c => ?_, fun c => ?_⟩, fun c => absurd (show (j : Int) < b.length by omega) c⟩
  rotate_left
  · have h1 := t6 (j - 1) (by omega)
    rw [show j - 1 + 1 = j by omega] at h1
    obtain ⟨v, v1, v2⟩ := t7 j hj
    rw [show IntKind.i64.wrap ((j : Int) - 1) = ((j - 1 : Nat) : Int) by rw [wI (by omega)]; omega, nn, nn, w1 (by omega)]
    refine ⟨⟨by omega, by omega⟩, ⟨by omega, by omega⟩, tN (by omega) ⟨⟨by omega, by omega⟩, ?_⟩⟩
    rw [vl_lss v1 hz0, decide_eq_false (by omega)]
    exact tF hx
  · obtain ⟨v, v1, v2⟩ := t7 j hj
    rw [nn, w1 (by omega)]
    refine ⟨⟨by omega, by omega⟩, ?_⟩
    rw [vl_lss v1 hz0, decide_eq_false (by omega)]
    exact tF hx
  have hmw : IntKind.i64.wrap ((ms.length : Int) - 1) = (n : Int) := by rw [wI (by omega)]; omega
  rw [hmw, nn]
  refine ⟨⟨by omega, by omega⟩, ?_⟩
  rw [last_ok (k := k) (by omega) (by omega) t8 t9]
  refine tF ?_
  exact spec_R8Table_wp B0 fun bx my qs ht => hull_part (K := fun b => b = true) ht rfl
end Go.Proofs.Ytfhlhgnipmgfdaa.G
