/-
  HALVES: a number by two is a half of it, to the last bit. By an AI agent; nothing here is trusted.
-/
import Derived.Test.YtfhlhgnipmgfdaaAbP
namespace Go.Ab
set_option linter.unusedVariables false
set_option linter.unusedSimpArgs false
open Ieee

theorem log2_shift {m : Nat} (hm : m ≠ 0) (a : Nat) : (m * 2 ^ a).log2 = m.log2 + a := by
  have h1 : 2 ^ m.log2 ≤ m := Nat.log2_self_le hm
  have h2 : m < 2 ^ (m.log2 + 1) := Nat.lt_log2_self
  have hp := Nat.two_pow_pos a
  have hne : m * 2 ^ a ≠ 0 := Nat.mul_ne_zero hm (by omega)
  apply Nat.le_antisymm
  · have : (m * 2 ^ a).log2 < m.log2 + a + 1 := (Nat.log2_lt hne).2 (by
      rw [show m.log2 + a + 1 = m.log2 + 1 + a by omega, Nat.pow_add]
      exact Nat.mul_lt_mul_of_pos_right h2 hp)
    omega
  · have : ¬ (m * 2 ^ a).log2 < m.log2 + a := fun h => by
      have := (Nat.log2_lt hne).1 h
      rw [Nat.pow_add] at this
      have := Nat.mul_le_mul_right (2 ^ a) h1
      omega
    omega

theorem cut_even (neg : Bool) (n drop : Nat) : Toward.even.cut neg n drop = n / (2 ^ min drop (n.log2 + 2)) +
    (decide (2 ^ min drop (n.log2 + 2) < 2 * (n % 2 ^ min drop (n.log2 + 2))) || (2 ^ min drop (n.log2 + 2) == 2 * (n % 2 ^ min drop (n.log2 + 2)) && n / (2 ^ min drop (n.log2 + 2)) % 2 == 1)).toNat := by
  simp only [Toward.cut, Nat.shiftLeft_eq, Nat.one_mul]

theorem cut_shift (neg : Bool) {m : Nat} (hm : m ≠ 0) (a d : Nat) : Toward.even.cut neg (m * 2 ^ a) (d + a) = Toward.even.cut neg m d := by
  rw [cut_even, cut_even, log2_shift hm]
  have hmin : min (d + a) (m.log2 + a + 2) = min d (m.log2 + 2) + a := by omega
  rw [hmin]
  generalize min d (m.log2 + 2) = g
  have hp := Nat.two_pow_pos a
  have e1 : 2 ^ (g + a) = 2 ^ g * 2 ^ a := Nat.pow_add ..
  rw [e1, Nat.mul_div_mul_right _ _ hp, Nat.mul_mod_mul_right]
  have e2 : 2 * (m % 2 ^ g * 2 ^ a) = (2 * (m % 2 ^ g)) * 2 ^ a := by rw [Nat.mul_assoc]
  rw [e2]
  have e3 : decide (2 ^ g * 2 ^ a < 2 * (m % 2 ^ g) * 2 ^ a) = decide (2 ^ g < 2 * (m % 2 ^ g)) := by
    congr 1
    exact propext (Nat.mul_lt_mul_right hp)
  have e4 : (2 ^ g * 2 ^ a == 2 * (m % 2 ^ g) * 2 ^ a) = (2 ^ g == 2 * (m % 2 ^ g)) := by
    rw [Bool.eq_iff_iff, beq_iff_eq, beq_iff_eq]
    exact ⟨fun h => Nat.eq_of_mul_eq_mul_right hp h, fun h => congrArg (· * 2 ^ a) h⟩
  rw [e3, e4]

theorem cut_exact (neg : Bool) {m : Nat} (hm : m ≠ 0) {a c : Nat} (h : c ≤ a) : Toward.even.cut neg (m * 2 ^ a) c = m * 2 ^ (a - c) := by
  have := cut_shift neg (m := m * 2 ^ (a - c)) (Nat.mul_ne_zero hm (by have := Nat.two_pow_pos (a - c); omega)) c 0
  rw [Nat.zero_add, Nat.mul_assoc, ← Nat.pow_add, Nat.sub_add_cancel h, cut_zero] at this
  exact this

theorem nearest_shift (f : Format) (neg : Bool) (m a : Nat) (p : Int) : f.nearest neg (m * 2 ^ a) p = f.nearest neg m (p + a) := by
  have hp := Nat.two_pow_pos a
  unfold Format.nearest
  by_cases hm : m = 0
  · subst hm; simp
  · have hne : m * 2 ^ a ≠ 0 := Nat.mul_ne_zero hm (by omega)
    rw [if_neg hm, if_neg hne, log2_shift hm]
    have hl : max (p + ((m.log2 + a : Nat) : Int) - f.fractionBits) f.leastPlace = max (p + a + (m.log2 : Int) - f.fractionBits) f.leastPlace := by
      rw [Int.natCast_add]; congr 2; omega
    simp only [hl]
    generalize max (p + a + (m.log2 : Int) - f.fractionBits) f.leastPlace = last
    have hk : Toward.even.cut neg ((m * 2 ^ a) <<< (p - last).toNat) (last - p).toNat = Toward.even.cut neg (m <<< (p + a - last).toNat) (last - (p + a)).toNat := by
      simp only [Nat.shiftLeft_eq]
      by_cases h1 : last ≤ p
      · have e1 : (last - p).toNat = 0 := by omega
        have e2 : (last - (p + a)).toNat = 0 := by omega
        have e3 : (p + a - last).toNat = a + (p - last).toNat := by omega
        rw [e1, e2, cut_zero, cut_zero, e3, Nat.pow_add, Nat.mul_assoc]
      · have e0 : (p - last).toNat = 0 := by omega
        rw [e0, Nat.pow_zero, Nat.mul_one]
        by_cases h2 : p + a ≤ last
        · have e1 : (p + a - last).toNat = 0 := by omega
          have e2 : (last - p).toNat = (last - (p + a)).toNat + a := by omega
          rw [e1, Nat.pow_zero, Nat.mul_one, e2, cut_shift neg hm]
        · have e1 : (last - (p + a)).toNat = 0 := by omega
          rw [e1, cut_zero, cut_exact neg hm (by omega)]
          congr 2; omega
    rw [hk]

theorem read_two : single.read 1073741824 = .number false 8388608 (-22) := by decide +kernel
theorem read_half : single.read 1056964608 = .number false 8388608 (-24) := by decide +kernel

theorem div_two (x : Nat) : single.div x 1073741824 = single.mul 1056964608 x := by
  unfold Format.div Format.mul
  rw [read_two, read_half]
  rcases read_single x with ⟨s, t, h⟩ | ⟨s, h⟩ | ⟨s, m, e, h, hm, _, _⟩
  · rw [h]; rfl
  · rw [h]; simp [Datum.quotient, Datum.product]
  · rw [h]
    have hl := log2_lt24 hm
    have h25 : single.fractionBits + 2 = 25 := rfl
    have hn : (8388608 : Nat).log2 = 23 := by decide +kernel
    simp only [Datum.quotient, Datum.product, h25, hn, Bool.xor_false, Bool.false_xor, Option.map_some]
    rw [if_neg (by decide)]
    simp only [Option.map_some, Format.write]
    congr 1
    have hmore : 25 + 23 - m.log2 = (25 - m.log2) + 23 := by omega
    have hdiv : m <<< (25 + 23 - m.log2) = (m * 2 ^ (25 - m.log2)) * 8388608 := by
      rw [Nat.shiftLeft_eq, hmore, Nat.pow_add, Nat.mul_assoc]
    rw [hdiv, Nat.mul_div_cancel _ (by decide), Nat.mul_mod_left]
    have e1 : 2 * (m * 2 ^ (25 - m.log2)) + (0 != 0).toNat = m * 2 ^ (25 - m.log2 + 1) := by
      simp only [bne_self_eq_false, Bool.toNat_false, Nat.add_zero, Nat.pow_succ]
      rw [← Nat.mul_assoc, Nat.mul_comm 2, Nat.mul_assoc, Nat.mul_comm 2, ← Nat.mul_assoc]
    have e2 : 8388608 * m = m * 2 ^ 23 := by rw [Nat.mul_comm]
    rw [e1, e2, nearest_shift, nearest_shift]
    congr 1
    omega

/-- A number by two is a half of it. -/
theorem quo_two (x : Nat) : fop .quo .f32 x 1073741824 = fop .mul .f32 1056964608 x := by
  unfold fop
  have : floatBits .quo .f32 x 1073741824 = floatBits .mul .f32 1056964608 x := div_two x
  rw [this]

end Go.Ab
