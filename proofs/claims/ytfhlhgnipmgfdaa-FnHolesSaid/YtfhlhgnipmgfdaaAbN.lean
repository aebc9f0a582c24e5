/-
  NUMBERS: facts about floating point that the laws need. By an AI agent; nothing here is trusted.
-/
import Derived.Test.YtfhlhgnipmgfdaaAbC
namespace Go.Ab
set_option linter.unusedVariables false
set_option linter.unusedSimpArgs false

theorem compare_self_int (a : Int) : compare a a = .eq := by simp [compare, compareOfLessAndEq]
theorem compare_self_nat (a : Nat) : compare a a = .eq := by simp [compare, compareOfLessAndEq]
theorem order_self (f : Ieee.Format) (x : Nat) : f.order x x = none ∨ f.order x x = some .eq := by
  unfold Ieee.Format.order
  cases f.read x with
  | nan s t => left; rfl
  | infinity s => right; simp [Ieee.Datum.order, compare_self_nat]
  | number s m e => right; simp [Ieee.Datum.order, compare_self_int]

theorem cz_zero32 : cz .f32 0 = 0 := by decide +kernel
theorem cz_zero64 : cz .f64 0 = 0 := by decide +kernel
theorem cz_one64 : cz .f64 4607182418800017408 = 4607182418800017408 := by decide +kernel
theorem cz_one32 : cz .f32 1065353216 = 1065353216 := by decide +kernel

theorem word_lt (f : Ieee.Format) (neg : Bool) (r : Nat) (h : r < f.infRung) (hs : f.infRung < f.signWeight) : ((f.read (f.word neg r)).isInfinity) = false := by
  have hr : f.word neg r % f.signWeight = r := by
    unfold Ieee.Format.word
    cases neg
    · simp only [Bool.false_eq_true, if_false]; exact Nat.mod_eq_of_lt (by omega)
    · simp only [if_true]; rw [Nat.add_mod_left]; exact Nat.mod_eq_of_lt (by omega)
  unfold Ieee.Format.read
  simp only [hr]
  split
  · rfl
  · rfl

theorem cut_zero (neg : Bool) (n : Nat) : Ieee.Toward.even.cut neg n 0 = n := by
  simp [Ieee.Toward.cut, Nat.mod_one]

theorem read_single (b : Nat) : (∃ s t, Ieee.single.read b = .nan s t) ∨ (∃ s, Ieee.single.read b = .infinity s) ∨ ∃ s m e, Ieee.single.read b = .number s m e ∧ m < 2 ^ 24 ∧ -149 ≤ e ∧ e ≤ 104 := by
  unfold Ieee.Format.read
  have hb : Ieee.single.binade = 2 ^ 23 := rfl
  have hi : Ieee.single.infRung = 255 * 2 ^ 23 := rfl
  have hp : Ieee.single.leastPlace = -149 := rfl
  simp only [hb, hi, hp]
  generalize hr : b % Ieee.single.signWeight = r
  split
  · right; right; exact ⟨_, _, _, rfl, by omega, by omega, by omega⟩
  · split
    · right; right
      refine ⟨_, _, _, rfl, by omega, by omega, ?_⟩
      omega
    · split
      · right; left; exact ⟨_, rfl⟩
      · left; exact ⟨_, _, rfl⟩

theorem log2_lt24 {m : Nat} (h : m < 2 ^ 24) : m.log2 < 24 := by
  by_cases h0 : m = 0
  · subst h0; decide
  · exact (Nat.log2_lt h0).2 h

/-- A number of single precision is one of double precision. -/
theorem widen_fin (s : Bool) (m : Nat) (e : Int) (hm : m < 2 ^ 24) (h1 : -149 ≤ e) (h2 : e ≤ 104) : (Ieee.double.read (Ieee.double.nearest s m e)).isInfinity = false := by
  unfold Ieee.Format.nearest
  have hw : Ieee.double.infRung < Ieee.double.signWeight := by decide +kernel
  split
  · exact word_lt _ _ _ (by decide +kernel) hw
  · rename_i h0
    apply word_lt _ _ _ _ hw
    have hf : Ieee.double.fractionBits = 52 := rfl
    have hp : Ieee.double.leastPlace = -1074 := rfl
    have hb : Ieee.double.binade = 2 ^ 52 := rfl
    have hi : Ieee.double.infRung = 2047 * 2 ^ 52 := rfl
    have hl := log2_lt24 hm
    simp only [hf, hp, hb, hi]
    generalize hla : max (e + (m.log2 : Int) - ((52 : Nat) : Int)) (-1074) = last
    have hle : last ≤ e := by omega
    have hlast : last ≤ 75 := by omega
    have hcut : (last - e).toNat = 0 := by omega
    rw [hcut, cut_zero]
    have hmm : m <<< (e - last).toNat < 2 ^ 53 := by
      rw [Nat.shiftLeft_eq]
      have h3 : m < 2 ^ (m.log2 + 1) := Nat.lt_log2_self
      have h4 : (e - last).toNat + (m.log2 + 1) ≤ 53 := by omega
      calc m * 2 ^ (e - last).toNat < 2 ^ (m.log2 + 1) * 2 ^ (e - last).toNat := Nat.mul_lt_mul_of_pos_right h3 (Nat.two_pow_pos _)
        _ = 2 ^ ((m.log2 + 1) + (e - last).toNat) := (Nat.pow_add ..).symm
        _ ≤ 2 ^ 53 := Nat.pow_le_pow_right (by decide) (by omega)
    have h5 : (last - -1074).toNat ≤ 1149 := by omega
    have h6 : (last - -1074).toNat * 2 ^ 52 ≤ 1149 * 2 ^ 52 := Nat.mul_le_mul_right _ h5
    exact Nat.lt_of_le_of_lt (Nat.min_le_left _ _) (by omega)

def widen (b : Nat) : Nat := (fconv .f32 b .f64).getD 0
theorem widen_eq (b : Nat) : fconv .f32 b .f64 = some (widen b) := by
  have : (fconv .f32 b .f64).isSome = true := by
    unfold fconv
    rw [if_neg (by decide)]
    have hd : FloatKind.f32.decode b = Ieee.single.read b := rfl
    rw [hd]
    rcases read_single b with ⟨s, t, h⟩ | ⟨s, h⟩ | ⟨s, m, e, h, h1, h2, h3⟩
    · rw [h]; rfl
    · rw [h]; rfl
    · rw [h]
      have hf : (FloatKind.f64.decode (FloatKind.f64.encode (Ieee.Datum.number s m e))).isInfinity = false := widen_fin s m e h1 h2 h3
      simp only [hf]
      rfl
  unfold widen
  cases h : fconv .f32 b .f64 with
  | none => rw [h] at this; cases this
  | some c => rfl

end Go.Ab
