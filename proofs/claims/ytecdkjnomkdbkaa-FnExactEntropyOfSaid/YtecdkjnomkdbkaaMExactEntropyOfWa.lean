/-
  What the functions compute, as formulas over numbers and lists. Printed by a program of the session; nothing here is trusted.
-/
import Derived.Test.YtecdkjnomkdbkaaAbG
namespace Go.Proofs.Ytecdkjnomkdbkaa.G
open Go Go.Ab
set_option maxRecDepth 100000
set_option linter.unusedVariables false
set_option linter.unusedSimpArgs false
set_option maxHeartbeats 1000000
def IR_LeFlt_f32_o : Inn (List (Nat)) := fun x c => Pc.osl (c.getD 0 .und) 1 (enc (eFlt .f32) x)
def IR_LeInt_i64_o : Inn (List (Int)) := fun x c => Pc.osl (c.getD 0 .und) 1 (enc (eInt .i64) x)
def IR_LePair_eBool_ePair_eFlt_f32_eInt_i64_o : Inn (List ((Bool) × (Nat) × (Int))) := fun x c => Pc.osl (c.getD 0 .und) 3 (enc (ePair eBool (ePair (eFlt .f32) (eInt .i64))) x)
def IR_LePair_eInt_i64_eFlt_f32_o : Inn (List ((Int) × (Nat))) := fun x c => Pc.osl (c.getD 0 .und) 2 (enc (ePair (eInt .i64) (eFlt .f32)) x)
def R_LeFlt_f32_o (H : Heap) (x : List (Nat)) (c : List AV) : Prop := c = [(c.getD 0 .und)] ∧ Shows H (c.getD 0 .und) 1 (enc (eFlt .f32) x)
def R_LeInt_i64_o (H : Heap) (x : List (Int)) (c : List AV) : Prop := c = [(c.getD 0 .und)] ∧ Shows H (c.getD 0 .und) 1 (enc (eInt .i64) x)
def R_LePair_eBool_ePair_eFlt_f32_eInt_i64_o (H : Heap) (x : List ((Bool) × (Nat) × (Int))) (c : List AV) : Prop := c = [(c.getD 0 .und)] ∧ Shows H (c.getD 0 .und) 3 (enc (ePair eBool (ePair (eFlt .f32) (eInt .i64))) x)
def R_LePair_eInt_i64_eFlt_f32_o (H : Heap) (x : List ((Int) × (Nat))) (c : List AV) : Prop := c = [(c.getD 0 .und)] ∧ Shows H (c.getD 0 .und) 2 (enc (ePair (eInt .i64) (eFlt .f32)) x)
end Go.Proofs.Ytecdkjnomkdbkaa.G

namespace Go.Proofs.Ytecdkjnomkdbkaa.G
open Go Go.Ab
set_option maxRecDepth 100000
set_option linter.unusedVariables false
set_option linter.unusedSimpArgs false
set_option maxHeartbeats 1000000
def laws_sameFloat.wp (a0 : Nat) (a1 : Nat) (K : Bool → Prop) : Prop := (((fcmp .neq .f64 a0 a0) = true → K (fcmp .neq .f64 a1 a1)) ∧ ((fcmp .neq .f64 a0 a0) = false → (((fcmp .neq .f64 a1 a1) = true → K (false)) ∧ ((fcmp .neq .f64 a1 a1) = false → (((fcmp .eql .f64 a0 (cz .f64 0)) = true → (((fcmp .eql .f64 a1 (cz .f64 0)) = true → K ((fcmp .gtr .f64 (fop .quo .f64 (cz .f64 4607182418800017408) a0) (cz .f64 0)) == (fcmp .gtr .f64 (fop .quo .f64 (cz .f64 4607182418800017408) a1) (cz .f64 0)))) ∧ ((fcmp .eql .f64 a1 (cz .f64 0)) = false → K (fcmp .eql .f64 a0 a1)))) ∧ ((fcmp .eql .f64 a0 (cz .f64 0)) = false → K (fcmp .eql .f64 a0 a1)))))))
end Go.Proofs.Ytecdkjnomkdbkaa.G

namespace Go.Proofs.Ytecdkjnomkdbkaa.G
open Go Go.Ab
set_option maxRecDepth 100000
set_option linter.unusedVariables false
set_option linter.unusedSimpArgs false
set_option maxHeartbeats 1000000
def laws_eqInt64S.wp (l0 : List (Int)) (l1 : List (Int)) (K : Bool → Prop) : Prop := (((l0.length : Int) = (l1.length : Int) → ∀ X102 : Int → Prop, (∀ (i103 : Int), ((i103 < (l0.length : Int) → (0 ≤ i103 ∧ i103 < (l0.length : Int)) ∧ (0 ≤ i103 ∧ i103 < (l1.length : Int)) ∧ (((l0.getD (i103).toNat (0 : Int)) = (l1.getD (i103).toNat (0 : Int)) → X102 (IntKind.i64.wrap (i103 + (1 : Int)))) ∧ (¬((l0.getD (i103).toNat (0 : Int)) = (l1.getD (i103).toNat (0 : Int))) → K (false)))) ∧ (¬(i103 < (l0.length : Int)) → K (true))) → X102 i103) → X102 (0 : Int)) ∧ (¬((l0.length : Int) = (l1.length : Int)) → K (false)))
end Go.Proofs.Ytecdkjnomkdbkaa.G

namespace Go.Proofs.Ytecdkjnomkdbkaa.G
open Go Go.Ab
set_option maxRecDepth 100000
set_option linter.unusedVariables false
set_option linter.unusedSimpArgs false
set_option maxHeartbeats 1000000
def spec_l00In.wp (a0 : Int) (a1 : Int) (a2 : Int) (K : Bool → Prop) : Prop := ((a1 ≤ a0 → K (decide (a0 ≤ a2))) ∧ (¬(a1 ≤ a0) → K (false)))
end Go.Proofs.Ytecdkjnomkdbkaa.G

namespace Go.Proofs.Ytecdkjnomkdbkaa.G
open Go Go.Ab
set_option maxRecDepth 100000
set_option linter.unusedVariables false
set_option linter.unusedSimpArgs false
set_option maxHeartbeats 1000000
def spec_l02Bound.wp (l0 : List (Int)) (a1 : Int) (K : Bool → Prop) : Prop := ∀ X101 : Int → Prop, (∀ (i102 : Int), ((i102 < (l0.length : Int) → (0 ≤ i102 ∧ i102 < (l0.length : Int)) ∧ spec_l00In.wp (l0.getD (i102).toNat (0 : Int)) (IntKind.i64.wrap (0 - a1)) a1 fun y105 => ((y105 = true → X101 (IntKind.i64.wrap (i102 + (1 : Int)))) ∧ (y105 = false → K (false)))) ∧ (¬(i102 < (l0.length : Int)) → K (true))) → X101 i102) → X101 (0 : Int)
end Go.Proofs.Ytecdkjnomkdbkaa.G

namespace Go.Proofs.Ytecdkjnomkdbkaa.G
open Go Go.Ab
set_option maxRecDepth 100000
set_option linter.unusedVariables false
set_option linter.unusedSimpArgs false
set_option maxHeartbeats 1000000
def spec_l02Integers.wp (l0 : List (Int)) (K : Bool → Prop) : Prop := (((1 : Int) ≤ (l0.length : Int) → (((l0.length : Int) ≤ (128 : Int) → spec_l02Bound.wp l0 (1000000 : Int) fun y103 => K (y103)) ∧ (¬((l0.length : Int) ≤ (128 : Int)) → K (false)))) ∧ (¬((1 : Int) ≤ (l0.length : Int)) → K (false)))
end Go.Proofs.Ytecdkjnomkdbkaa.G

namespace Go.Proofs.Ytecdkjnomkdbkaa.G
open Go Go.Ab
set_option maxRecDepth 100000
set_option linter.unusedVariables false
set_option linter.unusedSimpArgs false
set_option maxHeartbeats 1000000
def spec_l01Narrow.wp (a0 : Nat) (K : Nat → Prop) : Prop := ((fconv .f64 a0 .f32).isSome = true) ∧ K (narrow a0)
end Go.Proofs.Ytecdkjnomkdbkaa.G

namespace Go.Proofs.Ytecdkjnomkdbkaa.G
open Go Go.Ab
set_option maxRecDepth 100000
set_option linter.unusedVariables false
set_option linter.unusedSimpArgs false
set_option maxHeartbeats 1000000
def math_Float64frombits.wp (x : Int) (K : Nat → Prop) : Prop := K (cz .f64 x.toNat)
end Go.Proofs.Ytecdkjnomkdbkaa.G

namespace Go.Proofs.Ytecdkjnomkdbkaa.G
open Go Go.Ab
set_option maxRecDepth 100000
set_option linter.unusedVariables false
set_option linter.unusedSimpArgs false
set_option maxHeartbeats 1000000
def math_Inf.wp (a0 : Int) (K : Nat → Prop) : Prop := (((0 : Int) ≤ a0 → math_Float64frombits.wp (9218868437227405312 : Int) fun y102 => K (y102)) ∧ (¬((0 : Int) ≤ a0) → math_Float64frombits.wp (18442240474082181120 : Int) fun y104 => K (y104)))
end Go.Proofs.Ytecdkjnomkdbkaa.G

namespace Go.Proofs.Ytecdkjnomkdbkaa.G
open Go Go.Ab
set_option maxRecDepth 100000
set_option linter.unusedVariables false
set_option linter.unusedSimpArgs false
set_option maxHeartbeats 1000000
def math_NaN.wp  (K : Nat → Prop) : Prop := math_Float64frombits.wp (9221120237041090561 : Int) fun y101 => K (y101)
end Go.Proofs.Ytecdkjnomkdbkaa.G

namespace Go.Proofs.Ytecdkjnomkdbkaa.G
open Go Go.Ab
set_option maxRecDepth 100000
set_option linter.unusedVariables false
set_option linter.unusedSimpArgs false
set_option maxHeartbeats 1000000
def math_Float64bits.wp (x : Nat) (K : Int → Prop) : Prop := (num .f64 x = true) ∧ K (x : Int)
end Go.Proofs.Ytecdkjnomkdbkaa.G

namespace Go.Proofs.Ytecdkjnomkdbkaa.G
open Go Go.Ab
set_option maxRecDepth 100000
set_option linter.unusedVariables false
set_option linter.unusedSimpArgs false
set_option maxHeartbeats 1000000
def math_Abs.wp (a0 : Nat) (K : Nat → Prop) : Prop := math_Float64bits.wp a0 fun y101 => math_Float64frombits.wp (ibits .andNot .u64 y101 (9223372036854775808 : Int)) fun y103 => K (y103)
end Go.Proofs.Ytecdkjnomkdbkaa.G

namespace Go.Proofs.Ytecdkjnomkdbkaa.G
open Go Go.Ab
set_option maxRecDepth 100000
set_option linter.unusedVariables false
set_option linter.unusedSimpArgs false
set_option maxHeartbeats 1000000
def math_IsInf.wp (a0 : Nat) (a1 : Int) (K : Bool → Prop) : Prop := ((a1 = (0 : Int) → math_Abs.wp a0 fun y102 => K (fcmp .gtr .f64 y102 (cz .f64 9218868437227405311))) ∧ (¬(a1 = (0 : Int)) → ((a1 < (0 : Int) → K (fcmp .gtr .f64 (fneg .f64 a0) (cz .f64 9218868437227405311))) ∧ (¬(a1 < (0 : Int)) → K (fcmp .gtr .f64 a0 (cz .f64 9218868437227405311))))))
end Go.Proofs.Ytecdkjnomkdbkaa.G

namespace Go.Proofs.Ytecdkjnomkdbkaa.G
open Go Go.Ab
set_option maxRecDepth 100000
set_option linter.unusedVariables false
set_option linter.unusedSimpArgs false
set_option maxHeartbeats 1000000
def spec_l01LogWide.wp (a0 : Nat) (K : Nat → Prop) : Prop := (((fcmp .neq .f64 a0 a0) = true → math_NaN.wp  fun y102 => K (y102)) ∧ ((fcmp .neq .f64 a0 a0) = false → (((fcmp .lss .f64 a0 (cz .f64 0)) = true → math_NaN.wp  fun y105 => K (y105)) ∧ ((fcmp .lss .f64 a0 (cz .f64 0)) = false → (((fcmp .eql .f64 a0 (cz .f64 0)) = true → math_Inf.wp (-1 : Int) fun y108 => K (y108)) ∧ ((fcmp .eql .f64 a0 (cz .f64 0)) = false → math_IsInf.wp a0 (1 : Int) fun y110 => ((y110 = true → K (a0)) ∧ (y110 = false → ∀ X113 : Nat → Int → Prop, (∀ (y114 : Nat) (e115 : Int), (((fcmp .geq .f64 y114 (cz .f64 4609434218613702656)) = true → X113 (fop .quo .f64 y114 (cz .f64 4611686018427387904)) (IntKind.i64.wrap (e115 + (1 : Int)))) ∧ ((fcmp .geq .f64 y114 (cz .f64 4609434218613702656)) = false → ∀ X117 : Nat → Int → Prop, (∀ (y118 : Nat) (e119 : Int), (((fcmp .lss .f64 y118 (cz .f64 4604930618986332160)) = true → X117 (fop .mul .f64 y118 (cz .f64 4611686018427387904)) (IntKind.i64.wrap (e119 - (1 : Int)))) ∧ ((fcmp .lss .f64 y118 (cz .f64 4604930618986332160)) = false → ∀ X121 : Nat → Int → Prop, (∀ (q122 : Nat) (k123 : Int), (((1 : Int) ≤ k123 → X121 (fop .add .f64 (fop .quo .f64 (cz .f64 4607182418800017408) (itof .f64 k123)) (fop .mul .f64 (fop .mul .f64 (fop .quo .f64 (fop .sub .f64 y118 (cz .f64 4607182418800017408)) (fop .add .f64 y118 (cz .f64 4607182418800017408))) (fop .quo .f64 (fop .sub .f64 y118 (cz .f64 4607182418800017408)) (fop .add .f64 y118 (cz .f64 4607182418800017408)))) q122)) (IntKind.i64.wrap (k123 - (2 : Int)))) ∧ (¬((1 : Int) ≤ k123) → K (fop .add .f64 (fop .mul .f64 (cz .f64 4611686018427387904) (fop .mul .f64 (fop .quo .f64 (fop .sub .f64 y118 (cz .f64 4607182418800017408)) (fop .add .f64 y118 (cz .f64 4607182418800017408))) q122)) (fop .mul .f64 (itof .f64 e119) (cz .f64 4604418534313441775))))) → X121 q122 k123) → X121 (cz .f64 0) (25 : Int))) → X117 y118 e119) → X117 (y114) (e115))) → X113 y114 e115) → X113 (a0) (0 : Int)))))))))
end Go.Proofs.Ytecdkjnomkdbkaa.G

namespace Go.Proofs.Ytecdkjnomkdbkaa.G
open Go Go.Ab
set_option maxRecDepth 100000
set_option linter.unusedVariables false
set_option linter.unusedSimpArgs false
set_option maxHeartbeats 1000000
def spec_l01Log.wp (a0 : Nat) (K : Nat → Prop) : Prop := spec_l01LogWide.wp (widen a0) fun y101 => spec_l01Narrow.wp y101 fun y103 => K (y103)
end Go.Proofs.Ytecdkjnomkdbkaa.G

namespace Go.Proofs.Ytecdkjnomkdbkaa.G
open Go Go.Ab
set_option maxRecDepth 100000
set_option linter.unusedVariables false
set_option linter.unusedSimpArgs false
set_option maxHeartbeats 1000000
def spec_l01Finite.wp (a0 : Nat) (K : Bool → Prop) : Prop := K (fcmp .eql .f32 (fop .sub .f32 a0 a0) (cz .f32 0))
end Go.Proofs.Ytecdkjnomkdbkaa.G

namespace Go.Proofs.Ytecdkjnomkdbkaa.G
open Go Go.Ab
set_option maxRecDepth 100000
set_option linter.unusedVariables false
set_option linter.unusedSimpArgs false
set_option maxHeartbeats 1000000
def spec_l02Number.wp (a0 : Nat) (K : Nat → Bool → Prop) : Prop := spec_l01Finite.wp a0 fun y101 => ((y101 = true → K (a0) (true)) ∧ (y101 = false → K (cz .f32 0) (false)))
end Go.Proofs.Ytecdkjnomkdbkaa.G

namespace Go.Proofs.Ytecdkjnomkdbkaa.G
open Go Go.Ab
set_option maxRecDepth 100000
set_option linter.unusedVariables false
set_option linter.unusedSimpArgs false
set_option maxHeartbeats 1000000
def spec_EntropyOf.wp (l0 : List (Int)) (K : Nat → Bool → Prop) : Prop := spec_l02Integers.wp l0 fun y101 => ((y101 = true → ∀ X156 : List (Int) → List (Int) → Int → Prop, (∀ (counts157 : List (Int)) (values159 : List (Int)) (i161 : Int), ((i161 < (l0.length : Int) → ∀ X163 : Int → Int → Prop, (∀ (atq164 : Int) (k165 : Int), ((k165 < (values159.length : Int) → (0 ≤ k165 ∧ k165 < (values159.length : Int)) ∧ (0 ≤ i161 ∧ i161 < (l0.length : Int)) ∧ (((values159.getD (k165).toNat (0 : Int)) = (l0.getD (i161).toNat (0 : Int)) → X163 (k165) (IntKind.i64.wrap (k165 + (1 : Int)))) ∧ (¬((values159.getD (k165).toNat (0 : Int)) = (l0.getD (i161).toNat (0 : Int))) → X163 (atq164) (IntKind.i64.wrap (k165 + (1 : Int)))))) ∧ (¬(k165 < (values159.length : Int)) → ((atq164 < (0 : Int) → (0 ≤ i161 ∧ i161 < (l0.length : Int)) ∧ ((values159.length + ([(l0.getD (i161).toNat (0 : Int))] : List (Int)).length) * 8 ≤ 2 ^ 40) ∧ ((counts157.length + ([(0 : Int)] : List (Int)).length) * 8 ≤ 2 ^ 40) ∧ (0 ≤ (values159.length : Int) ∧ (values159.length : Int) < ((counts157 ++ ([(0 : Int)] : List (Int))).length : Int)) ∧ X156 ((counts157 ++ ([(0 : Int)] : List (Int))).set ((values159.length : Int)).toNat (IntKind.i64.wrap (((counts157 ++ ([(0 : Int)] : List (Int))).getD ((values159.length : Int)).toNat (0 : Int)) + (1 : Int)))) (values159 ++ ([(l0.getD (i161).toNat (0 : Int))] : List (Int))) (IntKind.i64.wrap (i161 + (1 : Int)))) ∧ (¬(atq164 < (0 : Int)) → (0 ≤ atq164 ∧ atq164 < (counts157.length : Int)) ∧ X156 (counts157.set (atq164).toNat (IntKind.i64.wrap ((counts157.getD (atq164).toNat (0 : Int)) + (1 : Int)))) (values159) (IntKind.i64.wrap (i161 + (1 : Int))))))) → X163 atq164 k165) → X163 (-1 : Int) (0 : Int)) ∧ (¬(i161 < (l0.length : Int)) → ∀ X190 : Nat → Int → Prop, (∀ (sum191 : Nat) (k192 : Int), ((k192 < (counts157.length : Int) → (0 ≤ k192 ∧ k192 < (counts157.length : Int)) ∧ spec_l01Log.wp (fop .quo .f32 (itof .f32 (counts157.getD (k192).toNat (0 : Int))) (itof .f32 (l0.length : Int))) fun y195 => X190 (fop .add .f32 sum191 (fop .mul .f32 (fop .quo .f32 (itof .f32 (counts157.getD (k192).toNat (0 : Int))) (itof .f32 (l0.length : Int))) y195)) (IntKind.i64.wrap (k192 + (1 : Int)))) ∧ (¬(k192 < (counts157.length : Int)) → spec_l02Number.wp (fop .quo .f32 (fneg .f32 sum191) (cz .f32 1060205080)) fun y197 y198 => K (y197) (y198))) → X190 sum191 k192) → X190 (cz .f32 0) (0 : Int))) → X156 counts157 values159 i161) → X156 ([] : List (Int)) ([] : List (Int)) (0 : Int)) ∧ (y101 = false → K (cz .f32 0) (false)))
end Go.Proofs.Ytecdkjnomkdbkaa.G

namespace Go.Proofs.Ytecdkjnomkdbkaa.G
open Go Go.Ab
set_option maxRecDepth 100000
set_option linter.unusedVariables false
set_option linter.unusedSimpArgs false
set_option maxHeartbeats 1000000
def laws_toInt64S.wp (l0 : List (Int)) (K : (List (Int)) → Prop) : Prop := (0 ≤ (l0.length : Int) ∧ (l0.length : Int) ≤ (l0.length : Int) ∧ (l0.length : Int) ≤ 2 ^ 40 ∧ (l0.length : Int) * 8 ≤ 2 ^ 40) ∧ ∀ X111 : List (Int) → Int → Prop, (∀ (out112 : List (Int)) (i113 : Int), ((i113 < (l0.length : Int) → (0 ≤ i113 ∧ i113 < (l0.length : Int)) ∧ (0 ≤ i113 ∧ i113 < (out112.length : Int)) ∧ X111 (out112.set (i113).toNat (l0.getD (i113).toNat (0 : Int))) (IntKind.i64.wrap (i113 + (1 : Int)))) ∧ (¬(i113 < (l0.length : Int)) → K (out112))) → X111 out112 i113) → X111 (List.replicate ((l0.length : Int)).toNat (0 : Int)) (0 : Int)
end Go.Proofs.Ytecdkjnomkdbkaa.G

namespace Go.Proofs.Ytecdkjnomkdbkaa.G
open Go Go.Ab
set_option maxRecDepth 100000
set_option linter.unusedVariables false
set_option linter.unusedSimpArgs false
set_option maxHeartbeats 1000000
def impl_within.wp (a0 : Int) (a1 : Int) (a2 : Int) (K : Bool → Prop) : Prop := ((a1 ≤ a0 → K (decide (a0 ≤ a2))) ∧ (¬(a1 ≤ a0) → K (false)))
end Go.Proofs.Ytecdkjnomkdbkaa.G

namespace Go.Proofs.Ytecdkjnomkdbkaa.G
open Go Go.Ab
set_option maxRecDepth 100000
set_option linter.unusedVariables false
set_option linter.unusedSimpArgs false
set_option maxHeartbeats 1000000
def impl_areWithin.wp (l0 : List (Int)) (a1 : Int) (K : Bool → Prop) : Prop := ∀ X101 : Int → Prop, (∀ (x102 : Int), ((x102 < (l0.length : Int) → (0 ≤ x102 ∧ x102 < (l0.length : Int)) ∧ impl_within.wp (l0.getD (x102).toNat (0 : Int)) (IntKind.i64.wrap (0 - a1)) a1 fun y105 => ((y105 = true → X101 (IntKind.i64.wrap (x102 + (1 : Int)))) ∧ (y105 = false → K (false)))) ∧ (¬(x102 < (l0.length : Int)) → K (true))) → X101 x102) → X101 (0 : Int)
end Go.Proofs.Ytecdkjnomkdbkaa.G

namespace Go.Proofs.Ytecdkjnomkdbkaa.G
open Go Go.Ab
set_option maxRecDepth 100000
set_option linter.unusedVariables false
set_option linter.unusedSimpArgs false
set_option maxHeartbeats 1000000
def impl_AreIntegers.wp (l0 : List (Int)) (K : Bool → Prop) : Prop := impl_within.wp (l0.length : Int) (1 : Int) (128 : Int) fun y101 => ((y101 = true → impl_areWithin.wp l0 (1000000 : Int) fun y104 => K (y104)) ∧ (y101 = false → K (false)))
end Go.Proofs.Ytecdkjnomkdbkaa.G

namespace Go.Proofs.Ytecdkjnomkdbkaa.G
open Go Go.Ab
set_option maxRecDepth 100000
set_option linter.unusedVariables false
set_option linter.unusedSimpArgs false
set_option maxHeartbeats 1000000
def impl_IsFinite.wp (a0 : Nat) (K : Bool → Prop) : Prop := K (fcmp .eql .f32 (fop .sub .f32 a0 a0) (cz .f32 0))
end Go.Proofs.Ytecdkjnomkdbkaa.G

namespace Go.Proofs.Ytecdkjnomkdbkaa.G
open Go Go.Ab
set_option maxRecDepth 100000
set_option linter.unusedVariables false
set_option linter.unusedSimpArgs false
set_option maxHeartbeats 1000000
def impl_naturalLog.wp (a0 : Nat) (K : Nat → Prop) : Prop := ∀ X101 : Nat → Nat → Prop, (∀ (x102 : Nat) (e103 : Nat), (((fcmp .geq .f64 x102 (cz .f64 4609434218613702656)) = true → X101 (fop .quo .f64 x102 (cz .f64 4611686018427387904)) (fop .add .f64 e103 (cz .f64 4607182418800017408))) ∧ ((fcmp .geq .f64 x102 (cz .f64 4609434218613702656)) = false → ∀ X105 : Nat → Nat → Prop, (∀ (x106 : Nat) (e107 : Nat), (((fcmp .lss .f64 x106 (cz .f64 4604930618986332160)) = true → X105 (fop .mul .f64 x106 (cz .f64 4611686018427387904)) (fop .sub .f64 e107 (cz .f64 4607182418800017408))) ∧ ((fcmp .lss .f64 x106 (cz .f64 4604930618986332160)) = false → ∀ X109 : Nat → Nat → Prop, (∀ (q110 : Nat) (k111 : Nat), (((fcmp .geq .f64 k111 (cz .f64 4607182418800017408)) = true → X109 (fop .add .f64 (fop .quo .f64 (cz .f64 4607182418800017408) k111) (fop .mul .f64 (fop .mul .f64 (fop .quo .f64 (fop .sub .f64 x106 (cz .f64 4607182418800017408)) (fop .add .f64 x106 (cz .f64 4607182418800017408))) (fop .quo .f64 (fop .sub .f64 x106 (cz .f64 4607182418800017408)) (fop .add .f64 x106 (cz .f64 4607182418800017408)))) q110)) (fop .sub .f64 k111 (cz .f64 4611686018427387904))) ∧ ((fcmp .geq .f64 k111 (cz .f64 4607182418800017408)) = false → K (fop .add .f64 (fop .mul .f64 (cz .f64 4611686018427387904) (fop .mul .f64 (fop .quo .f64 (fop .sub .f64 x106 (cz .f64 4607182418800017408)) (fop .add .f64 x106 (cz .f64 4607182418800017408))) q110)) (fop .mul .f64 e107 (cz .f64 4604418534313441775))))) → X109 q110 k111) → X109 (cz .f64 0) (cz .f64 4627730092099895296))) → X105 x106 e107) → X105 (x102) (e103))) → X101 x102 e103) → X101 (a0) (cz .f64 0)
end Go.Proofs.Ytecdkjnomkdbkaa.G

namespace Go.Proofs.Ytecdkjnomkdbkaa.G
open Go Go.Ab
set_option maxRecDepth 100000
set_option linter.unusedVariables false
set_option linter.unusedSimpArgs false
set_option maxHeartbeats 1000000
def impl_LogNumber.wp (a0 : Nat) (K : Nat → Prop) : Prop := (((fcmp .eql .f32 a0 (cz .f32 0)) = true → math_Inf.wp (-1 : Int) fun y102 => ((fconv .f64 y102 .f32).isSome = true) ∧ K (narrow y102)) ∧ ((fcmp .eql .f32 a0 (cz .f32 0)) = false → (((fcmp .lss .f32 a0 (cz .f32 0)) = true → math_NaN.wp  fun y106 => ((fconv .f64 y106 .f32).isSome = true) ∧ K (narrow y106)) ∧ ((fcmp .lss .f32 a0 (cz .f32 0)) = false → (((fcmp .neq .f32 a0 a0) = true → math_NaN.wp  fun y110 => ((fconv .f64 y110 .f32).isSome = true) ∧ K (narrow y110)) ∧ ((fcmp .neq .f32 a0 a0) = false → impl_IsFinite.wp a0 fun y113 => ((y113 = true → impl_naturalLog.wp (widen a0) fun y116 => ((fconv .f64 y116 .f32).isSome = true) ∧ K (narrow y116)) ∧ (y113 = false → K (a0)))))))))
end Go.Proofs.Ytecdkjnomkdbkaa.G

namespace Go.Proofs.Ytecdkjnomkdbkaa.G
open Go Go.Ab
set_option maxRecDepth 100000
set_option linter.unusedVariables false
set_option linter.unusedSimpArgs false
set_option maxHeartbeats 1000000
def impl_finite.wp (a0 : Nat) (K : Nat → Bool → Prop) : Prop := impl_IsFinite.wp a0 fun y101 => ((y101 = true → K (a0) (true)) ∧ (y101 = false → K (cz .f32 0) (false)))
end Go.Proofs.Ytecdkjnomkdbkaa.G

namespace Go.Proofs.Ytecdkjnomkdbkaa.G
open Go Go.Ab
set_option maxRecDepth 100000
set_option linter.unusedVariables false
set_option linter.unusedSimpArgs false
set_option maxHeartbeats 1000000
def impl_EntropyOf.wp (l0 : List (Int)) (K : Nat → Bool → Prop) : Prop := impl_AreIntegers.wp l0 fun y101 => ((y101 = true → ∀ X143 : List (Int) → List (Int × Int) → Int → Prop, (∀ (order144 : List (Int)) (m146 : List (Int × Int)) (x147 : Int), ((x147 < (l0.length : Int) → (0 ≤ x147 ∧ x147 < (l0.length : Int)) ∧ (-9223372036854775808 ≤ (l0.getD (x147).toNat (0 : Int)) ∧ (l0.getD (x147).toNat (0 : Int)) ≤ 9223372036854775807) ∧ (((mpGet m146 (l0.getD (x147).toNat (0 : Int))) = (0 : Int) → ((order144.length + ([(l0.getD (x147).toNat (0 : Int))] : List (Int)).length) * 8 ≤ 2 ^ 40) ∧ (-9223372036854775808 ≤ (IntKind.i64.wrap ((mpGet m146 (l0.getD (x147).toNat (0 : Int))) + (1 : Int))) ∧ (IntKind.i64.wrap ((mpGet m146 (l0.getD (x147).toNat (0 : Int))) + (1 : Int))) ≤ 9223372036854775807) ∧ ((m146).length < 2 ^ 40) ∧ X143 (order144 ++ ([(l0.getD (x147).toNat (0 : Int))] : List (Int))) (((l0.getD (x147).toNat (0 : Int)), (IntKind.i64.wrap ((mpGet m146 (l0.getD (x147).toNat (0 : Int))) + (1 : Int)))) :: m146) (IntKind.i64.wrap (x147 + (1 : Int)))) ∧ (¬((mpGet m146 (l0.getD (x147).toNat (0 : Int))) = (0 : Int)) → (-9223372036854775808 ≤ (IntKind.i64.wrap ((mpGet m146 (l0.getD (x147).toNat (0 : Int))) + (1 : Int))) ∧ (IntKind.i64.wrap ((mpGet m146 (l0.getD (x147).toNat (0 : Int))) + (1 : Int))) ≤ 9223372036854775807) ∧ ((m146).length < 2 ^ 40) ∧ X143 (order144) (((l0.getD (x147).toNat (0 : Int)), (IntKind.i64.wrap ((mpGet m146 (l0.getD (x147).toNat (0 : Int))) + (1 : Int)))) :: m146) (IntKind.i64.wrap (x147 + (1 : Int)))))) ∧ (¬(x147 < (l0.length : Int)) → ∀ X164 : Nat → Int → Prop, (∀ (sum165 : Nat) (x166 : Int), ((x166 < (order144.length : Int) → (0 ≤ x166 ∧ x166 < (order144.length : Int)) ∧ (-9223372036854775808 ≤ (order144.getD (x166).toNat (0 : Int)) ∧ (order144.getD (x166).toNat (0 : Int)) ≤ 9223372036854775807) ∧ impl_LogNumber.wp (fop .quo .f32 (itof .f32 (mpGet m146 (order144.getD (x166).toNat (0 : Int)))) (itof .f32 (l0.length : Int))) fun y170 => X164 (fop .add .f32 sum165 (fop .mul .f32 (fop .quo .f32 (itof .f32 (mpGet m146 (order144.getD (x166).toNat (0 : Int)))) (itof .f32 (l0.length : Int))) y170)) (IntKind.i64.wrap (x166 + (1 : Int)))) ∧ (¬(x166 < (order144.length : Int)) → impl_finite.wp (fop .quo .f32 (fneg .f32 sum165) (cz .f32 1060205080)) fun y172 y173 => K (y172) (y173))) → X164 sum165 x166) → X164 (cz .f32 0) (0 : Int))) → X143 order144 m146 x147) → X143 ([] : List (Int)) ([] : List (Int × Int)) (0 : Int)) ∧ (y101 = false → K (cz .f32 0) (false)))
end Go.Proofs.Ytecdkjnomkdbkaa.G

namespace Go.Proofs.Ytecdkjnomkdbkaa.G
open Go Go.Ab
set_option maxRecDepth 100000
set_option linter.unusedVariables false
set_option linter.unusedSimpArgs false
set_option maxHeartbeats 1000000
def laws_FnExactEntropyOf.wp (l0 : List (Int)) (K : Bool → Prop) : Prop := (((1048576 : Int) < (l0.length : Int) → K (true)) ∧ (¬((1048576 : Int) < (l0.length : Int)) → laws_toInt64S.wp l0 fun y102 => spec_EntropyOf.wp y102 fun y106 y107 => laws_toInt64S.wp l0 fun y109 => impl_EntropyOf.wp y109 fun y113 y114 => laws_sameFloat.wp (widen y113) (widen y106) fun y116 => ((y116 = true → (((y114 == y107) = true → laws_toInt64S.wp l0 fun y120 => laws_eqInt64S.wp y109 y120 fun y124 => ((y124 = true → K (true)) ∧ (y124 = false → K (false)))) ∧ ((y114 == y107) = false → K (false)))) ∧ (y116 = false → K (false)))))
end Go.Proofs.Ytecdkjnomkdbkaa.G

namespace Go.Proofs.Ytecdkjnomkdbkaa.G
open Go Go.Ab
set_option maxRecDepth 100000
set_option linter.unusedVariables false
set_option linter.unusedSimpArgs false
set_option maxHeartbeats 1000000
def laws_markInt64S.wp (l0 : List (Int)) (a1 : Int) (K : Int → (List (Int)) → Prop) : Prop := ∀ X108 : List (Int) → Int → Int → Prop, (∀ (a109 : List (Int)) (k110 : Int) (i111 : Int), ((i111 < (a109.length : Int) → (0 ≤ i111 ∧ i111 < (a109.length : Int)) ∧ X108 (a109.set (i111).toNat k110) (IntKind.i64.wrap (k110 + (1 : Int))) (IntKind.i64.wrap (i111 + (1 : Int)))) ∧ (¬(i111 < (a109.length : Int)) → K (k110) (a109))) → X108 a109 k110 i111) → X108 (l0) (a1) (0 : Int)
end Go.Proofs.Ytecdkjnomkdbkaa.G

namespace Go.Proofs.Ytecdkjnomkdbkaa.G
open Go Go.Ab
set_option maxRecDepth 100000
set_option linter.unusedVariables false
set_option linter.unusedSimpArgs false
set_option maxHeartbeats 1000000
def laws_heldInt64S.wp (l0 : List (Int)) (a1 : Int) (K : Int → Prop) : Prop := ∀ X101 : Int → Int → Prop, (∀ (k102 : Int) (i103 : Int), ((i103 < (l0.length : Int) → (0 ≤ i103 ∧ i103 < (l0.length : Int)) ∧ (((l0.getD (i103).toNat (0 : Int)) = k102 → X101 (IntKind.i64.wrap (k102 + (1 : Int))) (IntKind.i64.wrap (i103 + (1 : Int)))) ∧ (¬((l0.getD (i103).toNat (0 : Int)) = k102) → K (-1 : Int)))) ∧ (¬(i103 < (l0.length : Int)) → K (k102))) → X101 k102 i103) → X101 (a1) (0 : Int)
end Go.Proofs.Ytecdkjnomkdbkaa.G

namespace Go.Proofs.Ytecdkjnomkdbkaa.G
open Go Go.Ab
set_option maxRecDepth 100000
set_option linter.unusedVariables false
set_option linter.unusedSimpArgs false
set_option maxHeartbeats 1000000
def impl_isLeast.wp (a0 : Nat) (K : Bool → Prop) : Prop := impl_IsFinite.wp a0 fun y101 => ((y101 = true → K (fcmp .geq .f32 a0 (cz .f32 0))) ∧ (y101 = false → K (false)))
end Go.Proofs.Ytecdkjnomkdbkaa.G

namespace Go.Proofs.Ytecdkjnomkdbkaa.G
open Go Go.Ab
set_option maxRecDepth 100000
set_option linter.unusedVariables false
set_option linter.unusedSimpArgs false
set_option maxHeartbeats 1000000
def impl_isShare.wp (a0 : Nat) (K : Bool → Prop) : Prop := (((fcmp .geq .f32 a0 (cz .f32 0)) = true → K (fcmp .leq .f32 a0 (cz .f32 1065353216))) ∧ ((fcmp .geq .f32 a0 (cz .f32 0)) = false → K (false)))
end Go.Proofs.Ytecdkjnomkdbkaa.G

namespace Go.Proofs.Ytecdkjnomkdbkaa.G
open Go Go.Ab
set_option maxRecDepth 100000
set_option linter.unusedVariables false
set_option linter.unusedSimpArgs false
set_option maxHeartbeats 1000000
def impl_areFinite.wp (l0 : List (List (Nat))) (K : Bool → Prop) : Prop := ∀ X101 : Int → Prop, (∀ (x102 : Int), ((x102 < (l0.length : Int) → (0 ≤ x102 ∧ x102 < (l0.length : Int)) ∧ ∀ X105 : Int → Prop, (∀ (x106 : Int), ((x106 < ((l0.getD (x102).toNat ([] : List (Nat))).length : Int) → (0 ≤ x106 ∧ x106 < ((l0.getD (x102).toNat ([] : List (Nat))).length : Int)) ∧ impl_IsFinite.wp ((l0.getD (x102).toNat ([] : List (Nat))).getD (x106).toNat (0 : Nat)) fun y109 => ((y109 = true → X105 (IntKind.i64.wrap (x106 + (1 : Int)))) ∧ (y109 = false → K (false)))) ∧ (¬(x106 < ((l0.getD (x102).toNat ([] : List (Nat))).length : Int)) → X101 (IntKind.i64.wrap (x102 + (1 : Int))))) → X105 x106) → X105 (0 : Int)) ∧ (¬(x102 < (l0.length : Int)) → K (true))) → X101 x102) → X101 (0 : Int)
end Go.Proofs.Ytecdkjnomkdbkaa.G

namespace Go.Proofs.Ytecdkjnomkdbkaa.G
open Go Go.Ab
set_option maxRecDepth 100000
set_option linter.unusedVariables false
set_option linter.unusedSimpArgs false
set_option maxHeartbeats 1000000
def impl_finiteList.wp (l0 : List (Nat)) (K : Bool → Bool → Prop) : Prop := impl_areFinite.wp ([l0] : List (List (Nat))) fun y104 => ((y104 = true → K (true) (true)) ∧ (y104 = false → K (false) (false)))
end Go.Proofs.Ytecdkjnomkdbkaa.G

namespace Go.Proofs.Ytecdkjnomkdbkaa.G
open Go Go.Ab
set_option maxRecDepth 100000
set_option linter.unusedVariables false
set_option linter.unusedSimpArgs false
set_option maxHeartbeats 1000000
def spec_l02Least.wp (a0 : Nat) (K : Bool → Prop) : Prop := spec_l01Finite.wp a0 fun y101 => ((y101 = true → K (fcmp .geq .f32 a0 (cz .f32 0))) ∧ (y101 = false → K (false)))
end Go.Proofs.Ytecdkjnomkdbkaa.G

namespace Go.Proofs.Ytecdkjnomkdbkaa.G
open Go Go.Ab
set_option maxRecDepth 100000
set_option linter.unusedVariables false
set_option linter.unusedSimpArgs false
set_option maxHeartbeats 1000000
def spec_l02Share.wp (a0 : Nat) (K : Bool → Prop) : Prop := (((fcmp .geq .f32 a0 (cz .f32 0)) = true → K (fcmp .leq .f32 a0 (cz .f32 1065353216))) ∧ ((fcmp .geq .f32 a0 (cz .f32 0)) = false → K (false)))
end Go.Proofs.Ytecdkjnomkdbkaa.G

namespace Go.Proofs.Ytecdkjnomkdbkaa.G
open Go Go.Ab
set_option maxRecDepth 100000
set_option linter.unusedVariables false
set_option linter.unusedSimpArgs false
set_option maxHeartbeats 1000000
def spec_l02Finite.wp (l0 : List (Nat)) (K : Bool → Prop) : Prop := ∀ X101 : Int → Prop, (∀ (i102 : Int), ((i102 < (l0.length : Int) → (0 ≤ i102 ∧ i102 < (l0.length : Int)) ∧ spec_l01Finite.wp (l0.getD (i102).toNat (0 : Nat)) fun y105 => ((y105 = true → X101 (IntKind.i64.wrap (i102 + (1 : Int)))) ∧ (y105 = false → K (false)))) ∧ (¬(i102 < (l0.length : Int)) → K (true))) → X101 i102) → X101 (0 : Int)
end Go.Proofs.Ytecdkjnomkdbkaa.G

namespace Go.Proofs.Ytecdkjnomkdbkaa.G
open Go Go.Ab
set_option maxRecDepth 100000
set_option linter.unusedVariables false
set_option linter.unusedSimpArgs false
set_option maxHeartbeats 1000000
def spec_l03Size.wp (a0 : Nat) (K : Nat → Prop) : Prop := (((fcmp .leq .f32 a0 (cz .f32 0)) = true → K (fop .sub .f32 (cz .f32 0) a0)) ∧ ((fcmp .leq .f32 a0 (cz .f32 0)) = false → K (a0)))
end Go.Proofs.Ytecdkjnomkdbkaa.G

namespace Go.Proofs.Ytecdkjnomkdbkaa.G
open Go Go.Ab
set_option maxRecDepth 100000
set_option linter.unusedVariables false
set_option linter.unusedSimpArgs false
set_option maxHeartbeats 1000000
def impl_size.wp (a0 : Nat) (K : Nat → Prop) : Prop := (((fcmp .lss .f32 a0 (cz .f32 0)) = true → K (fneg .f32 a0)) ∧ ((fcmp .lss .f32 a0 (cz .f32 0)) = false → (((fcmp .eql .f32 a0 (cz .f32 0)) = true → K (cz .f32 0)) ∧ ((fcmp .eql .f32 a0 (cz .f32 0)) = false → K (a0)))))
end Go.Proofs.Ytecdkjnomkdbkaa.G

