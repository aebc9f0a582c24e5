/-
  What the functions compute, as formulas over numbers and lists. Printed by a program of the session; nothing here is trusted.
-/
import Derived.Test.YtpeijfnfffogeaaAbK
namespace Go.Proofs.Ytpeijfnfffogeaa.G
open Go Go.Ab
set_option maxRecDepth 100000
set_option linter.unusedVariables false
set_option linter.unusedSimpArgs false
set_option maxHeartbeats 1000000
def R_LeFlt_f32_o (H : Heap) (x : List (Nat)) (c : List AV) : Prop := c = [(c.getD 0 .und)] ∧ Shows H (c.getD 0 .und) 1 (enc (eFlt .f32) x)
def R_LeInt_i64_o (H : Heap) (x : List (Int)) (c : List AV) : Prop := c = [(c.getD 0 .und)] ∧ Shows H (c.getD 0 .und) 1 (enc (eInt .i64) x)
def R_LePair_eBool_ePair_eFlt_f32_eInt_i64_o (H : Heap) (x : List ((Bool) × (Nat) × (Int))) (c : List AV) : Prop := c = [(c.getD 0 .und)] ∧ Shows H (c.getD 0 .und) 3 (enc (ePair eBool (ePair (eFlt .f32) (eInt .i64))) x)
def R_LePair_eInt_i64_eFlt_f32_o (H : Heap) (x : List ((Int) × (Nat))) (c : List AV) : Prop := c = [(c.getD 0 .und)] ∧ Shows H (c.getD 0 .und) 2 (enc (ePair (eInt .i64) (eFlt .f32)) x)
def R_s_ii64_LeFlt_f32_poooq (H : Heap) (x : (List UInt8) × (Int) × (List (Nat))) (c : List AV) : Prop := c = [(.str (pk x.1)), (.int .i64 x.2.1), (c.getD 2 .und)] ∧ Shows H (c.getD 2 .und) 1 (enc (eFlt .f32) x.2.2)
end Go.Proofs.Ytpeijfnfffogeaa.G

namespace Go.Proofs.Ytpeijfnfffogeaa.G
open Go Go.Ab
set_option maxRecDepth 100000
set_option linter.unusedVariables false
set_option linter.unusedSimpArgs false
set_option maxHeartbeats 1000000
def laws_szFloat32S.wp (l0 : List (Nat)) (a1 : Int) (K : Int → Prop) : Prop := (((IntKind.i64.wrap (a1 - (l0.length : Int))) < (0 : Int) → K (-1 : Int)) ∧ (¬((IntKind.i64.wrap (a1 - (l0.length : Int))) < (0 : Int)) → K (IntKind.i64.wrap (a1 - (l0.length : Int)))))
end Go.Proofs.Ytpeijfnfffogeaa.G

namespace Go.Proofs.Ytpeijfnfffogeaa.G
open Go Go.Ab
set_option maxRecDepth 100000
set_option linter.unusedVariables false
set_option linter.unusedSimpArgs false
set_option maxHeartbeats 1000000
def laws_szPair.wp (l0 : List (Nat)) (a1 : Int) (K : Int → Prop) : Prop := laws_szFloat32S.wp l0 a1 fun y104 => ((y104 < (0 : Int) → K (-1 : Int)) ∧ (¬(y104 < (0 : Int)) → K (y104)))
end Go.Proofs.Ytpeijfnfffogeaa.G

namespace Go.Proofs.Ytpeijfnfffogeaa.G
open Go Go.Ab
set_option maxRecDepth 100000
set_option linter.unusedVariables false
set_option linter.unusedSimpArgs false
set_option maxHeartbeats 1000000
def spec_l01Finite.wp (a0 : Nat) (K : Bool → Prop) : Prop := K (fcmp .eql .f32 (fop .sub .f32 a0 a0) (cz .f32 0))
end Go.Proofs.Ytpeijfnfffogeaa.G

namespace Go.Proofs.Ytpeijfnfffogeaa.G
open Go Go.Ab
set_option maxRecDepth 100000
set_option linter.unusedVariables false
set_option linter.unusedSimpArgs false
set_option maxHeartbeats 1000000
def spec_l02Finite.wp (l0 : List (Nat)) (K : Bool → Prop) : Prop := ∀ X101 : Int → Prop, (∀ (i102 : Int), ((i102 < (l0.length : Int) → (0 ≤ i102 ∧ i102 < (l0.length : Int)) ∧ spec_l01Finite.wp (l0.getD (i102).toNat (0 : Nat)) fun y105 => ((y105 = true → X101 (IntKind.i64.wrap (i102 + (1 : Int)))) ∧ (y105 = false → K (false)))) ∧ (¬(i102 < (l0.length : Int)) → K (true))) → X101 i102) → X101 (0 : Int)
end Go.Proofs.Ytpeijfnfffogeaa.G

namespace Go.Proofs.Ytpeijfnfffogeaa.G
open Go Go.Ab
set_option maxRecDepth 100000
set_option linter.unusedVariables false
set_option linter.unusedSimpArgs false
set_option maxHeartbeats 1000000
def spec_l03Long.wp (l0 : List (Nat)) (K : Bool → Prop) : Prop := (((1 : Int) ≤ (l0.length : Int) → (((l0.length : Int) ≤ (128 : Int) → spec_l02Finite.wp l0 fun y103 => K (y103)) ∧ (¬((l0.length : Int) ≤ (128 : Int)) → K (false)))) ∧ (¬((1 : Int) ≤ (l0.length : Int)) → K (false)))
end Go.Proofs.Ytpeijfnfffogeaa.G

namespace Go.Proofs.Ytpeijfnfffogeaa.G
open Go Go.Ab
set_option maxRecDepth 100000
set_option linter.unusedVariables false
set_option linter.unusedSimpArgs false
set_option maxHeartbeats 1000000
def spec_l03Pair.wp (l0 : List (Nat)) (K : Bool → Prop) : Prop := (((l0.length : Int) < (2 : Int) → K (false)) ∧ (¬((l0.length : Int) < (2 : Int)) → (((8 : Int) < (l0.length : Int) → K (false)) ∧ (¬((8 : Int) < (l0.length : Int)) → (((Int.tmod (l0.length : Int) (2 : Int)) = (0 : Int) → spec_l02Finite.wp l0 fun y104 => ((y104 = true → ∀ X107 : Int → Prop, (∀ (shift108 : Int), ((shift108 < (l0.length : Int) → ∀ X110 : Nat → Int → Prop, (∀ (sum111 : Nat) (k112 : Int), (((IntKind.i64.wrap (k112 + shift108)) < (l0.length : Int) → (0 ≤ k112 ∧ k112 < (l0.length : Int)) ∧ (0 ≤ (IntKind.i64.wrap (k112 + shift108)) ∧ (IntKind.i64.wrap (k112 + shift108)) < (l0.length : Int)) ∧ X110 (fop .add .f32 sum111 (fop .mul .f32 (l0.getD (k112).toNat (0 : Nat)) (l0.getD ((IntKind.i64.wrap (k112 + shift108))).toNat (0 : Nat)))) (IntKind.i64.wrap (k112 + (1 : Int)))) ∧ (¬((IntKind.i64.wrap (k112 + shift108)) < (l0.length : Int)) → ((shift108 = (0 : Int) → (((fcmp .leq .f32 (fop .sub .f32 sum111 (cz .f32 1065353216)) (cz .f32 981668463)) = true → (((fcmp .geq .f32 (fop .sub .f32 sum111 (cz .f32 1065353216)) (cz .f32 3129152111)) = true → X107 (IntKind.i64.wrap (shift108 + (2 : Int)))) ∧ ((fcmp .geq .f32 (fop .sub .f32 sum111 (cz .f32 1065353216)) (cz .f32 3129152111)) = false → K (false)))) ∧ ((fcmp .leq .f32 (fop .sub .f32 sum111 (cz .f32 1065353216)) (cz .f32 981668463)) = false → K (false)))) ∧ (¬(shift108 = (0 : Int)) → (((fcmp .leq .f32 sum111 (cz .f32 981668463)) = true → (((fcmp .geq .f32 sum111 (cz .f32 3129152111)) = true → X107 (IntKind.i64.wrap (shift108 + (2 : Int)))) ∧ ((fcmp .geq .f32 sum111 (cz .f32 3129152111)) = false → K (false)))) ∧ ((fcmp .leq .f32 sum111 (cz .f32 981668463)) = false → K (false))))))) → X110 sum111 k112) → X110 (cz .f32 0) (0 : Int)) ∧ (¬(shift108 < (l0.length : Int)) → K (true))) → X107 shift108) → X107 (0 : Int)) ∧ (y104 = false → K (false)))) ∧ (¬((Int.tmod (l0.length : Int) (2 : Int)) = (0 : Int)) → K (false)))))))
end Go.Proofs.Ytpeijfnfffogeaa.G

namespace Go.Proofs.Ytpeijfnfffogeaa.G
open Go Go.Ab
set_option maxRecDepth 100000
set_option linter.unusedVariables false
set_option linter.unusedSimpArgs false
set_option maxHeartbeats 1000000
def spec_l02Least.wp (a0 : Nat) (K : Bool → Prop) : Prop := spec_l01Finite.wp a0 fun y101 => ((y101 = true → K (fcmp .geq .f32 a0 (cz .f32 0))) ∧ (y101 = false → K (false)))
end Go.Proofs.Ytpeijfnfffogeaa.G

namespace Go.Proofs.Ytpeijfnfffogeaa.G
open Go Go.Ab
set_option maxRecDepth 100000
set_option linter.unusedVariables false
set_option linter.unusedSimpArgs false
set_option maxHeartbeats 1000000
def spec_l02Share.wp (a0 : Nat) (K : Bool → Prop) : Prop := (((fcmp .geq .f32 a0 (cz .f32 0)) = true → K (fcmp .leq .f32 a0 (cz .f32 1065353216))) ∧ ((fcmp .geq .f32 a0 (cz .f32 0)) = false → K (false)))
end Go.Proofs.Ytpeijfnfffogeaa.G

namespace Go.Proofs.Ytpeijfnfffogeaa.G
open Go Go.Ab
set_option maxRecDepth 100000
set_option linter.unusedVariables false
set_option linter.unusedSimpArgs false
set_option maxHeartbeats 1000000
def spec_l03Taps.wp (l0 : List (Nat)) (l1 : List (Nat)) (K : (List (Nat)) → Prop) : Prop := ∀ X124 : List (Nat) → Int → Prop, (∀ (out125 : List (Nat)) (j127 : Int), (((IntKind.i64.wrap ((2 : Int) * j127)) < (l0.length : Int) → ∀ X129 : Nat → Int → Prop, (∀ (sum130 : Nat) (x131 : Int), ((x131 < (l1.length : Int) → (0 ≤ x131 ∧ x131 < (l1.length : Int)) ∧ ((l0.length : Int) ≠ 0) ∧ (0 ≤ (Int.tmod (IntKind.i64.wrap ((IntKind.i64.wrap ((2 : Int) * j127)) + x131)) (l0.length : Int)) ∧ (Int.tmod (IntKind.i64.wrap ((IntKind.i64.wrap ((2 : Int) * j127)) + x131)) (l0.length : Int)) < (l0.length : Int)) ∧ X129 (fop .add .f32 sum130 (fop .mul .f32 (l1.getD (x131).toNat (0 : Nat)) (l0.getD ((Int.tmod (IntKind.i64.wrap ((IntKind.i64.wrap ((2 : Int) * j127)) + x131)) (l0.length : Int))).toNat (0 : Nat)))) (IntKind.i64.wrap (x131 + (1 : Int)))) ∧ (¬(x131 < (l1.length : Int)) → ((out125.length + ([sum130] : List (Nat)).length) * 4 ≤ 2 ^ 40) ∧ X124 (out125 ++ ([sum130] : List (Nat))) (IntKind.i64.wrap (j127 + (1 : Int))))) → X129 sum130 x131) → X129 (cz .f32 0) (0 : Int)) ∧ (¬((IntKind.i64.wrap ((2 : Int) * j127)) < (l0.length : Int)) → K (out125))) → X124 out125 j127) → X124 ([] : List (Nat)) (0 : Int)
end Go.Proofs.Ytpeijfnfffogeaa.G

namespace Go.Proofs.Ytpeijfnfffogeaa.G
open Go Go.Ab
set_option maxRecDepth 100000
set_option linter.unusedVariables false
set_option linter.unusedSimpArgs false
set_option maxHeartbeats 1000000
def spec_l03High.wp (l0 : List (Nat)) (K : (List (Nat)) → Prop) : Prop := ∀ X123 : List (Nat) → Int → Prop, (∀ (out124 : List (Nat)) (k126 : Int), ((k126 < (l0.length : Int) → (0 ≤ (IntKind.i64.wrap ((IntKind.i64.wrap ((l0.length : Int) - (1 : Int))) - k126)) ∧ (IntKind.i64.wrap ((IntKind.i64.wrap ((l0.length : Int) - (1 : Int))) - k126)) < (l0.length : Int)) ∧ (((Int.tmod k126 (2 : Int)) = (1 : Int) → ((out124.length + ([(fneg .f32 (l0.getD ((IntKind.i64.wrap ((IntKind.i64.wrap ((l0.length : Int) - (1 : Int))) - k126))).toNat (0 : Nat)))] : List (Nat)).length) * 4 ≤ 2 ^ 40) ∧ X123 (out124 ++ ([(fneg .f32 (l0.getD ((IntKind.i64.wrap ((IntKind.i64.wrap ((l0.length : Int) - (1 : Int))) - k126))).toNat (0 : Nat)))] : List (Nat))) (IntKind.i64.wrap (k126 + (1 : Int)))) ∧ (¬((Int.tmod k126 (2 : Int)) = (1 : Int)) → ((out124.length + ([(l0.getD ((IntKind.i64.wrap ((IntKind.i64.wrap ((l0.length : Int) - (1 : Int))) - k126))).toNat (0 : Nat))] : List (Nat)).length) * 4 ≤ 2 ^ 40) ∧ X123 (out124 ++ ([(l0.getD ((IntKind.i64.wrap ((IntKind.i64.wrap ((l0.length : Int) - (1 : Int))) - k126))).toNat (0 : Nat))] : List (Nat))) (IntKind.i64.wrap (k126 + (1 : Int)))))) ∧ (¬(k126 < (l0.length : Int)) → K (out124))) → X123 out124 k126) → X123 ([] : List (Nat)) (0 : Int)
end Go.Proofs.Ytpeijfnfffogeaa.G

namespace Go.Proofs.Ytpeijfnfffogeaa.G
open Go Go.Ab
set_option maxRecDepth 100000
set_option linter.unusedVariables false
set_option linter.unusedSimpArgs false
set_option maxHeartbeats 1000000
def spec_SplitRing.wp (l0 : List (Nat)) (l1 : List (Nat)) (K : (List (Nat)) → (List (Nat)) → Bool → Prop) : Prop := spec_l03Long.wp l0 fun y104 => ((y104 = true → (((Int.tmod (l0.length : Int) (2 : Int)) = (0 : Int) → spec_l03Pair.wp l1 fun y108 => ((y108 = true → spec_l03Taps.wp l0 l1 fun y111 => spec_l03High.wp l1 fun y115 => spec_l03Taps.wp l0 y115 fun y119 => spec_l02Finite.wp y111 fun y123 => ((y123 = true → spec_l02Finite.wp y119 fun y126 => ((y126 = true → K (y111) (y119) (true)) ∧ (y126 = false → K ([] : List (Nat)) ([] : List (Nat)) (false)))) ∧ (y123 = false → K ([] : List (Nat)) ([] : List (Nat)) (false)))) ∧ (y108 = false → K ([] : List (Nat)) ([] : List (Nat)) (false)))) ∧ (¬((Int.tmod (l0.length : Int) (2 : Int)) = (0 : Int)) → K ([] : List (Nat)) ([] : List (Nat)) (false)))) ∧ (y104 = false → K ([] : List (Nat)) ([] : List (Nat)) (false)))
end Go.Proofs.Ytpeijfnfffogeaa.G

namespace Go.Proofs.Ytpeijfnfffogeaa.G
open Go Go.Ab
set_option maxRecDepth 100000
set_option linter.unusedVariables false
set_option linter.unusedSimpArgs false
set_option maxHeartbeats 1000000
def spec_l00In.wp (a0 : Int) (a1 : Int) (a2 : Int) (K : Bool → Prop) : Prop := ((a1 ≤ a0 → K (decide (a0 ≤ a2))) ∧ (¬(a1 ≤ a0) → K (false)))
end Go.Proofs.Ytpeijfnfffogeaa.G

namespace Go.Proofs.Ytpeijfnfffogeaa.G
open Go Go.Ab
set_option maxRecDepth 100000
set_option linter.unusedVariables false
set_option linter.unusedSimpArgs false
set_option maxHeartbeats 1000000
def spec_SplitLevels.wp (l0 : List (Nat)) (l1 : List (Nat)) (a2 : Int) (K : (List (Nat)) → (List (List (Nat))) → Bool → Prop) : Prop := spec_l03Long.wp l0 fun y107 => ((y107 = true → spec_l03Pair.wp l1 fun y110 => ((y110 = true → spec_l00In.wp a2 (1 : Int) (6 : Int) fun y113 => ((y113 = true → (0 ≤ a2) ∧ ((IntKind.i64.wrap ((1 : Int) * (2 ^ (min (a2).toNat IntKind.i64.bits)))) ≠ 0) ∧ (((Int.tmod (l0.length : Int) (IntKind.i64.wrap ((1 : Int) * (2 ^ (min (a2).toNat IntKind.i64.bits))))) = (0 : Int) → ((([] : List (Nat)).length + l0.length) * 4 ≤ 2 ^ 40) ∧ ∀ X204 : List (Nat) → List (List (Nat)) → List (Nat) → List (List (Nat)) → Int → Prop, (∀ (l205 : List (Nat)) (b208 : List (List (Nat))) (b213 : List (Nat)) (b216 : List (List (Nat))) (levels220 : Int), (((0 : Int) < levels220 → spec_SplitRing.wp l205 l1 fun y222 y225 y228 => ((y228 = true → ((b208.length + ([y225] : List (List (Nat))).length) * 24 ≤ 2 ^ 40) ∧ X204 (y222) (b208 ++ ([y225] : List (List (Nat)))) (b213) (b216) (IntKind.i64.wrap (levels220 - (1 : Int)))) ∧ (y228 = false → K ([] : List (Nat)) ([] : List (List (Nat))) (false)))) ∧ (¬((0 : Int) < levels220) → K (l205) (b208) (true))) → X204 l205 b208 b213 b216 levels220) → X204 (([] : List (Nat)) ++ l0) ([] : List (List (Nat))) ([] : List (Nat)) ([] : List (List (Nat))) (a2)) ∧ (¬((Int.tmod (l0.length : Int) (IntKind.i64.wrap ((1 : Int) * (2 ^ (min (a2).toNat IntKind.i64.bits))))) = (0 : Int)) → K ([] : List (Nat)) ([] : List (List (Nat))) (false)))) ∧ (y113 = false → K ([] : List (Nat)) ([] : List (List (Nat))) (false)))) ∧ (y110 = false → K ([] : List (Nat)) ([] : List (List (Nat))) (false)))) ∧ (y107 = false → K ([] : List (Nat)) ([] : List (List (Nat))) (false)))
end Go.Proofs.Ytpeijfnfffogeaa.G

namespace Go.Proofs.Ytpeijfnfffogeaa.G
open Go Go.Ab
set_option maxRecDepth 100000
set_option linter.unusedVariables false
set_option linter.unusedSimpArgs false
set_option maxHeartbeats 1000000
def spec_l03Bands.wp (l0 : List (Nat)) (l1 : List (List (Nat))) (K : Bool → Prop) : Prop := (((l1.length : Int) < (1 : Int) → K (false)) ∧ (¬((l1.length : Int) < (1 : Int)) → (((6 : Int) < (l1.length : Int) → K (false)) ∧ (¬((6 : Int) < (l1.length : Int)) → (0 ≤ (0 : Int) ∧ (0 : Int) < (l1.length : Int)) ∧ (((64 : Int) < ((l1.getD ((0 : Int)).toNat ([] : List (Nat))).length : Int) → K (false)) ∧ (¬((64 : Int) < ((l1.getD ((0 : Int)).toNat ([] : List (Nat))).length : Int)) → spec_l02Finite.wp l0 fun y105 => ((y105 = true → ∀ X108 : Int → Prop, (∀ (x109 : Int), ((x109 < (l1.length : Int) → (0 ≤ x109 ∧ x109 < (l1.length : Int)) ∧ ((((l1.getD (x109).toNat ([] : List (Nat))).length : Int) < (1 : Int) → K (false)) ∧ (¬(((l1.getD (x109).toNat ([] : List (Nat))).length : Int) < (1 : Int)) → spec_l02Finite.wp (l1.getD (x109).toNat ([] : List (Nat))) fun y113 => ((y113 = true → (((0 : Int) < x109 → (0 ≤ (IntKind.i64.wrap (x109 - (1 : Int))) ∧ (IntKind.i64.wrap (x109 - (1 : Int))) < (l1.length : Int)) ∧ ((((l1.getD ((IntKind.i64.wrap (x109 - (1 : Int)))).toNat ([] : List (Nat))).length : Int) = (IntKind.i64.wrap ((2 : Int) * ((l1.getD (x109).toNat ([] : List (Nat))).length : Int))) → X108 (IntKind.i64.wrap (x109 + (1 : Int)))) ∧ (¬(((l1.getD ((IntKind.i64.wrap (x109 - (1 : Int)))).toNat ([] : List (Nat))).length : Int) = (IntKind.i64.wrap ((2 : Int) * ((l1.getD (x109).toNat ([] : List (Nat))).length : Int)))) → K (false)))) ∧ (¬((0 : Int) < x109) → X108 (IntKind.i64.wrap (x109 + (1 : Int)))))) ∧ (y113 = false → K (false)))))) ∧ (¬(x109 < (l1.length : Int)) → (0 ≤ (IntKind.i64.wrap ((l1.length : Int) - (1 : Int))) ∧ (IntKind.i64.wrap ((l1.length : Int) - (1 : Int))) < (l1.length : Int)) ∧ K (decide ((l0.length : Int) = ((l1.getD ((IntKind.i64.wrap ((l1.length : Int) - (1 : Int)))).toNat ([] : List (Nat))).length : Int))))) → X108 x109) → X108 (0 : Int)) ∧ (y105 = false → K (false)))))))))
end Go.Proofs.Ytpeijfnfffogeaa.G

namespace Go.Proofs.Ytpeijfnfffogeaa.G
open Go Go.Ab
set_option maxRecDepth 100000
set_option linter.unusedVariables false
set_option linter.unusedSimpArgs false
set_option maxHeartbeats 1000000
def spec_l03Size.wp (a0 : Nat) (K : Nat → Prop) : Prop := (((fcmp .leq .f32 a0 (cz .f32 0)) = true → K (fop .sub .f32 (cz .f32 0) a0)) ∧ ((fcmp .leq .f32 a0 (cz .f32 0)) = false → K (a0)))
end Go.Proofs.Ytpeijfnfffogeaa.G

namespace Go.Proofs.Ytpeijfnfffogeaa.G
open Go Go.Ab
set_option maxRecDepth 100000
set_option linter.unusedVariables false
set_option linter.unusedSimpArgs false
set_option maxHeartbeats 1000000
def spec_l05Shrink.wp (a0 : Nat) (a1 : Nat) (a2 : Bool) (K : Nat → Prop) : Prop := spec_l03Size.wp a0 fun y101 => (((fcmp .gtr .f32 y101 a1) = true → ((a2 = true → K (a0)) ∧ (a2 = false → (((fcmp .lss .f32 a0 (cz .f32 0)) = true → K (fneg .f32 (fop .sub .f32 y101 a1))) ∧ ((fcmp .lss .f32 a0 (cz .f32 0)) = false → K (fop .sub .f32 y101 a1)))))) ∧ ((fcmp .gtr .f32 y101 a1) = false → K (cz .f32 0)))
end Go.Proofs.Ytpeijfnfffogeaa.G

namespace Go.Proofs.Ytpeijfnfffogeaa.G
open Go Go.Ab
set_option maxRecDepth 100000
set_option linter.unusedVariables false
set_option linter.unusedSimpArgs false
set_option maxHeartbeats 1000000
def spec_l05List.wp (l0 : List (Nat)) (a1 : Nat) (a2 : Bool) (K : (List (Nat)) → Prop) : Prop := ∀ X118 : List (Nat) → Int → Prop, (∀ (out119 : List (Nat)) (x121 : Int), ((x121 < (l0.length : Int) → (0 ≤ x121 ∧ x121 < (l0.length : Int)) ∧ spec_l05Shrink.wp (l0.getD (x121).toNat (0 : Nat)) a1 a2 fun y124 => ((out119.length + ([y124] : List (Nat)).length) * 4 ≤ 2 ^ 40) ∧ X118 (out119 ++ ([y124] : List (Nat))) (IntKind.i64.wrap (x121 + (1 : Int)))) ∧ (¬(x121 < (l0.length : Int)) → K (out119))) → X118 out119 x121) → X118 ([] : List (Nat)) (0 : Int)
end Go.Proofs.Ytpeijfnfffogeaa.G

namespace Go.Proofs.Ytpeijfnfffogeaa.G
open Go Go.Ab
set_option maxRecDepth 100000
set_option linter.unusedVariables false
set_option linter.unusedSimpArgs false
set_option maxHeartbeats 1000000
def spec_ShrinkBands.wp (l0 : List (Nat)) (l1 : List (List (Nat))) (l2 : List (Nat)) (a3 : Bool) (K : (List (Nat)) → (List (List (Nat))) → Bool → Prop) : Prop := spec_l03Bands.wp l0 l1 fun y107 => ((y107 = true → (((l2.length : Int) = (l1.length : Int) → ((([] : List (Nat)).length + l0.length) * 4 ≤ 2 ^ 40) ∧ ∀ X145 : List (List (Nat)) → List (Nat) → List (List (Nat)) → Int → Prop, (∀ (b147 : List (List (Nat))) (b152 : List (Nat)) (b155 : List (List (Nat))) (x159 : Int), ((x159 < (l1.length : Int) → (0 ≤ x159 ∧ x159 < (l2.length : Int)) ∧ spec_l02Least.wp (l2.getD (x159).toNat (0 : Nat)) fun y162 => ((y162 = true → (0 ≤ x159 ∧ x159 < (l1.length : Int)) ∧ spec_l05List.wp (l1.getD (x159).toNat ([] : List (Nat))) (l2.getD (x159).toNat (0 : Nat)) a3 fun y166 => ((b147.length + ([y166] : List (List (Nat))).length) * 24 ≤ 2 ^ 40) ∧ X145 (b147 ++ ([y166] : List (List (Nat)))) (b152) (b155) (IntKind.i64.wrap (x159 + (1 : Int)))) ∧ (y162 = false → K ([] : List (Nat)) ([] : List (List (Nat))) (false)))) ∧ (¬(x159 < (l1.length : Int)) → K (([] : List (Nat)) ++ l0) (b147) (true))) → X145 b147 b152 b155 x159) → X145 ([] : List (List (Nat))) ([] : List (Nat)) ([] : List (List (Nat))) (0 : Int)) ∧ (¬((l2.length : Int) = (l1.length : Int)) → K ([] : List (Nat)) ([] : List (List (Nat))) (false)))) ∧ (y107 = false → K ([] : List (Nat)) ([] : List (List (Nat))) (false)))
end Go.Proofs.Ytpeijfnfffogeaa.G

namespace Go.Proofs.Ytpeijfnfffogeaa.G
open Go Go.Ab
set_option maxRecDepth 100000
set_option linter.unusedVariables false
set_option linter.unusedSimpArgs false
set_option maxHeartbeats 1000000
def spec_l03Join.wp (l0 : List (Nat)) (l1 : List (Nat)) (l2 : List (Nat)) (K : (List (Nat)) → Prop) : Prop := spec_l03High.wp l2 fun y101 => (0 ≤ (IntKind.i64.wrap ((2 : Int) * (l0.length : Int))) ∧ (IntKind.i64.wrap ((2 : Int) * (l0.length : Int))) ≤ (IntKind.i64.wrap ((2 : Int) * (l0.length : Int))) ∧ (IntKind.i64.wrap ((2 : Int) * (l0.length : Int))) ≤ 2 ^ 40 ∧ (IntKind.i64.wrap ((2 : Int) * (l0.length : Int))) * 4 ≤ 2 ^ 40) ∧ ∀ X135 : List (Nat) → Int → Prop, (∀ (out136 : List (Nat)) (x137 : Int), ((x137 < (l0.length : Int) → ∀ X149 : List (Nat) → Int → Prop, (∀ (out150 : List (Nat)) (x151 : Int), ((x151 < (l2.length : Int) → ((IntKind.i64.wrap ((2 : Int) * (l0.length : Int))) ≠ 0) ∧ (0 ≤ (Int.tmod (IntKind.i64.wrap ((IntKind.i64.wrap ((2 : Int) * x137)) + x151)) (IntKind.i64.wrap ((2 : Int) * (l0.length : Int)))) ∧ (Int.tmod (IntKind.i64.wrap ((IntKind.i64.wrap ((2 : Int) * x137)) + x151)) (IntKind.i64.wrap ((2 : Int) * (l0.length : Int)))) < (out150.length : Int)) ∧ (0 ≤ x151 ∧ x151 < (l2.length : Int)) ∧ (0 ≤ x137 ∧ x137 < (l0.length : Int)) ∧ (0 ≤ x151 ∧ x151 < (y101.length : Int)) ∧ (0 ≤ x137 ∧ x137 < (l1.length : Int)) ∧ X149 (out150.set ((Int.tmod (IntKind.i64.wrap ((IntKind.i64.wrap ((2 : Int) * x137)) + x151)) (IntKind.i64.wrap ((2 : Int) * (l0.length : Int))))).toNat (fop .add .f32 (out150.getD ((Int.tmod (IntKind.i64.wrap ((IntKind.i64.wrap ((2 : Int) * x137)) + x151)) (IntKind.i64.wrap ((2 : Int) * (l0.length : Int))))).toNat (0 : Nat)) (fop .add .f32 (fop .mul .f32 (l2.getD (x151).toNat (0 : Nat)) (l0.getD (x137).toNat (0 : Nat))) (fop .mul .f32 (y101.getD (x151).toNat (0 : Nat)) (l1.getD (x137).toNat (0 : Nat)))))) (IntKind.i64.wrap (x151 + (1 : Int)))) ∧ (¬(x151 < (l2.length : Int)) → X135 (out150) (IntKind.i64.wrap (x137 + (1 : Int))))) → X149 out150 x151) → X149 (out136) (0 : Int)) ∧ (¬(x137 < (l0.length : Int)) → K (out136))) → X135 out136 x137) → X135 (List.replicate ((IntKind.i64.wrap ((2 : Int) * (l0.length : Int)))).toNat (0 : Nat)) (0 : Int)
end Go.Proofs.Ytpeijfnfffogeaa.G

namespace Go.Proofs.Ytpeijfnfffogeaa.G
open Go Go.Ab
set_option maxRecDepth 100000
set_option linter.unusedVariables false
set_option linter.unusedSimpArgs false
set_option maxHeartbeats 1000000
def spec_l03Levels.wp (l0 : List (Nat)) (l1 : List (List (Nat))) (l2 : List (Nat)) (K : (List (Nat)) → Bool → Prop) : Prop := ((([] : List (Nat)).length + l0.length) * 4 ≤ 2 ^ 40) ∧ ∀ X120 : List (Nat) → Int → Prop, (∀ (now121 : List (Nat)) (i123 : Int), (((0 : Int) ≤ i123 → (0 ≤ i123 ∧ i123 < (l1.length : Int)) ∧ spec_l03Join.wp now121 (l1.getD (i123).toNat ([] : List (Nat))) l2 fun y126 => spec_l02Finite.wp y126 fun y130 => ((y130 = true → X120 (y126) (IntKind.i64.wrap (i123 - (1 : Int)))) ∧ (y130 = false → K ([] : List (Nat)) (false)))) ∧ (¬((0 : Int) ≤ i123) → K (now121) (true))) → X120 now121 i123) → X120 (([] : List (Nat)) ++ l0) (IntKind.i64.wrap ((l1.length : Int) - (1 : Int)))
end Go.Proofs.Ytpeijfnfffogeaa.G

namespace Go.Proofs.Ytpeijfnfffogeaa.G
open Go Go.Ab
set_option maxRecDepth 100000
set_option linter.unusedVariables false
set_option linter.unusedSimpArgs false
set_option maxHeartbeats 1000000
def spec_JoinLevels.wp (l0 : List (Nat)) (l1 : List (List (Nat))) (l2 : List (Nat)) (K : (List (Nat)) → Bool → Prop) : Prop := spec_l03Bands.wp l0 l1 fun y107 => ((y107 = true → spec_l03Pair.wp l2 fun y110 => ((y110 = true → spec_l03Levels.wp l0 l1 l2 fun y113 y116 => K (y113) (y116)) ∧ (y110 = false → K ([] : List (Nat)) (false)))) ∧ (y107 = false → K ([] : List (Nat)) (false)))
end Go.Proofs.Ytpeijfnfffogeaa.G

namespace Go.Proofs.Ytpeijfnfffogeaa.G
open Go Go.Ab
set_option maxRecDepth 100000
set_option linter.unusedVariables false
set_option linter.unusedSimpArgs false
set_option maxHeartbeats 1000000
def spec_FillRounds.wp (l0 : List (Nat)) (l1 : List (Bool)) (l2 : List (Nat)) (a3 : Int) (a4 : Nat) (a5 : Nat) (a6 : Int) (K : (List (Nat)) → Bool → Prop) : Prop := spec_l03Long.wp l0 fun y104 => ((y104 = true → (((l1.length : Int) = (l0.length : Int) → spec_l03Pair.wp l2 fun y108 => ((y108 = true → spec_l00In.wp a3 (1 : Int) (6 : Int) fun y111 => ((y111 = true → (0 ≤ a3) ∧ ((IntKind.i64.wrap ((1 : Int) * (2 ^ (min (a3).toNat IntKind.i64.bits)))) ≠ 0) ∧ (((Int.tmod (l0.length : Int) (IntKind.i64.wrap ((1 : Int) * (2 ^ (min (a3).toNat IntKind.i64.bits))))) = (0 : Int) → spec_l02Least.wp a4 fun y117 => ((y117 = true → spec_l02Share.wp a5 fun y120 => ((y120 = true → spec_l00In.wp a6 (0 : Int) (32 : Int) fun y123 => ((y123 = true → ∀ X126 : Nat → Int → Int → Prop, (∀ (sum127 : Nat) (n128 : Int) (x129 : Int), ((x129 < (l0.length : Int) → (0 ≤ x129 ∧ x129 < (l1.length : Int)) ∧ (((l1.getD (x129).toNat false) = true → (0 ≤ x129 ∧ x129 < (l0.length : Int)) ∧ X126 (fop .add .f32 sum127 (l0.getD (x129).toNat (0 : Nat))) (IntKind.i64.wrap (n128 + (1 : Int))) (IntKind.i64.wrap (x129 + (1 : Int)))) ∧ ((l1.getD (x129).toNat false) = false → X126 (sum127) (n128) (IntKind.i64.wrap (x129 + (1 : Int)))))) ∧ (¬(x129 < (l0.length : Int)) → ((n128 = (0 : Int) → K ([] : List (Nat)) (false)) ∧ (¬(n128 = (0 : Int)) → ((([] : List (Nat)).length + l0.length) * 4 ≤ 2 ^ 40) ∧ ∀ X346 : List (Nat) → Int → Prop, (∀ (out347 : List (Nat)) (x348 : Int), ((x348 < ((([] : List (Nat)) ++ l0).length : Int) → (0 ≤ x348 ∧ x348 < (l1.length : Int)) ∧ (((l1.getD (x348).toNat false) = true → X346 (out347) (IntKind.i64.wrap (x348 + (1 : Int)))) ∧ ((l1.getD (x348).toNat false) = false → (0 ≤ x348 ∧ x348 < (out347.length : Int)) ∧ X346 (out347.set (x348).toNat (fop .quo .f32 sum127 (itof .f32 n128))) (IntKind.i64.wrap (x348 + (1 : Int)))))) ∧ (¬(x348 < ((([] : List (Nat)) ++ l0).length : Int)) → ∀ X418 : List (Nat) → Nat → Int → Prop, (∀ (out419 : List (Nat)) (limit421 : Nat) (turns422 : Int), (((0 : Int) < turns422 → spec_SplitLevels.wp out419 l2 a3 fun y424 y427 y432 => ∀ X493 : List (Nat) → Int → Prop, (∀ (limits494 : List (Nat)) (x496 : Int), ((x496 < (y427.length : Int) → ((limits494.length + ([limit421] : List (Nat)).length) * 4 ≤ 2 ^ 40) ∧ X493 (limits494 ++ ([limit421] : List (Nat))) (IntKind.i64.wrap (x496 + (1 : Int)))) ∧ (¬(x496 < (y427.length : Int)) → spec_ShrinkBands.wp y424 y427 limits494 false fun y504 y507 y512 => ((y432 = true → ((y512 = true → spec_JoinLevels.wp y504 y507 l2 fun y520 y523 => ((y523 = true → ∀ X534 : List (Nat) → Int → Prop, (∀ (next535 : List (Nat)) (x536 : Int), ((x536 < (y520.length : Int) → (0 ≤ x536 ∧ x536 < (l1.length : Int)) ∧ (((l1.getD (x536).toNat false) = true → (0 ≤ x536 ∧ x536 < (l0.length : Int)) ∧ (0 ≤ x536 ∧ x536 < (next535.length : Int)) ∧ X534 (next535.set (x536).toNat (l0.getD (x536).toNat (0 : Nat))) (IntKind.i64.wrap (x536 + (1 : Int)))) ∧ ((l1.getD (x536).toNat false) = false → X534 (next535) (IntKind.i64.wrap (x536 + (1 : Int)))))) ∧ (¬(x536 < (y520.length : Int)) → X418 (next535) (fop .mul .f32 limit421 a5) (IntKind.i64.wrap (turns422 - (1 : Int))))) → X534 next535 x536) → X534 (y520) (0 : Int)) ∧ (y523 = false → K ([] : List (Nat)) (false)))) ∧ (y512 = false → K ([] : List (Nat)) (false)))) ∧ (y432 = false → K ([] : List (Nat)) (false))))) → X493 limits494 x496) → X493 ([] : List (Nat)) (0 : Int)) ∧ (¬((0 : Int) < turns422) → spec_l02Finite.wp out419 fun y547 => ((y547 = true → K (out419) (true)) ∧ (y547 = false → K ([] : List (Nat)) (false))))) → X418 out419 limit421 turns422) → X418 (out347) (a4) (a6))) → X346 out347 x348) → X346 (([] : List (Nat)) ++ l0) (0 : Int))))) → X126 sum127 n128 x129) → X126 (cz .f32 0) (0 : Int) (0 : Int)) ∧ (y123 = false → K ([] : List (Nat)) (false)))) ∧ (y120 = false → K ([] : List (Nat)) (false)))) ∧ (y117 = false → K ([] : List (Nat)) (false)))) ∧ (¬((Int.tmod (l0.length : Int) (IntKind.i64.wrap ((1 : Int) * (2 ^ (min (a3).toNat IntKind.i64.bits))))) = (0 : Int)) → K ([] : List (Nat)) (false)))) ∧ (y111 = false → K ([] : List (Nat)) (false)))) ∧ (y108 = false → K ([] : List (Nat)) (false)))) ∧ (¬((l1.length : Int) = (l0.length : Int)) → K ([] : List (Nat)) (false)))) ∧ (y104 = false → K ([] : List (Nat)) (false)))
end Go.Proofs.Ytpeijfnfffogeaa.G

namespace Go.Proofs.Ytpeijfnfffogeaa.G
open Go Go.Ab
set_option maxRecDepth 100000
set_option linter.unusedVariables false
set_option linter.unusedSimpArgs false
set_option maxHeartbeats 1000000
def laws_toFloat32S.wp (l0 : List (Nat)) (K : (List (Nat)) → Prop) : Prop := (0 ≤ (l0.length : Int) ∧ (l0.length : Int) ≤ (l0.length : Int) ∧ (l0.length : Int) ≤ 2 ^ 40 ∧ (l0.length : Int) * 4 ≤ 2 ^ 40) ∧ ∀ X111 : List (Nat) → Int → Prop, (∀ (out112 : List (Nat)) (i113 : Int), ((i113 < (l0.length : Int) → (0 ≤ i113 ∧ i113 < (l0.length : Int)) ∧ (0 ≤ i113 ∧ i113 < (out112.length : Int)) ∧ X111 (out112.set (i113).toNat (l0.getD (i113).toNat (0 : Nat))) (IntKind.i64.wrap (i113 + (1 : Int)))) ∧ (¬(i113 < (l0.length : Int)) → K (out112))) → X111 out112 i113) → X111 (List.replicate ((l0.length : Int)).toNat (0 : Nat)) (0 : Int)
end Go.Proofs.Ytpeijfnfffogeaa.G

namespace Go.Proofs.Ytpeijfnfffogeaa.G
open Go Go.Ab
set_option maxRecDepth 100000
set_option linter.unusedVariables false
set_option linter.unusedSimpArgs false
set_option maxHeartbeats 1000000
def laws_toBoolS.wp (l0 : List (Bool)) (K : (List (Bool)) → Prop) : Prop := (0 ≤ (l0.length : Int) ∧ (l0.length : Int) ≤ (l0.length : Int) ∧ (l0.length : Int) ≤ 2 ^ 40 ∧ (l0.length : Int) * 1 ≤ 2 ^ 40) ∧ ∀ X111 : List (Bool) → Int → Prop, (∀ (out112 : List (Bool)) (i113 : Int), ((i113 < (l0.length : Int) → (0 ≤ i113 ∧ i113 < (l0.length : Int)) ∧ (0 ≤ i113 ∧ i113 < (out112.length : Int)) ∧ X111 (out112.set (i113).toNat (l0.getD (i113).toNat false)) (IntKind.i64.wrap (i113 + (1 : Int)))) ∧ (¬(i113 < (l0.length : Int)) → K (out112))) → X111 out112 i113) → X111 (List.replicate ((l0.length : Int)).toNat false) (0 : Int)
end Go.Proofs.Ytpeijfnfffogeaa.G

namespace Go.Proofs.Ytpeijfnfffogeaa.G
open Go Go.Ab
set_option maxRecDepth 100000
set_option linter.unusedVariables false
set_option linter.unusedSimpArgs false
set_option maxHeartbeats 1000000
def laws_toPair.wp (l0 : List (Nat)) (K : (List (Nat)) → Prop) : Prop := laws_toFloat32S.wp l0 fun y110 => K (y110)
end Go.Proofs.Ytpeijfnfffogeaa.G

namespace Go.Proofs.Ytpeijfnfffogeaa.G
open Go Go.Ab
set_option maxRecDepth 100000
set_option linter.unusedVariables false
set_option linter.unusedSimpArgs false
set_option maxHeartbeats 1000000
def impl_IsFinite.wp (a0 : Nat) (K : Bool → Prop) : Prop := K (fcmp .eql .f32 (fop .sub .f32 a0 a0) (cz .f32 0))
end Go.Proofs.Ytpeijfnfffogeaa.G

namespace Go.Proofs.Ytpeijfnfffogeaa.G
open Go Go.Ab
set_option maxRecDepth 100000
set_option linter.unusedVariables false
set_option linter.unusedSimpArgs false
set_option maxHeartbeats 1000000
def impl_areFinite.wp (l0 : List (List (Nat))) (K : Bool → Prop) : Prop := ∀ X101 : Int → Prop, (∀ (x102 : Int), ((x102 < (l0.length : Int) → (0 ≤ x102 ∧ x102 < (l0.length : Int)) ∧ ∀ X105 : Int → Prop, (∀ (x106 : Int), ((x106 < ((l0.getD (x102).toNat ([] : List (Nat))).length : Int) → (0 ≤ x106 ∧ x106 < ((l0.getD (x102).toNat ([] : List (Nat))).length : Int)) ∧ impl_IsFinite.wp ((l0.getD (x102).toNat ([] : List (Nat))).getD (x106).toNat (0 : Nat)) fun y109 => ((y109 = true → X105 (IntKind.i64.wrap (x106 + (1 : Int)))) ∧ (y109 = false → K (false)))) ∧ (¬(x106 < ((l0.getD (x102).toNat ([] : List (Nat))).length : Int)) → X101 (IntKind.i64.wrap (x102 + (1 : Int))))) → X105 x106) → X105 (0 : Int)) ∧ (¬(x102 < (l0.length : Int)) → K (true))) → X101 x102) → X101 (0 : Int)
end Go.Proofs.Ytpeijfnfffogeaa.G

namespace Go.Proofs.Ytpeijfnfffogeaa.G
open Go Go.Ab
set_option maxRecDepth 100000
set_option linter.unusedVariables false
set_option linter.unusedSimpArgs false
set_option maxHeartbeats 1000000
def impl_within.wp (a0 : Int) (a1 : Int) (a2 : Int) (K : Bool → Prop) : Prop := ((a1 ≤ a0 → K (decide (a0 ≤ a2))) ∧ (¬(a1 ≤ a0) → K (false)))
end Go.Proofs.Ytpeijfnfffogeaa.G

namespace Go.Proofs.Ytpeijfnfffogeaa.G
open Go Go.Ab
set_option maxRecDepth 100000
set_option linter.unusedVariables false
set_option linter.unusedSimpArgs false
set_option maxHeartbeats 1000000
def impl_isLong.wp (l0 : List (Nat)) (K : Bool → Prop) : Prop := impl_within.wp (l0.length : Int) (1 : Int) (128 : Int) fun y101 => ((y101 = true → impl_areFinite.wp ([l0] : List (List (Nat))) fun y107 => K (y107)) ∧ (y101 = false → K (false)))
end Go.Proofs.Ytpeijfnfffogeaa.G

namespace Go.Proofs.Ytpeijfnfffogeaa.G
open Go Go.Ab
set_option maxRecDepth 100000
set_option linter.unusedVariables false
set_option linter.unusedSimpArgs false
set_option maxHeartbeats 1000000
def impl_size.wp (a0 : Nat) (K : Nat → Prop) : Prop := (((fcmp .lss .f32 a0 (cz .f32 0)) = true → K (fneg .f32 a0)) ∧ ((fcmp .lss .f32 a0 (cz .f32 0)) = false → (((fcmp .eql .f32 a0 (cz .f32 0)) = true → K (cz .f32 0)) ∧ ((fcmp .eql .f32 a0 (cz .f32 0)) = false → K (a0)))))
end Go.Proofs.Ytpeijfnfffogeaa.G

namespace Go.Proofs.Ytpeijfnfffogeaa.G
open Go Go.Ab
set_option maxRecDepth 100000
set_option linter.unusedVariables false
set_option linter.unusedSimpArgs false
set_option maxHeartbeats 1000000
def impl_squares.wp (l0 : List (Nat)) (K : Nat → Prop) : Prop := ∀ X101 : Nat → Int → Prop, (∀ (sum102 : Nat) (x103 : Int), ((x103 < (l0.length : Int) → (0 ≤ x103 ∧ x103 < (l0.length : Int)) ∧ X101 (fop .add .f32 sum102 (fop .mul .f32 (l0.getD (x103).toNat (0 : Nat)) (l0.getD (x103).toNat (0 : Nat)))) (IntKind.i64.wrap (x103 + (1 : Int)))) ∧ (¬(x103 < (l0.length : Int)) → K (sum102))) → X101 sum102 x103) → X101 (cz .f32 0) (0 : Int)
end Go.Proofs.Ytpeijfnfffogeaa.G

namespace Go.Proofs.Ytpeijfnfffogeaa.G
open Go Go.Ab
set_option maxRecDepth 100000
set_option linter.unusedVariables false
set_option linter.unusedSimpArgs false
set_option maxHeartbeats 1000000
def impl_ValidPair.wp (l0 : List (Nat)) (K : Bool → Prop) : Prop := impl_within.wp (l0.length : Int) (2 : Int) (8 : Int) fun y104 => ((y104 = true → (((Int.tmod (l0.length : Int) (2 : Int)) = (1 : Int) → K (false)) ∧ (¬((Int.tmod (l0.length : Int) (2 : Int)) = (1 : Int)) → impl_areFinite.wp ([l0] : List (List (Nat))) fun y111 => ((y111 = true → impl_squares.wp l0 fun y114 => impl_size.wp (fop .sub .f32 y114 (cz .f32 1065353216)) fun y116 => (((fcmp .leq .f32 y116 (cz .f32 981668463)) = true → ∀ X119 : Int → Prop, (∀ (shift120 : Int), ((shift120 < (l0.length : Int) → ∀ X122 : Nat → Int → Prop, (∀ (sum123 : Nat) (k124 : Int), (((IntKind.i64.wrap (k124 + shift120)) < (l0.length : Int) → (0 ≤ k124 ∧ k124 < (l0.length : Int)) ∧ (0 ≤ (IntKind.i64.wrap (k124 + shift120)) ∧ (IntKind.i64.wrap (k124 + shift120)) < (l0.length : Int)) ∧ X122 (fop .add .f32 sum123 (fop .mul .f32 (l0.getD (k124).toNat (0 : Nat)) (l0.getD ((IntKind.i64.wrap (k124 + shift120))).toNat (0 : Nat)))) (IntKind.i64.wrap (k124 + (1 : Int)))) ∧ (¬((IntKind.i64.wrap (k124 + shift120)) < (l0.length : Int)) → impl_size.wp sum123 fun y128 => (((fcmp .leq .f32 y128 (cz .f32 981668463)) = true → X119 (IntKind.i64.wrap (shift120 + (2 : Int)))) ∧ ((fcmp .leq .f32 y128 (cz .f32 981668463)) = false → K (false))))) → X122 sum123 k124) → X122 (cz .f32 0) (0 : Int)) ∧ (¬(shift120 < (l0.length : Int)) → K (true))) → X119 shift120) → X119 (2 : Int)) ∧ ((fcmp .leq .f32 y116 (cz .f32 981668463)) = false → K (false)))) ∧ (y111 = false → K (false)))))) ∧ (y104 = false → K (false)))
end Go.Proofs.Ytpeijfnfffogeaa.G

namespace Go.Proofs.Ytpeijfnfffogeaa.G
open Go Go.Ab
set_option maxRecDepth 100000
set_option linter.unusedVariables false
set_option linter.unusedSimpArgs false
set_option maxHeartbeats 1000000
def impl_isLeast.wp (a0 : Nat) (K : Bool → Prop) : Prop := impl_IsFinite.wp a0 fun y101 => ((y101 = true → K (fcmp .geq .f32 a0 (cz .f32 0))) ∧ (y101 = false → K (false)))
end Go.Proofs.Ytpeijfnfffogeaa.G

namespace Go.Proofs.Ytpeijfnfffogeaa.G
open Go Go.Ab
set_option maxRecDepth 100000
set_option linter.unusedVariables false
set_option linter.unusedSimpArgs false
set_option maxHeartbeats 1000000
def impl_isShare.wp (a0 : Nat) (K : Bool → Prop) : Prop := (((fcmp .geq .f32 a0 (cz .f32 0)) = true → K (fcmp .leq .f32 a0 (cz .f32 1065353216))) ∧ ((fcmp .geq .f32 a0 (cz .f32 0)) = false → K (false)))
end Go.Proofs.Ytpeijfnfffogeaa.G

namespace Go.Proofs.Ytpeijfnfffogeaa.G
open Go Go.Ab
set_option maxRecDepth 100000
set_option linter.unusedVariables false
set_option linter.unusedSimpArgs false
set_option maxHeartbeats 1000000
def slices_Index_bool_bool.wp (l0 : List (Bool)) (a1 : Bool) (K : Int → Prop) : Prop := ∀ X101 : Int → Prop, (∀ (x102 : Int), ((x102 < (l0.length : Int) → (0 ≤ x102 ∧ x102 < (l0.length : Int)) ∧ (((a1 == (l0.getD (x102).toNat false)) = true → K (x102)) ∧ ((a1 == (l0.getD (x102).toNat false)) = false → X101 (IntKind.i64.wrap (x102 + (1 : Int)))))) ∧ (¬(x102 < (l0.length : Int)) → K (-1 : Int))) → X101 x102) → X101 (0 : Int)
end Go.Proofs.Ytpeijfnfffogeaa.G

namespace Go.Proofs.Ytpeijfnfffogeaa.G
open Go Go.Ab
set_option maxRecDepth 100000
set_option linter.unusedVariables false
set_option linter.unusedSimpArgs false
set_option maxHeartbeats 1000000
def slices_Contains_bool_bool.wp (l0 : List (Bool)) (a1 : Bool) (K : Bool → Prop) : Prop := slices_Index_bool_bool.wp l0 a1 fun y101 => K (decide ((0 : Int) ≤ y101))
end Go.Proofs.Ytpeijfnfffogeaa.G

namespace Go.Proofs.Ytpeijfnfffogeaa.G
open Go Go.Ab
set_option maxRecDepth 100000
set_option linter.unusedVariables false
set_option linter.unusedSimpArgs false
set_option maxHeartbeats 1000000
def impl_added.wp (l0 : List (Nat)) (K : Nat → Prop) : Prop := ∀ X101 : Nat → Int → Prop, (∀ (sum102 : Nat) (x103 : Int), ((x103 < (l0.length : Int) → (0 ≤ x103 ∧ x103 < (l0.length : Int)) ∧ X101 (fop .add .f32 sum102 (l0.getD (x103).toNat (0 : Nat))) (IntKind.i64.wrap (x103 + (1 : Int)))) ∧ (¬(x103 < (l0.length : Int)) → K (sum102))) → X101 sum102 x103) → X101 (cz .f32 0) (0 : Int)
end Go.Proofs.Ytpeijfnfffogeaa.G

namespace Go.Proofs.Ytpeijfnfffogeaa.G
open Go Go.Ab
set_option maxRecDepth 100000
set_option linter.unusedVariables false
set_option linter.unusedSimpArgs false
set_option maxHeartbeats 1000000
def impl_mean.wp (l0 : List (Nat)) (K : Nat → Prop) : Prop := impl_added.wp l0 fun y101 => K (fop .quo .f32 y101 (itof .f32 (l0.length : Int)))
end Go.Proofs.Ytpeijfnfffogeaa.G

namespace Go.Proofs.Ytpeijfnfffogeaa.G
open Go Go.Ab
set_option maxRecDepth 100000
set_option linter.unusedVariables false
set_option linter.unusedSimpArgs false
set_option maxHeartbeats 1000000
def impl_copyOf.wp (l0 : List (Nat)) (K : (List (Nat)) → Prop) : Prop := ((([] : List (Nat)).length + l0.length) * 4 ≤ 2 ^ 40) ∧ K (([] : List (Nat)) ++ l0)
end Go.Proofs.Ytpeijfnfffogeaa.G

namespace Go.Proofs.Ytpeijfnfffogeaa.G
open Go Go.Ab
set_option maxRecDepth 100000
set_option linter.unusedVariables false
set_option linter.unusedSimpArgs false
set_option maxHeartbeats 1000000
def impl_highOf.wp (l0 : List (Nat)) (K : (List (Nat)) → Prop) : Prop := ∀ X126 : List (Nat) → Int → Prop, (∀ (out127 : List (Nat)) (x129 : Int), ((x129 < (l0.length : Int) → (0 ≤ (IntKind.i64.wrap ((IntKind.i64.wrap ((l0.length : Int) - (1 : Int))) - x129)) ∧ (IntKind.i64.wrap ((IntKind.i64.wrap ((l0.length : Int) - (1 : Int))) - x129)) < (l0.length : Int)) ∧ (((Int.tmod x129 (2 : Int)) = (1 : Int) → ((out127.length + ([(fneg .f32 (l0.getD ((IntKind.i64.wrap ((IntKind.i64.wrap ((l0.length : Int) - (1 : Int))) - x129))).toNat (0 : Nat)))] : List (Nat)).length) * 4 ≤ 2 ^ 40) ∧ X126 (out127 ++ ([(fneg .f32 (l0.getD ((IntKind.i64.wrap ((IntKind.i64.wrap ((l0.length : Int) - (1 : Int))) - x129))).toNat (0 : Nat)))] : List (Nat))) (IntKind.i64.wrap (x129 + (1 : Int)))) ∧ (¬((Int.tmod x129 (2 : Int)) = (1 : Int)) → ((out127.length + ([(l0.getD ((IntKind.i64.wrap ((IntKind.i64.wrap ((l0.length : Int) - (1 : Int))) - x129))).toNat (0 : Nat))] : List (Nat)).length) * 4 ≤ 2 ^ 40) ∧ X126 (out127 ++ ([(l0.getD ((IntKind.i64.wrap ((IntKind.i64.wrap ((l0.length : Int) - (1 : Int))) - x129))).toNat (0 : Nat))] : List (Nat))) (IntKind.i64.wrap (x129 + (1 : Int)))))) ∧ (¬(x129 < (l0.length : Int)) → K (out127))) → X126 out127 x129) → X126 ([] : List (Nat)) (0 : Int)
end Go.Proofs.Ytpeijfnfffogeaa.G

namespace Go.Proofs.Ytpeijfnfffogeaa.G
open Go Go.Ab
set_option maxRecDepth 100000
set_option linter.unusedVariables false
set_option linter.unusedSimpArgs false
set_option maxHeartbeats 1000000
def impl_SplitRing.wp (l0 : List (Nat)) (l1 : List (Nat)) (K : (List (Nat)) → (List (Nat)) → Bool → Prop) : Prop := impl_isLong.wp l0 fun y104 => ((y104 = true → (((Int.tmod (l0.length : Int) (2 : Int)) = (1 : Int) → K ([] : List (Nat)) ([] : List (Nat)) (false)) ∧ (¬((Int.tmod (l0.length : Int) (2 : Int)) = (1 : Int)) → impl_ValidPair.wp l1 fun y108 => ((y108 = true → impl_highOf.wp l1 fun y111 => ∀ X157 : List (Nat) → List (Nat) → Int → Prop, (∀ (two158 : List (Nat)) (one160 : List (Nat)) (x162 : Int), ((x162 < (IntKind.i64.wrap (Int.tdiv (l0.length : Int) (2 : Int))) → ∀ X164 : Nat → Nat → Int → Prop, (∀ (a165 : Nat) (b166 : Nat) (x167 : Int), ((x167 < (l1.length : Int) → (0 ≤ x167 ∧ x167 < (l1.length : Int)) ∧ ((l0.length : Int) ≠ 0) ∧ (0 ≤ (Int.tmod (IntKind.i64.wrap ((IntKind.i64.wrap ((2 : Int) * x162)) + x167)) (l0.length : Int)) ∧ (Int.tmod (IntKind.i64.wrap ((IntKind.i64.wrap ((2 : Int) * x162)) + x167)) (l0.length : Int)) < (l0.length : Int)) ∧ (0 ≤ x167 ∧ x167 < (y111.length : Int)) ∧ X164 (fop .add .f32 a165 (fop .mul .f32 (l1.getD (x167).toNat (0 : Nat)) (l0.getD ((Int.tmod (IntKind.i64.wrap ((IntKind.i64.wrap ((2 : Int) * x162)) + x167)) (l0.length : Int))).toNat (0 : Nat)))) (fop .add .f32 b166 (fop .mul .f32 (y111.getD (x167).toNat (0 : Nat)) (l0.getD ((Int.tmod (IntKind.i64.wrap ((IntKind.i64.wrap ((2 : Int) * x162)) + x167)) (l0.length : Int))).toNat (0 : Nat)))) (IntKind.i64.wrap (x167 + (1 : Int)))) ∧ (¬(x167 < (l1.length : Int)) → ((one160.length + ([a165] : List (Nat)).length) * 4 ≤ 2 ^ 40) ∧ ((two158.length + ([b166] : List (Nat)).length) * 4 ≤ 2 ^ 40) ∧ X157 (two158 ++ ([b166] : List (Nat))) (one160 ++ ([a165] : List (Nat))) (IntKind.i64.wrap (x162 + (1 : Int))))) → X164 a165 b166 x167) → X164 (cz .f32 0) (cz .f32 0) (0 : Int)) ∧ (¬(x162 < (IntKind.i64.wrap (Int.tdiv (l0.length : Int) (2 : Int)))) → impl_areFinite.wp ([one160, two158] : List (List (Nat))) fun y190 => ((y190 = true → K (one160) (two158) (true)) ∧ (y190 = false → K ([] : List (Nat)) ([] : List (Nat)) (false))))) → X157 two158 one160 x162) → X157 ([] : List (Nat)) ([] : List (Nat)) (0 : Int)) ∧ (y108 = false → K ([] : List (Nat)) ([] : List (Nat)) (false)))))) ∧ (y104 = false → K ([] : List (Nat)) ([] : List (Nat)) (false)))
end Go.Proofs.Ytpeijfnfffogeaa.G

namespace Go.Proofs.Ytpeijfnfffogeaa.G
open Go Go.Ab
set_option maxRecDepth 100000
set_option linter.unusedVariables false
set_option linter.unusedSimpArgs false
set_option maxHeartbeats 1000000
def impl_SplitLevels.wp (l0 : List (Nat)) (l1 : List (Nat)) (a2 : Int) (K : (List (Nat)) → (List (List (Nat))) → Bool → Prop) : Prop := impl_isLong.wp l0 fun y107 => ((y107 = true → impl_ValidPair.wp l1 fun y110 => ((y110 = true → impl_within.wp a2 (1 : Int) (6 : Int) fun y113 => ((y113 = true → (0 ≤ a2) ∧ ((IntKind.i64.wrap ((1 : Int) * (2 ^ (min (a2).toNat IntKind.i64.bits)))) ≠ 0) ∧ (((Int.tmod (l0.length : Int) (IntKind.i64.wrap ((1 : Int) * (2 ^ (min (a2).toNat IntKind.i64.bits))))) = (0 : Int) → impl_copyOf.wp l0 fun y119 => ∀ X177 : List (Nat) → List (List (Nat)) → List (Nat) → List (List (Nat)) → Int → Prop, (∀ (l178 : List (Nat)) (b181 : List (List (Nat))) (b186 : List (Nat)) (b189 : List (List (Nat))) (x193 : Int), ((x193 < a2 → impl_SplitRing.wp l178 l1 fun y195 y198 y201 => ((y201 = true → ((b181.length + ([y198] : List (List (Nat))).length) * 24 ≤ 2 ^ 40) ∧ X177 (y195) (b181 ++ ([y198] : List (List (Nat)))) (b186) (b189) (IntKind.i64.wrap (x193 + (1 : Int)))) ∧ (y201 = false → K ([] : List (Nat)) ([] : List (List (Nat))) (false)))) ∧ (¬(x193 < a2) → K (l178) (b181) (true))) → X177 l178 b181 b186 b189 x193) → X177 (y119) ([] : List (List (Nat))) ([] : List (Nat)) ([] : List (List (Nat))) (0 : Int)) ∧ (¬((Int.tmod (l0.length : Int) (IntKind.i64.wrap ((1 : Int) * (2 ^ (min (a2).toNat IntKind.i64.bits))))) = (0 : Int)) → K ([] : List (Nat)) ([] : List (List (Nat))) (false)))) ∧ (y113 = false → K ([] : List (Nat)) ([] : List (List (Nat))) (false)))) ∧ (y110 = false → K ([] : List (Nat)) ([] : List (List (Nat))) (false)))) ∧ (y107 = false → K ([] : List (Nat)) ([] : List (List (Nat))) (false)))
end Go.Proofs.Ytpeijfnfffogeaa.G

namespace Go.Proofs.Ytpeijfnfffogeaa.G
open Go Go.Ab
set_option maxRecDepth 100000
set_option linter.unusedVariables false
set_option linter.unusedSimpArgs false
set_option maxHeartbeats 1000000
def impl_ValidBands.wp (l0 : List (Nat)) (l1 : List (List (Nat))) (K : Bool → Prop) : Prop := impl_within.wp (l1.length : Int) (1 : Int) (6 : Int) fun y104 => ((y104 = true → (0 ≤ (0 : Int) ∧ (0 : Int) < (l1.length : Int)) ∧ (((64 : Int) < ((l1.getD ((0 : Int)).toNat ([] : List (Nat))).length : Int) → K (false)) ∧ (¬((64 : Int) < ((l1.getD ((0 : Int)).toNat ([] : List (Nat))).length : Int)) → impl_areFinite.wp l1 fun y109 => ((y109 = true → impl_areFinite.wp ([l0] : List (List (Nat))) fun y115 => ((y115 = true → ∀ X118 : Int → Prop, (∀ (x119 : Int), ((x119 < (l1.length : Int) → (0 ≤ x119 ∧ x119 < (l1.length : Int)) ∧ ((((l1.getD (x119).toNat ([] : List (Nat))).length : Int) = (0 : Int) → K (false)) ∧ (¬(((l1.getD (x119).toNat ([] : List (Nat))).length : Int) = (0 : Int)) → (((0 : Int) < x119 → (0 ≤ (IntKind.i64.wrap (x119 - (1 : Int))) ∧ (IntKind.i64.wrap (x119 - (1 : Int))) < (l1.length : Int)) ∧ (((IntKind.i64.wrap ((2 : Int) * ((l1.getD (x119).toNat ([] : List (Nat))).length : Int))) = ((l1.getD ((IntKind.i64.wrap (x119 - (1 : Int)))).toNat ([] : List (Nat))).length : Int) → X118 (IntKind.i64.wrap (x119 + (1 : Int)))) ∧ (¬((IntKind.i64.wrap ((2 : Int) * ((l1.getD (x119).toNat ([] : List (Nat))).length : Int))) = ((l1.getD ((IntKind.i64.wrap (x119 - (1 : Int)))).toNat ([] : List (Nat))).length : Int)) → K (false)))) ∧ (¬((0 : Int) < x119) → X118 (IntKind.i64.wrap (x119 + (1 : Int)))))))) ∧ (¬(x119 < (l1.length : Int)) → (0 ≤ (IntKind.i64.wrap ((l1.length : Int) - (1 : Int))) ∧ (IntKind.i64.wrap ((l1.length : Int) - (1 : Int))) < (l1.length : Int)) ∧ K (decide ((l0.length : Int) = ((l1.getD ((IntKind.i64.wrap ((l1.length : Int) - (1 : Int)))).toNat ([] : List (Nat))).length : Int))))) → X118 x119) → X118 (0 : Int)) ∧ (y115 = false → K (false)))) ∧ (y109 = false → K (false)))))) ∧ (y104 = false → K (false)))
end Go.Proofs.Ytpeijfnfffogeaa.G

namespace Go.Proofs.Ytpeijfnfffogeaa.G
open Go Go.Ab
set_option maxRecDepth 100000
set_option linter.unusedVariables false
set_option linter.unusedSimpArgs false
set_option maxHeartbeats 1000000
def impl_softer.wp (a0 : Nat) (a1 : Nat) (K : Nat → Prop) : Prop := (((fcmp .gtr .f32 a0 a1) = true → K (fop .sub .f32 a0 a1)) ∧ ((fcmp .gtr .f32 a0 a1) = false → (((fcmp .lss .f32 a0 (fneg .f32 a1)) = true → K (fop .add .f32 a0 a1)) ∧ ((fcmp .lss .f32 a0 (fneg .f32 a1)) = false → K (cz .f32 0)))))
end Go.Proofs.Ytpeijfnfffogeaa.G

namespace Go.Proofs.Ytpeijfnfffogeaa.G
open Go Go.Ab
set_option maxRecDepth 100000
set_option linter.unusedVariables false
set_option linter.unusedSimpArgs false
set_option maxHeartbeats 1000000
def impl_shrunk.wp (a0 : Nat) (a1 : Nat) (a2 : Bool) (K : Nat → Prop) : Prop := impl_size.wp a0 fun y101 => (((fcmp .gtr .f32 y101 a1) = true → ((a2 = true → K (a0)) ∧ (a2 = false → impl_softer.wp a0 a1 fun y105 => K (y105)))) ∧ ((fcmp .gtr .f32 y101 a1) = false → K (cz .f32 0)))
end Go.Proofs.Ytpeijfnfffogeaa.G

namespace Go.Proofs.Ytpeijfnfffogeaa.G
open Go Go.Ab
set_option maxRecDepth 100000
set_option linter.unusedVariables false
set_option linter.unusedSimpArgs false
set_option maxHeartbeats 1000000
def impl_shrunkList.wp (l0 : List (Nat)) (a1 : Nat) (a2 : Bool) (K : (List (Nat)) → Prop) : Prop := ∀ X118 : List (Nat) → Int → Prop, (∀ (out119 : List (Nat)) (x121 : Int), ((x121 < (l0.length : Int) → (0 ≤ x121 ∧ x121 < (l0.length : Int)) ∧ impl_shrunk.wp (l0.getD (x121).toNat (0 : Nat)) a1 a2 fun y124 => ((out119.length + ([y124] : List (Nat)).length) * 4 ≤ 2 ^ 40) ∧ X118 (out119 ++ ([y124] : List (Nat))) (IntKind.i64.wrap (x121 + (1 : Int)))) ∧ (¬(x121 < (l0.length : Int)) → K (out119))) → X118 out119 x121) → X118 ([] : List (Nat)) (0 : Int)
end Go.Proofs.Ytpeijfnfffogeaa.G

namespace Go.Proofs.Ytpeijfnfffogeaa.G
open Go Go.Ab
set_option maxRecDepth 100000
set_option linter.unusedVariables false
set_option linter.unusedSimpArgs false
set_option maxHeartbeats 1000000
def impl_ShrinkBands.wp (l0 : List (Nat)) (l1 : List (List (Nat))) (l2 : List (Nat)) (a3 : Bool) (K : (List (Nat)) → (List (List (Nat))) → Bool → Prop) : Prop := impl_ValidBands.wp l0 l1 fun y107 => ((y107 = true → (((l2.length : Int) = (l1.length : Int) → impl_copyOf.wp l0 fun y111 => ∀ X143 : List (List (Nat)) → List (Nat) → List (List (Nat)) → Int → Prop, (∀ (b145 : List (List (Nat))) (b150 : List (Nat)) (b153 : List (List (Nat))) (x157 : Int), ((x157 < (l1.length : Int) → (0 ≤ x157 ∧ x157 < (l1.length : Int)) ∧ (0 ≤ x157 ∧ x157 < (l2.length : Int)) ∧ impl_isLeast.wp (l2.getD (x157).toNat (0 : Nat)) fun y161 => ((y161 = true → impl_shrunkList.wp (l1.getD (x157).toNat ([] : List (Nat))) (l2.getD (x157).toNat (0 : Nat)) a3 fun y164 => ((b145.length + ([y164] : List (List (Nat))).length) * 24 ≤ 2 ^ 40) ∧ X143 (b145 ++ ([y164] : List (List (Nat)))) (b150) (b153) (IntKind.i64.wrap (x157 + (1 : Int)))) ∧ (y161 = false → K ([] : List (Nat)) ([] : List (List (Nat))) (false)))) ∧ (¬(x157 < (l1.length : Int)) → K (y111) (b145) (true))) → X143 b145 b150 b153 x157) → X143 ([] : List (List (Nat))) ([] : List (Nat)) ([] : List (List (Nat))) (0 : Int)) ∧ (¬((l2.length : Int) = (l1.length : Int)) → K ([] : List (Nat)) ([] : List (List (Nat))) (false)))) ∧ (y107 = false → K ([] : List (Nat)) ([] : List (List (Nat))) (false)))
end Go.Proofs.Ytpeijfnfffogeaa.G

namespace Go.Proofs.Ytpeijfnfffogeaa.G
open Go Go.Ab
set_option maxRecDepth 100000
set_option linter.unusedVariables false
set_option linter.unusedSimpArgs false
set_option maxHeartbeats 1000000
def impl_finiteList.wp (l0 : List (Nat)) (K : Bool → Bool → Prop) : Prop := impl_areFinite.wp ([l0] : List (List (Nat))) fun y104 => ((y104 = true → K (true) (true)) ∧ (y104 = false → K (false) (false)))
end Go.Proofs.Ytpeijfnfffogeaa.G

namespace Go.Proofs.Ytpeijfnfffogeaa.G
open Go Go.Ab
set_option maxRecDepth 100000
set_option linter.unusedVariables false
set_option linter.unusedSimpArgs false
set_option maxHeartbeats 1000000
def impl_JoinRing.wp (l0 : List (Nat)) (l1 : List (Nat)) (l2 : List (Nat)) (K : (List (Nat)) → Bool → Prop) : Prop := impl_within.wp (l0.length : Int) (1 : Int) (64 : Int) fun y104 => ((y104 = true → (((l1.length : Int) = (l0.length : Int) → impl_areFinite.wp ([l0, l1] : List (List (Nat))) fun y111 => ((y111 = true → impl_ValidPair.wp l2 fun y114 => ((y114 = true → impl_highOf.wp l2 fun y117 => (0 ≤ (IntKind.i64.wrap ((2 : Int) * (l0.length : Int))) ∧ (IntKind.i64.wrap ((2 : Int) * (l0.length : Int))) ≤ (IntKind.i64.wrap ((2 : Int) * (l0.length : Int))) ∧ (IntKind.i64.wrap ((2 : Int) * (l0.length : Int))) ≤ 2 ^ 40 ∧ (IntKind.i64.wrap ((2 : Int) * (l0.length : Int))) * 4 ≤ 2 ^ 40) ∧ ∀ X155 : List (Nat) → Int → Prop, (∀ (out156 : List (Nat)) (x157 : Int), ((x157 < (l0.length : Int) → ∀ X169 : List (Nat) → Int → Prop, (∀ (out170 : List (Nat)) (x171 : Int), ((x171 < (l2.length : Int) → (0 ≤ x171 ∧ x171 < (l2.length : Int)) ∧ ((IntKind.i64.wrap ((2 : Int) * (l0.length : Int))) ≠ 0) ∧ (0 ≤ (Int.tmod (IntKind.i64.wrap ((IntKind.i64.wrap ((2 : Int) * x157)) + x171)) (IntKind.i64.wrap ((2 : Int) * (l0.length : Int)))) ∧ (Int.tmod (IntKind.i64.wrap ((IntKind.i64.wrap ((2 : Int) * x157)) + x171)) (IntKind.i64.wrap ((2 : Int) * (l0.length : Int)))) < (out170.length : Int)) ∧ (0 ≤ x157 ∧ x157 < (l0.length : Int)) ∧ (0 ≤ x171 ∧ x171 < (y117.length : Int)) ∧ (0 ≤ x157 ∧ x157 < (l1.length : Int)) ∧ X169 (out170.set ((Int.tmod (IntKind.i64.wrap ((IntKind.i64.wrap ((2 : Int) * x157)) + x171)) (IntKind.i64.wrap ((2 : Int) * (l0.length : Int))))).toNat (fop .add .f32 (out170.getD ((Int.tmod (IntKind.i64.wrap ((IntKind.i64.wrap ((2 : Int) * x157)) + x171)) (IntKind.i64.wrap ((2 : Int) * (l0.length : Int))))).toNat (0 : Nat)) (fop .add .f32 (fop .mul .f32 (l2.getD (x171).toNat (0 : Nat)) (l0.getD (x157).toNat (0 : Nat))) (fop .mul .f32 (y117.getD (x171).toNat (0 : Nat)) (l1.getD (x157).toNat (0 : Nat)))))) (IntKind.i64.wrap (x171 + (1 : Int)))) ∧ (¬(x171 < (l2.length : Int)) → X155 (out170) (IntKind.i64.wrap (x157 + (1 : Int))))) → X169 out170 x171) → X169 (out156) (0 : Int)) ∧ (¬(x157 < (l0.length : Int)) → impl_finiteList.wp out156 fun y182 y183 => ((y182 = true → K (out156) (y183)) ∧ (y182 = false → K ([] : List (Nat)) (y183))))) → X155 out156 x157) → X155 (List.replicate ((IntKind.i64.wrap ((2 : Int) * (l0.length : Int)))).toNat (0 : Nat)) (0 : Int)) ∧ (y114 = false → K ([] : List (Nat)) (false)))) ∧ (y111 = false → K ([] : List (Nat)) (false)))) ∧ (¬((l1.length : Int) = (l0.length : Int)) → K ([] : List (Nat)) (false)))) ∧ (y104 = false → K ([] : List (Nat)) (false)))
end Go.Proofs.Ytpeijfnfffogeaa.G

namespace Go.Proofs.Ytpeijfnfffogeaa.G
open Go Go.Ab
set_option maxRecDepth 100000
set_option linter.unusedVariables false
set_option linter.unusedSimpArgs false
set_option maxHeartbeats 1000000
def impl_JoinLevels.wp (l0 : List (Nat)) (l1 : List (List (Nat))) (l2 : List (Nat)) (K : (List (Nat)) → Bool → Prop) : Prop := impl_ValidBands.wp l0 l1 fun y107 => ((y107 = true → impl_ValidPair.wp l2 fun y110 => ((y110 = true → (((0 : Int) ≤ (IntKind.i64.wrap ((l1.length : Int) - (1 : Int))) → (0 ≤ (IntKind.i64.wrap ((l1.length : Int) - (1 : Int))) ∧ (IntKind.i64.wrap ((l1.length : Int) - (1 : Int))) < (l1.length : Int)) ∧ impl_JoinRing.wp l0 (l1.getD ((IntKind.i64.wrap ((l1.length : Int) - (1 : Int)))).toNat ([] : List (Nat))) l2 fun y116 y119 => ((y119 = true → ∀ X122 : List (Nat) → Int → Prop, (∀ (now123 : List (Nat)) (i125 : Int), (((0 : Int) ≤ i125 → (0 ≤ i125 ∧ i125 < (l1.length : Int)) ∧ impl_JoinRing.wp now123 (l1.getD (i125).toNat ([] : List (Nat))) l2 fun y128 y131 => ((y131 = true → X122 (y128) (IntKind.i64.wrap (i125 - (1 : Int)))) ∧ (y131 = false → K ([] : List (Nat)) (false)))) ∧ (¬((0 : Int) ≤ i125) → K (now123) (true))) → X122 now123 i125) → X122 (y116) (IntKind.i64.wrap ((IntKind.i64.wrap ((l1.length : Int) - (1 : Int))) - (1 : Int)))) ∧ (y119 = false → K ([] : List (Nat)) (false)))) ∧ (¬((0 : Int) ≤ (IntKind.i64.wrap ((l1.length : Int) - (1 : Int)))) → False))) ∧ (y110 = false → K ([] : List (Nat)) (false)))) ∧ (y107 = false → K ([] : List (Nat)) (false)))
end Go.Proofs.Ytpeijfnfffogeaa.G

namespace Go.Proofs.Ytpeijfnfffogeaa.G
open Go Go.Ab
set_option maxRecDepth 100000
set_option linter.unusedVariables false
set_option linter.unusedSimpArgs false
set_option maxHeartbeats 1000000
def impl_fillTurn.wp (l0 : List (Nat)) (l1 : List (Nat)) (a2 : Int) (a3 : Nat) (K : (List (Nat)) → Bool → Prop) : Prop := impl_SplitLevels.wp l0 l1 a2 fun y104 y107 y112 => ((y112 = true → ∀ X150 : List (Nat) → Int → Prop, (∀ (limits151 : List (Nat)) (x153 : Int), ((x153 < (y107.length : Int) → ((limits151.length + ([a3] : List (Nat)).length) * 4 ≤ 2 ^ 40) ∧ X150 (limits151 ++ ([a3] : List (Nat))) (IntKind.i64.wrap (x153 + (1 : Int)))) ∧ (¬(x153 < (y107.length : Int)) → impl_ShrinkBands.wp y104 y107 limits151 false fun y161 y164 y169 => ((y169 = true → impl_JoinLevels.wp y161 y164 l1 fun y173 y176 => K (y173) (y176)) ∧ (y169 = false → K ([] : List (Nat)) (false))))) → X150 limits151 x153) → X150 ([] : List (Nat)) (0 : Int)) ∧ (y112 = false → K ([] : List (Nat)) (false)))
end Go.Proofs.Ytpeijfnfffogeaa.G

namespace Go.Proofs.Ytpeijfnfffogeaa.G
open Go Go.Ab
set_option maxRecDepth 100000
set_option linter.unusedVariables false
set_option linter.unusedSimpArgs false
set_option maxHeartbeats 1000000
def impl_FillRounds.wp (l0 : List (Nat)) (l1 : List (Bool)) (l2 : List (Nat)) (a3 : Int) (a4 : Nat) (a5 : Nat) (a6 : Int) (K : (List (Nat)) → Bool → Prop) : Prop := impl_isLong.wp l0 fun y104 => ((y104 = true → (((l1.length : Int) = (l0.length : Int) → impl_ValidPair.wp l2 fun y108 => ((y108 = true → impl_within.wp a3 (1 : Int) (6 : Int) fun y111 => ((y111 = true → (0 ≤ a3) ∧ ((IntKind.i64.wrap ((1 : Int) * (2 ^ (min (a3).toNat IntKind.i64.bits)))) ≠ 0) ∧ (((Int.tmod (l0.length : Int) (IntKind.i64.wrap ((1 : Int) * (2 ^ (min (a3).toNat IntKind.i64.bits))))) = (0 : Int) → impl_isLeast.wp a4 fun y117 => ((y117 = true → impl_isShare.wp a5 fun y120 => ((y120 = true → impl_within.wp a6 (0 : Int) (32 : Int) fun y123 => ((y123 = true → slices_Contains_bool_bool.wp l1 true fun y126 => ((y126 = true → ∀ X307 : List (Nat) → Int → Prop, (∀ (some308 : List (Nat)) (x310 : Int), ((x310 < (l0.length : Int) → (0 ≤ x310 ∧ x310 < (l0.length : Int)) ∧ (0 ≤ x310 ∧ x310 < (l1.length : Int)) ∧ (((l1.getD (x310).toNat false) = true → ((some308.length + ([(l0.getD (x310).toNat (0 : Nat))] : List (Nat)).length) * 4 ≤ 2 ^ 40) ∧ X307 (some308 ++ ([(l0.getD (x310).toNat (0 : Nat))] : List (Nat))) (IntKind.i64.wrap (x310 + (1 : Int)))) ∧ ((l1.getD (x310).toNat false) = false → X307 (some308) (IntKind.i64.wrap (x310 + (1 : Int)))))) ∧ (¬(x310 < (l0.length : Int)) → impl_mean.wp some308 fun y321 => ∀ X403 : List (Nat) → Int → Prop, (∀ (now404 : List (Nat)) (x406 : Int), ((x406 < (l0.length : Int) → (0 ≤ x406 ∧ x406 < (l0.length : Int)) ∧ (0 ≤ x406 ∧ x406 < (l1.length : Int)) ∧ (((l1.getD (x406).toNat false) = true → ((now404.length + ([(l0.getD (x406).toNat (0 : Nat))] : List (Nat)).length) * 4 ≤ 2 ^ 40) ∧ X403 (now404 ++ ([(l0.getD (x406).toNat (0 : Nat))] : List (Nat))) (IntKind.i64.wrap (x406 + (1 : Int)))) ∧ ((l1.getD (x406).toNat false) = false → ((now404.length + ([y321] : List (Nat)).length) * 4 ≤ 2 ^ 40) ∧ X403 (now404 ++ ([y321] : List (Nat))) (IntKind.i64.wrap (x406 + (1 : Int)))))) ∧ (¬(x406 < (l0.length : Int)) → ∀ X443 : List (Nat) → Nat → Int → Prop, (∀ (now444 : List (Nat)) (limit446 : Nat) (x447 : Int), ((x447 < a6 → impl_fillTurn.wp now444 l2 a3 limit446 fun y449 y452 => ((y452 = true → ∀ X463 : List (Nat) → Int → Prop, (∀ (next464 : List (Nat)) (x465 : Int), ((x465 < (l0.length : Int) → (0 ≤ x465 ∧ x465 < (l0.length : Int)) ∧ (0 ≤ x465 ∧ x465 < (l1.length : Int)) ∧ (((l1.getD (x465).toNat false) = true → (0 ≤ x465 ∧ x465 < (next464.length : Int)) ∧ X463 (next464.set (x465).toNat (l0.getD (x465).toNat (0 : Nat))) (IntKind.i64.wrap (x465 + (1 : Int)))) ∧ ((l1.getD (x465).toNat false) = false → X463 (next464) (IntKind.i64.wrap (x465 + (1 : Int)))))) ∧ (¬(x465 < (l0.length : Int)) → X443 (next464) (fop .mul .f32 limit446 a5) (IntKind.i64.wrap (x447 + (1 : Int))))) → X463 next464 x465) → X463 (y449) (0 : Int)) ∧ (y452 = false → K ([] : List (Nat)) (false)))) ∧ (¬(x447 < a6) → impl_finiteList.wp now444 fun y474 y475 => ((y474 = true → K (now444) (y475)) ∧ (y474 = false → K ([] : List (Nat)) (y475))))) → X443 now444 limit446 x447) → X443 (now404) (a4) (0 : Int))) → X403 now404 x406) → X403 ([] : List (Nat)) (0 : Int))) → X307 some308 x310) → X307 ([] : List (Nat)) (0 : Int)) ∧ (y126 = false → K ([] : List (Nat)) (false)))) ∧ (y123 = false → K ([] : List (Nat)) (false)))) ∧ (y120 = false → K ([] : List (Nat)) (false)))) ∧ (y117 = false → K ([] : List (Nat)) (false)))) ∧ (¬((Int.tmod (l0.length : Int) (IntKind.i64.wrap ((1 : Int) * (2 ^ (min (a3).toNat IntKind.i64.bits))))) = (0 : Int)) → K ([] : List (Nat)) (false)))) ∧ (y111 = false → K ([] : List (Nat)) (false)))) ∧ (y108 = false → K ([] : List (Nat)) (false)))) ∧ (¬((l1.length : Int) = (l0.length : Int)) → K ([] : List (Nat)) (false)))) ∧ (y104 = false → K ([] : List (Nat)) (false)))
end Go.Proofs.Ytpeijfnfffogeaa.G

namespace Go.Proofs.Ytpeijfnfffogeaa.G
open Go Go.Ab
set_option maxRecDepth 100000
set_option linter.unusedVariables false
set_option linter.unusedSimpArgs false
set_option maxHeartbeats 1000000
def laws_sameFloat.wp (a0 : Nat) (a1 : Nat) (K : Bool → Prop) : Prop := (((fcmp .neq .f64 a0 a0) = true → K (fcmp .neq .f64 a1 a1)) ∧ ((fcmp .neq .f64 a0 a0) = false → (((fcmp .neq .f64 a1 a1) = true → K (false)) ∧ ((fcmp .neq .f64 a1 a1) = false → (((fcmp .eql .f64 a0 (cz .f64 0)) = true → (((fcmp .eql .f64 a1 (cz .f64 0)) = true → K ((fcmp .gtr .f64 (fop .quo .f64 (cz .f64 4607182418800017408) a0) (cz .f64 0)) == (fcmp .gtr .f64 (fop .quo .f64 (cz .f64 4607182418800017408) a1) (cz .f64 0)))) ∧ ((fcmp .eql .f64 a1 (cz .f64 0)) = false → K (fcmp .eql .f64 a0 a1)))) ∧ ((fcmp .eql .f64 a0 (cz .f64 0)) = false → K (fcmp .eql .f64 a0 a1)))))))
end Go.Proofs.Ytpeijfnfffogeaa.G

namespace Go.Proofs.Ytpeijfnfffogeaa.G
open Go Go.Ab
set_option maxRecDepth 100000
set_option linter.unusedVariables false
set_option linter.unusedSimpArgs false
set_option maxHeartbeats 1000000
def laws_eqFloat32S.wp (l0 : List (Nat)) (l1 : List (Nat)) (K : Bool → Prop) : Prop := (((l0.length : Int) = (l1.length : Int) → ∀ X102 : Int → Prop, (∀ (i103 : Int), ((i103 < (l0.length : Int) → (0 ≤ i103 ∧ i103 < (l0.length : Int)) ∧ (0 ≤ i103 ∧ i103 < (l1.length : Int)) ∧ laws_sameFloat.wp (widen (l0.getD (i103).toNat (0 : Nat))) (widen (l1.getD (i103).toNat (0 : Nat))) fun y107 => ((y107 = true → X102 (IntKind.i64.wrap (i103 + (1 : Int)))) ∧ (y107 = false → K (false)))) ∧ (¬(i103 < (l0.length : Int)) → K (true))) → X102 i103) → X102 (0 : Int)) ∧ (¬((l0.length : Int) = (l1.length : Int)) → K (false)))
end Go.Proofs.Ytpeijfnfffogeaa.G

namespace Go.Proofs.Ytpeijfnfffogeaa.G
open Go Go.Ab
set_option maxRecDepth 100000
set_option linter.unusedVariables false
set_option linter.unusedSimpArgs false
set_option maxHeartbeats 1000000
def laws_eqBoolS.wp (l0 : List (Bool)) (l1 : List (Bool)) (K : Bool → Prop) : Prop := (((l0.length : Int) = (l1.length : Int) → ∀ X102 : Int → Prop, (∀ (i103 : Int), ((i103 < (l0.length : Int) → (0 ≤ i103 ∧ i103 < (l0.length : Int)) ∧ (0 ≤ i103 ∧ i103 < (l1.length : Int)) ∧ ((((l0.getD (i103).toNat false) == (l1.getD (i103).toNat false)) = true → X102 (IntKind.i64.wrap (i103 + (1 : Int)))) ∧ (((l0.getD (i103).toNat false) == (l1.getD (i103).toNat false)) = false → K (false)))) ∧ (¬(i103 < (l0.length : Int)) → K (true))) → X102 i103) → X102 (0 : Int)) ∧ (¬((l0.length : Int) = (l1.length : Int)) → K (false)))
end Go.Proofs.Ytpeijfnfffogeaa.G

namespace Go.Proofs.Ytpeijfnfffogeaa.G
open Go Go.Ab
set_option maxRecDepth 100000
set_option linter.unusedVariables false
set_option linter.unusedSimpArgs false
set_option maxHeartbeats 1000000
def laws_eqPair.wp (l0 : List (Nat)) (l1 : List (Nat)) (K : Bool → Prop) : Prop := laws_eqFloat32S.wp l0 l1 fun y107 => ((y107 = true → K (true)) ∧ (y107 = false → K (false)))
end Go.Proofs.Ytpeijfnfffogeaa.G

namespace Go.Proofs.Ytpeijfnfffogeaa.G
open Go Go.Ab
set_option maxRecDepth 100000
set_option linter.unusedVariables false
set_option linter.unusedSimpArgs false
set_option maxHeartbeats 1000000
def laws_markFloat32S.wp (l0 : List (Nat)) (a1 : Int) (K : Int → (List (Nat)) → Prop) : Prop := ∀ X108 : List (Nat) → Int → Int → Prop, (∀ (a109 : List (Nat)) (k110 : Int) (i111 : Int), ((i111 < (a109.length : Int) → (0 ≤ i111 ∧ i111 < (a109.length : Int)) ∧ X108 (a109.set (i111).toNat (itof .f32 k110)) (IntKind.i64.wrap (k110 + (1 : Int))) (IntKind.i64.wrap (i111 + (1 : Int)))) ∧ (¬(i111 < (a109.length : Int)) → K (k110) (a109))) → X108 a109 k110 i111) → X108 (l0) (a1) (0 : Int)
end Go.Proofs.Ytpeijfnfffogeaa.G

namespace Go.Proofs.Ytpeijfnfffogeaa.G
open Go Go.Ab
set_option maxRecDepth 100000
set_option linter.unusedVariables false
set_option linter.unusedSimpArgs false
set_option maxHeartbeats 1000000
def laws_markBoolS.wp (l0 : List (Bool)) (a1 : Int) (K : Int → (List (Bool)) → Prop) : Prop := ∀ X108 : List (Bool) → Int → Int → Prop, (∀ (a109 : List (Bool)) (k110 : Int) (i111 : Int), ((i111 < (a109.length : Int) → (0 ≤ i111 ∧ i111 < (a109.length : Int)) ∧ X108 (a109.set (i111).toNat (decide ((Int.tmod k110 (3 : Int)) = (0 : Int)))) (IntKind.i64.wrap (k110 + (1 : Int))) (IntKind.i64.wrap (i111 + (1 : Int)))) ∧ (¬(i111 < (a109.length : Int)) → K (k110) (a109))) → X108 a109 k110 i111) → X108 (l0) (a1) (0 : Int)
end Go.Proofs.Ytpeijfnfffogeaa.G

namespace Go.Proofs.Ytpeijfnfffogeaa.G
open Go Go.Ab
set_option maxRecDepth 100000
set_option linter.unusedVariables false
set_option linter.unusedSimpArgs false
set_option maxHeartbeats 1000000
def laws_markPair.wp (l0 : List (Nat)) (a1 : Int) (K : Int → (List (Nat)) → Prop) : Prop := laws_markFloat32S.wp l0 a1 fun y105 y106 => K (y105) (y106)
end Go.Proofs.Ytpeijfnfffogeaa.G

namespace Go.Proofs.Ytpeijfnfffogeaa.G
open Go Go.Ab
set_option maxRecDepth 100000
set_option linter.unusedVariables false
set_option linter.unusedSimpArgs false
set_option maxHeartbeats 1000000
def laws_heldFloat32S.wp (l0 : List (Nat)) (a1 : Int) (K : Int → Prop) : Prop := ∀ X101 : Int → Int → Prop, (∀ (k102 : Int) (i103 : Int), ((i103 < (l0.length : Int) → (0 ≤ i103 ∧ i103 < (l0.length : Int)) ∧ (((fcmp .neq .f32 (l0.getD (i103).toNat (0 : Nat)) (itof .f32 k102)) = true → K (-1 : Int)) ∧ ((fcmp .neq .f32 (l0.getD (i103).toNat (0 : Nat)) (itof .f32 k102)) = false → X101 (IntKind.i64.wrap (k102 + (1 : Int))) (IntKind.i64.wrap (i103 + (1 : Int)))))) ∧ (¬(i103 < (l0.length : Int)) → K (k102))) → X101 k102 i103) → X101 (a1) (0 : Int)
end Go.Proofs.Ytpeijfnfffogeaa.G

namespace Go.Proofs.Ytpeijfnfffogeaa.G
open Go Go.Ab
set_option maxRecDepth 100000
set_option linter.unusedVariables false
set_option linter.unusedSimpArgs false
set_option maxHeartbeats 1000000
def laws_FnExactFillRounds.wp (l0 : List (Nat)) (l1 : List (Bool)) (l2 : List (Nat)) (a3 : Int) (a4 : Nat) (a5 : Nat) (a6 : Int) (K : Bool → Prop) : Prop := (((1048576 : Int) < (l0.length : Int) → K (true)) ∧ (¬((1048576 : Int) < (l0.length : Int)) → (((1048576 : Int) < (l1.length : Int) → K (true)) ∧ (¬((1048576 : Int) < (l1.length : Int)) → laws_szPair.wp l2 (1048576 : Int) fun y106 => ((y106 < (0 : Int) → K (true)) ∧ (¬(y106 < (0 : Int)) → laws_toFloat32S.wp l0 fun y109 => laws_toBoolS.wp l1 fun y113 => laws_toPair.wp l2 fun y117 => spec_FillRounds.wp y109 y113 y117 a3 a4 a5 a6 fun y121 y124 => laws_toFloat32S.wp l0 fun y126 => laws_toBoolS.wp l1 fun y130 => laws_toPair.wp l2 fun y134 => impl_FillRounds.wp y126 y130 y134 a3 a4 a5 a6 fun y142 y145 => laws_eqFloat32S.wp y142 y121 fun y147 => ((y147 = true → (((y145 == y124) = true → laws_toFloat32S.wp l0 fun y151 => laws_eqFloat32S.wp y126 y151 fun y155 => ((y155 = true → laws_toBoolS.wp l1 fun y158 => laws_eqBoolS.wp y130 y158 fun y162 => ((y162 = true → laws_toPair.wp l2 fun y165 => laws_eqPair.wp y134 y165 fun y169 => ((y169 = true → laws_markFloat32S.wp y126 (1 : Int) fun y172 y173 => laws_markBoolS.wp y130 y172 fun y175 y176 => laws_markPair.wp y134 y175 fun y178 y179 => ((y178 < (0 : Int) → K (false)) ∧ (¬(y178 < (0 : Int)) → laws_eqFloat32S.wp y142 y121 fun y182 => ((y182 = true → laws_markFloat32S.wp y142 (1 : Int) fun y185 y186 => laws_heldFloat32S.wp y186 (1 : Int) fun y188 => ((y188 < (0 : Int) → K (false)) ∧ (¬(y188 < (0 : Int)) → ((y188 = y185 → laws_toFloat32S.wp l0 fun y192 => laws_toBoolS.wp l1 fun y196 => laws_toPair.wp l2 fun y200 => impl_FillRounds.wp y192 y196 y200 a3 a4 a5 a6 fun y204 y207 => laws_eqFloat32S.wp y204 y121 fun y209 => ((y209 = true → (((y207 == y124) = true → laws_heldFloat32S.wp y186 (1 : Int) fun y213 => ((y213 < (0 : Int) → K (false)) ∧ (¬(y213 < (0 : Int)) → ((y213 = y185 → K (true)) ∧ (¬(y213 = y185) → K (false)))))) ∧ ((y207 == y124) = false → K (false)))) ∧ (y209 = false → K (false)))) ∧ (¬(y188 = y185) → K (false)))))) ∧ (y182 = false → K (false)))))) ∧ (y169 = false → K (false)))) ∧ (y162 = false → K (false)))) ∧ (y155 = false → K (false)))) ∧ ((y145 == y124) = false → K (false)))) ∧ (y147 = false → K (false)))))))))
end Go.Proofs.Ytpeijfnfffogeaa.G

namespace Go.Proofs.Ytpeijfnfffogeaa.G
open Go Go.Ab
set_option maxRecDepth 100000
set_option linter.unusedVariables false
set_option linter.unusedSimpArgs false
set_option maxHeartbeats 1000000
def laws_eqInt64S.wp (l0 : List (Int)) (l1 : List (Int)) (K : Bool → Prop) : Prop := (((l0.length : Int) = (l1.length : Int) → ∀ X102 : Int → Prop, (∀ (i103 : Int), ((i103 < (l0.length : Int) → (0 ≤ i103 ∧ i103 < (l0.length : Int)) ∧ (0 ≤ i103 ∧ i103 < (l1.length : Int)) ∧ (((l0.getD (i103).toNat (0 : Int)) = (l1.getD (i103).toNat (0 : Int)) → X102 (IntKind.i64.wrap (i103 + (1 : Int)))) ∧ (¬((l0.getD (i103).toNat (0 : Int)) = (l1.getD (i103).toNat (0 : Int))) → K (false)))) ∧ (¬(i103 < (l0.length : Int)) → K (true))) → X102 i103) → X102 (0 : Int)) ∧ (¬((l0.length : Int) = (l1.length : Int)) → K (false)))
end Go.Proofs.Ytpeijfnfffogeaa.G

namespace Go.Proofs.Ytpeijfnfffogeaa.G
open Go Go.Ab
set_option maxRecDepth 100000
set_option linter.unusedVariables false
set_option linter.unusedSimpArgs false
set_option maxHeartbeats 1000000
def laws_markInt64S.wp (l0 : List (Int)) (a1 : Int) (K : Int → (List (Int)) → Prop) : Prop := ∀ X108 : List (Int) → Int → Int → Prop, (∀ (a109 : List (Int)) (k110 : Int) (i111 : Int), ((i111 < (a109.length : Int) → (0 ≤ i111 ∧ i111 < (a109.length : Int)) ∧ X108 (a109.set (i111).toNat k110) (IntKind.i64.wrap (k110 + (1 : Int))) (IntKind.i64.wrap (i111 + (1 : Int)))) ∧ (¬(i111 < (a109.length : Int)) → K (k110) (a109))) → X108 a109 k110 i111) → X108 (l0) (a1) (0 : Int)
end Go.Proofs.Ytpeijfnfffogeaa.G

namespace Go.Proofs.Ytpeijfnfffogeaa.G
open Go Go.Ab
set_option maxRecDepth 100000
set_option linter.unusedVariables false
set_option linter.unusedSimpArgs false
set_option maxHeartbeats 1000000
def laws_heldInt64S.wp (l0 : List (Int)) (a1 : Int) (K : Int → Prop) : Prop := ∀ X101 : Int → Int → Prop, (∀ (k102 : Int) (i103 : Int), ((i103 < (l0.length : Int) → (0 ≤ i103 ∧ i103 < (l0.length : Int)) ∧ (((l0.getD (i103).toNat (0 : Int)) = k102 → X101 (IntKind.i64.wrap (k102 + (1 : Int))) (IntKind.i64.wrap (i103 + (1 : Int)))) ∧ (¬((l0.getD (i103).toNat (0 : Int)) = k102) → K (-1 : Int)))) ∧ (¬(i103 < (l0.length : Int)) → K (k102))) → X101 k102 i103) → X101 (a1) (0 : Int)
end Go.Proofs.Ytpeijfnfffogeaa.G

namespace Go.Proofs.Ytpeijfnfffogeaa.G
open Go Go.Ab
set_option maxRecDepth 100000
set_option linter.unusedVariables false
set_option linter.unusedSimpArgs false
set_option maxHeartbeats 1000000
def laws_toInt64S.wp (l0 : List (Int)) (K : (List (Int)) → Prop) : Prop := (0 ≤ (l0.length : Int) ∧ (l0.length : Int) ≤ (l0.length : Int) ∧ (l0.length : Int) ≤ 2 ^ 40 ∧ (l0.length : Int) * 8 ≤ 2 ^ 40) ∧ ∀ X111 : List (Int) → Int → Prop, (∀ (out112 : List (Int)) (i113 : Int), ((i113 < (l0.length : Int) → (0 ≤ i113 ∧ i113 < (l0.length : Int)) ∧ (0 ≤ i113 ∧ i113 < (out112.length : Int)) ∧ X111 (out112.set (i113).toNat (l0.getD (i113).toNat (0 : Int))) (IntKind.i64.wrap (i113 + (1 : Int)))) ∧ (¬(i113 < (l0.length : Int)) → K (out112))) → X111 out112 i113) → X111 (List.replicate ((l0.length : Int)).toNat (0 : Int)) (0 : Int)
end Go.Proofs.Ytpeijfnfffogeaa.G

namespace Go.Proofs.Ytpeijfnfffogeaa.G
open Go Go.Ab
set_option maxRecDepth 100000
set_option linter.unusedVariables false
set_option linter.unusedSimpArgs false
set_option maxHeartbeats 1000000
def spec_l02Bound.wp (l0 : List (Int)) (a1 : Int) (K : Bool → Prop) : Prop := ∀ X101 : Int → Prop, (∀ (i102 : Int), ((i102 < (l0.length : Int) → (0 ≤ i102 ∧ i102 < (l0.length : Int)) ∧ spec_l00In.wp (l0.getD (i102).toNat (0 : Int)) (IntKind.i64.wrap (0 - a1)) a1 fun y105 => ((y105 = true → X101 (IntKind.i64.wrap (i102 + (1 : Int)))) ∧ (y105 = false → K (false)))) ∧ (¬(i102 < (l0.length : Int)) → K (true))) → X101 i102) → X101 (0 : Int)
end Go.Proofs.Ytpeijfnfffogeaa.G

namespace Go.Proofs.Ytpeijfnfffogeaa.G
open Go Go.Ab
set_option maxRecDepth 100000
set_option linter.unusedVariables false
set_option linter.unusedSimpArgs false
set_option maxHeartbeats 1000000
def spec_l02Integers.wp (l0 : List (Int)) (K : Bool → Prop) : Prop := (((1 : Int) ≤ (l0.length : Int) → (((l0.length : Int) ≤ (128 : Int) → spec_l02Bound.wp l0 (1000000 : Int) fun y103 => K (y103)) ∧ (¬((l0.length : Int) ≤ (128 : Int)) → K (false)))) ∧ (¬((1 : Int) ≤ (l0.length : Int)) → K (false)))
end Go.Proofs.Ytpeijfnfffogeaa.G

namespace Go.Proofs.Ytpeijfnfffogeaa.G
open Go Go.Ab
set_option maxRecDepth 100000
set_option linter.unusedVariables false
set_option linter.unusedSimpArgs false
set_option maxHeartbeats 1000000
def impl_areWithin.wp (l0 : List (Int)) (a1 : Int) (K : Bool → Prop) : Prop := ∀ X101 : Int → Prop, (∀ (x102 : Int), ((x102 < (l0.length : Int) → (0 ≤ x102 ∧ x102 < (l0.length : Int)) ∧ impl_within.wp (l0.getD (x102).toNat (0 : Int)) (IntKind.i64.wrap (0 - a1)) a1 fun y105 => ((y105 = true → X101 (IntKind.i64.wrap (x102 + (1 : Int)))) ∧ (y105 = false → K (false)))) ∧ (¬(x102 < (l0.length : Int)) → K (true))) → X101 x102) → X101 (0 : Int)
end Go.Proofs.Ytpeijfnfffogeaa.G

namespace Go.Proofs.Ytpeijfnfffogeaa.G
open Go Go.Ab
set_option maxRecDepth 100000
set_option linter.unusedVariables false
set_option linter.unusedSimpArgs false
set_option maxHeartbeats 1000000
def impl_AreIntegers.wp (l0 : List (Int)) (K : Bool → Prop) : Prop := impl_within.wp (l0.length : Int) (1 : Int) (128 : Int) fun y101 => ((y101 = true → impl_areWithin.wp l0 (1000000 : Int) fun y104 => K (y104)) ∧ (y101 = false → K (false)))
end Go.Proofs.Ytpeijfnfffogeaa.G

namespace Go.Proofs.Ytpeijfnfffogeaa.G
open Go Go.Ab
set_option maxRecDepth 100000
set_option linter.unusedVariables false
set_option linter.unusedSimpArgs false
set_option maxHeartbeats 1000000
def spec_l02Is.wp (l0 : List (Nat)) (K : Bool → Prop) : Prop := (((1 : Int) ≤ (l0.length : Int) → (((l0.length : Int) ≤ (128 : Int) → spec_l02Finite.wp l0 fun y103 => K (y103)) ∧ (¬((l0.length : Int) ≤ (128 : Int)) → K (false)))) ∧ (¬((1 : Int) ≤ (l0.length : Int)) → K (false)))
end Go.Proofs.Ytpeijfnfffogeaa.G

namespace Go.Proofs.Ytpeijfnfffogeaa.G
open Go Go.Ab
set_option maxRecDepth 100000
set_option linter.unusedVariables false
set_option linter.unusedSimpArgs false
set_option maxHeartbeats 1000000
def spec_l02Above.wp (a0 : Nat) (K : Bool → Prop) : Prop := spec_l01Finite.wp a0 fun y101 => ((y101 = true → K (fcmp .gtr .f32 a0 (cz .f32 0))) ∧ (y101 = false → K (false)))
end Go.Proofs.Ytpeijfnfffogeaa.G

namespace Go.Proofs.Ytpeijfnfffogeaa.G
open Go Go.Ab
set_option maxRecDepth 100000
set_option linter.unusedVariables false
set_option linter.unusedSimpArgs false
set_option maxHeartbeats 1000000
def spec_l02List.wp (l0 : List (Nat)) (K : Bool → Bool → Prop) : Prop := spec_l02Finite.wp l0 fun y101 => ((y101 = true → K (true) (true)) ∧ (y101 = false → K (false) (false)))
end Go.Proofs.Ytpeijfnfffogeaa.G

namespace Go.Proofs.Ytpeijfnfffogeaa.G
open Go Go.Ab
set_option maxRecDepth 100000
set_option linter.unusedVariables false
set_option linter.unusedSimpArgs false
set_option maxHeartbeats 1000000
def impl_IsList.wp (l0 : List (Nat)) (K : Bool → Prop) : Prop := impl_within.wp (l0.length : Int) (1 : Int) (128 : Int) fun y101 => ((y101 = true → impl_areFinite.wp ([l0] : List (List (Nat))) fun y107 => K (y107)) ∧ (y101 = false → K (false)))
end Go.Proofs.Ytpeijfnfffogeaa.G

namespace Go.Proofs.Ytpeijfnfffogeaa.G
open Go Go.Ab
set_option maxRecDepth 100000
set_option linter.unusedVariables false
set_option linter.unusedSimpArgs false
set_option maxHeartbeats 1000000
def impl_isOver.wp (a0 : Nat) (K : Bool → Prop) : Prop := impl_IsFinite.wp a0 fun y101 => ((y101 = true → K (fcmp .gtr .f32 a0 (cz .f32 0))) ∧ (y101 = false → K (false)))
end Go.Proofs.Ytpeijfnfffogeaa.G

namespace Go.Proofs.Ytpeijfnfffogeaa.G
open Go Go.Ab
set_option maxRecDepth 100000
set_option linter.unusedVariables false
set_option linter.unusedSimpArgs false
set_option maxHeartbeats 1000000
def math_Float32bits.wp (x : Nat) (K : Int → Prop) : Prop := (num .f32 x = true) ∧ K (x : Int)
end Go.Proofs.Ytpeijfnfffogeaa.G

namespace Go.Proofs.Ytpeijfnfffogeaa.G
open Go Go.Ab
set_option maxRecDepth 100000
set_option linter.unusedVariables false
set_option linter.unusedSimpArgs false
set_option maxHeartbeats 1000000
def impl_BitsOf.wp (a0 : Nat) (K : Int → Prop) : Prop := (((fcmp .neq .f32 a0 a0) = true → K (2143289344 : Int)) ∧ ((fcmp .neq .f32 a0 a0) = false → math_Float32bits.wp a0 fun y102 => K (IntKind.i64.wrap y102)))
end Go.Proofs.Ytpeijfnfffogeaa.G

namespace Go.Proofs.Ytpeijfnfffogeaa.G
open Go Go.Ab
set_option maxRecDepth 100000
set_option linter.unusedVariables false
set_option linter.unusedSimpArgs false
set_option maxHeartbeats 1000000
def impl_packed.wp (l0 : List (Nat)) (K : (List UInt8) → Prop) : Prop := ∀ X151 : List (Int) → Int → Int → Prop, (∀ (out152 : List (Int)) (last154 : Int) (x155 : Int), ((x155 < (l0.length : Int) → (0 ≤ x155 ∧ x155 < (l0.length : Int)) ∧ impl_BitsOf.wp (l0.getD (x155).toNat (0 : Nat)) fun y158 => ∀ X160 : Int → Int → Prop, (∀ (z161 : Int) (m162 : Int), (((0 : Int) < m162 → X160 (IntKind.i64.wrap (z161 - (1 : Int))) (Int.fdiv m162 (2 ^ (min ((8 : Int)).toNat IntKind.i64.bits)))) ∧ (¬((0 : Int) < m162) → ((out152.length + ([(IntKind.u8.wrap z161)] : List (Int)).length) * 1 ≤ 2 ^ 40) ∧ ∀ X182 : List (Int) → Int → Int → Prop, (∀ (out183 : List (Int)) (more185 : Int) (x186 : Int), ((x186 < (IntKind.i64.wrap ((4 : Int) - z161)) → ((out183.length + ([(IntKind.u8.wrap more185)] : List (Int)).length) * 1 ≤ 2 ^ 40) ∧ X182 (out183 ++ ([(IntKind.u8.wrap more185)] : List (Int))) (Int.fdiv more185 (2 ^ (min ((8 : Int)).toNat IntKind.i64.bits))) (IntKind.i64.wrap (x186 + (1 : Int)))) ∧ (¬(x186 < (IntKind.i64.wrap ((4 : Int) - z161))) → X151 (out183) (y158) (IntKind.i64.wrap (x155 + (1 : Int))))) → X182 out183 more185 x186) → X182 (out152 ++ ([(IntKind.u8.wrap z161)] : List (Int))) (ibits .xor .i64 y158 last154) (0 : Int))) → X160 z161 m162) → X160 (4 : Int) (ibits .xor .i64 y158 last154)) ∧ (¬(x155 < (l0.length : Int)) → K (byts out152))) → X151 out152 last154 x155) → X151 ([] : List (Int)) (0 : Int) (0 : Int)
end Go.Proofs.Ytpeijfnfffogeaa.G

namespace Go.Proofs.Ytpeijfnfffogeaa.G
open Go Go.Ab
set_option maxRecDepth 100000
set_option linter.unusedVariables false
set_option linter.unusedSimpArgs false
set_option maxHeartbeats 1000000
def spec_l01Bits.wp (a0 : Nat) (K : Int → Prop) : Prop := (((fcmp .neq .f32 a0 a0) = true → K (2143289344 : Int)) ∧ ((fcmp .neq .f32 a0 a0) = false → math_Float32bits.wp a0 fun y102 => K (IntKind.i64.wrap y102)))
end Go.Proofs.Ytpeijfnfffogeaa.G

namespace Go.Proofs.Ytpeijfnfffogeaa.G
open Go Go.Ab
set_option maxRecDepth 100000
set_option linter.unusedVariables false
set_option linter.unusedSimpArgs false
set_option maxHeartbeats 1000000
def spec_l07Pack.wp (l0 : List (Nat)) (K : (List UInt8) → Prop) : Prop := ∀ X218 : List (Int) → Int → Int → Prop, (∀ (out219 : List (Int)) (before221 : Int) (x222 : Int), ((x222 < (l0.length : Int) → (0 ≤ x222 ∧ x222 < (l0.length : Int)) ∧ spec_l01Bits.wp (l0.getD (x222).toNat (0 : Nat)) fun y225 => ∀ X227 : Int → Int → Prop, (∀ (z228 : Int) (scale229 : Int), ((z228 < (4 : Int) → (scale229 ≠ 0) ∧ (((IntKind.i64.wrap (Int.tdiv (ibits .xor .i64 y225 before221) scale229)) = (0 : Int) → ((scale229 = (1 : Int) → ((out219.length + ([(IntKind.u8.wrap (IntKind.i64.wrap (z228 + (1 : Int))))] : List (Int)).length) * 1 ≤ 2 ^ 40) ∧ ∀ X252 : List (Int) → Int → Int → Prop, (∀ (out253 : List (Int)) (x255 : Int) (k256 : Int), ((k256 < (4 : Int) → ((out253.length + ([(IntKind.u8.wrap (Int.tmod x255 (256 : Int)))] : List (Int)).length) * 1 ≤ 2 ^ 40) ∧ X252 (out253 ++ ([(IntKind.u8.wrap (Int.tmod x255 (256 : Int)))] : List (Int))) (IntKind.i64.wrap (Int.tdiv x255 (256 : Int))) (IntKind.i64.wrap (k256 + (1 : Int)))) ∧ (¬(k256 < (4 : Int)) → X218 (out253) (y225) (IntKind.i64.wrap (x222 + (1 : Int))))) → X252 out253 x255 k256) → X252 (out219 ++ ([(IntKind.u8.wrap (IntKind.i64.wrap (z228 + (1 : Int))))] : List (Int))) (ibits .xor .i64 y225 before221) (IntKind.i64.wrap (z228 + (1 : Int)))) ∧ (¬(scale229 = (1 : Int)) → X227 (IntKind.i64.wrap (z228 + (1 : Int))) (IntKind.i64.wrap (Int.tdiv scale229 (256 : Int)))))) ∧ (¬((IntKind.i64.wrap (Int.tdiv (ibits .xor .i64 y225 before221) scale229)) = (0 : Int)) → ((out219.length + ([(IntKind.u8.wrap z228)] : List (Int)).length) * 1 ≤ 2 ^ 40) ∧ ∀ X284 : List (Int) → Int → Int → Prop, (∀ (out285 : List (Int)) (x287 : Int) (k288 : Int), ((k288 < (4 : Int) → ((out285.length + ([(IntKind.u8.wrap (Int.tmod x287 (256 : Int)))] : List (Int)).length) * 1 ≤ 2 ^ 40) ∧ X284 (out285 ++ ([(IntKind.u8.wrap (Int.tmod x287 (256 : Int)))] : List (Int))) (IntKind.i64.wrap (Int.tdiv x287 (256 : Int))) (IntKind.i64.wrap (k288 + (1 : Int)))) ∧ (¬(k288 < (4 : Int)) → X218 (out285) (y225) (IntKind.i64.wrap (x222 + (1 : Int))))) → X284 out285 x287 k288) → X284 (out219 ++ ([(IntKind.u8.wrap z228)] : List (Int))) (ibits .xor .i64 y225 before221) (z228)))) ∧ (¬(z228 < (4 : Int)) → ((out219.length + ([(IntKind.u8.wrap z228)] : List (Int)).length) * 1 ≤ 2 ^ 40) ∧ ∀ X316 : List (Int) → Int → Int → Prop, (∀ (out317 : List (Int)) (x319 : Int) (k320 : Int), ((k320 < (4 : Int) → ((out317.length + ([(IntKind.u8.wrap (Int.tmod x319 (256 : Int)))] : List (Int)).length) * 1 ≤ 2 ^ 40) ∧ X316 (out317 ++ ([(IntKind.u8.wrap (Int.tmod x319 (256 : Int)))] : List (Int))) (IntKind.i64.wrap (Int.tdiv x319 (256 : Int))) (IntKind.i64.wrap (k320 + (1 : Int)))) ∧ (¬(k320 < (4 : Int)) → X218 (out317) (y225) (IntKind.i64.wrap (x222 + (1 : Int))))) → X316 out317 x319 k320) → X316 (out219 ++ ([(IntKind.u8.wrap z228)] : List (Int))) (ibits .xor .i64 y225 before221) (z228))) → X227 z228 scale229) → X227 (0 : Int) (16777216 : Int)) ∧ (¬(x222 < (l0.length : Int)) → K (byts out219))) → X218 out219 before221 x222) → X218 ([] : List (Int)) (0 : Int) (0 : Int)
end Go.Proofs.Ytpeijfnfffogeaa.G

namespace Go.Proofs.Ytpeijfnfffogeaa.G
open Go Go.Ab
set_option maxRecDepth 100000
set_option linter.unusedVariables false
set_option linter.unusedSimpArgs false
set_option maxHeartbeats 1000000
def spec_l01Same.wp (a0 : Nat) (a1 : Nat) (K : Bool → Prop) : Prop := spec_l01Bits.wp a0 fun y101 => spec_l01Bits.wp a1 fun y103 => K (decide (y101 = y103))
end Go.Proofs.Ytpeijfnfffogeaa.G

namespace Go.Proofs.Ytpeijfnfffogeaa.G
open Go Go.Ab
set_option maxRecDepth 100000
set_option linter.unusedVariables false
set_option linter.unusedSimpArgs false
set_option maxHeartbeats 1000000
def math_Float64bits.wp (x : Nat) (K : Int → Prop) : Prop := (num .f64 x = true) ∧ K (x : Int)
end Go.Proofs.Ytpeijfnfffogeaa.G

namespace Go.Proofs.Ytpeijfnfffogeaa.G
open Go Go.Ab
set_option maxRecDepth 100000
set_option linter.unusedVariables false
set_option linter.unusedSimpArgs false
set_option maxHeartbeats 1000000
def math_Signbit.wp (a0 : Nat) (K : Bool → Prop) : Prop := math_Float64bits.wp a0 fun y101 => K (decide ((IntKind.i64.wrap y101) < (0 : Int)))
end Go.Proofs.Ytpeijfnfffogeaa.G

namespace Go.Proofs.Ytpeijfnfffogeaa.G
open Go Go.Ab
set_option maxRecDepth 100000
set_option linter.unusedVariables false
set_option linter.unusedSimpArgs false
set_option maxHeartbeats 1000000
def impl_SameNumber.wp (a0 : Nat) (a1 : Nat) (K : Bool → Prop) : Prop := (((fcmp .neq .f32 a0 a0) = true → K (fcmp .neq .f32 a1 a1)) ∧ ((fcmp .neq .f32 a0 a0) = false → (((fcmp .neq .f32 a1 a1) = true → K (false)) ∧ ((fcmp .neq .f32 a1 a1) = false → (((fcmp .eql .f32 a0 a1) = true → math_Signbit.wp (widen a0) fun y104 => math_Signbit.wp (widen a1) fun y106 => K (y104 == y106)) ∧ ((fcmp .eql .f32 a0 a1) = false → K (false)))))))
end Go.Proofs.Ytpeijfnfffogeaa.G

namespace Go.Proofs.Ytpeijfnfffogeaa.G
open Go Go.Ab
set_option maxRecDepth 100000
set_option linter.unusedVariables false
set_option linter.unusedSimpArgs false
set_option maxHeartbeats 1000000
def spec_l01SameAll.wp (l0 : List (Nat)) (l1 : List (Nat)) (K : Bool → Prop) : Prop := (((l0.length : Int) = (l1.length : Int) → ∀ X102 : Int → Prop, (∀ (i103 : Int), ((i103 < (l0.length : Int) → (0 ≤ i103 ∧ i103 < (l0.length : Int)) ∧ (0 ≤ i103 ∧ i103 < (l1.length : Int)) ∧ spec_l01Same.wp (l0.getD (i103).toNat (0 : Nat)) (l1.getD (i103).toNat (0 : Nat)) fun y107 => ((y107 = true → X102 (IntKind.i64.wrap (i103 + (1 : Int)))) ∧ (y107 = false → K (false)))) ∧ (¬(i103 < (l0.length : Int)) → K (true))) → X102 i103) → X102 (0 : Int)) ∧ (¬((l0.length : Int) = (l1.length : Int)) → K (false)))
end Go.Proofs.Ytpeijfnfffogeaa.G

namespace Go.Proofs.Ytpeijfnfffogeaa.G
open Go Go.Ab
set_option maxRecDepth 100000
set_option linter.unusedVariables false
set_option linter.unusedSimpArgs false
set_option maxHeartbeats 1000000
def impl_sameNumbers.wp (l0 : List (Nat)) (l1 : List (Nat)) (K : Bool → Prop) : Prop := (((l0.length : Int) = (l1.length : Int) → ∀ X102 : Int → Prop, (∀ (x103 : Int), ((x103 < (l0.length : Int) → (0 ≤ x103 ∧ x103 < (l0.length : Int)) ∧ (0 ≤ x103 ∧ x103 < (l1.length : Int)) ∧ impl_SameNumber.wp (l0.getD (x103).toNat (0 : Nat)) (l1.getD (x103).toNat (0 : Nat)) fun y107 => ((y107 = true → X102 (IntKind.i64.wrap (x103 + (1 : Int)))) ∧ (y107 = false → K (false)))) ∧ (¬(x103 < (l0.length : Int)) → K (true))) → X102 x103) → X102 (0 : Int)) ∧ (¬((l0.length : Int) = (l1.length : Int)) → K (false)))
end Go.Proofs.Ytpeijfnfffogeaa.G

namespace Go.Proofs.Ytpeijfnfffogeaa.G
open Go Go.Ab
set_option maxRecDepth 100000
set_option linter.unusedVariables false
set_option linter.unusedSimpArgs false
set_option maxHeartbeats 1000000
def laws_heldBoolS.wp (l0 : List (Bool)) (a1 : Int) (K : Int → Prop) : Prop := ∀ X101 : Int → Int → Prop, (∀ (k102 : Int) (i103 : Int), ((i103 < (l0.length : Int) → (0 ≤ i103 ∧ i103 < (l0.length : Int)) ∧ ((((l0.getD (i103).toNat false) == (decide ((Int.tmod k102 (3 : Int)) = (0 : Int)))) = true → X101 (IntKind.i64.wrap (k102 + (1 : Int))) (IntKind.i64.wrap (i103 + (1 : Int)))) ∧ (((l0.getD (i103).toNat false) == (decide ((Int.tmod k102 (3 : Int)) = (0 : Int)))) = false → K (-1 : Int)))) ∧ (¬(i103 < (l0.length : Int)) → K (k102))) → X101 k102 i103) → X101 (a1) (0 : Int)
end Go.Proofs.Ytpeijfnfffogeaa.G

namespace Go.Proofs.Ytpeijfnfffogeaa.G
open Go Go.Ab
set_option maxRecDepth 100000
set_option linter.unusedVariables false
set_option linter.unusedSimpArgs false
set_option maxHeartbeats 1000000
def impl_IsName.wp (a0 : List UInt8) (K : Bool → Prop) : Prop := ∀ X101 : Int → Prop, (∀ (x102 : Int), ((x102 < (a0.length : Int) → (0 ≤ x102 ∧ x102 < (a0.length : Int)) ∧ (((bt a0 x102) < (97 : Int) → K (false)) ∧ (¬((bt a0 x102) < (97 : Int)) → (((122 : Int) < (bt a0 x102) → K (false)) ∧ (¬((122 : Int) < (bt a0 x102)) → X101 (IntKind.i64.wrap (x102 + (1 : Int)))))))) ∧ (¬(x102 < (a0.length : Int)) → (((1 : Int) ≤ (a0.length : Int) → K (decide ((a0.length : Int) ≤ (8 : Int)))) ∧ (¬((1 : Int) ≤ (a0.length : Int)) → K (false))))) → X101 x102) → X101 (0 : Int)
end Go.Proofs.Ytpeijfnfffogeaa.G

namespace Go.Proofs.Ytpeijfnfffogeaa.G
open Go Go.Ab
set_option maxRecDepth 100000
set_option linter.unusedVariables false
set_option linter.unusedSimpArgs false
set_option maxHeartbeats 1000000
def spec_l07Values.wp (l0 : List (Nat)) (K : Bool → Prop) : Prop := (((1 : Int) ≤ (l0.length : Int) → K (decide ((l0.length : Int) ≤ (128 : Int)))) ∧ (¬((1 : Int) ≤ (l0.length : Int)) → K (false)))
end Go.Proofs.Ytpeijfnfffogeaa.G

namespace Go.Proofs.Ytpeijfnfffogeaa.G
open Go Go.Ab
set_option maxRecDepth 100000
set_option linter.unusedVariables false
set_option linter.unusedSimpArgs false
set_option maxHeartbeats 1000000
def spec_l07Name.wp (a0 : List UInt8) (K : Bool → Prop) : Prop := ∀ X101 : Int → Prop, (∀ (i102 : Int), ((i102 < (a0.length : Int) → (0 ≤ i102 ∧ i102 < (a0.length : Int)) ∧ (((bt a0 i102) < (97 : Int) → K (false)) ∧ (¬((bt a0 i102) < (97 : Int)) → (((122 : Int) < (bt a0 i102) → K (false)) ∧ (¬((122 : Int) < (bt a0 i102)) → X101 (IntKind.i64.wrap (i102 + (1 : Int)))))))) ∧ (¬(i102 < (a0.length : Int)) → (((1 : Int) ≤ (a0.length : Int) → K (decide ((a0.length : Int) ≤ (8 : Int)))) ∧ (¬((1 : Int) ≤ (a0.length : Int)) → K (false))))) → X101 i102) → X101 (0 : Int)
end Go.Proofs.Ytpeijfnfffogeaa.G

namespace Go.Proofs.Ytpeijfnfffogeaa.G
open Go Go.Ab
set_option maxRecDepth 100000
set_option linter.unusedVariables false
set_option linter.unusedSimpArgs false
set_option maxHeartbeats 1000000
def spec_l07Take.wp (a0 : List UInt8) (a1 : Int) (l2 : List (Nat)) (K : Bool → Prop) : Prop := spec_l07Name.wp a0 fun y101 => ((y101 = true → spec_l00In.wp a1 (1 : Int) (65535 : Int) fun y104 => ((y104 = true → spec_l07Values.wp l2 fun y107 => K (y107)) ∧ (y104 = false → K (false)))) ∧ (y101 = false → K (false)))
end Go.Proofs.Ytpeijfnfffogeaa.G

namespace Go.Proofs.Ytpeijfnfffogeaa.G
open Go Go.Ab
set_option maxRecDepth 100000
set_option linter.unusedVariables false
set_option linter.unusedSimpArgs false
set_option maxHeartbeats 1000000
def laws_eqTake.wp (a0 : List UInt8) (a1 : Int) (l2 : List (Nat)) (a3 : List UInt8) (a4 : Int) (l5 : List (Nat)) (K : Bool → Prop) : Prop := ((a0 = a3 → ((a1 = a4 → laws_eqFloat32S.wp l2 l5 fun y109 => ((y109 = true → K (true)) ∧ (y109 = false → K (false)))) ∧ (¬(a1 = a4) → K (false)))) ∧ (¬(a0 = a3) → K (false)))
end Go.Proofs.Ytpeijfnfffogeaa.G

namespace Go.Proofs.Ytpeijfnfffogeaa.G
open Go Go.Ab
set_option maxRecDepth 100000
set_option linter.unusedVariables false
set_option linter.unusedSimpArgs false
set_option maxHeartbeats 1000000
def impl_ValidTake.wp (a0 : List UInt8) (a1 : Int) (l2 : List (Nat)) (K : Bool → Prop) : Prop := impl_IsName.wp a0 fun y104 => ((y104 = true → impl_within.wp a1 (1 : Int) (65535 : Int) fun y107 => ((y107 = true → impl_within.wp (l2.length : Int) (1 : Int) (128 : Int) fun y110 => K (y110)) ∧ (y107 = false → K (false)))) ∧ (y104 = false → K (false)))
end Go.Proofs.Ytpeijfnfffogeaa.G

