/-
  What the functions compute, as formulas over numbers and lists. Printed by a program of the session; nothing here is trusted.
-/
import Derived.Test.YtkaidcgelbhofaaAbG
namespace Go.Proofs.Ytkaidcgelbhofaa.G
open Go Go.Ab
set_option maxRecDepth 100000
set_option linter.unusedVariables false
set_option linter.unusedSimpArgs false
set_option maxHeartbeats 1000000
def R_LeFlt_f32_o (H : Heap) (x : List (Nat)) (c : List AV) : Prop := c = [(c.getD 0 .und)] ∧ Shows H (c.getD 0 .und) 1 (enc (eFlt .f32) x)
def R_LeInt_i64_o (H : Heap) (x : List (Int)) (c : List AV) : Prop := c = [(c.getD 0 .und)] ∧ Shows H (c.getD 0 .und) 1 (enc (eInt .i64) x)
def R_LePair_eBool_ePair_eFlt_f32_eInt_i64_o (H : Heap) (x : List ((Bool) × (Nat) × (Int))) (c : List AV) : Prop := c = [(c.getD 0 .und)] ∧ Shows H (c.getD 0 .und) 3 (enc (ePair eBool (ePair (eFlt .f32) (eInt .i64))) x)
def R_LePair_eInt_i64_eFlt_f32_o (H : Heap) (x : List ((Int) × (Nat))) (c : List AV) : Prop := c = [(c.getD 0 .und)] ∧ Shows H (c.getD 0 .und) 2 (enc (ePair (eInt .i64) (eFlt .f32)) x)
def R_s_ii64_LeFlt_f32_poooq (H : Heap) (x : (List UInt8) × (Int) × (List (Nat))) (c : List AV) : Prop := c = [(.str (pk x.1)), (.int .i64 x.2.1), (c.getD 2 .und)] ∧ Shows H (c.getD 2 .und) 1 (enc (eFlt .f32) x.2.2)
end Go.Proofs.Ytkaidcgelbhofaa.G

namespace Go.Proofs.Ytkaidcgelbhofaa.G
open Go Go.Ab
set_option maxRecDepth 100000
set_option linter.unusedVariables false
set_option linter.unusedSimpArgs false
set_option maxHeartbeats 1000000
def spec_l01Finite.wp (a0 : Nat) (K : Bool → Prop) : Prop := K (fcmp .eql .f32 (fop .sub .f32 a0 a0) (cz .f32 0))
end Go.Proofs.Ytkaidcgelbhofaa.G

namespace Go.Proofs.Ytkaidcgelbhofaa.G
open Go Go.Ab
set_option maxRecDepth 100000
set_option linter.unusedVariables false
set_option linter.unusedSimpArgs false
set_option maxHeartbeats 1000000
def spec_l02Finite.wp (l0 : List (Nat)) (K : Bool → Prop) : Prop := ∀ X101 : Int → Prop, (∀ (i102 : Int), ((i102 < (l0.length : Int) → (0 ≤ i102 ∧ i102 < (l0.length : Int)) ∧ spec_l01Finite.wp (l0.getD (i102).toNat (0 : Nat)) fun y105 => ((y105 = true → X101 (IntKind.i64.wrap (i102 + (1 : Int)))) ∧ (y105 = false → K (false)))) ∧ (¬(i102 < (l0.length : Int)) → K (true))) → X101 i102) → X101 (0 : Int)
end Go.Proofs.Ytkaidcgelbhofaa.G

namespace Go.Proofs.Ytkaidcgelbhofaa.G
open Go Go.Ab
set_option maxRecDepth 100000
set_option linter.unusedVariables false
set_option linter.unusedSimpArgs false
set_option maxHeartbeats 1000000
def spec_l07Line.wp (l0 : List (Nat)) (K : Bool → Prop) : Prop := (((l0.length : Int) = (1 : Int) → spec_l02Finite.wp l0 fun y102 => K (y102)) ∧ (¬((l0.length : Int) = (1 : Int)) → (((l0.length : Int) = (3 : Int) → spec_l02Finite.wp l0 fun y105 => K (y105)) ∧ (¬((l0.length : Int) = (3 : Int)) → (((l0.length : Int) = (7 : Int) → spec_l02Finite.wp l0 fun y108 => K (y108)) ∧ (¬((l0.length : Int) = (7 : Int)) → (((l0.length : Int) = (15 : Int) → spec_l02Finite.wp l0 fun y111 => K (y111)) ∧ (¬((l0.length : Int) = (15 : Int)) → (((l0.length : Int) = (31 : Int) → spec_l02Finite.wp l0 fun y114 => K (y114)) ∧ (¬((l0.length : Int) = (31 : Int)) → (((l0.length : Int) = (63 : Int) → spec_l02Finite.wp l0 fun y117 => K (y117)) ∧ (¬((l0.length : Int) = (63 : Int)) → K (false)))))))))))))
end Go.Proofs.Ytkaidcgelbhofaa.G

namespace Go.Proofs.Ytkaidcgelbhofaa.G
open Go Go.Ab
set_option maxRecDepth 100000
set_option linter.unusedVariables false
set_option linter.unusedSimpArgs false
set_option maxHeartbeats 1000000
def spec_l02Above.wp (a0 : Nat) (K : Bool → Prop) : Prop := spec_l01Finite.wp a0 fun y101 => ((y101 = true → K (fcmp .gtr .f32 a0 (cz .f32 0))) ∧ (y101 = false → K (false)))
end Go.Proofs.Ytkaidcgelbhofaa.G

namespace Go.Proofs.Ytkaidcgelbhofaa.G
open Go Go.Ab
set_option maxRecDepth 100000
set_option linter.unusedVariables false
set_option linter.unusedSimpArgs false
set_option maxHeartbeats 1000000
def spec_l07Solve.wp (l0 : List (Nat)) (a1 : Nat) (K : (List (Nat)) → Prop) : Prop := (0 ≤ (0 : Int) ∧ (0 : Int) < (l0.length : Int)) ∧ ∀ X161 : List (Nat) → List (Nat) → Int → Prop, (∀ (g162 : List (Nat)) (d164 : List (Nat)) (i166 : Int), ((i166 < (l0.length : Int) → (0 ≤ (IntKind.i64.wrap (i166 - (1 : Int))) ∧ (IntKind.i64.wrap (i166 - (1 : Int))) < (d164.length : Int)) ∧ ((d164.length + ([(fop .add .f32 (cz .f32 1073741824) (fop .quo .f32 (cz .f32 3212836864) (d164.getD ((IntKind.i64.wrap (i166 - (1 : Int)))).toNat (0 : Nat))))] : List (Nat)).length) * 4 ≤ 2 ^ 40) ∧ (0 ≤ i166 ∧ i166 < (l0.length : Int)) ∧ (0 ≤ (IntKind.i64.wrap (i166 - (1 : Int))) ∧ (IntKind.i64.wrap (i166 - (1 : Int))) < (g162.length : Int)) ∧ ((g162.length + ([(fop .sub .f32 (fop .mul .f32 (fop .mul .f32 a1 a1) (l0.getD (i166).toNat (0 : Nat))) (fop .mul .f32 (fop .quo .f32 (cz .f32 3212836864) (d164.getD ((IntKind.i64.wrap (i166 - (1 : Int)))).toNat (0 : Nat))) (g162.getD ((IntKind.i64.wrap (i166 - (1 : Int)))).toNat (0 : Nat))))] : List (Nat)).length) * 4 ≤ 2 ^ 40) ∧ X161 (g162 ++ ([(fop .sub .f32 (fop .mul .f32 (fop .mul .f32 a1 a1) (l0.getD (i166).toNat (0 : Nat))) (fop .mul .f32 (fop .quo .f32 (cz .f32 3212836864) (d164.getD ((IntKind.i64.wrap (i166 - (1 : Int)))).toNat (0 : Nat))) (g162.getD ((IntKind.i64.wrap (i166 - (1 : Int)))).toNat (0 : Nat))))] : List (Nat))) (d164 ++ ([(fop .add .f32 (cz .f32 1073741824) (fop .quo .f32 (cz .f32 3212836864) (d164.getD ((IntKind.i64.wrap (i166 - (1 : Int)))).toNat (0 : Nat))))] : List (Nat))) (IntKind.i64.wrap (i166 + (1 : Int)))) ∧ (¬(i166 < (l0.length : Int)) → (0 ≤ (l0.length : Int) ∧ (l0.length : Int) ≤ (l0.length : Int) ∧ (l0.length : Int) ≤ 2 ^ 40 ∧ (l0.length : Int) * 4 ≤ 2 ^ 40) ∧ ∀ X199 : List (Nat) → Int → Prop, (∀ (u200 : List (Nat)) (i201 : Int), (((0 : Int) ≤ i201 → (0 ≤ i201 ∧ i201 < (g162.length : Int)) ∧ (((IntKind.i64.wrap (i201 + (1 : Int))) < (l0.length : Int) → (0 ≤ (IntKind.i64.wrap (i201 + (1 : Int))) ∧ (IntKind.i64.wrap (i201 + (1 : Int))) < (u200.length : Int)) ∧ (0 ≤ i201 ∧ i201 < (d164.length : Int)) ∧ (0 ≤ i201 ∧ i201 < (u200.length : Int)) ∧ X199 (u200.set (i201).toNat (fop .quo .f32 (fop .add .f32 (g162.getD (i201).toNat (0 : Nat)) (u200.getD ((IntKind.i64.wrap (i201 + (1 : Int)))).toNat (0 : Nat))) (d164.getD (i201).toNat (0 : Nat)))) (IntKind.i64.wrap (i201 - (1 : Int)))) ∧ (¬((IntKind.i64.wrap (i201 + (1 : Int))) < (l0.length : Int)) → (0 ≤ i201 ∧ i201 < (d164.length : Int)) ∧ (0 ≤ i201 ∧ i201 < (u200.length : Int)) ∧ X199 (u200.set (i201).toNat (fop .quo .f32 (g162.getD (i201).toNat (0 : Nat)) (d164.getD (i201).toNat (0 : Nat)))) (IntKind.i64.wrap (i201 - (1 : Int)))))) ∧ (¬((0 : Int) ≤ i201) → K (u200))) → X199 u200 i201) → X199 (List.replicate ((l0.length : Int)).toNat (0 : Nat)) (IntKind.i64.wrap ((l0.length : Int) - (1 : Int))))) → X161 g162 d164 i166) → X161 ([(fop .mul .f32 (fop .mul .f32 a1 a1) (l0.getD ((0 : Int)).toNat (0 : Nat)))] : List (Nat)) ([(cz .f32 1073741824)] : List (Nat)) (1 : Int)
end Go.Proofs.Ytkaidcgelbhofaa.G

namespace Go.Proofs.Ytkaidcgelbhofaa.G
open Go Go.Ab
set_option maxRecDepth 100000
set_option linter.unusedVariables false
set_option linter.unusedSimpArgs false
set_option maxHeartbeats 1000000
def spec_SolveLine.wp (l0 : List (Nat)) (a1 : Nat) (K : (List (Nat)) → Bool → Prop) : Prop := spec_l07Line.wp l0 fun y101 => ((y101 = true → spec_l02Above.wp a1 fun y104 => ((y104 = true → spec_l07Solve.wp l0 a1 fun y107 => spec_l02Finite.wp y107 fun y111 => ((y111 = true → K (y107) (true)) ∧ (y111 = false → K ([] : List (Nat)) (false)))) ∧ (y104 = false → K ([] : List (Nat)) (false)))) ∧ (y101 = false → K ([] : List (Nat)) (false)))
end Go.Proofs.Ytkaidcgelbhofaa.G

namespace Go.Proofs.Ytkaidcgelbhofaa.G
open Go Go.Ab
set_option maxRecDepth 100000
set_option linter.unusedVariables false
set_option linter.unusedSimpArgs false
set_option maxHeartbeats 1000000
def laws_toFloat32S.wp (l0 : List (Nat)) (K : (List (Nat)) → Prop) : Prop := (0 ≤ (l0.length : Int) ∧ (l0.length : Int) ≤ (l0.length : Int) ∧ (l0.length : Int) ≤ 2 ^ 40 ∧ (l0.length : Int) * 4 ≤ 2 ^ 40) ∧ ∀ X111 : List (Nat) → Int → Prop, (∀ (out112 : List (Nat)) (i113 : Int), ((i113 < (l0.length : Int) → (0 ≤ i113 ∧ i113 < (l0.length : Int)) ∧ (0 ≤ i113 ∧ i113 < (out112.length : Int)) ∧ X111 (out112.set (i113).toNat (l0.getD (i113).toNat (0 : Nat))) (IntKind.i64.wrap (i113 + (1 : Int)))) ∧ (¬(i113 < (l0.length : Int)) → K (out112))) → X111 out112 i113) → X111 (List.replicate ((l0.length : Int)).toNat (0 : Nat)) (0 : Int)
end Go.Proofs.Ytkaidcgelbhofaa.G

namespace Go.Proofs.Ytkaidcgelbhofaa.G
open Go Go.Ab
set_option maxRecDepth 100000
set_option linter.unusedVariables false
set_option linter.unusedSimpArgs false
set_option maxHeartbeats 1000000
def impl_IsFinite.wp (a0 : Nat) (K : Bool → Prop) : Prop := K (fcmp .eql .f32 (fop .sub .f32 a0 a0) (cz .f32 0))
end Go.Proofs.Ytkaidcgelbhofaa.G

namespace Go.Proofs.Ytkaidcgelbhofaa.G
open Go Go.Ab
set_option maxRecDepth 100000
set_option linter.unusedVariables false
set_option linter.unusedSimpArgs false
set_option maxHeartbeats 1000000
def impl_areFinite.wp (l0 : List (List (Nat))) (K : Bool → Prop) : Prop := ∀ X101 : Int → Prop, (∀ (x102 : Int), ((x102 < (l0.length : Int) → (0 ≤ x102 ∧ x102 < (l0.length : Int)) ∧ ∀ X105 : Int → Prop, (∀ (x106 : Int), ((x106 < ((l0.getD (x102).toNat ([] : List (Nat))).length : Int) → (0 ≤ x106 ∧ x106 < ((l0.getD (x102).toNat ([] : List (Nat))).length : Int)) ∧ impl_IsFinite.wp ((l0.getD (x102).toNat ([] : List (Nat))).getD (x106).toNat (0 : Nat)) fun y109 => ((y109 = true → X105 (IntKind.i64.wrap (x106 + (1 : Int)))) ∧ (y109 = false → K (false)))) ∧ (¬(x106 < ((l0.getD (x102).toNat ([] : List (Nat))).length : Int)) → X101 (IntKind.i64.wrap (x102 + (1 : Int))))) → X105 x106) → X105 (0 : Int)) ∧ (¬(x102 < (l0.length : Int)) → K (true))) → X101 x102) → X101 (0 : Int)
end Go.Proofs.Ytkaidcgelbhofaa.G

namespace Go.Proofs.Ytkaidcgelbhofaa.G
open Go Go.Ab
set_option maxRecDepth 100000
set_option linter.unusedVariables false
set_option linter.unusedSimpArgs false
set_option maxHeartbeats 1000000
def impl_isLine.wp (l0 : List (Nat)) (K : Bool → Prop) : Prop := (((2 : Int) ≤ (IntKind.i64.wrap ((l0.length : Int) + (1 : Int))) → (((IntKind.i64.wrap ((l0.length : Int) + (1 : Int))) ≤ (64 : Int) → (((ibits .and .i64 (IntKind.i64.wrap ((l0.length : Int) + (1 : Int))) (IntKind.i64.wrap ((IntKind.i64.wrap ((l0.length : Int) + (1 : Int))) - (1 : Int)))) = (0 : Int) → impl_areFinite.wp ([l0] : List (List (Nat))) fun y107 => K (y107)) ∧ (¬((ibits .and .i64 (IntKind.i64.wrap ((l0.length : Int) + (1 : Int))) (IntKind.i64.wrap ((IntKind.i64.wrap ((l0.length : Int) + (1 : Int))) - (1 : Int)))) = (0 : Int)) → K (false)))) ∧ (¬((IntKind.i64.wrap ((l0.length : Int) + (1 : Int))) ≤ (64 : Int)) → K (false)))) ∧ (¬((2 : Int) ≤ (IntKind.i64.wrap ((l0.length : Int) + (1 : Int)))) → K (false)))
end Go.Proofs.Ytkaidcgelbhofaa.G

namespace Go.Proofs.Ytkaidcgelbhofaa.G
open Go Go.Ab
set_option maxRecDepth 100000
set_option linter.unusedVariables false
set_option linter.unusedSimpArgs false
set_option maxHeartbeats 1000000
def impl_isOver.wp (a0 : Nat) (K : Bool → Prop) : Prop := impl_IsFinite.wp a0 fun y101 => ((y101 = true → K (fcmp .gtr .f32 a0 (cz .f32 0))) ∧ (y101 = false → K (false)))
end Go.Proofs.Ytkaidcgelbhofaa.G

namespace Go.Proofs.Ytkaidcgelbhofaa.G
open Go Go.Ab
set_option maxRecDepth 100000
set_option linter.unusedVariables false
set_option linter.unusedSimpArgs false
set_option maxHeartbeats 1000000
def impl_finiteList.wp (l0 : List (Nat)) (K : Bool → Bool → Prop) : Prop := impl_areFinite.wp ([l0] : List (List (Nat))) fun y104 => ((y104 = true → K (true) (true)) ∧ (y104 = false → K (false) (false)))
end Go.Proofs.Ytkaidcgelbhofaa.G

namespace Go.Proofs.Ytkaidcgelbhofaa.G
open Go Go.Ab
set_option maxRecDepth 100000
set_option linter.unusedVariables false
set_option linter.unusedSimpArgs false
set_option maxHeartbeats 1000000
def impl_SolveLine.wp (l0 : List (Nat)) (a1 : Nat) (K : (List (Nat)) → Bool → Prop) : Prop := impl_isLine.wp l0 fun y101 => ((y101 = true → impl_isOver.wp a1 fun y104 => ((y104 = true → ∀ X223 : List (Nat) → List (Nat) → Int → Prop, (∀ (g224 : List (Nat)) (d226 : List (Nat)) (x228 : Int), ((x228 < (l0.length : Int) → (0 ≤ x228 ∧ x228 < (l0.length : Int)) ∧ ((x228 = (0 : Int) → ((d226.length + ([(cz .f32 1073741824)] : List (Nat)).length) * 4 ≤ 2 ^ 40) ∧ ((g224.length + ([(fop .mul .f32 (fop .mul .f32 a1 a1) (l0.getD (x228).toNat (0 : Nat)))] : List (Nat)).length) * 4 ≤ 2 ^ 40) ∧ X223 (g224 ++ ([(fop .mul .f32 (fop .mul .f32 a1 a1) (l0.getD (x228).toNat (0 : Nat)))] : List (Nat))) (d226 ++ ([(cz .f32 1073741824)] : List (Nat))) (IntKind.i64.wrap (x228 + (1 : Int)))) ∧ (¬(x228 = (0 : Int)) → (0 ≤ (IntKind.i64.wrap (x228 - (1 : Int))) ∧ (IntKind.i64.wrap (x228 - (1 : Int))) < (d226.length : Int)) ∧ ((d226.length + ([(fop .add .f32 (cz .f32 1073741824) (fop .quo .f32 (cz .f32 3212836864) (d226.getD ((IntKind.i64.wrap (x228 - (1 : Int)))).toNat (0 : Nat))))] : List (Nat)).length) * 4 ≤ 2 ^ 40) ∧ (0 ≤ (IntKind.i64.wrap (x228 - (1 : Int))) ∧ (IntKind.i64.wrap (x228 - (1 : Int))) < (g224.length : Int)) ∧ ((g224.length + ([(fop .sub .f32 (fop .mul .f32 (fop .mul .f32 a1 a1) (l0.getD (x228).toNat (0 : Nat))) (fop .mul .f32 (fop .quo .f32 (cz .f32 3212836864) (d226.getD ((IntKind.i64.wrap (x228 - (1 : Int)))).toNat (0 : Nat))) (g224.getD ((IntKind.i64.wrap (x228 - (1 : Int)))).toNat (0 : Nat))))] : List (Nat)).length) * 4 ≤ 2 ^ 40) ∧ X223 (g224 ++ ([(fop .sub .f32 (fop .mul .f32 (fop .mul .f32 a1 a1) (l0.getD (x228).toNat (0 : Nat))) (fop .mul .f32 (fop .quo .f32 (cz .f32 3212836864) (d226.getD ((IntKind.i64.wrap (x228 - (1 : Int)))).toNat (0 : Nat))) (g224.getD ((IntKind.i64.wrap (x228 - (1 : Int)))).toNat (0 : Nat))))] : List (Nat))) (d226 ++ ([(fop .add .f32 (cz .f32 1073741824) (fop .quo .f32 (cz .f32 3212836864) (d226.getD ((IntKind.i64.wrap (x228 - (1 : Int)))).toNat (0 : Nat))))] : List (Nat))) (IntKind.i64.wrap (x228 + (1 : Int)))))) ∧ (¬(x228 < (l0.length : Int)) → (0 ≤ (l0.length : Int) ∧ (l0.length : Int) ≤ (l0.length : Int) ∧ (l0.length : Int) ≤ 2 ^ 40 ∧ (l0.length : Int) * 4 ≤ 2 ^ 40) ∧ ∀ X314 : List (Nat) → Int → Prop, (∀ (u315 : List (Nat)) (i316 : Int), (((0 : Int) ≤ i316 → (0 ≤ i316 ∧ i316 < (g224.length : Int)) ∧ (((IntKind.i64.wrap (i316 + (1 : Int))) < (l0.length : Int) → (0 ≤ (IntKind.i64.wrap (i316 + (1 : Int))) ∧ (IntKind.i64.wrap (i316 + (1 : Int))) < (u315.length : Int)) ∧ (0 ≤ i316 ∧ i316 < (d226.length : Int)) ∧ (0 ≤ i316 ∧ i316 < (u315.length : Int)) ∧ X314 (u315.set (i316).toNat (fop .quo .f32 (fop .add .f32 (g224.getD (i316).toNat (0 : Nat)) (u315.getD ((IntKind.i64.wrap (i316 + (1 : Int)))).toNat (0 : Nat))) (d226.getD (i316).toNat (0 : Nat)))) (IntKind.i64.wrap (i316 - (1 : Int)))) ∧ (¬((IntKind.i64.wrap (i316 + (1 : Int))) < (l0.length : Int)) → (0 ≤ i316 ∧ i316 < (d226.length : Int)) ∧ (0 ≤ i316 ∧ i316 < (u315.length : Int)) ∧ X314 (u315.set (i316).toNat (fop .quo .f32 (g224.getD (i316).toNat (0 : Nat)) (d226.getD (i316).toNat (0 : Nat)))) (IntKind.i64.wrap (i316 - (1 : Int)))))) ∧ (¬((0 : Int) ≤ i316) → impl_finiteList.wp u315 fun y327 y328 => ((y327 = true → K (u315) (y328)) ∧ (y327 = false → K ([] : List (Nat)) (y328))))) → X314 u315 i316) → X314 (List.replicate ((l0.length : Int)).toNat (0 : Nat)) (IntKind.i64.wrap ((l0.length : Int) - (1 : Int))))) → X223 g224 d226 x228) → X223 ([] : List (Nat)) ([] : List (Nat)) (0 : Int)) ∧ (y104 = false → K ([] : List (Nat)) (false)))) ∧ (y101 = false → K ([] : List (Nat)) (false)))
end Go.Proofs.Ytkaidcgelbhofaa.G

namespace Go.Proofs.Ytkaidcgelbhofaa.G
open Go Go.Ab
set_option maxRecDepth 100000
set_option linter.unusedVariables false
set_option linter.unusedSimpArgs false
set_option maxHeartbeats 1000000
def laws_sameFloat.wp (a0 : Nat) (a1 : Nat) (K : Bool → Prop) : Prop := (((fcmp .neq .f64 a0 a0) = true → K (fcmp .neq .f64 a1 a1)) ∧ ((fcmp .neq .f64 a0 a0) = false → (((fcmp .neq .f64 a1 a1) = true → K (false)) ∧ ((fcmp .neq .f64 a1 a1) = false → (((fcmp .eql .f64 a0 (cz .f64 0)) = true → (((fcmp .eql .f64 a1 (cz .f64 0)) = true → K ((fcmp .gtr .f64 (fop .quo .f64 (cz .f64 4607182418800017408) a0) (cz .f64 0)) == (fcmp .gtr .f64 (fop .quo .f64 (cz .f64 4607182418800017408) a1) (cz .f64 0)))) ∧ ((fcmp .eql .f64 a1 (cz .f64 0)) = false → K (fcmp .eql .f64 a0 a1)))) ∧ ((fcmp .eql .f64 a0 (cz .f64 0)) = false → K (fcmp .eql .f64 a0 a1)))))))
end Go.Proofs.Ytkaidcgelbhofaa.G

namespace Go.Proofs.Ytkaidcgelbhofaa.G
open Go Go.Ab
set_option maxRecDepth 100000
set_option linter.unusedVariables false
set_option linter.unusedSimpArgs false
set_option maxHeartbeats 1000000
def laws_eqFloat32S.wp (l0 : List (Nat)) (l1 : List (Nat)) (K : Bool → Prop) : Prop := (((l0.length : Int) = (l1.length : Int) → ∀ X102 : Int → Prop, (∀ (i103 : Int), ((i103 < (l0.length : Int) → (0 ≤ i103 ∧ i103 < (l0.length : Int)) ∧ (0 ≤ i103 ∧ i103 < (l1.length : Int)) ∧ laws_sameFloat.wp (widen (l0.getD (i103).toNat (0 : Nat))) (widen (l1.getD (i103).toNat (0 : Nat))) fun y107 => ((y107 = true → X102 (IntKind.i64.wrap (i103 + (1 : Int)))) ∧ (y107 = false → K (false)))) ∧ (¬(i103 < (l0.length : Int)) → K (true))) → X102 i103) → X102 (0 : Int)) ∧ (¬((l0.length : Int) = (l1.length : Int)) → K (false)))
end Go.Proofs.Ytkaidcgelbhofaa.G

namespace Go.Proofs.Ytkaidcgelbhofaa.G
open Go Go.Ab
set_option maxRecDepth 100000
set_option linter.unusedVariables false
set_option linter.unusedSimpArgs false
set_option maxHeartbeats 1000000
def laws_markFloat32S.wp (l0 : List (Nat)) (a1 : Int) (K : Int → (List (Nat)) → Prop) : Prop := ∀ X108 : List (Nat) → Int → Int → Prop, (∀ (a109 : List (Nat)) (k110 : Int) (i111 : Int), ((i111 < (a109.length : Int) → (0 ≤ i111 ∧ i111 < (a109.length : Int)) ∧ X108 (a109.set (i111).toNat (itof .f32 k110)) (IntKind.i64.wrap (k110 + (1 : Int))) (IntKind.i64.wrap (i111 + (1 : Int)))) ∧ (¬(i111 < (a109.length : Int)) → K (k110) (a109))) → X108 a109 k110 i111) → X108 (l0) (a1) (0 : Int)
end Go.Proofs.Ytkaidcgelbhofaa.G

namespace Go.Proofs.Ytkaidcgelbhofaa.G
open Go Go.Ab
set_option maxRecDepth 100000
set_option linter.unusedVariables false
set_option linter.unusedSimpArgs false
set_option maxHeartbeats 1000000
def laws_heldFloat32S.wp (l0 : List (Nat)) (a1 : Int) (K : Int → Prop) : Prop := ∀ X101 : Int → Int → Prop, (∀ (k102 : Int) (i103 : Int), ((i103 < (l0.length : Int) → (0 ≤ i103 ∧ i103 < (l0.length : Int)) ∧ (((fcmp .neq .f32 (l0.getD (i103).toNat (0 : Nat)) (itof .f32 k102)) = true → K (-1 : Int)) ∧ ((fcmp .neq .f32 (l0.getD (i103).toNat (0 : Nat)) (itof .f32 k102)) = false → X101 (IntKind.i64.wrap (k102 + (1 : Int))) (IntKind.i64.wrap (i103 + (1 : Int)))))) ∧ (¬(i103 < (l0.length : Int)) → K (k102))) → X101 k102 i103) → X101 (a1) (0 : Int)
end Go.Proofs.Ytkaidcgelbhofaa.G

namespace Go.Proofs.Ytkaidcgelbhofaa.G
open Go Go.Ab
set_option maxRecDepth 100000
set_option linter.unusedVariables false
set_option linter.unusedSimpArgs false
set_option maxHeartbeats 1000000
def laws_FnExactSolveLine.wp (l0 : List (Nat)) (a1 : Nat) (K : Bool → Prop) : Prop := (((1048576 : Int) < (l0.length : Int) → K (true)) ∧ (¬((1048576 : Int) < (l0.length : Int)) → laws_toFloat32S.wp l0 fun y102 => spec_SolveLine.wp y102 a1 fun y106 y109 => laws_toFloat32S.wp l0 fun y111 => impl_SolveLine.wp y111 a1 fun y115 y118 => laws_eqFloat32S.wp y115 y106 fun y120 => ((y120 = true → (((y118 == y109) = true → laws_toFloat32S.wp l0 fun y124 => laws_eqFloat32S.wp y111 y124 fun y128 => ((y128 = true → laws_markFloat32S.wp y111 (1 : Int) fun y131 y132 => ((y131 < (0 : Int) → K (false)) ∧ (¬(y131 < (0 : Int)) → laws_eqFloat32S.wp y115 y106 fun y135 => ((y135 = true → laws_markFloat32S.wp y115 (1 : Int) fun y138 y139 => laws_heldFloat32S.wp y139 (1 : Int) fun y141 => ((y141 < (0 : Int) → K (false)) ∧ (¬(y141 < (0 : Int)) → ((y141 = y138 → laws_toFloat32S.wp l0 fun y145 => impl_SolveLine.wp y145 a1 fun y149 y152 => laws_eqFloat32S.wp y149 y106 fun y154 => ((y154 = true → (((y152 == y109) = true → laws_heldFloat32S.wp y139 (1 : Int) fun y158 => ((y158 < (0 : Int) → K (false)) ∧ (¬(y158 < (0 : Int)) → ((y158 = y138 → K (true)) ∧ (¬(y158 = y138) → K (false)))))) ∧ ((y152 == y109) = false → K (false)))) ∧ (y154 = false → K (false)))) ∧ (¬(y141 = y138) → K (false)))))) ∧ (y135 = false → K (false)))))) ∧ (y128 = false → K (false)))) ∧ ((y118 == y109) = false → K (false)))) ∧ (y120 = false → K (false)))))
end Go.Proofs.Ytkaidcgelbhofaa.G

namespace Go.Proofs.Ytkaidcgelbhofaa.G
open Go Go.Ab
set_option maxRecDepth 100000
set_option linter.unusedVariables false
set_option linter.unusedSimpArgs false
set_option maxHeartbeats 1000000
def laws_eqInt64S.wp (l0 : List (Int)) (l1 : List (Int)) (K : Bool → Prop) : Prop := (((l0.length : Int) = (l1.length : Int) → ∀ X102 : Int → Prop, (∀ (i103 : Int), ((i103 < (l0.length : Int) → (0 ≤ i103 ∧ i103 < (l0.length : Int)) ∧ (0 ≤ i103 ∧ i103 < (l1.length : Int)) ∧ (((l0.getD (i103).toNat (0 : Int)) = (l1.getD (i103).toNat (0 : Int)) → X102 (IntKind.i64.wrap (i103 + (1 : Int)))) ∧ (¬((l0.getD (i103).toNat (0 : Int)) = (l1.getD (i103).toNat (0 : Int))) → K (false)))) ∧ (¬(i103 < (l0.length : Int)) → K (true))) → X102 i103) → X102 (0 : Int)) ∧ (¬((l0.length : Int) = (l1.length : Int)) → K (false)))
end Go.Proofs.Ytkaidcgelbhofaa.G

namespace Go.Proofs.Ytkaidcgelbhofaa.G
open Go Go.Ab
set_option maxRecDepth 100000
set_option linter.unusedVariables false
set_option linter.unusedSimpArgs false
set_option maxHeartbeats 1000000
def laws_markInt64S.wp (l0 : List (Int)) (a1 : Int) (K : Int → (List (Int)) → Prop) : Prop := ∀ X108 : List (Int) → Int → Int → Prop, (∀ (a109 : List (Int)) (k110 : Int) (i111 : Int), ((i111 < (a109.length : Int) → (0 ≤ i111 ∧ i111 < (a109.length : Int)) ∧ X108 (a109.set (i111).toNat k110) (IntKind.i64.wrap (k110 + (1 : Int))) (IntKind.i64.wrap (i111 + (1 : Int)))) ∧ (¬(i111 < (a109.length : Int)) → K (k110) (a109))) → X108 a109 k110 i111) → X108 (l0) (a1) (0 : Int)
end Go.Proofs.Ytkaidcgelbhofaa.G

namespace Go.Proofs.Ytkaidcgelbhofaa.G
open Go Go.Ab
set_option maxRecDepth 100000
set_option linter.unusedVariables false
set_option linter.unusedSimpArgs false
set_option maxHeartbeats 1000000
def laws_heldInt64S.wp (l0 : List (Int)) (a1 : Int) (K : Int → Prop) : Prop := ∀ X101 : Int → Int → Prop, (∀ (k102 : Int) (i103 : Int), ((i103 < (l0.length : Int) → (0 ≤ i103 ∧ i103 < (l0.length : Int)) ∧ (((l0.getD (i103).toNat (0 : Int)) = k102 → X101 (IntKind.i64.wrap (k102 + (1 : Int))) (IntKind.i64.wrap (i103 + (1 : Int)))) ∧ (¬((l0.getD (i103).toNat (0 : Int)) = k102) → K (-1 : Int)))) ∧ (¬(i103 < (l0.length : Int)) → K (k102))) → X101 k102 i103) → X101 (a1) (0 : Int)
end Go.Proofs.Ytkaidcgelbhofaa.G

namespace Go.Proofs.Ytkaidcgelbhofaa.G
open Go Go.Ab
set_option maxRecDepth 100000
set_option linter.unusedVariables false
set_option linter.unusedSimpArgs false
set_option maxHeartbeats 1000000
def laws_toInt64S.wp (l0 : List (Int)) (K : (List (Int)) → Prop) : Prop := (0 ≤ (l0.length : Int) ∧ (l0.length : Int) ≤ (l0.length : Int) ∧ (l0.length : Int) ≤ 2 ^ 40 ∧ (l0.length : Int) * 8 ≤ 2 ^ 40) ∧ ∀ X111 : List (Int) → Int → Prop, (∀ (out112 : List (Int)) (i113 : Int), ((i113 < (l0.length : Int) → (0 ≤ i113 ∧ i113 < (l0.length : Int)) ∧ (0 ≤ i113 ∧ i113 < (out112.length : Int)) ∧ X111 (out112.set (i113).toNat (l0.getD (i113).toNat (0 : Int))) (IntKind.i64.wrap (i113 + (1 : Int)))) ∧ (¬(i113 < (l0.length : Int)) → K (out112))) → X111 out112 i113) → X111 (List.replicate ((l0.length : Int)).toNat (0 : Int)) (0 : Int)
end Go.Proofs.Ytkaidcgelbhofaa.G

namespace Go.Proofs.Ytkaidcgelbhofaa.G
open Go Go.Ab
set_option maxRecDepth 100000
set_option linter.unusedVariables false
set_option linter.unusedSimpArgs false
set_option maxHeartbeats 1000000
def laws_toBoolS.wp (l0 : List (Bool)) (K : (List (Bool)) → Prop) : Prop := (0 ≤ (l0.length : Int) ∧ (l0.length : Int) ≤ (l0.length : Int) ∧ (l0.length : Int) ≤ 2 ^ 40 ∧ (l0.length : Int) * 1 ≤ 2 ^ 40) ∧ ∀ X111 : List (Bool) → Int → Prop, (∀ (out112 : List (Bool)) (i113 : Int), ((i113 < (l0.length : Int) → (0 ≤ i113 ∧ i113 < (l0.length : Int)) ∧ (0 ≤ i113 ∧ i113 < (out112.length : Int)) ∧ X111 (out112.set (i113).toNat (l0.getD (i113).toNat false)) (IntKind.i64.wrap (i113 + (1 : Int)))) ∧ (¬(i113 < (l0.length : Int)) → K (out112))) → X111 out112 i113) → X111 (List.replicate ((l0.length : Int)).toNat false) (0 : Int)
end Go.Proofs.Ytkaidcgelbhofaa.G

namespace Go.Proofs.Ytkaidcgelbhofaa.G
open Go Go.Ab
set_option maxRecDepth 100000
set_option linter.unusedVariables false
set_option linter.unusedSimpArgs false
set_option maxHeartbeats 1000000
def laws_eqBoolS.wp (l0 : List (Bool)) (l1 : List (Bool)) (K : Bool → Prop) : Prop := (((l0.length : Int) = (l1.length : Int) → ∀ X102 : Int → Prop, (∀ (i103 : Int), ((i103 < (l0.length : Int) → (0 ≤ i103 ∧ i103 < (l0.length : Int)) ∧ (0 ≤ i103 ∧ i103 < (l1.length : Int)) ∧ ((((l0.getD (i103).toNat false) == (l1.getD (i103).toNat false)) = true → X102 (IntKind.i64.wrap (i103 + (1 : Int)))) ∧ (((l0.getD (i103).toNat false) == (l1.getD (i103).toNat false)) = false → K (false)))) ∧ (¬(i103 < (l0.length : Int)) → K (true))) → X102 i103) → X102 (0 : Int)) ∧ (¬((l0.length : Int) = (l1.length : Int)) → K (false)))
end Go.Proofs.Ytkaidcgelbhofaa.G

namespace Go.Proofs.Ytkaidcgelbhofaa.G
open Go Go.Ab
set_option maxRecDepth 100000
set_option linter.unusedVariables false
set_option linter.unusedSimpArgs false
set_option maxHeartbeats 1000000
def spec_l00In.wp (a0 : Int) (a1 : Int) (a2 : Int) (K : Bool → Prop) : Prop := ((a1 ≤ a0 → K (decide (a0 ≤ a2))) ∧ (¬(a1 ≤ a0) → K (false)))
end Go.Proofs.Ytkaidcgelbhofaa.G

namespace Go.Proofs.Ytkaidcgelbhofaa.G
open Go Go.Ab
set_option maxRecDepth 100000
set_option linter.unusedVariables false
set_option linter.unusedSimpArgs false
set_option maxHeartbeats 1000000
def impl_within.wp (a0 : Int) (a1 : Int) (a2 : Int) (K : Bool → Prop) : Prop := ((a1 ≤ a0 → K (decide (a0 ≤ a2))) ∧ (¬(a1 ≤ a0) → K (false)))
end Go.Proofs.Ytkaidcgelbhofaa.G

namespace Go.Proofs.Ytkaidcgelbhofaa.G
open Go Go.Ab
set_option maxRecDepth 100000
set_option linter.unusedVariables false
set_option linter.unusedSimpArgs false
set_option maxHeartbeats 1000000
def impl_isLeast.wp (a0 : Nat) (K : Bool → Prop) : Prop := impl_IsFinite.wp a0 fun y101 => ((y101 = true → K (fcmp .geq .f32 a0 (cz .f32 0))) ∧ (y101 = false → K (false)))
end Go.Proofs.Ytkaidcgelbhofaa.G

namespace Go.Proofs.Ytkaidcgelbhofaa.G
open Go Go.Ab
set_option maxRecDepth 100000
set_option linter.unusedVariables false
set_option linter.unusedSimpArgs false
set_option maxHeartbeats 1000000
def impl_IsList.wp (l0 : List (Nat)) (K : Bool → Prop) : Prop := impl_within.wp (l0.length : Int) (1 : Int) (128 : Int) fun y101 => ((y101 = true → impl_areFinite.wp ([l0] : List (List (Nat))) fun y107 => K (y107)) ∧ (y101 = false → K (false)))
end Go.Proofs.Ytkaidcgelbhofaa.G

namespace Go.Proofs.Ytkaidcgelbhofaa.G
open Go Go.Ab
set_option maxRecDepth 100000
set_option linter.unusedVariables false
set_option linter.unusedSimpArgs false
set_option maxHeartbeats 1000000
def impl_isShare.wp (a0 : Nat) (K : Bool → Prop) : Prop := (((fcmp .geq .f32 a0 (cz .f32 0)) = true → K (fcmp .leq .f32 a0 (cz .f32 1065353216))) ∧ ((fcmp .geq .f32 a0 (cz .f32 0)) = false → K (false)))
end Go.Proofs.Ytkaidcgelbhofaa.G

namespace Go.Proofs.Ytkaidcgelbhofaa.G
open Go Go.Ab
set_option maxRecDepth 100000
set_option linter.unusedVariables false
set_option linter.unusedSimpArgs false
set_option maxHeartbeats 1000000
def spec_l02Least.wp (a0 : Nat) (K : Bool → Prop) : Prop := spec_l01Finite.wp a0 fun y101 => ((y101 = true → K (fcmp .geq .f32 a0 (cz .f32 0))) ∧ (y101 = false → K (false)))
end Go.Proofs.Ytkaidcgelbhofaa.G

namespace Go.Proofs.Ytkaidcgelbhofaa.G
open Go Go.Ab
set_option maxRecDepth 100000
set_option linter.unusedVariables false
set_option linter.unusedSimpArgs false
set_option maxHeartbeats 1000000
def spec_l02Share.wp (a0 : Nat) (K : Bool → Prop) : Prop := (((fcmp .geq .f32 a0 (cz .f32 0)) = true → K (fcmp .leq .f32 a0 (cz .f32 1065353216))) ∧ ((fcmp .geq .f32 a0 (cz .f32 0)) = false → K (false)))
end Go.Proofs.Ytkaidcgelbhofaa.G

namespace Go.Proofs.Ytkaidcgelbhofaa.G
open Go Go.Ab
set_option maxRecDepth 100000
set_option linter.unusedVariables false
set_option linter.unusedSimpArgs false
set_option maxHeartbeats 1000000
def spec_l02Bound.wp (l0 : List (Int)) (a1 : Int) (K : Bool → Prop) : Prop := ∀ X101 : Int → Prop, (∀ (i102 : Int), ((i102 < (l0.length : Int) → (0 ≤ i102 ∧ i102 < (l0.length : Int)) ∧ spec_l00In.wp (l0.getD (i102).toNat (0 : Int)) (IntKind.i64.wrap (0 - a1)) a1 fun y105 => ((y105 = true → X101 (IntKind.i64.wrap (i102 + (1 : Int)))) ∧ (y105 = false → K (false)))) ∧ (¬(i102 < (l0.length : Int)) → K (true))) → X101 i102) → X101 (0 : Int)
end Go.Proofs.Ytkaidcgelbhofaa.G

namespace Go.Proofs.Ytkaidcgelbhofaa.G
open Go Go.Ab
set_option maxRecDepth 100000
set_option linter.unusedVariables false
set_option linter.unusedSimpArgs false
set_option maxHeartbeats 1000000
def impl_areWithin.wp (l0 : List (Int)) (a1 : Int) (K : Bool → Prop) : Prop := ∀ X101 : Int → Prop, (∀ (x102 : Int), ((x102 < (l0.length : Int) → (0 ≤ x102 ∧ x102 < (l0.length : Int)) ∧ impl_within.wp (l0.getD (x102).toNat (0 : Int)) (IntKind.i64.wrap (0 - a1)) a1 fun y105 => ((y105 = true → X101 (IntKind.i64.wrap (x102 + (1 : Int)))) ∧ (y105 = false → K (false)))) ∧ (¬(x102 < (l0.length : Int)) → K (true))) → X101 x102) → X101 (0 : Int)
end Go.Proofs.Ytkaidcgelbhofaa.G

namespace Go.Proofs.Ytkaidcgelbhofaa.G
open Go Go.Ab
set_option maxRecDepth 100000
set_option linter.unusedVariables false
set_option linter.unusedSimpArgs false
set_option maxHeartbeats 1000000
def spec_l02Is.wp (l0 : List (Nat)) (K : Bool → Prop) : Prop := (((1 : Int) ≤ (l0.length : Int) → (((l0.length : Int) ≤ (128 : Int) → spec_l02Finite.wp l0 fun y103 => K (y103)) ∧ (¬((l0.length : Int) ≤ (128 : Int)) → K (false)))) ∧ (¬((1 : Int) ≤ (l0.length : Int)) → K (false)))
end Go.Proofs.Ytkaidcgelbhofaa.G

namespace Go.Proofs.Ytkaidcgelbhofaa.G
open Go Go.Ab
set_option maxRecDepth 100000
set_option linter.unusedVariables false
set_option linter.unusedSimpArgs false
set_option maxHeartbeats 1000000
def spec_l02List.wp (l0 : List (Nat)) (K : Bool → Bool → Prop) : Prop := spec_l02Finite.wp l0 fun y101 => ((y101 = true → K (true) (true)) ∧ (y101 = false → K (false) (false)))
end Go.Proofs.Ytkaidcgelbhofaa.G

namespace Go.Proofs.Ytkaidcgelbhofaa.G
open Go Go.Ab
set_option maxRecDepth 100000
set_option linter.unusedVariables false
set_option linter.unusedSimpArgs false
set_option maxHeartbeats 1000000
def spec_l02Integers.wp (l0 : List (Int)) (K : Bool → Prop) : Prop := (((1 : Int) ≤ (l0.length : Int) → (((l0.length : Int) ≤ (128 : Int) → spec_l02Bound.wp l0 (1000000 : Int) fun y103 => K (y103)) ∧ (¬((l0.length : Int) ≤ (128 : Int)) → K (false)))) ∧ (¬((1 : Int) ≤ (l0.length : Int)) → K (false)))
end Go.Proofs.Ytkaidcgelbhofaa.G

namespace Go.Proofs.Ytkaidcgelbhofaa.G
open Go Go.Ab
set_option maxRecDepth 100000
set_option linter.unusedVariables false
set_option linter.unusedSimpArgs false
set_option maxHeartbeats 1000000
def impl_AreIntegers.wp (l0 : List (Int)) (K : Bool → Prop) : Prop := impl_within.wp (l0.length : Int) (1 : Int) (128 : Int) fun y101 => ((y101 = true → impl_areWithin.wp l0 (1000000 : Int) fun y104 => K (y104)) ∧ (y101 = false → K (false)))
end Go.Proofs.Ytkaidcgelbhofaa.G

