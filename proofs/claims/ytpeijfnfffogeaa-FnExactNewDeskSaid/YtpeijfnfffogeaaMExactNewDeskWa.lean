/-
  What the functions compute, as formulas over numbers and lists. Printed by a program of the session; nothing here is trusted.
-/
import Derived.Test.YtpeijfnfffogeaaAbK
namespace Go.Proofs.Ytpeijfnfffogeaa.G
open Go Go.Ab
set_option maxRecDepth 100000
set_option linter.unusedVariables false
set_option linter.unusedSimpArgs false
set_option maxHeartbeats 1000000
def R_LeFlt_f32_o (H : Heap) (x : List (Nat)) (c : List AV) : Prop := c = [(c.getD 0 .und)] ∧ Shows H (c.getD 0 .und) 1 (enc (eFlt .f32) x)
def R_LeInt_i64_o (H : Heap) (x : List (Int)) (c : List AV) : Prop := c = [(c.getD 0 .und)] ∧ Shows H (c.getD 0 .und) 1 (enc (eInt .i64) x)
def R_LePair_eBool_ePair_eFlt_f32_eInt_i64_o (H : Heap) (x : List ((Bool) × (Nat) × (Int))) (c : List AV) : Prop := c = [(c.getD 0 .und)] ∧ Shows H (c.getD 0 .und) 3 (enc (ePair eBool (ePair (eFlt .f32) (eInt .i64))) x)
def R_LePair_eInt_i64_eFlt_f32_o (H : Heap) (x : List ((Int) × (Nat))) (c : List AV) : Prop := c = [(c.getD 0 .und)] ∧ Shows H (c.getD 0 .und) 2 (enc (ePair (eInt .i64) (eFlt .f32)) x)
def R_s_ii64_LeFlt_f32_poooq (H : Heap) (x : (List UInt8) × (Int) × (List (Nat))) (c : List AV) : Prop := c = [(.str (pk x.1)), (.int .i64 x.2.1), (c.getD 2 .und)] ∧ Shows H (c.getD 2 .und) 1 (enc (eFlt .f32) x.2.2)
end Go.Proofs.Ytpeijfnfffogeaa.G

namespace Go.Proofs.Ytpeijfnfffogeaa.G
open Go Go.Ab
set_option maxRecDepth 100000
set_option linter.unusedVariables false
set_option linter.unusedSimpArgs false
set_option maxHeartbeats 1000000
def laws_sameFloat.wp (a0 : Nat) (a1 : Nat) (K : Bool → Prop) : Prop := (((fcmp .neq .f64 a0 a0) = true → K (fcmp .neq .f64 a1 a1)) ∧ ((fcmp .neq .f64 a0 a0) = false → (((fcmp .neq .f64 a1 a1) = true → K (false)) ∧ ((fcmp .neq .f64 a1 a1) = false → (((fcmp .eql .f64 a0 (cz .f64 0)) = true → (((fcmp .eql .f64 a1 (cz .f64 0)) = true → K ((fcmp .gtr .f64 (fop .quo .f64 (cz .f64 4607182418800017408) a0) (cz .f64 0)) == (fcmp .gtr .f64 (fop .quo .f64 (cz .f64 4607182418800017408) a1) (cz .f64 0)))) ∧ ((fcmp .eql .f64 a1 (cz .f64 0)) = false → K (fcmp .eql .f64 a0 a1)))) ∧ ((fcmp .eql .f64 a0 (cz .f64 0)) = false → K (fcmp .eql .f64 a0 a1)))))))
end Go.Proofs.Ytpeijfnfffogeaa.G

namespace Go.Proofs.Ytpeijfnfffogeaa.G
open Go Go.Ab
set_option maxRecDepth 100000
set_option linter.unusedVariables false
set_option linter.unusedSimpArgs false
set_option maxHeartbeats 1000000
def laws_eqFloat32S.wp (l0 : List (Nat)) (l1 : List (Nat)) (K : Bool → Prop) : Prop := (((l0.length : Int) = (l1.length : Int) → ∀ X102 : Int → Prop, (∀ (i103 : Int), ((i103 < (l0.length : Int) → (0 ≤ i103 ∧ i103 < (l0.length : Int)) ∧ (0 ≤ i103 ∧ i103 < (l1.length : Int)) ∧ laws_sameFloat.wp (widen (l0.getD (i103).toNat (0 : Nat))) (widen (l1.getD (i103).toNat (0 : Nat))) fun y107 => ((y107 = true → X102 (IntKind.i64.wrap (i103 + (1 : Int)))) ∧ (y107 = false → K (false)))) ∧ (¬(i103 < (l0.length : Int)) → K (true))) → X102 i103) → X102 (0 : Int)) ∧ (¬((l0.length : Int) = (l1.length : Int)) → K (false)))
end Go.Proofs.Ytpeijfnfffogeaa.G

namespace Go.Proofs.Ytpeijfnfffogeaa.G
open Go Go.Ab
set_option maxRecDepth 100000
set_option linter.unusedVariables false
set_option linter.unusedSimpArgs false
set_option maxHeartbeats 1000000
def laws_eqScheme.wp (l0 : List (Nat)) (a1 : Nat) (l2 : List (Nat)) (a3 : Nat) (K : Bool → Prop) : Prop := laws_eqFloat32S.wp l0 l2 fun y107 => ((y107 = true → laws_sameFloat.wp (widen a1) (widen a3) fun y110 => ((y110 = true → K (true)) ∧ (y110 = false → K (false)))) ∧ (y107 = false → K (false)))
end Go.Proofs.Ytpeijfnfffogeaa.G

namespace Go.Proofs.Ytpeijfnfffogeaa.G
open Go Go.Ab
set_option maxRecDepth 100000
set_option linter.unusedVariables false
set_option linter.unusedSimpArgs false
set_option maxHeartbeats 1000000
def laws_eqPicture.wp (a0 : Int) (a1 : Int) (l2 : List (Nat)) (a3 : Int) (a4 : Int) (l5 : List (Nat)) (K : Bool → Prop) : Prop := ((a0 = a3 → ((a1 = a4 → laws_eqFloat32S.wp l2 l5 fun y109 => ((y109 = true → K (true)) ∧ (y109 = false → K (false)))) ∧ (¬(a1 = a4) → K (false)))) ∧ (¬(a0 = a3) → K (false)))
end Go.Proofs.Ytpeijfnfffogeaa.G

namespace Go.Proofs.Ytpeijfnfffogeaa.G
open Go Go.Ab
set_option maxRecDepth 100000
set_option linter.unusedVariables false
set_option linter.unusedSimpArgs false
set_option maxHeartbeats 1000000
def laws_eqBoolS.wp (l0 : List (Bool)) (l1 : List (Bool)) (K : Bool → Prop) : Prop := (((l0.length : Int) = (l1.length : Int) → ∀ X102 : Int → Prop, (∀ (i103 : Int), ((i103 < (l0.length : Int) → (0 ≤ i103 ∧ i103 < (l0.length : Int)) ∧ (0 ≤ i103 ∧ i103 < (l1.length : Int)) ∧ ((((l0.getD (i103).toNat false) == (l1.getD (i103).toNat false)) = true → X102 (IntKind.i64.wrap (i103 + (1 : Int)))) ∧ (((l0.getD (i103).toNat false) == (l1.getD (i103).toNat false)) = false → K (false)))) ∧ (¬(i103 < (l0.length : Int)) → K (true))) → X102 i103) → X102 (0 : Int)) ∧ (¬((l0.length : Int) = (l1.length : Int)) → K (false)))
end Go.Proofs.Ytpeijfnfffogeaa.G

namespace Go.Proofs.Ytpeijfnfffogeaa.G
open Go Go.Ab
set_option maxRecDepth 100000
set_option linter.unusedVariables false
set_option linter.unusedSimpArgs false
set_option maxHeartbeats 1000000
def laws_eqCoded.wp (a0 : Int) (a1 : Int) (l2 : List (Bool)) (a3 : Int) (a4 : Int) (l5 : List (Bool)) (K : Bool → Prop) : Prop := ((a0 = a3 → ((a1 = a4 → laws_eqBoolS.wp l2 l5 fun y109 => ((y109 = true → K (true)) ∧ (y109 = false → K (false)))) ∧ (¬(a1 = a4) → K (false)))) ∧ (¬(a0 = a3) → K (false)))
end Go.Proofs.Ytpeijfnfffogeaa.G

namespace Go.Proofs.Ytpeijfnfffogeaa.G
open Go Go.Ab
set_option maxRecDepth 100000
set_option linter.unusedVariables false
set_option linter.unusedSimpArgs false
set_option maxHeartbeats 1000000
def laws_eqDesk.wp (l0 : List (Nat)) (l1 : List (Nat)) (a2 : Nat) (a3 : Int) (a4 : Int) (l5 : List (Nat)) (a6 : Int) (a7 : Int) (l8 : List (Bool)) (l9 : List (Nat)) (l10 : List (Nat)) (a11 : Nat) (a12 : Int) (a13 : Int) (l14 : List (Nat)) (a15 : Int) (a16 : Int) (l17 : List (Bool)) (K : Bool → Prop) : Prop := laws_eqFloat32S.wp l0 l9 fun y107 => ((y107 = true → laws_eqScheme.wp l1 a2 l10 a11 fun y110 => ((y110 = true → laws_eqPicture.wp a3 a4 l5 a12 a13 l14 fun y113 => ((y113 = true → laws_eqCoded.wp a6 a7 l8 a15 a16 l17 fun y116 => ((y116 = true → K (true)) ∧ (y116 = false → K (false)))) ∧ (y113 = false → K (false)))) ∧ (y110 = false → K (false)))) ∧ (y107 = false → K (false)))
end Go.Proofs.Ytpeijfnfffogeaa.G

namespace Go.Proofs.Ytpeijfnfffogeaa.G
open Go Go.Ab
set_option maxRecDepth 100000
set_option linter.unusedVariables false
set_option linter.unusedSimpArgs false
set_option maxHeartbeats 1000000
def spec_LinesScheme.wp  (K : (List (Nat)) → Nat → Prop) : Prop := K ([(cz .f32 3204448256), (cz .f32 1048576000)] : List (Nat)) (cz .f32 1065353216)
end Go.Proofs.Ytpeijfnfffogeaa.G

namespace Go.Proofs.Ytpeijfnfffogeaa.G
open Go Go.Ab
set_option maxRecDepth 100000
set_option linter.unusedVariables false
set_option linter.unusedSimpArgs false
set_option maxHeartbeats 1000000
def spec_l04Step.wp (a0 : Int) (a1 : Int) (a2 : Int) (a3 : Nat) (a4 : Nat) (K : Int → Int → (List (Nat)) → Prop) : Prop := ∀ X131 : List (Nat) → Int → Int → Int → Prop, (∀ (l132 : List (Nat)) (b134 : Int) (b135 : Int) (i136 : Int), ((i136 < (IntKind.i64.wrap (a0 * a1)) → (a0 ≠ 0) ∧ (((Int.tmod i136 a0) < a2 → ((l132.length + ([a3] : List (Nat)).length) * 4 ≤ 2 ^ 40) ∧ X131 (l132 ++ ([a3] : List (Nat))) (b134) (b135) (IntKind.i64.wrap (i136 + (1 : Int)))) ∧ (¬((Int.tmod i136 a0) < a2) → ((l132.length + ([a4] : List (Nat)).length) * 4 ≤ 2 ^ 40) ∧ X131 (l132 ++ ([a4] : List (Nat))) (b134) (b135) (IntKind.i64.wrap (i136 + (1 : Int)))))) ∧ (¬(i136 < (IntKind.i64.wrap (a0 * a1))) → K (b134) (b135) (l132))) → X131 l132 b134 b135 i136) → X131 ([] : List (Nat)) (a0) (a1) (0 : Int)
end Go.Proofs.Ytpeijfnfffogeaa.G

namespace Go.Proofs.Ytpeijfnfffogeaa.G
open Go Go.Ab
set_option maxRecDepth 100000
set_option linter.unusedVariables false
set_option linter.unusedSimpArgs false
set_option maxHeartbeats 1000000
def spec_l06Abs.wp (a0 : Int) (K : Int → Prop) : Prop := ((a0 < (0 : Int) → K (IntKind.i64.wrap (0 - a0))) ∧ (¬(a0 < (0 : Int)) → K (a0)))
end Go.Proofs.Ytpeijfnfffogeaa.G

namespace Go.Proofs.Ytpeijfnfffogeaa.G
open Go Go.Ab
set_option maxRecDepth 100000
set_option linter.unusedVariables false
set_option linter.unusedSimpArgs false
set_option maxHeartbeats 1000000
def spec_l06Planes.wp (l0 : List (Int)) (K : Int → Prop) : Prop := ∀ X101 : Int → Int → Prop, (∀ (n102 : Int) (i103 : Int), ((i103 < (l0.length : Int) → ∀ X105 : Int → Prop, (∀ (n106 : Int), ((0 ≤ i103 ∧ i103 < (l0.length : Int)) ∧ spec_l06Abs.wp (l0.getD (i103).toNat (0 : Int)) fun y108 => (0 ≤ (IntKind.u64.wrap n106)) ∧ (((Int.fdiv y108 (2 ^ (min ((IntKind.u64.wrap n106)).toNat IntKind.i64.bits))) = (0 : Int) → X101 (n106) (IntKind.i64.wrap (i103 + (1 : Int)))) ∧ (¬((Int.fdiv y108 (2 ^ (min ((IntKind.u64.wrap n106)).toNat IntKind.i64.bits))) = (0 : Int)) → X105 (IntKind.i64.wrap (n106 + (1 : Int)))))) → X105 n106) → X105 (n102)) ∧ (¬(i103 < (l0.length : Int)) → K (n102))) → X101 n102 i103) → X101 (0 : Int) (0 : Int)
end Go.Proofs.Ytpeijfnfffogeaa.G

namespace Go.Proofs.Ytpeijfnfffogeaa.G
open Go Go.Ab
set_option maxRecDepth 100000
set_option linter.unusedVariables false
set_option linter.unusedSimpArgs false
set_option maxHeartbeats 1000000
def spec_l06Digit.wp (a0 : Int) (a1 : Int) (K : Bool → Prop) : Prop := spec_l06Abs.wp a0 fun y101 => (0 ≤ (IntKind.u64.wrap a1)) ∧ K (decide ((ibits .and .i64 (Int.fdiv y101 (2 ^ (min ((IntKind.u64.wrap a1)).toNat IntKind.i64.bits))) (1 : Int)) = (1 : Int)))
end Go.Proofs.Ytpeijfnfffogeaa.G

namespace Go.Proofs.Ytpeijfnfffogeaa.G
open Go Go.Ab
set_option maxRecDepth 100000
set_option linter.unusedVariables false
set_option linter.unusedSimpArgs false
set_option maxHeartbeats 1000000
def spec_l06Code.wp (l0 : List (Int)) (a1 : Int) (K : Int → Int → (List (Bool)) → Prop) : Prop := spec_l06Planes.wp l0 fun y104 => ∀ X173 : List (Bool) → Int → Int → Int → Prop, (∀ (l174 : List (Bool)) (b176 : Int) (b177 : Int) (k178 : Int), ((a1 ≤ k178 → ∀ X207 : List (Bool) → Int → Int → Int → Prop, (∀ (l208 : List (Bool)) (b210 : Int) (b211 : Int) (i212 : Int), ((i212 < (l0.length : Int) → (0 ≤ i212 ∧ i212 < (l0.length : Int)) ∧ spec_l06Digit.wp (l0.getD (i212).toNat (0 : Int)) k178 fun y215 => ((l208.length + ([y215] : List (Bool)).length) * 1 ≤ 2 ^ 40) ∧ ((y215 = true → spec_l06Abs.wp (l0.getD (i212).toNat (0 : Int)) fun y225 => (0 ≤ (IntKind.u64.wrap (IntKind.i64.wrap (k178 + (1 : Int))))) ∧ (((Int.fdiv y225 (2 ^ (min ((IntKind.u64.wrap (IntKind.i64.wrap (k178 + (1 : Int))))).toNat IntKind.i64.bits))) = (0 : Int) → (((l208 ++ ([y215] : List (Bool))).length + ([(decide ((l0.getD (i212).toNat (0 : Int)) < (0 : Int)))] : List (Bool)).length) * 1 ≤ 2 ^ 40) ∧ X207 ((l208 ++ ([y215] : List (Bool))) ++ ([(decide ((l0.getD (i212).toNat (0 : Int)) < (0 : Int)))] : List (Bool))) (b210) (b211) (IntKind.i64.wrap (i212 + (1 : Int)))) ∧ (¬((Int.fdiv y225 (2 ^ (min ((IntKind.u64.wrap (IntKind.i64.wrap (k178 + (1 : Int))))).toNat IntKind.i64.bits))) = (0 : Int)) → X207 (l208 ++ ([y215] : List (Bool))) (b210) (b211) (IntKind.i64.wrap (i212 + (1 : Int)))))) ∧ (y215 = false → X207 (l208 ++ ([y215] : List (Bool))) (b210) (b211) (IntKind.i64.wrap (i212 + (1 : Int)))))) ∧ (¬(i212 < (l0.length : Int)) → X173 (l208) (b210) (b211) (IntKind.i64.wrap (k178 - (1 : Int))))) → X207 l208 b210 b211 i212) → X207 (l174) (b176) (b177) (0 : Int)) ∧ (¬(a1 ≤ k178) → K (b176) (b177) (l174))) → X173 l174 b176 b177 k178) → X173 ([] : List (Bool)) (l0.length : Int) (y104) (IntKind.i64.wrap (y104 - (1 : Int)))
end Go.Proofs.Ytpeijfnfffogeaa.G

namespace Go.Proofs.Ytpeijfnfffogeaa.G
open Go Go.Ab
set_option maxRecDepth 100000
set_option linter.unusedVariables false
set_option linter.unusedSimpArgs false
set_option maxHeartbeats 1000000
def spec_NewDesk.wp  (K : (List (Nat)) → (List (Nat)) → Nat → Int → Int → (List (Nat)) → Int → Int → (List (Bool)) → Prop) : Prop := spec_LinesScheme.wp  fun y107 y110 => spec_l04Step.wp (4 : Int) (2 : Int) (2 : Int) (cz .f32 0) (cz .f32 1082130432) fun y116 y117 y118 => spec_l06Code.wp ([(3 : Int), (-1 : Int)] : List (Int)) (0 : Int) fun y126 y127 y128 => K ([(cz .f32 1065353216), (cz .f32 1077936128), (cz .f32 1073741824)] : List (Nat)) (y107) (y110) (y116) (y117) (y118) (y126) (y127) (y128)
end Go.Proofs.Ytpeijfnfffogeaa.G

namespace Go.Proofs.Ytpeijfnfffogeaa.G
open Go Go.Ab
set_option maxRecDepth 100000
set_option linter.unusedVariables false
set_option linter.unusedSimpArgs false
set_option maxHeartbeats 1000000
def impl_LinesScheme.wp  (K : (List (Nat)) → Nat → Prop) : Prop := K ([(cz .f32 3204448256), (cz .f32 1048576000)] : List (Nat)) (cz .f32 1065353216)
end Go.Proofs.Ytpeijfnfffogeaa.G

namespace Go.Proofs.Ytpeijfnfffogeaa.G
open Go Go.Ab
set_option maxRecDepth 100000
set_option linter.unusedVariables false
set_option linter.unusedSimpArgs false
set_option maxHeartbeats 1000000
def impl_StepPicture_1.wp (a0 : Int) (a1 : Int) (a2 : Int) (a3 : Nat) (a4 : Nat) (K : Nat → Prop) : Prop := ((a0 < a2 → K (a3)) ∧ (¬(a0 < a2) → K (a4)))
end Go.Proofs.Ytpeijfnfffogeaa.G

namespace Go.Proofs.Ytpeijfnfffogeaa.G
open Go Go.Ab
set_option maxRecDepth 100000
set_option linter.unusedVariables false
set_option linter.unusedSimpArgs false
set_option maxHeartbeats 1000000
def impl_IsFinite.wp (a0 : Nat) (K : Bool → Prop) : Prop := K (fcmp .eql .f32 (fop .sub .f32 a0 a0) (cz .f32 0))
end Go.Proofs.Ytpeijfnfffogeaa.G

namespace Go.Proofs.Ytpeijfnfffogeaa.G
open Go Go.Ab
set_option maxRecDepth 100000
set_option linter.unusedVariables false
set_option linter.unusedSimpArgs false
set_option maxHeartbeats 1000000
def impl_areFinite.wp (l0 : List (List (Nat))) (K : Bool → Prop) : Prop := ∀ X101 : Int → Prop, (∀ (x102 : Int), ((x102 < (l0.length : Int) → (0 ≤ x102 ∧ x102 < (l0.length : Int)) ∧ ∀ X105 : Int → Prop, (∀ (x106 : Int), ((x106 < ((l0.getD (x102).toNat ([] : List (Nat))).length : Int) → (0 ≤ x106 ∧ x106 < ((l0.getD (x102).toNat ([] : List (Nat))).length : Int)) ∧ impl_IsFinite.wp ((l0.getD (x102).toNat ([] : List (Nat))).getD (x106).toNat (0 : Nat)) fun y109 => ((y109 = true → X105 (IntKind.i64.wrap (x106 + (1 : Int)))) ∧ (y109 = false → K (false)))) ∧ (¬(x106 < ((l0.getD (x102).toNat ([] : List (Nat))).length : Int)) → X101 (IntKind.i64.wrap (x102 + (1 : Int))))) → X105 x106) → X105 (0 : Int)) ∧ (¬(x102 < (l0.length : Int)) → K (true))) → X101 x102) → X101 (0 : Int)
end Go.Proofs.Ytpeijfnfffogeaa.G

namespace Go.Proofs.Ytpeijfnfffogeaa.G
open Go Go.Ab
set_option maxRecDepth 100000
set_option linter.unusedVariables false
set_option linter.unusedSimpArgs false
set_option maxHeartbeats 1000000
def impl_within.wp (a0 : Int) (a1 : Int) (a2 : Int) (K : Bool → Prop) : Prop := ((a1 ≤ a0 → K (decide (a0 ≤ a2))) ∧ (¬(a1 ≤ a0) → K (false)))
end Go.Proofs.Ytpeijfnfffogeaa.G

namespace Go.Proofs.Ytpeijfnfffogeaa.G
open Go Go.Ab
set_option maxRecDepth 100000
set_option linter.unusedVariables false
set_option linter.unusedSimpArgs false
set_option maxHeartbeats 1000000
def impl_ValidPicture.wp (a0 : Int) (a1 : Int) (l2 : List (Nat)) (K : Bool → Prop) : Prop := impl_within.wp a0 (1 : Int) (16 : Int) fun y104 => ((y104 = true → impl_within.wp a1 (1 : Int) (16 : Int) fun y107 => ((y107 = true → (((l2.length : Int) = (IntKind.i64.wrap (a0 * a1)) → impl_areFinite.wp ([l2] : List (List (Nat))) fun y114 => K (y114)) ∧ (¬((l2.length : Int) = (IntKind.i64.wrap (a0 * a1))) → K (false)))) ∧ (y107 = false → K (false)))) ∧ (y104 = false → K (false)))
end Go.Proofs.Ytpeijfnfffogeaa.G

namespace Go.Proofs.Ytpeijfnfffogeaa.G
open Go Go.Ab
set_option maxRecDepth 100000
set_option linter.unusedVariables false
set_option linter.unusedSimpArgs false
set_option maxHeartbeats 1000000
def impl_validPicture.wp (a0 : Int) (a1 : Int) (l2 : List (Nat)) (K : Int → Int → Bool → Bool → Prop) : Prop := impl_ValidPicture.wp a0 a1 l2 fun y107 => ((y107 = true → K (a0) (a1) (true) (true)) ∧ (y107 = false → K (0 : Int) (0 : Int) (false) (false)))
end Go.Proofs.Ytpeijfnfffogeaa.G

namespace Go.Proofs.Ytpeijfnfffogeaa.G
open Go Go.Ab
set_option maxRecDepth 100000
set_option linter.unusedVariables false
set_option linter.unusedSimpArgs false
set_option maxHeartbeats 1000000
def impl_pictureBy_impl_StepPicture_1.wp (a0 : Int) (a1 : Int) (a2 : Int) (a3 : Nat) (a4 : Nat) (K : Int → Int → (List (Nat)) → Bool → Prop) : Prop := impl_within.wp a0 (1 : Int) (16 : Int) fun y104 => ((y104 = true → impl_within.wp a1 (1 : Int) (16 : Int) fun y107 => ((y107 = true → ∀ X157 : Int → Int → List (Nat) → Int → Prop, (∀ (b158 : Int) (b159 : Int) (b161 : List (Nat)) (x163 : Int), ((x163 < a1 → ∀ X179 : List (Nat) → Int → Int → Int → Prop, (∀ (l180 : List (Nat)) (b182 : Int) (b183 : Int) (x184 : Int), ((x184 < a0 → impl_StepPicture_1.wp x184 x163 a2 a3 a4 fun y186 => ((l180.length + ([y186] : List (Nat)).length) * 4 ≤ 2 ^ 40) ∧ X179 (l180 ++ ([y186] : List (Nat))) (b182) (b183) (IntKind.i64.wrap (x184 + (1 : Int)))) ∧ (¬(x184 < a0) → X157 (b182) (b183) (l180) (IntKind.i64.wrap (x163 + (1 : Int))))) → X179 l180 b182 b183 x184) → X179 (b161) (b158) (b159) (0 : Int)) ∧ (¬(x163 < a1) → impl_validPicture.wp b158 b159 b161 fun y197 y198 y199 y200 => ((y199 = true → K (y197) (y198) (b161) (y200)) ∧ (y199 = false → K (y197) (y198) ([] : List (Nat)) (y200))))) → X157 b158 b159 b161 x163) → X157 (a0) (a1) ([] : List (Nat)) (0 : Int)) ∧ (y107 = false → K (0 : Int) (0 : Int) ([] : List (Nat)) (false)))) ∧ (y104 = false → K (0 : Int) (0 : Int) ([] : List (Nat)) (false)))
end Go.Proofs.Ytpeijfnfffogeaa.G

namespace Go.Proofs.Ytpeijfnfffogeaa.G
open Go Go.Ab
set_option maxRecDepth 100000
set_option linter.unusedVariables false
set_option linter.unusedSimpArgs false
set_option maxHeartbeats 1000000
def impl_StepPicture.wp (a0 : Int) (a1 : Int) (a2 : Int) (a3 : Nat) (a4 : Nat) (K : Int → Int → (List (Nat)) → Bool → Prop) : Prop := impl_within.wp a2 (0 : Int) (16 : Int) fun y113 => ((y113 = true → impl_IsFinite.wp a3 fun y116 => ((y116 = true → impl_IsFinite.wp a4 fun y119 => ((y119 = true → impl_pictureBy_impl_StepPicture_1.wp a0 a1 a2 a3 a4 fun y122 y123 y124 y127 => K (y122) (y123) (y124) (y127)) ∧ (y119 = false → K (0 : Int) (0 : Int) ([] : List (Nat)) (false)))) ∧ (y116 = false → K (0 : Int) (0 : Int) ([] : List (Nat)) (false)))) ∧ (y113 = false → K (0 : Int) (0 : Int) ([] : List (Nat)) (false)))
end Go.Proofs.Ytpeijfnfffogeaa.G

namespace Go.Proofs.Ytpeijfnfffogeaa.G
open Go Go.Ab
set_option maxRecDepth 100000
set_option linter.unusedVariables false
set_option linter.unusedSimpArgs false
set_option maxHeartbeats 1000000
def impl_far.wp (a0 : Int) (K : Int → Prop) : Prop := K (mxI a0 (IntKind.i64.wrap (0 - a0)))
end Go.Proofs.Ytpeijfnfffogeaa.G

namespace Go.Proofs.Ytpeijfnfffogeaa.G
open Go Go.Ab
set_option maxRecDepth 100000
set_option linter.unusedVariables false
set_option linter.unusedSimpArgs false
set_option maxHeartbeats 1000000
def math_bits_Len64.wp (a0 : Int) (K : Int → Prop) : Prop := (((4294967296 : Int) ≤ a0 → (((65536 : Int) ≤ (Int.fdiv a0 (2 ^ (min ((32 : Int)).toNat IntKind.u64.bits))) → (((256 : Int) ≤ (Int.fdiv (Int.fdiv a0 (2 ^ (min ((32 : Int)).toNat IntKind.u64.bits))) (2 ^ (min ((16 : Int)).toNat IntKind.u64.bits))) → (0 ≤ (IntKind.u8.wrap (Int.fdiv (Int.fdiv (Int.fdiv a0 (2 ^ (min ((32 : Int)).toNat IntKind.u64.bits))) (2 ^ (min ((16 : Int)).toNat IntKind.u64.bits))) (2 ^ (min ((8 : Int)).toNat IntKind.u64.bits)))) ∧ (IntKind.u8.wrap (Int.fdiv (Int.fdiv (Int.fdiv a0 (2 ^ (min ((32 : Int)).toNat IntKind.u64.bits))) (2 ^ (min ((16 : Int)).toNat IntKind.u64.bits))) (2 ^ (min ((8 : Int)).toNat IntKind.u64.bits)))) < (([0, 1, 2, 2, 3, 3, 3, 3, 4, 4, 4, 4, 4, 4, 4, 4, 5, 5, 5, 5, 5, 5, 5, 5, 5, 5, 5, 5, 5, 5, 5, 5, 6, 6, 6, 6, 6, 6, 6, 6, 6, 6, 6, 6, 6, 6, 6, 6, 6, 6, 6, 6, 6, 6, 6, 6, 6, 6, 6, 6, 6, 6, 6, 6, 7, 7, 7, 7, 7, 7, 7, 7, 7, 7, 7, 7, 7, 7, 7, 7, 7, 7, 7, 7, 7, 7, 7, 7, 7, 7, 7, 7, 7, 7, 7, 7, 7, 7, 7, 7, 7, 7, 7, 7, 7, 7, 7, 7, 7, 7, 7, 7, 7, 7, 7, 7, 7, 7, 7, 7, 7, 7, 7, 7, 7, 7, 7, 7, 8, 8, 8, 8, 8, 8, 8, 8, 8, 8, 8, 8, 8, 8, 8, 8, 8, 8, 8, 8, 8, 8, 8, 8, 8, 8, 8, 8, 8, 8, 8, 8, 8, 8, 8, 8, 8, 8, 8, 8, 8, 8, 8, 8, 8, 8, 8, 8, 8, 8, 8, 8, 8, 8, 8, 8, 8, 8, 8, 8, 8, 8, 8, 8, 8, 8, 8, 8, 8, 8, 8, 8, 8, 8, 8, 8, 8, 8, 8, 8, 8, 8, 8, 8, 8, 8, 8, 8, 8, 8, 8, 8, 8, 8, 8, 8, 8, 8, 8, 8, 8, 8, 8, 8, 8, 8, 8, 8, 8, 8, 8, 8, 8, 8, 8, 8, 8, 8, 8, 8, 8, 8, 8, 8, 8, 8, 8, 8] : List UInt8).length : Int)) ∧ K (IntKind.i64.wrap ((IntKind.i64.wrap ((IntKind.i64.wrap ((32 : Int) + (16 : Int))) + (8 : Int))) + (IntKind.i64.wrap (bt ([0, 1, 2, 2, 3, 3, 3, 3, 4, 4, 4, 4, 4, 4, 4, 4, 5, 5, 5, 5, 5, 5, 5, 5, 5, 5, 5, 5, 5, 5, 5, 5, 6, 6, 6, 6, 6, 6, 6, 6, 6, 6, 6, 6, 6, 6, 6, 6, 6, 6, 6, 6, 6, 6, 6, 6, 6, 6, 6, 6, 6, 6, 6, 6, 7, 7, 7, 7, 7, 7, 7, 7, 7, 7, 7, 7, 7, 7, 7, 7, 7, 7, 7, 7, 7, 7, 7, 7, 7, 7, 7, 7, 7, 7, 7, 7, 7, 7, 7, 7, 7, 7, 7, 7, 7, 7, 7, 7, 7, 7, 7, 7, 7, 7, 7, 7, 7, 7, 7, 7, 7, 7, 7, 7, 7, 7, 7, 7, 8, 8, 8, 8, 8, 8, 8, 8, 8, 8, 8, 8, 8, 8, 8, 8, 8, 8, 8, 8, 8, 8, 8, 8, 8, 8, 8, 8, 8, 8, 8, 8, 8, 8, 8, 8, 8, 8, 8, 8, 8, 8, 8, 8, 8, 8, 8, 8, 8, 8, 8, 8, 8, 8, 8, 8, 8, 8, 8, 8, 8, 8, 8, 8, 8, 8, 8, 8, 8, 8, 8, 8, 8, 8, 8, 8, 8, 8, 8, 8, 8, 8, 8, 8, 8, 8, 8, 8, 8, 8, 8, 8, 8, 8, 8, 8, 8, 8, 8, 8, 8, 8, 8, 8, 8, 8, 8, 8, 8, 8, 8, 8, 8, 8, 8, 8, 8, 8, 8, 8, 8, 8, 8, 8, 8, 8, 8, 8] : List UInt8) (IntKind.u8.wrap (Int.fdiv (Int.fdiv (Int.fdiv a0 (2 ^ (min ((32 : Int)).toNat IntKind.u64.bits))) (2 ^ (min ((16 : Int)).toNat IntKind.u64.bits))) (2 ^ (min ((8 : Int)).toNat IntKind.u64.bits))))))))) ∧ (¬((256 : Int) ≤ (Int.fdiv (Int.fdiv a0 (2 ^ (min ((32 : Int)).toNat IntKind.u64.bits))) (2 ^ (min ((16 : Int)).toNat IntKind.u64.bits)))) → (0 ≤ (IntKind.u8.wrap (Int.fdiv (Int.fdiv a0 (2 ^ (min ((32 : Int)).toNat IntKind.u64.bits))) (2 ^ (min ((16 : Int)).toNat IntKind.u64.bits)))) ∧ (IntKind.u8.wrap (Int.fdiv (Int.fdiv a0 (2 ^ (min ((32 : Int)).toNat IntKind.u64.bits))) (2 ^ (min ((16 : Int)).toNat IntKind.u64.bits)))) < (([0, 1, 2, 2, 3, 3, 3, 3, 4, 4, 4, 4, 4, 4, 4, 4, 5, 5, 5, 5, 5, 5, 5, 5, 5, 5, 5, 5, 5, 5, 5, 5, 6, 6, 6, 6, 6, 6, 6, 6, 6, 6, 6, 6, 6, 6, 6, 6, 6, 6, 6, 6, 6, 6, 6, 6, 6, 6, 6, 6, 6, 6, 6, 6, 7, 7, 7, 7, 7, 7, 7, 7, 7, 7, 7, 7, 7, 7, 7, 7, 7, 7, 7, 7, 7, 7, 7, 7, 7, 7, 7, 7, 7, 7, 7, 7, 7, 7, 7, 7, 7, 7, 7, 7, 7, 7, 7, 7, 7, 7, 7, 7, 7, 7, 7, 7, 7, 7, 7, 7, 7, 7, 7, 7, 7, 7, 7, 7, 8, 8, 8, 8, 8, 8, 8, 8, 8, 8, 8, 8, 8, 8, 8, 8, 8, 8, 8, 8, 8, 8, 8, 8, 8, 8, 8, 8, 8, 8, 8, 8, 8, 8, 8, 8, 8, 8, 8, 8, 8, 8, 8, 8, 8, 8, 8, 8, 8, 8, 8, 8, 8, 8, 8, 8, 8, 8, 8, 8, 8, 8, 8, 8, 8, 8, 8, 8, 8, 8, 8, 8, 8, 8, 8, 8, 8, 8, 8, 8, 8, 8, 8, 8, 8, 8, 8, 8, 8, 8, 8, 8, 8, 8, 8, 8, 8, 8, 8, 8, 8, 8, 8, 8, 8, 8, 8, 8, 8, 8, 8, 8, 8, 8, 8, 8, 8, 8, 8, 8, 8, 8, 8, 8, 8, 8, 8, 8] : List UInt8).length : Int)) ∧ K (IntKind.i64.wrap ((IntKind.i64.wrap ((32 : Int) + (16 : Int))) + (IntKind.i64.wrap (bt ([0, 1, 2, 2, 3, 3, 3, 3, 4, 4, 4, 4, 4, 4, 4, 4, 5, 5, 5, 5, 5, 5, 5, 5, 5, 5, 5, 5, 5, 5, 5, 5, 6, 6, 6, 6, 6, 6, 6, 6, 6, 6, 6, 6, 6, 6, 6, 6, 6, 6, 6, 6, 6, 6, 6, 6, 6, 6, 6, 6, 6, 6, 6, 6, 7, 7, 7, 7, 7, 7, 7, 7, 7, 7, 7, 7, 7, 7, 7, 7, 7, 7, 7, 7, 7, 7, 7, 7, 7, 7, 7, 7, 7, 7, 7, 7, 7, 7, 7, 7, 7, 7, 7, 7, 7, 7, 7, 7, 7, 7, 7, 7, 7, 7, 7, 7, 7, 7, 7, 7, 7, 7, 7, 7, 7, 7, 7, 7, 8, 8, 8, 8, 8, 8, 8, 8, 8, 8, 8, 8, 8, 8, 8, 8, 8, 8, 8, 8, 8, 8, 8, 8, 8, 8, 8, 8, 8, 8, 8, 8, 8, 8, 8, 8, 8, 8, 8, 8, 8, 8, 8, 8, 8, 8, 8, 8, 8, 8, 8, 8, 8, 8, 8, 8, 8, 8, 8, 8, 8, 8, 8, 8, 8, 8, 8, 8, 8, 8, 8, 8, 8, 8, 8, 8, 8, 8, 8, 8, 8, 8, 8, 8, 8, 8, 8, 8, 8, 8, 8, 8, 8, 8, 8, 8, 8, 8, 8, 8, 8, 8, 8, 8, 8, 8, 8, 8, 8, 8, 8, 8, 8, 8, 8, 8, 8, 8, 8, 8, 8, 8, 8, 8, 8, 8, 8, 8] : List UInt8) (IntKind.u8.wrap (Int.fdiv (Int.fdiv a0 (2 ^ (min ((32 : Int)).toNat IntKind.u64.bits))) (2 ^ (min ((16 : Int)).toNat IntKind.u64.bits))))))))))) ∧ (¬((65536 : Int) ≤ (Int.fdiv a0 (2 ^ (min ((32 : Int)).toNat IntKind.u64.bits)))) → (((256 : Int) ≤ (Int.fdiv a0 (2 ^ (min ((32 : Int)).toNat IntKind.u64.bits))) → (0 ≤ (IntKind.u8.wrap (Int.fdiv (Int.fdiv a0 (2 ^ (min ((32 : Int)).toNat IntKind.u64.bits))) (2 ^ (min ((8 : Int)).toNat IntKind.u64.bits)))) ∧ (IntKind.u8.wrap (Int.fdiv (Int.fdiv a0 (2 ^ (min ((32 : Int)).toNat IntKind.u64.bits))) (2 ^ (min ((8 : Int)).toNat IntKind.u64.bits)))) < (([0, 1, 2, 2, 3, 3, 3, 3, 4, 4, 4, 4, 4, 4, 4, 4, 5, 5, 5, 5, 5, 5, 5, 5, 5, 5, 5, 5, 5, 5, 5, 5, 6, 6, 6, 6, 6, 6, 6, 6, 6, 6, 6, 6, 6, 6, 6, 6, 6, 6, 6, 6, 6, 6, 6, 6, 6, 6, 6, 6, 6, 6, 6, 6, 7, 7, 7, 7, 7, 7, 7, 7, 7, 7, 7, 7, 7, 7, 7, 7, 7, 7, 7, 7, 7, 7, 7, 7, 7, 7, 7, 7, 7, 7, 7, 7, 7, 7, 7, 7, 7, 7, 7, 7, 7, 7, 7, 7, 7, 7, 7, 7, 7, 7, 7, 7, 7, 7, 7, 7, 7, 7, 7, 7, 7, 7, 7, 7, 8, 8, 8, 8, 8, 8, 8, 8, 8, 8, 8, 8, 8, 8, 8, 8, 8, 8, 8, 8, 8, 8, 8, 8, 8, 8, 8, 8, 8, 8, 8, 8, 8, 8, 8, 8, 8, 8, 8, 8, 8, 8, 8, 8, 8, 8, 8, 8, 8, 8, 8, 8, 8, 8, 8, 8, 8, 8, 8, 8, 8, 8, 8, 8, 8, 8, 8, 8, 8, 8, 8, 8, 8, 8, 8, 8, 8, 8, 8, 8, 8, 8, 8, 8, 8, 8, 8, 8, 8, 8, 8, 8, 8, 8, 8, 8, 8, 8, 8, 8, 8, 8, 8, 8, 8, 8, 8, 8, 8, 8, 8, 8, 8, 8, 8, 8, 8, 8, 8, 8, 8, 8, 8, 8, 8, 8, 8, 8] : List UInt8).length : Int)) ∧ K (IntKind.i64.wrap ((IntKind.i64.wrap ((32 : Int) + (8 : Int))) + (IntKind.i64.wrap (bt ([0, 1, 2, 2, 3, 3, 3, 3, 4, 4, 4, 4, 4, 4, 4, 4, 5, 5, 5, 5, 5, 5, 5, 5, 5, 5, 5, 5, 5, 5, 5, 5, 6, 6, 6, 6, 6, 6, 6, 6, 6, 6, 6, 6, 6, 6, 6, 6, 6, 6, 6, 6, 6, 6, 6, 6, 6, 6, 6, 6, 6, 6, 6, 6, 7, 7, 7, 7, 7, 7, 7, 7, 7, 7, 7, 7, 7, 7, 7, 7, 7, 7, 7, 7, 7, 7, 7, 7, 7, 7, 7, 7, 7, 7, 7, 7, 7, 7, 7, 7, 7, 7, 7, 7, 7, 7, 7, 7, 7, 7, 7, 7, 7, 7, 7, 7, 7, 7, 7, 7, 7, 7, 7, 7, 7, 7, 7, 7, 8, 8, 8, 8, 8, 8, 8, 8, 8, 8, 8, 8, 8, 8, 8, 8, 8, 8, 8, 8, 8, 8, 8, 8, 8, 8, 8, 8, 8, 8, 8, 8, 8, 8, 8, 8, 8, 8, 8, 8, 8, 8, 8, 8, 8, 8, 8, 8, 8, 8, 8, 8, 8, 8, 8, 8, 8, 8, 8, 8, 8, 8, 8, 8, 8, 8, 8, 8, 8, 8, 8, 8, 8, 8, 8, 8, 8, 8, 8, 8, 8, 8, 8, 8, 8, 8, 8, 8, 8, 8, 8, 8, 8, 8, 8, 8, 8, 8, 8, 8, 8, 8, 8, 8, 8, 8, 8, 8, 8, 8, 8, 8, 8, 8, 8, 8, 8, 8, 8, 8, 8, 8, 8, 8, 8, 8, 8, 8] : List UInt8) (IntKind.u8.wrap (Int.fdiv (Int.fdiv a0 (2 ^ (min ((32 : Int)).toNat IntKind.u64.bits))) (2 ^ (min ((8 : Int)).toNat IntKind.u64.bits))))))))) ∧ (¬((256 : Int) ≤ (Int.fdiv a0 (2 ^ (min ((32 : Int)).toNat IntKind.u64.bits)))) → (0 ≤ (IntKind.u8.wrap (Int.fdiv a0 (2 ^ (min ((32 : Int)).toNat IntKind.u64.bits)))) ∧ (IntKind.u8.wrap (Int.fdiv a0 (2 ^ (min ((32 : Int)).toNat IntKind.u64.bits)))) < (([0, 1, 2, 2, 3, 3, 3, 3, 4, 4, 4, 4, 4, 4, 4, 4, 5, 5, 5, 5, 5, 5, 5, 5, 5, 5, 5, 5, 5, 5, 5, 5, 6, 6, 6, 6, 6, 6, 6, 6, 6, 6, 6, 6, 6, 6, 6, 6, 6, 6, 6, 6, 6, 6, 6, 6, 6, 6, 6, 6, 6, 6, 6, 6, 7, 7, 7, 7, 7, 7, 7, 7, 7, 7, 7, 7, 7, 7, 7, 7, 7, 7, 7, 7, 7, 7, 7, 7, 7, 7, 7, 7, 7, 7, 7, 7, 7, 7, 7, 7, 7, 7, 7, 7, 7, 7, 7, 7, 7, 7, 7, 7, 7, 7, 7, 7, 7, 7, 7, 7, 7, 7, 7, 7, 7, 7, 7, 7, 8, 8, 8, 8, 8, 8, 8, 8, 8, 8, 8, 8, 8, 8, 8, 8, 8, 8, 8, 8, 8, 8, 8, 8, 8, 8, 8, 8, 8, 8, 8, 8, 8, 8, 8, 8, 8, 8, 8, 8, 8, 8, 8, 8, 8, 8, 8, 8, 8, 8, 8, 8, 8, 8, 8, 8, 8, 8, 8, 8, 8, 8, 8, 8, 8, 8, 8, 8, 8, 8, 8, 8, 8, 8, 8, 8, 8, 8, 8, 8, 8, 8, 8, 8, 8, 8, 8, 8, 8, 8, 8, 8, 8, 8, 8, 8, 8, 8, 8, 8, 8, 8, 8, 8, 8, 8, 8, 8, 8, 8, 8, 8, 8, 8, 8, 8, 8, 8, 8, 8, 8, 8, 8, 8, 8, 8, 8, 8] : List UInt8).length : Int)) ∧ K (IntKind.i64.wrap ((32 : Int) + (IntKind.i64.wrap (bt ([0, 1, 2, 2, 3, 3, 3, 3, 4, 4, 4, 4, 4, 4, 4, 4, 5, 5, 5, 5, 5, 5, 5, 5, 5, 5, 5, 5, 5, 5, 5, 5, 6, 6, 6, 6, 6, 6, 6, 6, 6, 6, 6, 6, 6, 6, 6, 6, 6, 6, 6, 6, 6, 6, 6, 6, 6, 6, 6, 6, 6, 6, 6, 6, 7, 7, 7, 7, 7, 7, 7, 7, 7, 7, 7, 7, 7, 7, 7, 7, 7, 7, 7, 7, 7, 7, 7, 7, 7, 7, 7, 7, 7, 7, 7, 7, 7, 7, 7, 7, 7, 7, 7, 7, 7, 7, 7, 7, 7, 7, 7, 7, 7, 7, 7, 7, 7, 7, 7, 7, 7, 7, 7, 7, 7, 7, 7, 7, 8, 8, 8, 8, 8, 8, 8, 8, 8, 8, 8, 8, 8, 8, 8, 8, 8, 8, 8, 8, 8, 8, 8, 8, 8, 8, 8, 8, 8, 8, 8, 8, 8, 8, 8, 8, 8, 8, 8, 8, 8, 8, 8, 8, 8, 8, 8, 8, 8, 8, 8, 8, 8, 8, 8, 8, 8, 8, 8, 8, 8, 8, 8, 8, 8, 8, 8, 8, 8, 8, 8, 8, 8, 8, 8, 8, 8, 8, 8, 8, 8, 8, 8, 8, 8, 8, 8, 8, 8, 8, 8, 8, 8, 8, 8, 8, 8, 8, 8, 8, 8, 8, 8, 8, 8, 8, 8, 8, 8, 8, 8, 8, 8, 8, 8, 8, 8, 8, 8, 8, 8, 8, 8, 8, 8, 8, 8, 8] : List UInt8) (IntKind.u8.wrap (Int.fdiv a0 (2 ^ (min ((32 : Int)).toNat IntKind.u64.bits))))))))))))) ∧ (¬((4294967296 : Int) ≤ a0) → (((65536 : Int) ≤ a0 → (((256 : Int) ≤ (Int.fdiv a0 (2 ^ (min ((16 : Int)).toNat IntKind.u64.bits))) → (0 ≤ (IntKind.u8.wrap (Int.fdiv (Int.fdiv a0 (2 ^ (min ((16 : Int)).toNat IntKind.u64.bits))) (2 ^ (min ((8 : Int)).toNat IntKind.u64.bits)))) ∧ (IntKind.u8.wrap (Int.fdiv (Int.fdiv a0 (2 ^ (min ((16 : Int)).toNat IntKind.u64.bits))) (2 ^ (min ((8 : Int)).toNat IntKind.u64.bits)))) < (([0, 1, 2, 2, 3, 3, 3, 3, 4, 4, 4, 4, 4, 4, 4, 4, 5, 5, 5, 5, 5, 5, 5, 5, 5, 5, 5, 5, 5, 5, 5, 5, 6, 6, 6, 6, 6, 6, 6, 6, 6, 6, 6, 6, 6, 6, 6, 6, 6, 6, 6, 6, 6, 6, 6, 6, 6, 6, 6, 6, 6, 6, 6, 6, 7, 7, 7, 7, 7, 7, 7, 7, 7, 7, 7, 7, 7, 7, 7, 7, 7, 7, 7, 7, 7, 7, 7, 7, 7, 7, 7, 7, 7, 7, 7, 7, 7, 7, 7, 7, 7, 7, 7, 7, 7, 7, 7, 7, 7, 7, 7, 7, 7, 7, 7, 7, 7, 7, 7, 7, 7, 7, 7, 7, 7, 7, 7, 7, 8, 8, 8, 8, 8, 8, 8, 8, 8, 8, 8, 8, 8, 8, 8, 8, 8, 8, 8, 8, 8, 8, 8, 8, 8, 8, 8, 8, 8, 8, 8, 8, 8, 8, 8, 8, 8, 8, 8, 8, 8, 8, 8, 8, 8, 8, 8, 8, 8, 8, 8, 8, 8, 8, 8, 8, 8, 8, 8, 8, 8, 8, 8, 8, 8, 8, 8, 8, 8, 8, 8, 8, 8, 8, 8, 8, 8, 8, 8, 8, 8, 8, 8, 8, 8, 8, 8, 8, 8, 8, 8, 8, 8, 8, 8, 8, 8, 8, 8, 8, 8, 8, 8, 8, 8, 8, 8, 8, 8, 8, 8, 8, 8, 8, 8, 8, 8, 8, 8, 8, 8, 8, 8, 8, 8, 8, 8, 8] : List UInt8).length : Int)) ∧ K (IntKind.i64.wrap ((IntKind.i64.wrap ((IntKind.i64.wrap ((0 : Int) + (16 : Int))) + (8 : Int))) + (IntKind.i64.wrap (bt ([0, 1, 2, 2, 3, 3, 3, 3, 4, 4, 4, 4, 4, 4, 4, 4, 5, 5, 5, 5, 5, 5, 5, 5, 5, 5, 5, 5, 5, 5, 5, 5, 6, 6, 6, 6, 6, 6, 6, 6, 6, 6, 6, 6, 6, 6, 6, 6, 6, 6, 6, 6, 6, 6, 6, 6, 6, 6, 6, 6, 6, 6, 6, 6, 7, 7, 7, 7, 7, 7, 7, 7, 7, 7, 7, 7, 7, 7, 7, 7, 7, 7, 7, 7, 7, 7, 7, 7, 7, 7, 7, 7, 7, 7, 7, 7, 7, 7, 7, 7, 7, 7, 7, 7, 7, 7, 7, 7, 7, 7, 7, 7, 7, 7, 7, 7, 7, 7, 7, 7, 7, 7, 7, 7, 7, 7, 7, 7, 8, 8, 8, 8, 8, 8, 8, 8, 8, 8, 8, 8, 8, 8, 8, 8, 8, 8, 8, 8, 8, 8, 8, 8, 8, 8, 8, 8, 8, 8, 8, 8, 8, 8, 8, 8, 8, 8, 8, 8, 8, 8, 8, 8, 8, 8, 8, 8, 8, 8, 8, 8, 8, 8, 8, 8, 8, 8, 8, 8, 8, 8, 8, 8, 8, 8, 8, 8, 8, 8, 8, 8, 8, 8, 8, 8, 8, 8, 8, 8, 8, 8, 8, 8, 8, 8, 8, 8, 8, 8, 8, 8, 8, 8, 8, 8, 8, 8, 8, 8, 8, 8, 8, 8, 8, 8, 8, 8, 8, 8, 8, 8, 8, 8, 8, 8, 8, 8, 8, 8, 8, 8, 8, 8, 8, 8, 8, 8] : List UInt8) (IntKind.u8.wrap (Int.fdiv (Int.fdiv a0 (2 ^ (min ((16 : Int)).toNat IntKind.u64.bits))) (2 ^ (min ((8 : Int)).toNat IntKind.u64.bits))))))))) ∧ (¬((256 : Int) ≤ (Int.fdiv a0 (2 ^ (min ((16 : Int)).toNat IntKind.u64.bits)))) → (0 ≤ (IntKind.u8.wrap (Int.fdiv a0 (2 ^ (min ((16 : Int)).toNat IntKind.u64.bits)))) ∧ (IntKind.u8.wrap (Int.fdiv a0 (2 ^ (min ((16 : Int)).toNat IntKind.u64.bits)))) < (([0, 1, 2, 2, 3, 3, 3, 3, 4, 4, 4, 4, 4, 4, 4, 4, 5, 5, 5, 5, 5, 5, 5, 5, 5, 5, 5, 5, 5, 5, 5, 5, 6, 6, 6, 6, 6, 6, 6, 6, 6, 6, 6, 6, 6, 6, 6, 6, 6, 6, 6, 6, 6, 6, 6, 6, 6, 6, 6, 6, 6, 6, 6, 6, 7, 7, 7, 7, 7, 7, 7, 7, 7, 7, 7, 7, 7, 7, 7, 7, 7, 7, 7, 7, 7, 7, 7, 7, 7, 7, 7, 7, 7, 7, 7, 7, 7, 7, 7, 7, 7, 7, 7, 7, 7, 7, 7, 7, 7, 7, 7, 7, 7, 7, 7, 7, 7, 7, 7, 7, 7, 7, 7, 7, 7, 7, 7, 7, 8, 8, 8, 8, 8, 8, 8, 8, 8, 8, 8, 8, 8, 8, 8, 8, 8, 8, 8, 8, 8, 8, 8, 8, 8, 8, 8, 8, 8, 8, 8, 8, 8, 8, 8, 8, 8, 8, 8, 8, 8, 8, 8, 8, 8, 8, 8, 8, 8, 8, 8, 8, 8, 8, 8, 8, 8, 8, 8, 8, 8, 8, 8, 8, 8, 8, 8, 8, 8, 8, 8, 8, 8, 8, 8, 8, 8, 8, 8, 8, 8, 8, 8, 8, 8, 8, 8, 8, 8, 8, 8, 8, 8, 8, 8, 8, 8, 8, 8, 8, 8, 8, 8, 8, 8, 8, 8, 8, 8, 8, 8, 8, 8, 8, 8, 8, 8, 8, 8, 8, 8, 8, 8, 8, 8, 8, 8, 8] : List UInt8).length : Int)) ∧ K (IntKind.i64.wrap ((IntKind.i64.wrap ((0 : Int) + (16 : Int))) + (IntKind.i64.wrap (bt ([0, 1, 2, 2, 3, 3, 3, 3, 4, 4, 4, 4, 4, 4, 4, 4, 5, 5, 5, 5, 5, 5, 5, 5, 5, 5, 5, 5, 5, 5, 5, 5, 6, 6, 6, 6, 6, 6, 6, 6, 6, 6, 6, 6, 6, 6, 6, 6, 6, 6, 6, 6, 6, 6, 6, 6, 6, 6, 6, 6, 6, 6, 6, 6, 7, 7, 7, 7, 7, 7, 7, 7, 7, 7, 7, 7, 7, 7, 7, 7, 7, 7, 7, 7, 7, 7, 7, 7, 7, 7, 7, 7, 7, 7, 7, 7, 7, 7, 7, 7, 7, 7, 7, 7, 7, 7, 7, 7, 7, 7, 7, 7, 7, 7, 7, 7, 7, 7, 7, 7, 7, 7, 7, 7, 7, 7, 7, 7, 8, 8, 8, 8, 8, 8, 8, 8, 8, 8, 8, 8, 8, 8, 8, 8, 8, 8, 8, 8, 8, 8, 8, 8, 8, 8, 8, 8, 8, 8, 8, 8, 8, 8, 8, 8, 8, 8, 8, 8, 8, 8, 8, 8, 8, 8, 8, 8, 8, 8, 8, 8, 8, 8, 8, 8, 8, 8, 8, 8, 8, 8, 8, 8, 8, 8, 8, 8, 8, 8, 8, 8, 8, 8, 8, 8, 8, 8, 8, 8, 8, 8, 8, 8, 8, 8, 8, 8, 8, 8, 8, 8, 8, 8, 8, 8, 8, 8, 8, 8, 8, 8, 8, 8, 8, 8, 8, 8, 8, 8, 8, 8, 8, 8, 8, 8, 8, 8, 8, 8, 8, 8, 8, 8, 8, 8, 8, 8] : List UInt8) (IntKind.u8.wrap (Int.fdiv a0 (2 ^ (min ((16 : Int)).toNat IntKind.u64.bits))))))))))) ∧ (¬((65536 : Int) ≤ a0) → (((256 : Int) ≤ a0 → (0 ≤ (IntKind.u8.wrap (Int.fdiv a0 (2 ^ (min ((8 : Int)).toNat IntKind.u64.bits)))) ∧ (IntKind.u8.wrap (Int.fdiv a0 (2 ^ (min ((8 : Int)).toNat IntKind.u64.bits)))) < (([0, 1, 2, 2, 3, 3, 3, 3, 4, 4, 4, 4, 4, 4, 4, 4, 5, 5, 5, 5, 5, 5, 5, 5, 5, 5, 5, 5, 5, 5, 5, 5, 6, 6, 6, 6, 6, 6, 6, 6, 6, 6, 6, 6, 6, 6, 6, 6, 6, 6, 6, 6, 6, 6, 6, 6, 6, 6, 6, 6, 6, 6, 6, 6, 7, 7, 7, 7, 7, 7, 7, 7, 7, 7, 7, 7, 7, 7, 7, 7, 7, 7, 7, 7, 7, 7, 7, 7, 7, 7, 7, 7, 7, 7, 7, 7, 7, 7, 7, 7, 7, 7, 7, 7, 7, 7, 7, 7, 7, 7, 7, 7, 7, 7, 7, 7, 7, 7, 7, 7, 7, 7, 7, 7, 7, 7, 7, 7, 8, 8, 8, 8, 8, 8, 8, 8, 8, 8, 8, 8, 8, 8, 8, 8, 8, 8, 8, 8, 8, 8, 8, 8, 8, 8, 8, 8, 8, 8, 8, 8, 8, 8, 8, 8, 8, 8, 8, 8, 8, 8, 8, 8, 8, 8, 8, 8, 8, 8, 8, 8, 8, 8, 8, 8, 8, 8, 8, 8, 8, 8, 8, 8, 8, 8, 8, 8, 8, 8, 8, 8, 8, 8, 8, 8, 8, 8, 8, 8, 8, 8, 8, 8, 8, 8, 8, 8, 8, 8, 8, 8, 8, 8, 8, 8, 8, 8, 8, 8, 8, 8, 8, 8, 8, 8, 8, 8, 8, 8, 8, 8, 8, 8, 8, 8, 8, 8, 8, 8, 8, 8, 8, 8, 8, 8, 8, 8] : List UInt8).length : Int)) ∧ K (IntKind.i64.wrap ((IntKind.i64.wrap ((0 : Int) + (8 : Int))) + (IntKind.i64.wrap (bt ([0, 1, 2, 2, 3, 3, 3, 3, 4, 4, 4, 4, 4, 4, 4, 4, 5, 5, 5, 5, 5, 5, 5, 5, 5, 5, 5, 5, 5, 5, 5, 5, 6, 6, 6, 6, 6, 6, 6, 6, 6, 6, 6, 6, 6, 6, 6, 6, 6, 6, 6, 6, 6, 6, 6, 6, 6, 6, 6, 6, 6, 6, 6, 6, 7, 7, 7, 7, 7, 7, 7, 7, 7, 7, 7, 7, 7, 7, 7, 7, 7, 7, 7, 7, 7, 7, 7, 7, 7, 7, 7, 7, 7, 7, 7, 7, 7, 7, 7, 7, 7, 7, 7, 7, 7, 7, 7, 7, 7, 7, 7, 7, 7, 7, 7, 7, 7, 7, 7, 7, 7, 7, 7, 7, 7, 7, 7, 7, 8, 8, 8, 8, 8, 8, 8, 8, 8, 8, 8, 8, 8, 8, 8, 8, 8, 8, 8, 8, 8, 8, 8, 8, 8, 8, 8, 8, 8, 8, 8, 8, 8, 8, 8, 8, 8, 8, 8, 8, 8, 8, 8, 8, 8, 8, 8, 8, 8, 8, 8, 8, 8, 8, 8, 8, 8, 8, 8, 8, 8, 8, 8, 8, 8, 8, 8, 8, 8, 8, 8, 8, 8, 8, 8, 8, 8, 8, 8, 8, 8, 8, 8, 8, 8, 8, 8, 8, 8, 8, 8, 8, 8, 8, 8, 8, 8, 8, 8, 8, 8, 8, 8, 8, 8, 8, 8, 8, 8, 8, 8, 8, 8, 8, 8, 8, 8, 8, 8, 8, 8, 8, 8, 8, 8, 8, 8, 8] : List UInt8) (IntKind.u8.wrap (Int.fdiv a0 (2 ^ (min ((8 : Int)).toNat IntKind.u64.bits))))))))) ∧ (¬((256 : Int) ≤ a0) → (0 ≤ (IntKind.u8.wrap a0) ∧ (IntKind.u8.wrap a0) < (([0, 1, 2, 2, 3, 3, 3, 3, 4, 4, 4, 4, 4, 4, 4, 4, 5, 5, 5, 5, 5, 5, 5, 5, 5, 5, 5, 5, 5, 5, 5, 5, 6, 6, 6, 6, 6, 6, 6, 6, 6, 6, 6, 6, 6, 6, 6, 6, 6, 6, 6, 6, 6, 6, 6, 6, 6, 6, 6, 6, 6, 6, 6, 6, 7, 7, 7, 7, 7, 7, 7, 7, 7, 7, 7, 7, 7, 7, 7, 7, 7, 7, 7, 7, 7, 7, 7, 7, 7, 7, 7, 7, 7, 7, 7, 7, 7, 7, 7, 7, 7, 7, 7, 7, 7, 7, 7, 7, 7, 7, 7, 7, 7, 7, 7, 7, 7, 7, 7, 7, 7, 7, 7, 7, 7, 7, 7, 7, 8, 8, 8, 8, 8, 8, 8, 8, 8, 8, 8, 8, 8, 8, 8, 8, 8, 8, 8, 8, 8, 8, 8, 8, 8, 8, 8, 8, 8, 8, 8, 8, 8, 8, 8, 8, 8, 8, 8, 8, 8, 8, 8, 8, 8, 8, 8, 8, 8, 8, 8, 8, 8, 8, 8, 8, 8, 8, 8, 8, 8, 8, 8, 8, 8, 8, 8, 8, 8, 8, 8, 8, 8, 8, 8, 8, 8, 8, 8, 8, 8, 8, 8, 8, 8, 8, 8, 8, 8, 8, 8, 8, 8, 8, 8, 8, 8, 8, 8, 8, 8, 8, 8, 8, 8, 8, 8, 8, 8, 8, 8, 8, 8, 8, 8, 8, 8, 8, 8, 8, 8, 8, 8, 8, 8, 8, 8, 8] : List UInt8).length : Int)) ∧ K (IntKind.i64.wrap ((0 : Int) + (IntKind.i64.wrap (bt ([0, 1, 2, 2, 3, 3, 3, 3, 4, 4, 4, 4, 4, 4, 4, 4, 5, 5, 5, 5, 5, 5, 5, 5, 5, 5, 5, 5, 5, 5, 5, 5, 6, 6, 6, 6, 6, 6, 6, 6, 6, 6, 6, 6, 6, 6, 6, 6, 6, 6, 6, 6, 6, 6, 6, 6, 6, 6, 6, 6, 6, 6, 6, 6, 7, 7, 7, 7, 7, 7, 7, 7, 7, 7, 7, 7, 7, 7, 7, 7, 7, 7, 7, 7, 7, 7, 7, 7, 7, 7, 7, 7, 7, 7, 7, 7, 7, 7, 7, 7, 7, 7, 7, 7, 7, 7, 7, 7, 7, 7, 7, 7, 7, 7, 7, 7, 7, 7, 7, 7, 7, 7, 7, 7, 7, 7, 7, 7, 8, 8, 8, 8, 8, 8, 8, 8, 8, 8, 8, 8, 8, 8, 8, 8, 8, 8, 8, 8, 8, 8, 8, 8, 8, 8, 8, 8, 8, 8, 8, 8, 8, 8, 8, 8, 8, 8, 8, 8, 8, 8, 8, 8, 8, 8, 8, 8, 8, 8, 8, 8, 8, 8, 8, 8, 8, 8, 8, 8, 8, 8, 8, 8, 8, 8, 8, 8, 8, 8, 8, 8, 8, 8, 8, 8, 8, 8, 8, 8, 8, 8, 8, 8, 8, 8, 8, 8, 8, 8, 8, 8, 8, 8, 8, 8, 8, 8, 8, 8, 8, 8, 8, 8, 8, 8, 8, 8, 8, 8, 8, 8, 8, 8, 8, 8, 8, 8, 8, 8, 8, 8, 8, 8, 8, 8, 8, 8] : List UInt8) (IntKind.u8.wrap a0)))))))))))
end Go.Proofs.Ytpeijfnfffogeaa.G

namespace Go.Proofs.Ytpeijfnfffogeaa.G
open Go Go.Ab
set_option maxRecDepth 100000
set_option linter.unusedVariables false
set_option linter.unusedSimpArgs false
set_option maxHeartbeats 1000000
def impl_planesFor.wp (l0 : List (Int)) (K : Int → Prop) : Prop := ∀ X101 : Int → Int → Prop, (∀ (most102 : Int) (x103 : Int), ((x103 < (l0.length : Int) → (0 ≤ x103 ∧ x103 < (l0.length : Int)) ∧ impl_far.wp (l0.getD (x103).toNat (0 : Int)) fun y106 => X101 (mxI most102 y106) (IntKind.i64.wrap (x103 + (1 : Int)))) ∧ (¬(x103 < (l0.length : Int)) → math_bits_Len64.wp (IntKind.u64.wrap most102) fun y108 => K (y108))) → X101 most102 x103) → X101 (0 : Int) (0 : Int)
end Go.Proofs.Ytpeijfnfffogeaa.G

namespace Go.Proofs.Ytpeijfnfffogeaa.G
open Go Go.Ab
set_option maxRecDepth 100000
set_option linter.unusedVariables false
set_option linter.unusedSimpArgs false
set_option maxHeartbeats 1000000
def impl_areWithin.wp (l0 : List (Int)) (a1 : Int) (K : Bool → Prop) : Prop := ∀ X101 : Int → Prop, (∀ (x102 : Int), ((x102 < (l0.length : Int) → (0 ≤ x102 ∧ x102 < (l0.length : Int)) ∧ impl_within.wp (l0.getD (x102).toNat (0 : Int)) (IntKind.i64.wrap (0 - a1)) a1 fun y105 => ((y105 = true → X101 (IntKind.i64.wrap (x102 + (1 : Int)))) ∧ (y105 = false → K (false)))) ∧ (¬(x102 < (l0.length : Int)) → K (true))) → X101 x102) → X101 (0 : Int)
end Go.Proofs.Ytpeijfnfffogeaa.G

namespace Go.Proofs.Ytpeijfnfffogeaa.G
open Go Go.Ab
set_option maxRecDepth 100000
set_option linter.unusedVariables false
set_option linter.unusedSimpArgs false
set_option maxHeartbeats 1000000
def impl_AreIntegers.wp (l0 : List (Int)) (K : Bool → Prop) : Prop := impl_within.wp (l0.length : Int) (1 : Int) (128 : Int) fun y101 => ((y101 = true → impl_areWithin.wp l0 (1000000 : Int) fun y104 => K (y104)) ∧ (y101 = false → K (false)))
end Go.Proofs.Ytpeijfnfffogeaa.G

namespace Go.Proofs.Ytpeijfnfffogeaa.G
open Go Go.Ab
set_option maxRecDepth 100000
set_option linter.unusedVariables false
set_option linter.unusedSimpArgs false
set_option maxHeartbeats 1000000
def impl_digit.wp (a0 : Int) (a1 : Int) (K : Bool → Prop) : Prop := impl_far.wp a0 fun y101 => (0 ≤ a1) ∧ K (decide ((ibits .and .i64 (Int.fdiv y101 (2 ^ (min (a1).toNat IntKind.i64.bits))) (1 : Int)) = (1 : Int)))
end Go.Proofs.Ytpeijfnfffogeaa.G

namespace Go.Proofs.Ytpeijfnfffogeaa.G
open Go Go.Ab
set_option maxRecDepth 100000
set_option linter.unusedVariables false
set_option linter.unusedSimpArgs false
set_option maxHeartbeats 1000000
def impl_codeUntil.wp (l0 : List (Int)) (a1 : Int) (a2 : Int) (K : (List (Bool)) → Prop) : Prop := ∀ X161 : List (Bool) → Int → Prop, (∀ (out162 : List (Bool)) (plane164 : Int), ((a2 ≤ plane164 → ∀ X191 : List (Bool) → Int → Prop, (∀ (out192 : List (Bool)) (x194 : Int), ((x194 < (l0.length : Int) → (0 ≤ x194 ∧ x194 < (l0.length : Int)) ∧ impl_digit.wp (l0.getD (x194).toNat (0 : Int)) plane164 fun y197 => ((out192.length + ([y197] : List (Bool)).length) * 1 ≤ 2 ^ 40) ∧ ((y197 = true → impl_far.wp (l0.getD (x194).toNat (0 : Int)) fun y206 => (0 ≤ (IntKind.i64.wrap (plane164 + (1 : Int)))) ∧ (((Int.fdiv y206 (2 ^ (min ((IntKind.i64.wrap (plane164 + (1 : Int)))).toNat IntKind.i64.bits))) = (0 : Int) → (((out192 ++ ([y197] : List (Bool))).length + ([(decide ((l0.getD (x194).toNat (0 : Int)) < (0 : Int)))] : List (Bool)).length) * 1 ≤ 2 ^ 40) ∧ X191 ((out192 ++ ([y197] : List (Bool))) ++ ([(decide ((l0.getD (x194).toNat (0 : Int)) < (0 : Int)))] : List (Bool))) (IntKind.i64.wrap (x194 + (1 : Int)))) ∧ (¬((Int.fdiv y206 (2 ^ (min ((IntKind.i64.wrap (plane164 + (1 : Int)))).toNat IntKind.i64.bits))) = (0 : Int)) → X191 (out192 ++ ([y197] : List (Bool))) (IntKind.i64.wrap (x194 + (1 : Int)))))) ∧ (y197 = false → X191 (out192 ++ ([y197] : List (Bool))) (IntKind.i64.wrap (x194 + (1 : Int)))))) ∧ (¬(x194 < (l0.length : Int)) → X161 (out192) (IntKind.i64.wrap (plane164 - (1 : Int))))) → X191 out192 x194) → X191 (out162) (0 : Int)) ∧ (¬(a2 ≤ plane164) → K (out162))) → X161 out162 plane164) → X161 ([] : List (Bool)) (IntKind.i64.wrap (a1 - (1 : Int)))
end Go.Proofs.Ytpeijfnfffogeaa.G

namespace Go.Proofs.Ytpeijfnfffogeaa.G
open Go Go.Ab
set_option maxRecDepth 100000
set_option linter.unusedVariables false
set_option linter.unusedSimpArgs false
set_option maxHeartbeats 1000000
def impl_CodeList.wp (l0 : List (Int)) (K : Int → Int → (List (Bool)) → Bool → Prop) : Prop := impl_AreIntegers.wp l0 fun y104 => ((y104 = true → impl_planesFor.wp l0 fun y107 => impl_codeUntil.wp l0 y107 (0 : Int) fun y109 => K (l0.length : Int) (y107) (y109) (true)) ∧ (y104 = false → K (0 : Int) (0 : Int) ([] : List (Bool)) (false)))
end Go.Proofs.Ytpeijfnfffogeaa.G

namespace Go.Proofs.Ytpeijfnfffogeaa.G
open Go Go.Ab
set_option maxRecDepth 100000
set_option linter.unusedVariables false
set_option linter.unusedSimpArgs false
set_option maxHeartbeats 1000000
def impl_NewDesk.wp  (K : (List (Nat)) → (List (Nat)) → Nat → Int → Int → (List (Nat)) → Int → Int → (List (Bool)) → Prop) : Prop := impl_LinesScheme.wp  fun y107 y110 => impl_StepPicture.wp (4 : Int) (2 : Int) (2 : Int) (cz .f32 0) (cz .f32 1082130432) fun y116 y117 y118 y121 => impl_CodeList.wp ([(3 : Int), (-1 : Int)] : List (Int)) fun y127 y128 y129 y132 => K ([(cz .f32 1065353216), (cz .f32 1077936128), (cz .f32 1073741824)] : List (Nat)) (y107) (y110) (y116) (y117) (y118) (y127) (y128) (y129)
end Go.Proofs.Ytpeijfnfffogeaa.G

namespace Go.Proofs.Ytpeijfnfffogeaa.G
open Go Go.Ab
set_option maxRecDepth 100000
set_option linter.unusedVariables false
set_option linter.unusedSimpArgs false
set_option maxHeartbeats 1000000
def laws_markFloat32S.wp (l0 : List (Nat)) (a1 : Int) (K : Int → (List (Nat)) → Prop) : Prop := ∀ X108 : List (Nat) → Int → Int → Prop, (∀ (a109 : List (Nat)) (k110 : Int) (i111 : Int), ((i111 < (a109.length : Int) → (0 ≤ i111 ∧ i111 < (a109.length : Int)) ∧ X108 (a109.set (i111).toNat (itof .f32 k110)) (IntKind.i64.wrap (k110 + (1 : Int))) (IntKind.i64.wrap (i111 + (1 : Int)))) ∧ (¬(i111 < (a109.length : Int)) → K (k110) (a109))) → X108 a109 k110 i111) → X108 (l0) (a1) (0 : Int)
end Go.Proofs.Ytpeijfnfffogeaa.G

namespace Go.Proofs.Ytpeijfnfffogeaa.G
open Go Go.Ab
set_option maxRecDepth 100000
set_option linter.unusedVariables false
set_option linter.unusedSimpArgs false
set_option maxHeartbeats 1000000
def laws_markPicture.wp (a0 : Int) (a1 : Int) (l2 : List (Nat)) (a3 : Int) (K : Int → (List (Nat)) → Prop) : Prop := laws_markFloat32S.wp l2 a3 fun y105 y106 => K (y105) (y106)
end Go.Proofs.Ytpeijfnfffogeaa.G

namespace Go.Proofs.Ytpeijfnfffogeaa.G
open Go Go.Ab
set_option maxRecDepth 100000
set_option linter.unusedVariables false
set_option linter.unusedSimpArgs false
set_option maxHeartbeats 1000000
def laws_markBoolS.wp (l0 : List (Bool)) (a1 : Int) (K : Int → (List (Bool)) → Prop) : Prop := ∀ X108 : List (Bool) → Int → Int → Prop, (∀ (a109 : List (Bool)) (k110 : Int) (i111 : Int), ((i111 < (a109.length : Int) → (0 ≤ i111 ∧ i111 < (a109.length : Int)) ∧ X108 (a109.set (i111).toNat (decide ((Int.tmod k110 (3 : Int)) = (0 : Int)))) (IntKind.i64.wrap (k110 + (1 : Int))) (IntKind.i64.wrap (i111 + (1 : Int)))) ∧ (¬(i111 < (a109.length : Int)) → K (k110) (a109))) → X108 a109 k110 i111) → X108 (l0) (a1) (0 : Int)
end Go.Proofs.Ytpeijfnfffogeaa.G

namespace Go.Proofs.Ytpeijfnfffogeaa.G
open Go Go.Ab
set_option maxRecDepth 100000
set_option linter.unusedVariables false
set_option linter.unusedSimpArgs false
set_option maxHeartbeats 1000000
def laws_markCoded.wp (a0 : Int) (a1 : Int) (l2 : List (Bool)) (a3 : Int) (K : Int → (List (Bool)) → Prop) : Prop := laws_markBoolS.wp l2 a3 fun y105 y106 => K (y105) (y106)
end Go.Proofs.Ytpeijfnfffogeaa.G

namespace Go.Proofs.Ytpeijfnfffogeaa.G
open Go Go.Ab
set_option maxRecDepth 100000
set_option linter.unusedVariables false
set_option linter.unusedSimpArgs false
set_option maxHeartbeats 1000000
def laws_markScheme.wp (l0 : List (Nat)) (a1 : Nat) (a2 : Int) (K : Int → (List (Nat)) → Prop) : Prop := laws_markFloat32S.wp l0 a2 fun y105 y106 => K (y105) (y106)
end Go.Proofs.Ytpeijfnfffogeaa.G

namespace Go.Proofs.Ytpeijfnfffogeaa.G
open Go Go.Ab
set_option maxRecDepth 100000
set_option linter.unusedVariables false
set_option linter.unusedSimpArgs false
set_option maxHeartbeats 1000000
def laws_markDesk.wp (l0 : List (Nat)) (l1 : List (Nat)) (a2 : Nat) (a3 : Int) (a4 : Int) (l5 : List (Nat)) (a6 : Int) (a7 : Int) (l8 : List (Bool)) (a9 : Int) (K : Int → (List (Nat)) → (List (Nat)) → (List (Nat)) → (List (Bool)) → Prop) : Prop := laws_markFloat32S.wp l0 a9 fun y108 y109 => laws_markScheme.wp l1 a2 y108 fun y111 y112 => laws_markPicture.wp a3 a4 l5 y111 fun y114 y115 => laws_markCoded.wp a6 a7 l8 y114 fun y117 y118 => K (y117) (y109) (y112) (y115) (y118)
end Go.Proofs.Ytpeijfnfffogeaa.G

namespace Go.Proofs.Ytpeijfnfffogeaa.G
open Go Go.Ab
set_option maxRecDepth 100000
set_option linter.unusedVariables false
set_option linter.unusedSimpArgs false
set_option maxHeartbeats 1000000
def laws_heldFloat32S.wp (l0 : List (Nat)) (a1 : Int) (K : Int → Prop) : Prop := ∀ X101 : Int → Int → Prop, (∀ (k102 : Int) (i103 : Int), ((i103 < (l0.length : Int) → (0 ≤ i103 ∧ i103 < (l0.length : Int)) ∧ (((fcmp .neq .f32 (l0.getD (i103).toNat (0 : Nat)) (itof .f32 k102)) = true → K (-1 : Int)) ∧ ((fcmp .neq .f32 (l0.getD (i103).toNat (0 : Nat)) (itof .f32 k102)) = false → X101 (IntKind.i64.wrap (k102 + (1 : Int))) (IntKind.i64.wrap (i103 + (1 : Int)))))) ∧ (¬(i103 < (l0.length : Int)) → K (k102))) → X101 k102 i103) → X101 (a1) (0 : Int)
end Go.Proofs.Ytpeijfnfffogeaa.G

namespace Go.Proofs.Ytpeijfnfffogeaa.G
open Go Go.Ab
set_option maxRecDepth 100000
set_option linter.unusedVariables false
set_option linter.unusedSimpArgs false
set_option maxHeartbeats 1000000
def laws_heldScheme.wp (l0 : List (Nat)) (a1 : Nat) (a2 : Int) (K : Int → Prop) : Prop := laws_heldFloat32S.wp l0 a2 fun y104 => ((y104 < (0 : Int) → K (-1 : Int)) ∧ (¬(y104 < (0 : Int)) → K (y104)))
end Go.Proofs.Ytpeijfnfffogeaa.G

namespace Go.Proofs.Ytpeijfnfffogeaa.G
open Go Go.Ab
set_option maxRecDepth 100000
set_option linter.unusedVariables false
set_option linter.unusedSimpArgs false
set_option maxHeartbeats 1000000
def laws_heldPicture.wp (a0 : Int) (a1 : Int) (l2 : List (Nat)) (a3 : Int) (K : Int → Prop) : Prop := laws_heldFloat32S.wp l2 a3 fun y104 => ((y104 < (0 : Int) → K (-1 : Int)) ∧ (¬(y104 < (0 : Int)) → K (y104)))
end Go.Proofs.Ytpeijfnfffogeaa.G

namespace Go.Proofs.Ytpeijfnfffogeaa.G
open Go Go.Ab
set_option maxRecDepth 100000
set_option linter.unusedVariables false
set_option linter.unusedSimpArgs false
set_option maxHeartbeats 1000000
def laws_heldBoolS.wp (l0 : List (Bool)) (a1 : Int) (K : Int → Prop) : Prop := ∀ X101 : Int → Int → Prop, (∀ (k102 : Int) (i103 : Int), ((i103 < (l0.length : Int) → (0 ≤ i103 ∧ i103 < (l0.length : Int)) ∧ ((((l0.getD (i103).toNat false) == (decide ((Int.tmod k102 (3 : Int)) = (0 : Int)))) = true → X101 (IntKind.i64.wrap (k102 + (1 : Int))) (IntKind.i64.wrap (i103 + (1 : Int)))) ∧ (((l0.getD (i103).toNat false) == (decide ((Int.tmod k102 (3 : Int)) = (0 : Int)))) = false → K (-1 : Int)))) ∧ (¬(i103 < (l0.length : Int)) → K (k102))) → X101 k102 i103) → X101 (a1) (0 : Int)
end Go.Proofs.Ytpeijfnfffogeaa.G

namespace Go.Proofs.Ytpeijfnfffogeaa.G
open Go Go.Ab
set_option maxRecDepth 100000
set_option linter.unusedVariables false
set_option linter.unusedSimpArgs false
set_option maxHeartbeats 1000000
def laws_heldCoded.wp (a0 : Int) (a1 : Int) (l2 : List (Bool)) (a3 : Int) (K : Int → Prop) : Prop := laws_heldBoolS.wp l2 a3 fun y104 => ((y104 < (0 : Int) → K (-1 : Int)) ∧ (¬(y104 < (0 : Int)) → K (y104)))
end Go.Proofs.Ytpeijfnfffogeaa.G

namespace Go.Proofs.Ytpeijfnfffogeaa.G
open Go Go.Ab
set_option maxRecDepth 100000
set_option linter.unusedVariables false
set_option linter.unusedSimpArgs false
set_option maxHeartbeats 1000000
def laws_heldDesk.wp (l0 : List (Nat)) (l1 : List (Nat)) (a2 : Nat) (a3 : Int) (a4 : Int) (l5 : List (Nat)) (a6 : Int) (a7 : Int) (l8 : List (Bool)) (a9 : Int) (K : Int → Prop) : Prop := laws_heldFloat32S.wp l0 a9 fun y104 => ((y104 < (0 : Int) → K (-1 : Int)) ∧ (¬(y104 < (0 : Int)) → laws_heldScheme.wp l1 a2 y104 fun y107 => ((y107 < (0 : Int) → K (-1 : Int)) ∧ (¬(y107 < (0 : Int)) → laws_heldPicture.wp a3 a4 l5 y107 fun y110 => ((y110 < (0 : Int) → K (-1 : Int)) ∧ (¬(y110 < (0 : Int)) → laws_heldCoded.wp a6 a7 l8 y110 fun y113 => ((y113 < (0 : Int) → K (-1 : Int)) ∧ (¬(y113 < (0 : Int)) → K (y113)))))))))
end Go.Proofs.Ytpeijfnfffogeaa.G

namespace Go.Proofs.Ytpeijfnfffogeaa.G
open Go Go.Ab
set_option maxRecDepth 100000
set_option linter.unusedVariables false
set_option linter.unusedSimpArgs false
set_option maxHeartbeats 1000000
def laws_FnExactNewDesk.wp  (K : Bool → Prop) : Prop := spec_NewDesk.wp  fun y101 y104 y107 y108 y109 y110 y113 y114 y115 => impl_NewDesk.wp  fun y123 y126 y129 y130 y131 y132 y135 y136 y137 => laws_eqDesk.wp y123 y126 y129 y130 y131 y132 y135 y136 y137 y101 y104 y107 y108 y109 y110 y113 y114 y115 fun y145 => ((y145 = true → laws_markDesk.wp y123 y126 y129 y130 y131 y132 y135 y136 y137 (1 : Int) fun y148 y149 y150 y151 y152 => laws_heldDesk.wp y149 y150 y129 y130 y131 y151 y135 y136 y152 (1 : Int) fun y154 => ((y154 < (0 : Int) → K (false)) ∧ (¬(y154 < (0 : Int)) → ((y154 = y148 → impl_NewDesk.wp  fun y158 y161 y164 y165 y166 y167 y170 y171 y172 => laws_eqDesk.wp y158 y161 y164 y165 y166 y167 y170 y171 y172 y101 y104 y107 y108 y109 y110 y113 y114 y115 fun y180 => ((y180 = true → laws_heldDesk.wp y149 y150 y129 y130 y131 y151 y135 y136 y152 (1 : Int) fun y183 => ((y183 < (0 : Int) → K (false)) ∧ (¬(y183 < (0 : Int)) → ((y183 = y148 → K (true)) ∧ (¬(y183 = y148) → K (false)))))) ∧ (y180 = false → K (false)))) ∧ (¬(y154 = y148) → K (false)))))) ∧ (y145 = false → K (false)))
end Go.Proofs.Ytpeijfnfffogeaa.G

namespace Go.Proofs.Ytpeijfnfffogeaa.G
open Go Go.Ab
set_option maxRecDepth 100000
set_option linter.unusedVariables false
set_option linter.unusedSimpArgs false
set_option maxHeartbeats 1000000
def laws_eqInt64S.wp (l0 : List (Int)) (l1 : List (Int)) (K : Bool → Prop) : Prop := (((l0.length : Int) = (l1.length : Int) → ∀ X102 : Int → Prop, (∀ (i103 : Int), ((i103 < (l0.length : Int) → (0 ≤ i103 ∧ i103 < (l0.length : Int)) ∧ (0 ≤ i103 ∧ i103 < (l1.length : Int)) ∧ (((l0.getD (i103).toNat (0 : Int)) = (l1.getD (i103).toNat (0 : Int)) → X102 (IntKind.i64.wrap (i103 + (1 : Int)))) ∧ (¬((l0.getD (i103).toNat (0 : Int)) = (l1.getD (i103).toNat (0 : Int))) → K (false)))) ∧ (¬(i103 < (l0.length : Int)) → K (true))) → X102 i103) → X102 (0 : Int)) ∧ (¬((l0.length : Int) = (l1.length : Int)) → K (false)))
end Go.Proofs.Ytpeijfnfffogeaa.G

namespace Go.Proofs.Ytpeijfnfffogeaa.G
open Go Go.Ab
set_option maxRecDepth 100000
set_option linter.unusedVariables false
set_option linter.unusedSimpArgs false
set_option maxHeartbeats 1000000
def laws_markInt64S.wp (l0 : List (Int)) (a1 : Int) (K : Int → (List (Int)) → Prop) : Prop := ∀ X108 : List (Int) → Int → Int → Prop, (∀ (a109 : List (Int)) (k110 : Int) (i111 : Int), ((i111 < (a109.length : Int) → (0 ≤ i111 ∧ i111 < (a109.length : Int)) ∧ X108 (a109.set (i111).toNat k110) (IntKind.i64.wrap (k110 + (1 : Int))) (IntKind.i64.wrap (i111 + (1 : Int)))) ∧ (¬(i111 < (a109.length : Int)) → K (k110) (a109))) → X108 a109 k110 i111) → X108 (l0) (a1) (0 : Int)
end Go.Proofs.Ytpeijfnfffogeaa.G

namespace Go.Proofs.Ytpeijfnfffogeaa.G
open Go Go.Ab
set_option maxRecDepth 100000
set_option linter.unusedVariables false
set_option linter.unusedSimpArgs false
set_option maxHeartbeats 1000000
def laws_heldInt64S.wp (l0 : List (Int)) (a1 : Int) (K : Int → Prop) : Prop := ∀ X101 : Int → Int → Prop, (∀ (k102 : Int) (i103 : Int), ((i103 < (l0.length : Int) → (0 ≤ i103 ∧ i103 < (l0.length : Int)) ∧ (((l0.getD (i103).toNat (0 : Int)) = k102 → X101 (IntKind.i64.wrap (k102 + (1 : Int))) (IntKind.i64.wrap (i103 + (1 : Int)))) ∧ (¬((l0.getD (i103).toNat (0 : Int)) = k102) → K (-1 : Int)))) ∧ (¬(i103 < (l0.length : Int)) → K (k102))) → X101 k102 i103) → X101 (a1) (0 : Int)
end Go.Proofs.Ytpeijfnfffogeaa.G

namespace Go.Proofs.Ytpeijfnfffogeaa.G
open Go Go.Ab
set_option maxRecDepth 100000
set_option linter.unusedVariables false
set_option linter.unusedSimpArgs false
set_option maxHeartbeats 1000000
def laws_toFloat32S.wp (l0 : List (Nat)) (K : (List (Nat)) → Prop) : Prop := (0 ≤ (l0.length : Int) ∧ (l0.length : Int) ≤ (l0.length : Int) ∧ (l0.length : Int) ≤ 2 ^ 40 ∧ (l0.length : Int) * 4 ≤ 2 ^ 40) ∧ ∀ X111 : List (Nat) → Int → Prop, (∀ (out112 : List (Nat)) (i113 : Int), ((i113 < (l0.length : Int) → (0 ≤ i113 ∧ i113 < (l0.length : Int)) ∧ (0 ≤ i113 ∧ i113 < (out112.length : Int)) ∧ X111 (out112.set (i113).toNat (l0.getD (i113).toNat (0 : Nat))) (IntKind.i64.wrap (i113 + (1 : Int)))) ∧ (¬(i113 < (l0.length : Int)) → K (out112))) → X111 out112 i113) → X111 (List.replicate ((l0.length : Int)).toNat (0 : Nat)) (0 : Int)
end Go.Proofs.Ytpeijfnfffogeaa.G

namespace Go.Proofs.Ytpeijfnfffogeaa.G
open Go Go.Ab
set_option maxRecDepth 100000
set_option linter.unusedVariables false
set_option linter.unusedSimpArgs false
set_option maxHeartbeats 1000000
def laws_toBoolS.wp (l0 : List (Bool)) (K : (List (Bool)) → Prop) : Prop := (0 ≤ (l0.length : Int) ∧ (l0.length : Int) ≤ (l0.length : Int) ∧ (l0.length : Int) ≤ 2 ^ 40 ∧ (l0.length : Int) * 1 ≤ 2 ^ 40) ∧ ∀ X111 : List (Bool) → Int → Prop, (∀ (out112 : List (Bool)) (i113 : Int), ((i113 < (l0.length : Int) → (0 ≤ i113 ∧ i113 < (l0.length : Int)) ∧ (0 ≤ i113 ∧ i113 < (out112.length : Int)) ∧ X111 (out112.set (i113).toNat (l0.getD (i113).toNat false)) (IntKind.i64.wrap (i113 + (1 : Int)))) ∧ (¬(i113 < (l0.length : Int)) → K (out112))) → X111 out112 i113) → X111 (List.replicate ((l0.length : Int)).toNat false) (0 : Int)
end Go.Proofs.Ytpeijfnfffogeaa.G

namespace Go.Proofs.Ytpeijfnfffogeaa.G
open Go Go.Ab
set_option maxRecDepth 100000
set_option linter.unusedVariables false
set_option linter.unusedSimpArgs false
set_option maxHeartbeats 1000000
def laws_toInt64S.wp (l0 : List (Int)) (K : (List (Int)) → Prop) : Prop := (0 ≤ (l0.length : Int) ∧ (l0.length : Int) ≤ (l0.length : Int) ∧ (l0.length : Int) ≤ 2 ^ 40 ∧ (l0.length : Int) * 8 ≤ 2 ^ 40) ∧ ∀ X111 : List (Int) → Int → Prop, (∀ (out112 : List (Int)) (i113 : Int), ((i113 < (l0.length : Int) → (0 ≤ i113 ∧ i113 < (l0.length : Int)) ∧ (0 ≤ i113 ∧ i113 < (out112.length : Int)) ∧ X111 (out112.set (i113).toNat (l0.getD (i113).toNat (0 : Int))) (IntKind.i64.wrap (i113 + (1 : Int)))) ∧ (¬(i113 < (l0.length : Int)) → K (out112))) → X111 out112 i113) → X111 (List.replicate ((l0.length : Int)).toNat (0 : Int)) (0 : Int)
end Go.Proofs.Ytpeijfnfffogeaa.G

namespace Go.Proofs.Ytpeijfnfffogeaa.G
open Go Go.Ab
set_option maxRecDepth 100000
set_option linter.unusedVariables false
set_option linter.unusedSimpArgs false
set_option maxHeartbeats 1000000
def spec_l01Finite.wp (a0 : Nat) (K : Bool → Prop) : Prop := K (fcmp .eql .f32 (fop .sub .f32 a0 a0) (cz .f32 0))
end Go.Proofs.Ytpeijfnfffogeaa.G

namespace Go.Proofs.Ytpeijfnfffogeaa.G
open Go Go.Ab
set_option maxRecDepth 100000
set_option linter.unusedVariables false
set_option linter.unusedSimpArgs false
set_option maxHeartbeats 1000000
def spec_l02Least.wp (a0 : Nat) (K : Bool → Prop) : Prop := spec_l01Finite.wp a0 fun y101 => ((y101 = true → K (fcmp .geq .f32 a0 (cz .f32 0))) ∧ (y101 = false → K (false)))
end Go.Proofs.Ytpeijfnfffogeaa.G

namespace Go.Proofs.Ytpeijfnfffogeaa.G
open Go Go.Ab
set_option maxRecDepth 100000
set_option linter.unusedVariables false
set_option linter.unusedSimpArgs false
set_option maxHeartbeats 1000000
def spec_l02Share.wp (a0 : Nat) (K : Bool → Prop) : Prop := (((fcmp .geq .f32 a0 (cz .f32 0)) = true → K (fcmp .leq .f32 a0 (cz .f32 1065353216))) ∧ ((fcmp .geq .f32 a0 (cz .f32 0)) = false → K (false)))
end Go.Proofs.Ytpeijfnfffogeaa.G

namespace Go.Proofs.Ytpeijfnfffogeaa.G
open Go Go.Ab
set_option maxRecDepth 100000
set_option linter.unusedVariables false
set_option linter.unusedSimpArgs false
set_option maxHeartbeats 1000000
def spec_l02Finite.wp (l0 : List (Nat)) (K : Bool → Prop) : Prop := ∀ X101 : Int → Prop, (∀ (i102 : Int), ((i102 < (l0.length : Int) → (0 ≤ i102 ∧ i102 < (l0.length : Int)) ∧ spec_l01Finite.wp (l0.getD (i102).toNat (0 : Nat)) fun y105 => ((y105 = true → X101 (IntKind.i64.wrap (i102 + (1 : Int)))) ∧ (y105 = false → K (false)))) ∧ (¬(i102 < (l0.length : Int)) → K (true))) → X101 i102) → X101 (0 : Int)
end Go.Proofs.Ytpeijfnfffogeaa.G

namespace Go.Proofs.Ytpeijfnfffogeaa.G
open Go Go.Ab
set_option maxRecDepth 100000
set_option linter.unusedVariables false
set_option linter.unusedSimpArgs false
set_option maxHeartbeats 1000000
def impl_isLeast.wp (a0 : Nat) (K : Bool → Prop) : Prop := impl_IsFinite.wp a0 fun y101 => ((y101 = true → K (fcmp .geq .f32 a0 (cz .f32 0))) ∧ (y101 = false → K (false)))
end Go.Proofs.Ytpeijfnfffogeaa.G

namespace Go.Proofs.Ytpeijfnfffogeaa.G
open Go Go.Ab
set_option maxRecDepth 100000
set_option linter.unusedVariables false
set_option linter.unusedSimpArgs false
set_option maxHeartbeats 1000000
def impl_isShare.wp (a0 : Nat) (K : Bool → Prop) : Prop := (((fcmp .geq .f32 a0 (cz .f32 0)) = true → K (fcmp .leq .f32 a0 (cz .f32 1065353216))) ∧ ((fcmp .geq .f32 a0 (cz .f32 0)) = false → K (false)))
end Go.Proofs.Ytpeijfnfffogeaa.G

namespace Go.Proofs.Ytpeijfnfffogeaa.G
open Go Go.Ab
set_option maxRecDepth 100000
set_option linter.unusedVariables false
set_option linter.unusedSimpArgs false
set_option maxHeartbeats 1000000
def impl_finiteList.wp (l0 : List (Nat)) (K : Bool → Bool → Prop) : Prop := impl_areFinite.wp ([l0] : List (List (Nat))) fun y104 => ((y104 = true → K (true) (true)) ∧ (y104 = false → K (false) (false)))
end Go.Proofs.Ytpeijfnfffogeaa.G

namespace Go.Proofs.Ytpeijfnfffogeaa.G
open Go Go.Ab
set_option maxRecDepth 100000
set_option linter.unusedVariables false
set_option linter.unusedSimpArgs false
set_option maxHeartbeats 1000000
def spec_l00In.wp (a0 : Int) (a1 : Int) (a2 : Int) (K : Bool → Prop) : Prop := ((a1 ≤ a0 → K (decide (a0 ≤ a2))) ∧ (¬(a1 ≤ a0) → K (false)))
end Go.Proofs.Ytpeijfnfffogeaa.G

namespace Go.Proofs.Ytpeijfnfffogeaa.G
open Go Go.Ab
set_option maxRecDepth 100000
set_option linter.unusedVariables false
set_option linter.unusedSimpArgs false
set_option maxHeartbeats 1000000
def spec_l02Bound.wp (l0 : List (Int)) (a1 : Int) (K : Bool → Prop) : Prop := ∀ X101 : Int → Prop, (∀ (i102 : Int), ((i102 < (l0.length : Int) → (0 ≤ i102 ∧ i102 < (l0.length : Int)) ∧ spec_l00In.wp (l0.getD (i102).toNat (0 : Int)) (IntKind.i64.wrap (0 - a1)) a1 fun y105 => ((y105 = true → X101 (IntKind.i64.wrap (i102 + (1 : Int)))) ∧ (y105 = false → K (false)))) ∧ (¬(i102 < (l0.length : Int)) → K (true))) → X101 i102) → X101 (0 : Int)
end Go.Proofs.Ytpeijfnfffogeaa.G

namespace Go.Proofs.Ytpeijfnfffogeaa.G
open Go Go.Ab
set_option maxRecDepth 100000
set_option linter.unusedVariables false
set_option linter.unusedSimpArgs false
set_option maxHeartbeats 1000000
def spec_l02Integers.wp (l0 : List (Int)) (K : Bool → Prop) : Prop := (((1 : Int) ≤ (l0.length : Int) → (((l0.length : Int) ≤ (128 : Int) → spec_l02Bound.wp l0 (1000000 : Int) fun y103 => K (y103)) ∧ (¬((l0.length : Int) ≤ (128 : Int)) → K (false)))) ∧ (¬((1 : Int) ≤ (l0.length : Int)) → K (false)))
end Go.Proofs.Ytpeijfnfffogeaa.G

namespace Go.Proofs.Ytpeijfnfffogeaa.G
open Go Go.Ab
set_option maxRecDepth 100000
set_option linter.unusedVariables false
set_option linter.unusedSimpArgs false
set_option maxHeartbeats 1000000
def spec_l02Is.wp (l0 : List (Nat)) (K : Bool → Prop) : Prop := (((1 : Int) ≤ (l0.length : Int) → (((l0.length : Int) ≤ (128 : Int) → spec_l02Finite.wp l0 fun y103 => K (y103)) ∧ (¬((l0.length : Int) ≤ (128 : Int)) → K (false)))) ∧ (¬((1 : Int) ≤ (l0.length : Int)) → K (false)))
end Go.Proofs.Ytpeijfnfffogeaa.G

namespace Go.Proofs.Ytpeijfnfffogeaa.G
open Go Go.Ab
set_option maxRecDepth 100000
set_option linter.unusedVariables false
set_option linter.unusedSimpArgs false
set_option maxHeartbeats 1000000
def spec_l02Above.wp (a0 : Nat) (K : Bool → Prop) : Prop := spec_l01Finite.wp a0 fun y101 => ((y101 = true → K (fcmp .gtr .f32 a0 (cz .f32 0))) ∧ (y101 = false → K (false)))
end Go.Proofs.Ytpeijfnfffogeaa.G

namespace Go.Proofs.Ytpeijfnfffogeaa.G
open Go Go.Ab
set_option maxRecDepth 100000
set_option linter.unusedVariables false
set_option linter.unusedSimpArgs false
set_option maxHeartbeats 1000000
def spec_l02List.wp (l0 : List (Nat)) (K : Bool → Bool → Prop) : Prop := spec_l02Finite.wp l0 fun y101 => ((y101 = true → K (true) (true)) ∧ (y101 = false → K (false) (false)))
end Go.Proofs.Ytpeijfnfffogeaa.G

namespace Go.Proofs.Ytpeijfnfffogeaa.G
open Go Go.Ab
set_option maxRecDepth 100000
set_option linter.unusedVariables false
set_option linter.unusedSimpArgs false
set_option maxHeartbeats 1000000
def impl_IsList.wp (l0 : List (Nat)) (K : Bool → Prop) : Prop := impl_within.wp (l0.length : Int) (1 : Int) (128 : Int) fun y101 => ((y101 = true → impl_areFinite.wp ([l0] : List (List (Nat))) fun y107 => K (y107)) ∧ (y101 = false → K (false)))
end Go.Proofs.Ytpeijfnfffogeaa.G

namespace Go.Proofs.Ytpeijfnfffogeaa.G
open Go Go.Ab
set_option maxRecDepth 100000
set_option linter.unusedVariables false
set_option linter.unusedSimpArgs false
set_option maxHeartbeats 1000000
def impl_isOver.wp (a0 : Nat) (K : Bool → Prop) : Prop := impl_IsFinite.wp a0 fun y101 => ((y101 = true → K (fcmp .gtr .f32 a0 (cz .f32 0))) ∧ (y101 = false → K (false)))
end Go.Proofs.Ytpeijfnfffogeaa.G

namespace Go.Proofs.Ytpeijfnfffogeaa.G
open Go Go.Ab
set_option maxRecDepth 100000
set_option linter.unusedVariables false
set_option linter.unusedSimpArgs false
set_option maxHeartbeats 1000000
def math_Float32bits.wp (x : Nat) (K : Int → Prop) : Prop := (num .f32 x = true) ∧ K (x : Int)
end Go.Proofs.Ytpeijfnfffogeaa.G

namespace Go.Proofs.Ytpeijfnfffogeaa.G
open Go Go.Ab
set_option maxRecDepth 100000
set_option linter.unusedVariables false
set_option linter.unusedSimpArgs false
set_option maxHeartbeats 1000000
def impl_BitsOf.wp (a0 : Nat) (K : Int → Prop) : Prop := (((fcmp .neq .f32 a0 a0) = true → K (2143289344 : Int)) ∧ ((fcmp .neq .f32 a0 a0) = false → math_Float32bits.wp a0 fun y102 => K (IntKind.i64.wrap y102)))
end Go.Proofs.Ytpeijfnfffogeaa.G

namespace Go.Proofs.Ytpeijfnfffogeaa.G
open Go Go.Ab
set_option maxRecDepth 100000
set_option linter.unusedVariables false
set_option linter.unusedSimpArgs false
set_option maxHeartbeats 1000000
def impl_packed.wp (l0 : List (Nat)) (K : (List UInt8) → Prop) : Prop := ∀ X151 : List (Int) → Int → Int → Prop, (∀ (out152 : List (Int)) (last154 : Int) (x155 : Int), ((x155 < (l0.length : Int) → (0 ≤ x155 ∧ x155 < (l0.length : Int)) ∧ impl_BitsOf.wp (l0.getD (x155).toNat (0 : Nat)) fun y158 => ∀ X160 : Int → Int → Prop, (∀ (z161 : Int) (m162 : Int), (((0 : Int) < m162 → X160 (IntKind.i64.wrap (z161 - (1 : Int))) (Int.fdiv m162 (2 ^ (min ((8 : Int)).toNat IntKind.i64.bits)))) ∧ (¬((0 : Int) < m162) → ((out152.length + ([(IntKind.u8.wrap z161)] : List (Int)).length) * 1 ≤ 2 ^ 40) ∧ ∀ X182 : List (Int) → Int → Int → Prop, (∀ (out183 : List (Int)) (more185 : Int) (x186 : Int), ((x186 < (IntKind.i64.wrap ((4 : Int) - z161)) → ((out183.length + ([(IntKind.u8.wrap more185)] : List (Int)).length) * 1 ≤ 2 ^ 40) ∧ X182 (out183 ++ ([(IntKind.u8.wrap more185)] : List (Int))) (Int.fdiv more185 (2 ^ (min ((8 : Int)).toNat IntKind.i64.bits))) (IntKind.i64.wrap (x186 + (1 : Int)))) ∧ (¬(x186 < (IntKind.i64.wrap ((4 : Int) - z161))) → X151 (out183) (y158) (IntKind.i64.wrap (x155 + (1 : Int))))) → X182 out183 more185 x186) → X182 (out152 ++ ([(IntKind.u8.wrap z161)] : List (Int))) (ibits .xor .i64 y158 last154) (0 : Int))) → X160 z161 m162) → X160 (4 : Int) (ibits .xor .i64 y158 last154)) ∧ (¬(x155 < (l0.length : Int)) → K (byts out152))) → X151 out152 last154 x155) → X151 ([] : List (Int)) (0 : Int) (0 : Int)
end Go.Proofs.Ytpeijfnfffogeaa.G

namespace Go.Proofs.Ytpeijfnfffogeaa.G
open Go Go.Ab
set_option maxRecDepth 100000
set_option linter.unusedVariables false
set_option linter.unusedSimpArgs false
set_option maxHeartbeats 1000000
def spec_l01Bits.wp (a0 : Nat) (K : Int → Prop) : Prop := (((fcmp .neq .f32 a0 a0) = true → K (2143289344 : Int)) ∧ ((fcmp .neq .f32 a0 a0) = false → math_Float32bits.wp a0 fun y102 => K (IntKind.i64.wrap y102)))
end Go.Proofs.Ytpeijfnfffogeaa.G

namespace Go.Proofs.Ytpeijfnfffogeaa.G
open Go Go.Ab
set_option maxRecDepth 100000
set_option linter.unusedVariables false
set_option linter.unusedSimpArgs false
set_option maxHeartbeats 1000000
def spec_l07Pack.wp (l0 : List (Nat)) (K : (List UInt8) → Prop) : Prop := ∀ X218 : List (Int) → Int → Int → Prop, (∀ (out219 : List (Int)) (before221 : Int) (x222 : Int), ((x222 < (l0.length : Int) → (0 ≤ x222 ∧ x222 < (l0.length : Int)) ∧ spec_l01Bits.wp (l0.getD (x222).toNat (0 : Nat)) fun y225 => ∀ X227 : Int → Int → Prop, (∀ (z228 : Int) (scale229 : Int), ((z228 < (4 : Int) → (scale229 ≠ 0) ∧ (((IntKind.i64.wrap (Int.tdiv (ibits .xor .i64 y225 before221) scale229)) = (0 : Int) → ((scale229 = (1 : Int) → ((out219.length + ([(IntKind.u8.wrap (IntKind.i64.wrap (z228 + (1 : Int))))] : List (Int)).length) * 1 ≤ 2 ^ 40) ∧ ∀ X252 : List (Int) → Int → Int → Prop, (∀ (out253 : List (Int)) (x255 : Int) (k256 : Int), ((k256 < (4 : Int) → ((out253.length + ([(IntKind.u8.wrap (Int.tmod x255 (256 : Int)))] : List (Int)).length) * 1 ≤ 2 ^ 40) ∧ X252 (out253 ++ ([(IntKind.u8.wrap (Int.tmod x255 (256 : Int)))] : List (Int))) (IntKind.i64.wrap (Int.tdiv x255 (256 : Int))) (IntKind.i64.wrap (k256 + (1 : Int)))) ∧ (¬(k256 < (4 : Int)) → X218 (out253) (y225) (IntKind.i64.wrap (x222 + (1 : Int))))) → X252 out253 x255 k256) → X252 (out219 ++ ([(IntKind.u8.wrap (IntKind.i64.wrap (z228 + (1 : Int))))] : List (Int))) (ibits .xor .i64 y225 before221) (IntKind.i64.wrap (z228 + (1 : Int)))) ∧ (¬(scale229 = (1 : Int)) → X227 (IntKind.i64.wrap (z228 + (1 : Int))) (IntKind.i64.wrap (Int.tdiv scale229 (256 : Int)))))) ∧ (¬((IntKind.i64.wrap (Int.tdiv (ibits .xor .i64 y225 before221) scale229)) = (0 : Int)) → ((out219.length + ([(IntKind.u8.wrap z228)] : List (Int)).length) * 1 ≤ 2 ^ 40) ∧ ∀ X284 : List (Int) → Int → Int → Prop, (∀ (out285 : List (Int)) (x287 : Int) (k288 : Int), ((k288 < (4 : Int) → ((out285.length + ([(IntKind.u8.wrap (Int.tmod x287 (256 : Int)))] : List (Int)).length) * 1 ≤ 2 ^ 40) ∧ X284 (out285 ++ ([(IntKind.u8.wrap (Int.tmod x287 (256 : Int)))] : List (Int))) (IntKind.i64.wrap (Int.tdiv x287 (256 : Int))) (IntKind.i64.wrap (k288 + (1 : Int)))) ∧ (¬(k288 < (4 : Int)) → X218 (out285) (y225) (IntKind.i64.wrap (x222 + (1 : Int))))) → X284 out285 x287 k288) → X284 (out219 ++ ([(IntKind.u8.wrap z228)] : List (Int))) (ibits .xor .i64 y225 before221) (z228)))) ∧ (¬(z228 < (4 : Int)) → ((out219.length + ([(IntKind.u8.wrap z228)] : List (Int)).length) * 1 ≤ 2 ^ 40) ∧ ∀ X316 : List (Int) → Int → Int → Prop, (∀ (out317 : List (Int)) (x319 : Int) (k320 : Int), ((k320 < (4 : Int) → ((out317.length + ([(IntKind.u8.wrap (Int.tmod x319 (256 : Int)))] : List (Int)).length) * 1 ≤ 2 ^ 40) ∧ X316 (out317 ++ ([(IntKind.u8.wrap (Int.tmod x319 (256 : Int)))] : List (Int))) (IntKind.i64.wrap (Int.tdiv x319 (256 : Int))) (IntKind.i64.wrap (k320 + (1 : Int)))) ∧ (¬(k320 < (4 : Int)) → X218 (out317) (y225) (IntKind.i64.wrap (x222 + (1 : Int))))) → X316 out317 x319 k320) → X316 (out219 ++ ([(IntKind.u8.wrap z228)] : List (Int))) (ibits .xor .i64 y225 before221) (z228))) → X227 z228 scale229) → X227 (0 : Int) (16777216 : Int)) ∧ (¬(x222 < (l0.length : Int)) → K (byts out219))) → X218 out219 before221 x222) → X218 ([] : List (Int)) (0 : Int) (0 : Int)
end Go.Proofs.Ytpeijfnfffogeaa.G

namespace Go.Proofs.Ytpeijfnfffogeaa.G
open Go Go.Ab
set_option maxRecDepth 100000
set_option linter.unusedVariables false
set_option linter.unusedSimpArgs false
set_option maxHeartbeats 1000000
def impl_IsName.wp (a0 : List UInt8) (K : Bool → Prop) : Prop := ∀ X101 : Int → Prop, (∀ (x102 : Int), ((x102 < (a0.length : Int) → (0 ≤ x102 ∧ x102 < (a0.length : Int)) ∧ (((bt a0 x102) < (97 : Int) → K (false)) ∧ (¬((bt a0 x102) < (97 : Int)) → (((122 : Int) < (bt a0 x102) → K (false)) ∧ (¬((122 : Int) < (bt a0 x102)) → X101 (IntKind.i64.wrap (x102 + (1 : Int)))))))) ∧ (¬(x102 < (a0.length : Int)) → (((1 : Int) ≤ (a0.length : Int) → K (decide ((a0.length : Int) ≤ (8 : Int)))) ∧ (¬((1 : Int) ≤ (a0.length : Int)) → K (false))))) → X101 x102) → X101 (0 : Int)
end Go.Proofs.Ytpeijfnfffogeaa.G

namespace Go.Proofs.Ytpeijfnfffogeaa.G
open Go Go.Ab
set_option maxRecDepth 100000
set_option linter.unusedVariables false
set_option linter.unusedSimpArgs false
set_option maxHeartbeats 1000000
def spec_l07Values.wp (l0 : List (Nat)) (K : Bool → Prop) : Prop := (((1 : Int) ≤ (l0.length : Int) → K (decide ((l0.length : Int) ≤ (128 : Int)))) ∧ (¬((1 : Int) ≤ (l0.length : Int)) → K (false)))
end Go.Proofs.Ytpeijfnfffogeaa.G

namespace Go.Proofs.Ytpeijfnfffogeaa.G
open Go Go.Ab
set_option maxRecDepth 100000
set_option linter.unusedVariables false
set_option linter.unusedSimpArgs false
set_option maxHeartbeats 1000000
def spec_l07Name.wp (a0 : List UInt8) (K : Bool → Prop) : Prop := ∀ X101 : Int → Prop, (∀ (i102 : Int), ((i102 < (a0.length : Int) → (0 ≤ i102 ∧ i102 < (a0.length : Int)) ∧ (((bt a0 i102) < (97 : Int) → K (false)) ∧ (¬((bt a0 i102) < (97 : Int)) → (((122 : Int) < (bt a0 i102) → K (false)) ∧ (¬((122 : Int) < (bt a0 i102)) → X101 (IntKind.i64.wrap (i102 + (1 : Int)))))))) ∧ (¬(i102 < (a0.length : Int)) → (((1 : Int) ≤ (a0.length : Int) → K (decide ((a0.length : Int) ≤ (8 : Int)))) ∧ (¬((1 : Int) ≤ (a0.length : Int)) → K (false))))) → X101 i102) → X101 (0 : Int)
end Go.Proofs.Ytpeijfnfffogeaa.G

namespace Go.Proofs.Ytpeijfnfffogeaa.G
open Go Go.Ab
set_option maxRecDepth 100000
set_option linter.unusedVariables false
set_option linter.unusedSimpArgs false
set_option maxHeartbeats 1000000
def spec_l07Take.wp (a0 : List UInt8) (a1 : Int) (l2 : List (Nat)) (K : Bool → Prop) : Prop := spec_l07Name.wp a0 fun y101 => ((y101 = true → spec_l00In.wp a1 (1 : Int) (65535 : Int) fun y104 => ((y104 = true → spec_l07Values.wp l2 fun y107 => K (y107)) ∧ (y104 = false → K (false)))) ∧ (y101 = false → K (false)))
end Go.Proofs.Ytpeijfnfffogeaa.G

namespace Go.Proofs.Ytpeijfnfffogeaa.G
open Go Go.Ab
set_option maxRecDepth 100000
set_option linter.unusedVariables false
set_option linter.unusedSimpArgs false
set_option maxHeartbeats 1000000
def laws_eqTake.wp (a0 : List UInt8) (a1 : Int) (l2 : List (Nat)) (a3 : List UInt8) (a4 : Int) (l5 : List (Nat)) (K : Bool → Prop) : Prop := ((a0 = a3 → ((a1 = a4 → laws_eqFloat32S.wp l2 l5 fun y109 => ((y109 = true → K (true)) ∧ (y109 = false → K (false)))) ∧ (¬(a1 = a4) → K (false)))) ∧ (¬(a0 = a3) → K (false)))
end Go.Proofs.Ytpeijfnfffogeaa.G

namespace Go.Proofs.Ytpeijfnfffogeaa.G
open Go Go.Ab
set_option maxRecDepth 100000
set_option linter.unusedVariables false
set_option linter.unusedSimpArgs false
set_option maxHeartbeats 1000000
def impl_ValidTake.wp (a0 : List UInt8) (a1 : Int) (l2 : List (Nat)) (K : Bool → Prop) : Prop := impl_IsName.wp a0 fun y104 => ((y104 = true → impl_within.wp a1 (1 : Int) (65535 : Int) fun y107 => ((y107 = true → impl_within.wp (l2.length : Int) (1 : Int) (128 : Int) fun y110 => K (y110)) ∧ (y107 = false → K (false)))) ∧ (y104 = false → K (false)))
end Go.Proofs.Ytpeijfnfffogeaa.G

namespace Go.Proofs.Ytpeijfnfffogeaa.G
open Go Go.Ab
set_option maxRecDepth 100000
set_option linter.unusedVariables false
set_option linter.unusedSimpArgs false
set_option maxHeartbeats 1000000
def laws_szFloat32S.wp (l0 : List (Nat)) (a1 : Int) (K : Int → Prop) : Prop := (((IntKind.i64.wrap (a1 - (l0.length : Int))) < (0 : Int) → K (-1 : Int)) ∧ (¬((IntKind.i64.wrap (a1 - (l0.length : Int))) < (0 : Int)) → K (IntKind.i64.wrap (a1 - (l0.length : Int)))))
end Go.Proofs.Ytpeijfnfffogeaa.G

namespace Go.Proofs.Ytpeijfnfffogeaa.G
open Go Go.Ab
set_option maxRecDepth 100000
set_option linter.unusedVariables false
set_option linter.unusedSimpArgs false
set_option maxHeartbeats 1000000
def laws_szBoolS.wp (l0 : List (Bool)) (a1 : Int) (K : Int → Prop) : Prop := (((IntKind.i64.wrap (a1 - (l0.length : Int))) < (0 : Int) → K (-1 : Int)) ∧ (¬((IntKind.i64.wrap (a1 - (l0.length : Int))) < (0 : Int)) → K (IntKind.i64.wrap (a1 - (l0.length : Int)))))
end Go.Proofs.Ytpeijfnfffogeaa.G

namespace Go.Proofs.Ytpeijfnfffogeaa.G
open Go Go.Ab
set_option maxRecDepth 100000
set_option linter.unusedVariables false
set_option linter.unusedSimpArgs false
set_option maxHeartbeats 1000000
def spec_l02Scheme.wp (l0 : List (Nat)) (a1 : Nat) (K : Bool → Prop) : Prop := (((1 : Int) ≤ (l0.length : Int) → (((l0.length : Int) ≤ (8 : Int) → spec_l02Finite.wp l0 fun y103 => ((y103 = true → spec_l02Above.wp a1 fun y106 => K (y106)) ∧ (y103 = false → K (false)))) ∧ (¬((l0.length : Int) ≤ (8 : Int)) → K (false)))) ∧ (¬((1 : Int) ≤ (l0.length : Int)) → K (false)))
end Go.Proofs.Ytpeijfnfffogeaa.G

namespace Go.Proofs.Ytpeijfnfffogeaa.G
open Go Go.Ab
set_option maxRecDepth 100000
set_option linter.unusedVariables false
set_option linter.unusedSimpArgs false
set_option maxHeartbeats 1000000
def impl_ValidScheme.wp (l0 : List (Nat)) (a1 : Nat) (K : Bool → Prop) : Prop := impl_within.wp (l0.length : Int) (1 : Int) (8 : Int) fun y104 => ((y104 = true → impl_areFinite.wp ([l0] : List (List (Nat))) fun y110 => ((y110 = true → impl_isOver.wp a1 fun y113 => K (y113)) ∧ (y110 = false → K (false)))) ∧ (y104 = false → K (false)))
end Go.Proofs.Ytpeijfnfffogeaa.G

namespace Go.Proofs.Ytpeijfnfffogeaa.G
open Go Go.Ab
set_option maxRecDepth 100000
set_option linter.unusedVariables false
set_option linter.unusedSimpArgs false
set_option maxHeartbeats 1000000
def laws_szScheme.wp (l0 : List (Nat)) (a1 : Nat) (a2 : Int) (K : Int → Prop) : Prop := laws_szFloat32S.wp l0 a2 fun y104 => ((y104 < (0 : Int) → K (-1 : Int)) ∧ (¬(y104 < (0 : Int)) → K (y104)))
end Go.Proofs.Ytpeijfnfffogeaa.G

namespace Go.Proofs.Ytpeijfnfffogeaa.G
open Go Go.Ab
set_option maxRecDepth 100000
set_option linter.unusedVariables false
set_option linter.unusedSimpArgs false
set_option maxHeartbeats 1000000
def laws_szPicture.wp (a0 : Int) (a1 : Int) (l2 : List (Nat)) (a3 : Int) (K : Int → Prop) : Prop := laws_szFloat32S.wp l2 a3 fun y104 => ((y104 < (0 : Int) → K (-1 : Int)) ∧ (¬(y104 < (0 : Int)) → K (y104)))
end Go.Proofs.Ytpeijfnfffogeaa.G

namespace Go.Proofs.Ytpeijfnfffogeaa.G
open Go Go.Ab
set_option maxRecDepth 100000
set_option linter.unusedVariables false
set_option linter.unusedSimpArgs false
set_option maxHeartbeats 1000000
def laws_szCoded.wp (a0 : Int) (a1 : Int) (l2 : List (Bool)) (a3 : Int) (K : Int → Prop) : Prop := laws_szBoolS.wp l2 a3 fun y104 => ((y104 < (0 : Int) → K (-1 : Int)) ∧ (¬(y104 < (0 : Int)) → K (y104)))
end Go.Proofs.Ytpeijfnfffogeaa.G

namespace Go.Proofs.Ytpeijfnfffogeaa.G
open Go Go.Ab
set_option maxRecDepth 100000
set_option linter.unusedVariables false
set_option linter.unusedSimpArgs false
set_option maxHeartbeats 1000000
def laws_szDesk.wp (l0 : List (Nat)) (l1 : List (Nat)) (a2 : Nat) (a3 : Int) (a4 : Int) (l5 : List (Nat)) (a6 : Int) (a7 : Int) (l8 : List (Bool)) (a9 : Int) (K : Int → Prop) : Prop := laws_szFloat32S.wp l0 a9 fun y104 => ((y104 < (0 : Int) → K (-1 : Int)) ∧ (¬(y104 < (0 : Int)) → laws_szScheme.wp l1 a2 y104 fun y107 => ((y107 < (0 : Int) → K (-1 : Int)) ∧ (¬(y107 < (0 : Int)) → laws_szPicture.wp a3 a4 l5 y107 fun y110 => ((y110 < (0 : Int) → K (-1 : Int)) ∧ (¬(y110 < (0 : Int)) → laws_szCoded.wp a6 a7 l8 y110 fun y113 => ((y113 < (0 : Int) → K (-1 : Int)) ∧ (¬(y113 < (0 : Int)) → K (y113)))))))))
end Go.Proofs.Ytpeijfnfffogeaa.G

namespace Go.Proofs.Ytpeijfnfffogeaa.G
open Go Go.Ab
set_option maxRecDepth 100000
set_option linter.unusedVariables false
set_option linter.unusedSimpArgs false
set_option maxHeartbeats 1000000
def laws_toScheme.wp (l0 : List (Nat)) (a1 : Nat) (K : (List (Nat)) → Nat → Prop) : Prop := laws_toFloat32S.wp l0 fun y110 => K (y110) (a1)
end Go.Proofs.Ytpeijfnfffogeaa.G

namespace Go.Proofs.Ytpeijfnfffogeaa.G
open Go Go.Ab
set_option maxRecDepth 100000
set_option linter.unusedVariables false
set_option linter.unusedSimpArgs false
set_option maxHeartbeats 1000000
def laws_toPicture.wp (a0 : Int) (a1 : Int) (l2 : List (Nat)) (K : Int → Int → (List (Nat)) → Prop) : Prop := laws_toFloat32S.wp l2 fun y112 => K (a0) (a1) (y112)
end Go.Proofs.Ytpeijfnfffogeaa.G

namespace Go.Proofs.Ytpeijfnfffogeaa.G
open Go Go.Ab
set_option maxRecDepth 100000
set_option linter.unusedVariables false
set_option linter.unusedSimpArgs false
set_option maxHeartbeats 1000000
def laws_toCoded.wp (a0 : Int) (a1 : Int) (l2 : List (Bool)) (K : Int → Int → (List (Bool)) → Prop) : Prop := laws_toBoolS.wp l2 fun y112 => K (a0) (a1) (y112)
end Go.Proofs.Ytpeijfnfffogeaa.G

namespace Go.Proofs.Ytpeijfnfffogeaa.G
open Go Go.Ab
set_option maxRecDepth 100000
set_option linter.unusedVariables false
set_option linter.unusedSimpArgs false
set_option maxHeartbeats 1000000
def laws_toDesk.wp (l0 : List (Nat)) (l1 : List (Nat)) (a2 : Nat) (a3 : Int) (a4 : Int) (l5 : List (Nat)) (a6 : Int) (a7 : Int) (l8 : List (Bool)) (K : (List (Nat)) → (List (Nat)) → Nat → Int → Int → (List (Nat)) → Int → Int → (List (Bool)) → Prop) : Prop := laws_toFloat32S.wp l0 fun y110 => laws_toScheme.wp l1 a2 fun y115 y118 => laws_toPicture.wp a3 a4 l5 fun y121 y122 y123 => laws_toCoded.wp a6 a7 l8 fun y128 y129 y130 => K (y110) (y115) (y118) (y121) (y122) (y123) (y128) (y129) (y130)
end Go.Proofs.Ytpeijfnfffogeaa.G

