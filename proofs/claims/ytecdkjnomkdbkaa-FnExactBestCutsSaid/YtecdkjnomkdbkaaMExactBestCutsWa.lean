/-
  What the functions compute, as formulas over numbers and lists. Printed by a program of the session; nothing here is trusted.
-/
import Derived.Test.YtecdkjnomkdbkaaAbG
namespace Go.Proofs.Ytecdkjnomkdbkaa.G
open Go Go.Ab
set_option maxRecDepth 100000
set_option linter.unusedVariables false
set_option linter.unusedSimpArgs false
set_option maxHeartbeats 1000000
def IR_LeFlt_f32_o : Inn (List (Nat)) := fun x c => Pc.osl (c.getD 0 .und) 1 (enc (eFlt .f32) x)
def IR_LeInt_i64_o : Inn (List (Int)) := fun x c => Pc.osl (c.getD 0 .und) 1 (enc (eInt .i64) x)
def IR_LePair_eBool_ePair_eFlt_f32_eInt_i64_o : Inn (List ((Bool) × (Nat) × (Int))) := fun x c => Pc.osl (c.getD 0 .und) 3 (enc (ePair eBool (ePair (eFlt .f32) (eInt .i64))) x)
def IR_LePair_eInt_i64_eFlt_f32_o : Inn (List ((Int) × (Nat))) := fun x c => Pc.osl (c.getD 0 .und) 2 (enc (ePair (eInt .i64) (eFlt .f32)) x)
def R_LeFlt_f32_o (H : Heap) (x : List (Nat)) (c : List AV) : Prop := c = [(c.getD 0 .und)] ∧ Shows H (c.getD 0 .und) 1 (enc (eFlt .f32) x)
def R_LeInt_i64_o (H : Heap) (x : List (Int)) (c : List AV) : Prop := c = [(c.getD 0 .und)] ∧ Shows H (c.getD 0 .und) 1 (enc (eInt .i64) x)
def R_LePair_eBool_ePair_eFlt_f32_eInt_i64_o (H : Heap) (x : List ((Bool) × (Nat) × (Int))) (c : List AV) : Prop := c = [(c.getD 0 .und)] ∧ Shows H (c.getD 0 .und) 3 (enc (ePair eBool (ePair (eFlt .f32) (eInt .i64))) x)
def R_LePair_eInt_i64_eFlt_f32_o (H : Heap) (x : List ((Int) × (Nat))) (c : List AV) : Prop := c = [(c.getD 0 .und)] ∧ Shows H (c.getD 0 .und) 2 (enc (ePair (eInt .i64) (eFlt .f32)) x)
end Go.Proofs.Ytecdkjnomkdbkaa.G

namespace Go.Proofs.Ytecdkjnomkdbkaa.G
open Go Go.Ab
set_option maxRecDepth 100000
set_option linter.unusedVariables false
set_option linter.unusedSimpArgs false
set_option maxHeartbeats 1000000
def laws_sameFloat.wp (a0 : Nat) (a1 : Nat) (K : Bool → Prop) : Prop := (((fcmp .neq .f64 a0 a0) = true → K (fcmp .neq .f64 a1 a1)) ∧ ((fcmp .neq .f64 a0 a0) = false → (((fcmp .neq .f64 a1 a1) = true → K (false)) ∧ ((fcmp .neq .f64 a1 a1) = false → (((fcmp .eql .f64 a0 (cz .f64 0)) = true → (((fcmp .eql .f64 a1 (cz .f64 0)) = true → K ((fcmp .gtr .f64 (fop .quo .f64 (cz .f64 4607182418800017408) a0) (cz .f64 0)) == (fcmp .gtr .f64 (fop .quo .f64 (cz .f64 4607182418800017408) a1) (cz .f64 0)))) ∧ ((fcmp .eql .f64 a1 (cz .f64 0)) = false → K (fcmp .eql .f64 a0 a1)))) ∧ ((fcmp .eql .f64 a0 (cz .f64 0)) = false → K (fcmp .eql .f64 a0 a1)))))))
end Go.Proofs.Ytecdkjnomkdbkaa.G

namespace Go.Proofs.Ytecdkjnomkdbkaa.G
open Go Go.Ab
set_option maxRecDepth 100000
set_option linter.unusedVariables false
set_option linter.unusedSimpArgs false
set_option maxHeartbeats 1000000
def laws_eqInt64S.wp (l0 : List (Int)) (l1 : List (Int)) (K : Bool → Prop) : Prop := (((l0.length : Int) = (l1.length : Int) → ∀ X102 : Int → Prop, (∀ (i103 : Int), ((i103 < (l0.length : Int) → (0 ≤ i103 ∧ i103 < (l0.length : Int)) ∧ (0 ≤ i103 ∧ i103 < (l1.length : Int)) ∧ (((l0.getD (i103).toNat (0 : Int)) = (l1.getD (i103).toNat (0 : Int)) → X102 (IntKind.i64.wrap (i103 + (1 : Int)))) ∧ (¬((l0.getD (i103).toNat (0 : Int)) = (l1.getD (i103).toNat (0 : Int))) → K (false)))) ∧ (¬(i103 < (l0.length : Int)) → K (true))) → X102 i103) → X102 (0 : Int)) ∧ (¬((l0.length : Int) = (l1.length : Int)) → K (false)))
end Go.Proofs.Ytecdkjnomkdbkaa.G

namespace Go.Proofs.Ytecdkjnomkdbkaa.G
open Go Go.Ab
set_option maxRecDepth 100000
set_option linter.unusedVariables false
set_option linter.unusedSimpArgs false
set_option maxHeartbeats 1000000
def laws_szCostS.wp (l0 : List ((Int) × (Nat))) (a1 : Int) (K : Int → Prop) : Prop := (((IntKind.i64.wrap (a1 - (l0.length : Int))) < (0 : Int) → K (-1 : Int)) ∧ (¬((IntKind.i64.wrap (a1 - (l0.length : Int))) < (0 : Int)) → K (IntKind.i64.wrap (a1 - (l0.length : Int)))))
end Go.Proofs.Ytecdkjnomkdbkaa.G

namespace Go.Proofs.Ytecdkjnomkdbkaa.G
open Go Go.Ab
set_option maxRecDepth 100000
set_option linter.unusedVariables false
set_option linter.unusedSimpArgs false
set_option maxHeartbeats 1000000
def laws_szCostSS.wp (l0 : List (List ((Int) × (Nat)))) (a1 : Int) (K : Int → Prop) : Prop := (((IntKind.i64.wrap (a1 - (l0.length : Int))) < (0 : Int) → K (-1 : Int)) ∧ (¬((IntKind.i64.wrap (a1 - (l0.length : Int))) < (0 : Int)) → ∀ X102 : Int → Int → Prop, (∀ (left103 : Int) (i104 : Int), ((i104 < (l0.length : Int) → (0 ≤ i104 ∧ i104 < (l0.length : Int)) ∧ laws_szCostS.wp (l0.getD (i104).toNat ([] : List ((Int) × (Nat)))) left103 fun y107 => ((y107 < (0 : Int) → K (-1 : Int)) ∧ (¬(y107 < (0 : Int)) → X102 (y107) (IntKind.i64.wrap (i104 + (1 : Int)))))) ∧ (¬(i104 < (l0.length : Int)) → K (left103))) → X102 left103 i104) → X102 (IntKind.i64.wrap (a1 - (l0.length : Int))) (0 : Int)))
end Go.Proofs.Ytecdkjnomkdbkaa.G

namespace Go.Proofs.Ytecdkjnomkdbkaa.G
open Go Go.Ab
set_option maxRecDepth 100000
set_option linter.unusedVariables false
set_option linter.unusedSimpArgs false
set_option maxHeartbeats 1000000
def spec_l00In.wp (a0 : Int) (a1 : Int) (a2 : Int) (K : Bool → Prop) : Prop := ((a1 ≤ a0 → K (decide (a0 ≤ a2))) ∧ (¬(a1 ≤ a0) → K (false)))
end Go.Proofs.Ytecdkjnomkdbkaa.G

namespace Go.Proofs.Ytecdkjnomkdbkaa.G
open Go Go.Ab
set_option maxRecDepth 100000
set_option linter.unusedVariables false
set_option linter.unusedSimpArgs false
set_option maxHeartbeats 1000000
def spec_l01Finite.wp (a0 : Nat) (K : Bool → Prop) : Prop := K (fcmp .eql .f32 (fop .sub .f32 a0 a0) (cz .f32 0))
end Go.Proofs.Ytecdkjnomkdbkaa.G

namespace Go.Proofs.Ytecdkjnomkdbkaa.G
open Go Go.Ab
set_option maxRecDepth 100000
set_option linter.unusedVariables false
set_option linter.unusedSimpArgs false
set_option maxHeartbeats 1000000
def spec_l02Least.wp (a0 : Nat) (K : Bool → Prop) : Prop := spec_l01Finite.wp a0 fun y101 => ((y101 = true → K (fcmp .geq .f32 a0 (cz .f32 0))) ∧ (y101 = false → K (false)))
end Go.Proofs.Ytecdkjnomkdbkaa.G

namespace Go.Proofs.Ytecdkjnomkdbkaa.G
open Go Go.Ab
set_option maxRecDepth 100000
set_option linter.unusedVariables false
set_option linter.unusedSimpArgs false
set_option maxHeartbeats 1000000
def spec_l07Costs.wp (l0 : List ((Int) × (Nat))) (K : Bool → Prop) : Prop := (((l0.length : Int) < (1 : Int) → K (false)) ∧ (¬((l0.length : Int) < (1 : Int)) → (((16 : Int) < (l0.length : Int) → K (false)) ∧ (¬((16 : Int) < (l0.length : Int)) → ∀ X103 : Int → Prop, (∀ (x104 : Int), ((x104 < (l0.length : Int) → (0 ≤ x104 ∧ x104 < (l0.length : Int)) ∧ spec_l00In.wp (l0.getD (x104).toNat ((0 : Int), (0 : Nat))).1 (0 : Int) (512 : Int) fun y107 => ((y107 = true → spec_l02Least.wp (l0.getD (x104).toNat ((0 : Int), (0 : Nat))).2 fun y110 => ((y110 = true → (((0 : Int) < x104 → (0 ≤ (IntKind.i64.wrap (x104 - (1 : Int))) ∧ (IntKind.i64.wrap (x104 - (1 : Int))) < (l0.length : Int)) ∧ (((l0.getD (x104).toNat ((0 : Int), (0 : Nat))).1 ≤ (l0.getD ((IntKind.i64.wrap (x104 - (1 : Int)))).toNat ((0 : Int), (0 : Nat))).1 → K (false)) ∧ (¬((l0.getD (x104).toNat ((0 : Int), (0 : Nat))).1 ≤ (l0.getD ((IntKind.i64.wrap (x104 - (1 : Int)))).toNat ((0 : Int), (0 : Nat))).1) → (((fcmp .geq .f32 (l0.getD (x104).toNat ((0 : Int), (0 : Nat))).2 (l0.getD ((IntKind.i64.wrap (x104 - (1 : Int)))).toNat ((0 : Int), (0 : Nat))).2) = true → K (false)) ∧ ((fcmp .geq .f32 (l0.getD (x104).toNat ((0 : Int), (0 : Nat))).2 (l0.getD ((IntKind.i64.wrap (x104 - (1 : Int)))).toNat ((0 : Int), (0 : Nat))).2) = false → X103 (IntKind.i64.wrap (x104 + (1 : Int)))))))) ∧ (¬((0 : Int) < x104) → X103 (IntKind.i64.wrap (x104 + (1 : Int)))))) ∧ (y110 = false → K (false)))) ∧ (y107 = false → K (false)))) ∧ (¬(x104 < (l0.length : Int)) → K (true))) → X103 x104) → X103 (0 : Int)))))
end Go.Proofs.Ytecdkjnomkdbkaa.G

namespace Go.Proofs.Ytecdkjnomkdbkaa.G
open Go Go.Ab
set_option maxRecDepth 100000
set_option linter.unusedVariables false
set_option linter.unusedSimpArgs false
set_option maxHeartbeats 1000000
def spec_l07Blocks.wp (l0 : List (List ((Int) × (Nat)))) (K : Bool → Prop) : Prop := (((l0.length : Int) < (1 : Int) → K (false)) ∧ (¬((l0.length : Int) < (1 : Int)) → (((8 : Int) < (l0.length : Int) → K (false)) ∧ (¬((8 : Int) < (l0.length : Int)) → ∀ X103 : Int → Prop, (∀ (x104 : Int), ((x104 < (l0.length : Int) → (0 ≤ x104 ∧ x104 < (l0.length : Int)) ∧ spec_l07Costs.wp (l0.getD (x104).toNat ([] : List ((Int) × (Nat)))) fun y107 => ((y107 = true → X103 (IntKind.i64.wrap (x104 + (1 : Int)))) ∧ (y107 = false → K (false)))) ∧ (¬(x104 < (l0.length : Int)) → K (true))) → X103 x104) → X103 (0 : Int)))))
end Go.Proofs.Ytecdkjnomkdbkaa.G

namespace Go.Proofs.Ytecdkjnomkdbkaa.G
open Go Go.Ab
set_option maxRecDepth 100000
set_option linter.unusedVariables false
set_option linter.unusedSimpArgs false
set_option maxHeartbeats 1000000
def spec_BestCuts.wp (l0 : List (List ((Int) × (Nat)))) (a1 : Int) (K : (List (Int)) → Nat → Bool → Prop) : Prop := spec_l07Blocks.wp l0 fun y101 => ((y101 = true → spec_l00In.wp a1 (0 : Int) (512 : Int) fun y104 => ((y104 = true → (0 ≤ (IntKind.i64.wrap (a1 + (1 : Int))) ∧ (IntKind.i64.wrap (a1 + (1 : Int))) ≤ (IntKind.i64.wrap (a1 + (1 : Int))) ∧ (IntKind.i64.wrap (a1 + (1 : Int))) ≤ 2 ^ 40 ∧ (IntKind.i64.wrap (a1 + (1 : Int))) * 4 ≤ 2 ^ 40) ∧ (0 ≤ (IntKind.i64.wrap (a1 + (1 : Int))) ∧ (IntKind.i64.wrap (a1 + (1 : Int))) ≤ (IntKind.i64.wrap (a1 + (1 : Int))) ∧ (IntKind.i64.wrap (a1 + (1 : Int))) ≤ 2 ^ 40 ∧ (IntKind.i64.wrap (a1 + (1 : Int))) * 1 ≤ 2 ^ 40) ∧ ∀ X485 : List (Bool) → Int → Prop, (∀ (can486 : List (Bool)) (x487 : Int), ((x487 < ((List.replicate ((IntKind.i64.wrap (a1 + (1 : Int)))).toNat false).length : Int) → (0 ≤ x487 ∧ x487 < (can486.length : Int)) ∧ X485 (can486.set (x487).toNat true) (IntKind.i64.wrap (x487 + (1 : Int)))) ∧ (¬(x487 < ((List.replicate ((IntKind.i64.wrap (a1 + (1 : Int)))).toNat false).length : Int)) → ∀ X675 : List (List (Int)) → List (Bool) → List (Nat) → Int → Prop, (∀ (choices676 : List (List (Int))) (can680 : List (Bool)) (sums682 : List (Nat)) (x684 : Int), ((x684 < (l0.length : Int) → (0 ≤ (IntKind.i64.wrap (a1 + (1 : Int))) ∧ (IntKind.i64.wrap (a1 + (1 : Int))) ≤ (IntKind.i64.wrap (a1 + (1 : Int))) ∧ (IntKind.i64.wrap (a1 + (1 : Int))) ≤ 2 ^ 40 ∧ (IntKind.i64.wrap (a1 + (1 : Int))) * 8 ≤ 2 ^ 40) ∧ ∀ X755 : List (Int) → List (Bool) → List (Nat) → Int → Prop, (∀ (choice756 : List (Int)) (have757 : List (Bool)) (next758 : List (Nat)) (b759 : Int), ((b759 ≤ a1 → (0 ≤ x684 ∧ x684 < (l0.length : Int)) ∧ ∀ X783 : List (Int) → List (Bool) → List (Nat) → Int → Prop, (∀ (choice784 : List (Int)) (have785 : List (Bool)) (next786 : List (Nat)) (x787 : Int), ((x787 < ((l0.getD (x684).toNat ([] : List ((Int) × (Nat)))).length : Int) → (0 ≤ x787 ∧ x787 < ((l0.getD (x684).toNat ([] : List ((Int) × (Nat)))).length : Int)) ∧ (((IntKind.i64.wrap (b759 - ((l0.getD (x684).toNat ([] : List ((Int) × (Nat)))).getD (x787).toNat ((0 : Int), (0 : Nat))).1)) < (0 : Int) → X783 (choice784) (have785) (next786) (IntKind.i64.wrap (x787 + (1 : Int)))) ∧ (¬((IntKind.i64.wrap (b759 - ((l0.getD (x684).toNat ([] : List ((Int) × (Nat)))).getD (x787).toNat ((0 : Int), (0 : Nat))).1)) < (0 : Int)) → (0 ≤ (IntKind.i64.wrap (b759 - ((l0.getD (x684).toNat ([] : List ((Int) × (Nat)))).getD (x787).toNat ((0 : Int), (0 : Nat))).1)) ∧ (IntKind.i64.wrap (b759 - ((l0.getD (x684).toNat ([] : List ((Int) × (Nat)))).getD (x787).toNat ((0 : Int), (0 : Nat))).1)) < (can680.length : Int)) ∧ (((can680.getD ((IntKind.i64.wrap (b759 - ((l0.getD (x684).toNat ([] : List ((Int) × (Nat)))).getD (x787).toNat ((0 : Int), (0 : Nat))).1))).toNat false) = true → (0 ≤ (IntKind.i64.wrap (b759 - ((l0.getD (x684).toNat ([] : List ((Int) × (Nat)))).getD (x787).toNat ((0 : Int), (0 : Nat))).1)) ∧ (IntKind.i64.wrap (b759 - ((l0.getD (x684).toNat ([] : List ((Int) × (Nat)))).getD (x787).toNat ((0 : Int), (0 : Nat))).1)) < (sums682.length : Int)) ∧ (0 ≤ b759 ∧ b759 < (have785.length : Int)) ∧ (((have785.getD (b759).toNat false) = true → (0 ≤ b759 ∧ b759 < (next786.length : Int)) ∧ (((fcmp .lss .f32 (fop .add .f32 (sums682.getD ((IntKind.i64.wrap (b759 - ((l0.getD (x684).toNat ([] : List ((Int) × (Nat)))).getD (x787).toNat ((0 : Int), (0 : Nat))).1))).toNat (0 : Nat)) ((l0.getD (x684).toNat ([] : List ((Int) × (Nat)))).getD (x787).toNat ((0 : Int), (0 : Nat))).2) (next786.getD (b759).toNat (0 : Nat))) = true → (0 ≤ b759 ∧ b759 < (choice784.length : Int)) ∧ X783 (choice784.set (b759).toNat x787) (have785.set (b759).toNat true) (next786.set (b759).toNat (fop .add .f32 (sums682.getD ((IntKind.i64.wrap (b759 - ((l0.getD (x684).toNat ([] : List ((Int) × (Nat)))).getD (x787).toNat ((0 : Int), (0 : Nat))).1))).toNat (0 : Nat)) ((l0.getD (x684).toNat ([] : List ((Int) × (Nat)))).getD (x787).toNat ((0 : Int), (0 : Nat))).2)) (IntKind.i64.wrap (x787 + (1 : Int)))) ∧ ((fcmp .lss .f32 (fop .add .f32 (sums682.getD ((IntKind.i64.wrap (b759 - ((l0.getD (x684).toNat ([] : List ((Int) × (Nat)))).getD (x787).toNat ((0 : Int), (0 : Nat))).1))).toNat (0 : Nat)) ((l0.getD (x684).toNat ([] : List ((Int) × (Nat)))).getD (x787).toNat ((0 : Int), (0 : Nat))).2) (next786.getD (b759).toNat (0 : Nat))) = false → X783 (choice784) (have785) (next786) (IntKind.i64.wrap (x787 + (1 : Int)))))) ∧ ((have785.getD (b759).toNat false) = false → (0 ≤ b759 ∧ b759 < (next786.length : Int)) ∧ (0 ≤ b759 ∧ b759 < (choice784.length : Int)) ∧ X783 (choice784.set (b759).toNat x787) (have785.set (b759).toNat true) (next786.set (b759).toNat (fop .add .f32 (sums682.getD ((IntKind.i64.wrap (b759 - ((l0.getD (x684).toNat ([] : List ((Int) × (Nat)))).getD (x787).toNat ((0 : Int), (0 : Nat))).1))).toNat (0 : Nat)) ((l0.getD (x684).toNat ([] : List ((Int) × (Nat)))).getD (x787).toNat ((0 : Int), (0 : Nat))).2)) (IntKind.i64.wrap (x787 + (1 : Int)))))) ∧ ((can680.getD ((IntKind.i64.wrap (b759 - ((l0.getD (x684).toNat ([] : List ((Int) × (Nat)))).getD (x787).toNat ((0 : Int), (0 : Nat))).1))).toNat false) = false → X783 (choice784) (have785) (next786) (IntKind.i64.wrap (x787 + (1 : Int)))))))) ∧ (¬(x787 < ((l0.getD (x684).toNat ([] : List ((Int) × (Nat)))).length : Int)) → X755 (choice784) (have785) (next786) (IntKind.i64.wrap (b759 + (1 : Int))))) → X783 choice784 have785 next786 x787) → X783 (choice756) (have757) (next758) (0 : Int)) ∧ (¬(b759 ≤ a1) → ((choices676.length + ([choice756] : List (List (Int))).length) * 24 ≤ 2 ^ 40) ∧ X675 (choices676 ++ ([choice756] : List (List (Int)))) (have757) (next758) (IntKind.i64.wrap (x684 + (1 : Int))))) → X755 choice756 have757 next758 b759) → X755 (List.replicate ((IntKind.i64.wrap (a1 + (1 : Int)))).toNat (0 : Int)) (List.replicate ((IntKind.i64.wrap (a1 + (1 : Int)))).toNat false) (List.replicate ((IntKind.i64.wrap (a1 + (1 : Int)))).toNat (0 : Nat)) (0 : Int)) ∧ (¬(x684 < (l0.length : Int)) → (0 ≤ a1 ∧ a1 < (can680.length : Int)) ∧ (((can680.getD (a1).toNat false) = true → (0 ≤ a1 ∧ a1 < (sums682.length : Int)) ∧ spec_l01Finite.wp (sums682.getD (a1).toNat (0 : Nat)) fun y822 => ((y822 = true → (0 ≤ (l0.length : Int) ∧ (l0.length : Int) ≤ (l0.length : Int) ∧ (l0.length : Int) ≤ 2 ^ 40 ∧ (l0.length : Int) * 8 ≤ 2 ^ 40) ∧ ∀ X840 : List (Int) → Int → Int → Prop, (∀ (out841 : List (Int)) (atq842 : Int) (i843 : Int), (((0 : Int) ≤ i843 → (0 ≤ i843 ∧ i843 < (choices676.length : Int)) ∧ (0 ≤ atq842 ∧ atq842 < ((choices676.getD (i843).toNat ([] : List (Int))).length : Int)) ∧ (0 ≤ i843 ∧ i843 < (out841.length : Int)) ∧ (0 ≤ i843 ∧ i843 < (l0.length : Int)) ∧ (0 ≤ i843 ∧ i843 < ((out841.set (i843).toNat ((choices676.getD (i843).toNat ([] : List (Int))).getD (atq842).toNat (0 : Int))).length : Int)) ∧ (0 ≤ ((out841.set (i843).toNat ((choices676.getD (i843).toNat ([] : List (Int))).getD (atq842).toNat (0 : Int))).getD (i843).toNat (0 : Int)) ∧ ((out841.set (i843).toNat ((choices676.getD (i843).toNat ([] : List (Int))).getD (atq842).toNat (0 : Int))).getD (i843).toNat (0 : Int)) < ((l0.getD (i843).toNat ([] : List ((Int) × (Nat)))).length : Int)) ∧ X840 (out841.set (i843).toNat ((choices676.getD (i843).toNat ([] : List (Int))).getD (atq842).toNat (0 : Int))) (IntKind.i64.wrap (atq842 - ((l0.getD (i843).toNat ([] : List ((Int) × (Nat)))).getD (((out841.set (i843).toNat ((choices676.getD (i843).toNat ([] : List (Int))).getD (atq842).toNat (0 : Int))).getD (i843).toNat (0 : Int))).toNat ((0 : Int), (0 : Nat))).1)) (IntKind.i64.wrap (i843 - (1 : Int)))) ∧ (¬((0 : Int) ≤ i843) → K (out841) (sums682.getD (a1).toNat (0 : Nat)) (true))) → X840 out841 atq842 i843) → X840 (List.replicate ((l0.length : Int)).toNat (0 : Int)) (a1) (IntKind.i64.wrap ((l0.length : Int) - (1 : Int)))) ∧ (y822 = false → K ([] : List (Int)) (cz .f32 0) (false)))) ∧ ((can680.getD (a1).toNat false) = false → K ([] : List (Int)) (cz .f32 0) (false))))) → X675 choices676 can680 sums682 x684) → X675 ([] : List (List (Int))) (can486) (List.replicate ((IntKind.i64.wrap (a1 + (1 : Int)))).toNat (0 : Nat)) (0 : Int))) → X485 can486 x487) → X485 (List.replicate ((IntKind.i64.wrap (a1 + (1 : Int)))).toNat false) (0 : Int)) ∧ (y104 = false → K ([] : List (Int)) (cz .f32 0) (false)))) ∧ (y101 = false → K ([] : List (Int)) (cz .f32 0) (false)))
end Go.Proofs.Ytecdkjnomkdbkaa.G

namespace Go.Proofs.Ytecdkjnomkdbkaa.G
open Go Go.Ab
set_option maxRecDepth 100000
set_option linter.unusedVariables false
set_option linter.unusedSimpArgs false
set_option maxHeartbeats 1000000
def laws_toCost.wp (a0 : Int) (a1 : Nat) (K : Int → Nat → Prop) : Prop := K (a0) (a1)
end Go.Proofs.Ytecdkjnomkdbkaa.G

namespace Go.Proofs.Ytecdkjnomkdbkaa.G
open Go Go.Ab
set_option maxRecDepth 100000
set_option linter.unusedVariables false
set_option linter.unusedSimpArgs false
set_option maxHeartbeats 1000000
def laws_toCostS.wp (l0 : List ((Int) × (Nat))) (K : (List ((Int) × (Nat))) → Prop) : Prop := (0 ≤ (l0.length : Int) ∧ (l0.length : Int) ≤ (l0.length : Int) ∧ (l0.length : Int) ≤ 2 ^ 40 ∧ (l0.length : Int) * 16 ≤ 2 ^ 40) ∧ ∀ X114 : List ((Int) × (Nat)) → Int → Prop, (∀ (out115 : List ((Int) × (Nat))) (i116 : Int), ((i116 < (l0.length : Int) → (0 ≤ i116 ∧ i116 < (l0.length : Int)) ∧ laws_toCost.wp (l0.getD (i116).toNat ((0 : Int), (0 : Nat))).1 (l0.getD (i116).toNat ((0 : Int), (0 : Nat))).2 fun y119 y120 => (0 ≤ i116 ∧ i116 < (out115.length : Int)) ∧ X114 (out115.set (i116).toNat (y119, y120)) (IntKind.i64.wrap (i116 + (1 : Int)))) ∧ (¬(i116 < (l0.length : Int)) → K (out115))) → X114 out115 i116) → X114 (List.replicate ((l0.length : Int)).toNat ((0 : Int), (0 : Nat))) (0 : Int)
end Go.Proofs.Ytecdkjnomkdbkaa.G

namespace Go.Proofs.Ytecdkjnomkdbkaa.G
open Go Go.Ab
set_option maxRecDepth 100000
set_option linter.unusedVariables false
set_option linter.unusedSimpArgs false
set_option maxHeartbeats 1000000
def laws_toCostSS.wp (l0 : List (List ((Int) × (Nat)))) (K : (List (List ((Int) × (Nat)))) → Prop) : Prop := (0 ≤ (l0.length : Int) ∧ (l0.length : Int) ≤ (l0.length : Int) ∧ (l0.length : Int) ≤ 2 ^ 40 ∧ (l0.length : Int) * 24 ≤ 2 ^ 40) ∧ ∀ X119 : List (List ((Int) × (Nat))) → Int → Prop, (∀ (out120 : List (List ((Int) × (Nat)))) (i123 : Int), ((i123 < (l0.length : Int) → (0 ≤ i123 ∧ i123 < (l0.length : Int)) ∧ laws_toCostS.wp (l0.getD (i123).toNat ([] : List ((Int) × (Nat)))) fun y126 => (0 ≤ i123 ∧ i123 < (out120.length : Int)) ∧ X119 (out120.set (i123).toNat y126) (IntKind.i64.wrap (i123 + (1 : Int)))) ∧ (¬(i123 < (l0.length : Int)) → K (out120))) → X119 out120 i123) → X119 (List.replicate ((l0.length : Int)).toNat ([] : List ((Int) × (Nat)))) (0 : Int)
end Go.Proofs.Ytecdkjnomkdbkaa.G

namespace Go.Proofs.Ytecdkjnomkdbkaa.G
open Go Go.Ab
set_option maxRecDepth 100000
set_option linter.unusedVariables false
set_option linter.unusedSimpArgs false
set_option maxHeartbeats 1000000
def impl_within.wp (a0 : Int) (a1 : Int) (a2 : Int) (K : Bool → Prop) : Prop := ((a1 ≤ a0 → K (decide (a0 ≤ a2))) ∧ (¬(a1 ≤ a0) → K (false)))
end Go.Proofs.Ytecdkjnomkdbkaa.G

namespace Go.Proofs.Ytecdkjnomkdbkaa.G
open Go Go.Ab
set_option maxRecDepth 100000
set_option linter.unusedVariables false
set_option linter.unusedSimpArgs false
set_option maxHeartbeats 1000000
def impl_IsFinite.wp (a0 : Nat) (K : Bool → Prop) : Prop := K (fcmp .eql .f32 (fop .sub .f32 a0 a0) (cz .f32 0))
end Go.Proofs.Ytecdkjnomkdbkaa.G

namespace Go.Proofs.Ytecdkjnomkdbkaa.G
open Go Go.Ab
set_option maxRecDepth 100000
set_option linter.unusedVariables false
set_option linter.unusedSimpArgs false
set_option maxHeartbeats 1000000
def impl_isLeast.wp (a0 : Nat) (K : Bool → Prop) : Prop := impl_IsFinite.wp a0 fun y101 => ((y101 = true → K (fcmp .geq .f32 a0 (cz .f32 0))) ∧ (y101 = false → K (false)))
end Go.Proofs.Ytecdkjnomkdbkaa.G

namespace Go.Proofs.Ytecdkjnomkdbkaa.G
open Go Go.Ab
set_option maxRecDepth 100000
set_option linter.unusedVariables false
set_option linter.unusedSimpArgs false
set_option maxHeartbeats 1000000
def impl_AreCosts.wp (l0 : List ((Int) × (Nat))) (K : Bool → Prop) : Prop := impl_within.wp (l0.length : Int) (1 : Int) (16 : Int) fun y101 => ((y101 = true → ∀ X104 : Int → Prop, (∀ (x105 : Int), ((x105 < (l0.length : Int) → (0 ≤ x105 ∧ x105 < (l0.length : Int)) ∧ impl_within.wp (l0.getD (x105).toNat ((0 : Int), (0 : Nat))).1 (0 : Int) (512 : Int) fun y112 => ((y112 = true → impl_isLeast.wp (l0.getD (x105).toNat ((0 : Int), (0 : Nat))).2 fun y115 => ((y115 = true → (((0 : Int) < x105 → (0 ≤ (IntKind.i64.wrap (x105 - (1 : Int))) ∧ (IntKind.i64.wrap (x105 - (1 : Int))) < (l0.length : Int)) ∧ (((l0.getD (x105).toNat ((0 : Int), (0 : Nat))).1 ≤ (l0.getD ((IntKind.i64.wrap (x105 - (1 : Int)))).toNat ((0 : Int), (0 : Nat))).1 → K (false)) ∧ (¬((l0.getD (x105).toNat ((0 : Int), (0 : Nat))).1 ≤ (l0.getD ((IntKind.i64.wrap (x105 - (1 : Int)))).toNat ((0 : Int), (0 : Nat))).1) → (((fcmp .geq .f32 (l0.getD (x105).toNat ((0 : Int), (0 : Nat))).2 (l0.getD ((IntKind.i64.wrap (x105 - (1 : Int)))).toNat ((0 : Int), (0 : Nat))).2) = true → K (false)) ∧ ((fcmp .geq .f32 (l0.getD (x105).toNat ((0 : Int), (0 : Nat))).2 (l0.getD ((IntKind.i64.wrap (x105 - (1 : Int)))).toNat ((0 : Int), (0 : Nat))).2) = false → X104 (IntKind.i64.wrap (x105 + (1 : Int)))))))) ∧ (¬((0 : Int) < x105) → X104 (IntKind.i64.wrap (x105 + (1 : Int)))))) ∧ (y115 = false → K (false)))) ∧ (y112 = false → K (false)))) ∧ (¬(x105 < (l0.length : Int)) → K (true))) → X104 x105) → X104 (0 : Int)) ∧ (y101 = false → K (false)))
end Go.Proofs.Ytecdkjnomkdbkaa.G

namespace Go.Proofs.Ytecdkjnomkdbkaa.G
open Go Go.Ab
set_option maxRecDepth 100000
set_option linter.unusedVariables false
set_option linter.unusedSimpArgs false
set_option maxHeartbeats 1000000
def impl_areBlocks.wp (l0 : List (List ((Int) × (Nat)))) (K : Bool → Prop) : Prop := impl_within.wp (l0.length : Int) (1 : Int) (8 : Int) fun y101 => ((y101 = true → ∀ X104 : Int → Prop, (∀ (x105 : Int), ((x105 < (l0.length : Int) → (0 ≤ x105 ∧ x105 < (l0.length : Int)) ∧ impl_AreCosts.wp (l0.getD (x105).toNat ([] : List ((Int) × (Nat)))) fun y108 => ((y108 = true → X104 (IntKind.i64.wrap (x105 + (1 : Int)))) ∧ (y108 = false → K (false)))) ∧ (¬(x105 < (l0.length : Int)) → K (true))) → X104 x105) → X104 (0 : Int)) ∧ (y101 = false → K (false)))
end Go.Proofs.Ytecdkjnomkdbkaa.G

namespace Go.Proofs.Ytecdkjnomkdbkaa.G
open Go Go.Ab
set_option maxRecDepth 100000
set_option linter.unusedVariables false
set_option linter.unusedSimpArgs false
set_option maxHeartbeats 1000000
def impl_BestCuts.wp (l0 : List (List ((Int) × (Nat)))) (a1 : Int) (K : (List (Int)) → Nat → Bool → Prop) : Prop := impl_areBlocks.wp l0 fun y101 => ((y101 = true → impl_within.wp a1 (0 : Int) (512 : Int) fun y104 => ((y104 = true → (0 ≤ (IntKind.i64.wrap (a1 + (1 : Int))) ∧ (IntKind.i64.wrap (a1 + (1 : Int))) ≤ (IntKind.i64.wrap (a1 + (1 : Int))) ∧ (IntKind.i64.wrap (a1 + (1 : Int))) ≤ 2 ^ 40 ∧ (IntKind.i64.wrap (a1 + (1 : Int))) * 16 ≤ 2 ^ 40) ∧ ∀ X451 : List ((Bool) × (Nat) × (Int)) → Int → Prop, (∀ (before452 : List ((Bool) × (Nat) × (Int))) (x453 : Int), ((x453 < ((List.replicate ((IntKind.i64.wrap (a1 + (1 : Int)))).toNat (false, (0 : Nat), (0 : Int))).length : Int) → (0 ≤ x453 ∧ x453 < (before452.length : Int)) ∧ X451 (before452.set (x453).toNat (true, (before452.getD (x453).toNat (false, (0 : Nat), (0 : Int))).2.1, (before452.getD (x453).toNat (false, (0 : Nat), (0 : Int))).2.2)) (IntKind.i64.wrap (x453 + (1 : Int)))) ∧ (¬(x453 < ((List.replicate ((IntKind.i64.wrap (a1 + (1 : Int)))).toNat (false, (0 : Nat), (0 : Int))).length : Int)) → ∀ X654 : List (List ((Bool) × (Nat) × (Int))) → List ((Bool) × (Nat) × (Int)) → Int → Prop, (∀ (table655 : List (List ((Bool) × (Nat) × (Int)))) (before658 : List ((Bool) × (Nat) × (Int))) (x661 : Int), ((x661 < (l0.length : Int) → (0 ≤ x661 ∧ x661 < (l0.length : Int)) ∧ ∀ X711 : List ((Bool) × (Nat) × (Int)) → Int → Prop, (∀ (row712 : List ((Bool) × (Nat) × (Int))) (x713 : Int), ((x713 < ((List.replicate ((IntKind.i64.wrap (a1 + (1 : Int)))).toNat (false, (0 : Nat), (0 : Int))).length : Int) → ∀ X731 : List ((Bool) × (Nat) × (Int)) → Int → Prop, (∀ (row732 : List ((Bool) × (Nat) × (Int))) (x733 : Int), ((x733 < ((l0.getD (x661).toNat ([] : List ((Int) × (Nat)))).length : Int) → (0 ≤ x733 ∧ x733 < ((l0.getD (x661).toNat ([] : List ((Int) × (Nat)))).length : Int)) ∧ ((x713 < ((l0.getD (x661).toNat ([] : List ((Int) × (Nat)))).getD (x733).toNat ((0 : Int), (0 : Nat))).1 → X731 (row732) (IntKind.i64.wrap (x733 + (1 : Int)))) ∧ (¬(x713 < ((l0.getD (x661).toNat ([] : List ((Int) × (Nat)))).getD (x733).toNat ((0 : Int), (0 : Nat))).1) → (0 ≤ (IntKind.i64.wrap (x713 - ((l0.getD (x661).toNat ([] : List ((Int) × (Nat)))).getD (x733).toNat ((0 : Int), (0 : Nat))).1)) ∧ (IntKind.i64.wrap (x713 - ((l0.getD (x661).toNat ([] : List ((Int) × (Nat)))).getD (x733).toNat ((0 : Int), (0 : Nat))).1)) < (before658.length : Int)) ∧ (((before658.getD ((IntKind.i64.wrap (x713 - ((l0.getD (x661).toNat ([] : List ((Int) × (Nat)))).getD (x733).toNat ((0 : Int), (0 : Nat))).1))).toNat (false, (0 : Nat), (0 : Int))).1 = true → (0 ≤ x713 ∧ x713 < (row732.length : Int)) ∧ (((row732.getD (x713).toNat (false, (0 : Nat), (0 : Int))).1 = true → (((fcmp .lss .f32 (fop .add .f32 (before658.getD ((IntKind.i64.wrap (x713 - ((l0.getD (x661).toNat ([] : List ((Int) × (Nat)))).getD (x733).toNat ((0 : Int), (0 : Nat))).1))).toNat (false, (0 : Nat), (0 : Int))).2.1 ((l0.getD (x661).toNat ([] : List ((Int) × (Nat)))).getD (x733).toNat ((0 : Int), (0 : Nat))).2) (row732.getD (x713).toNat (false, (0 : Nat), (0 : Int))).2.1) = true → X731 (row732.set (x713).toNat (true, (fop .add .f32 (before658.getD ((IntKind.i64.wrap (x713 - ((l0.getD (x661).toNat ([] : List ((Int) × (Nat)))).getD (x733).toNat ((0 : Int), (0 : Nat))).1))).toNat (false, (0 : Nat), (0 : Int))).2.1 ((l0.getD (x661).toNat ([] : List ((Int) × (Nat)))).getD (x733).toNat ((0 : Int), (0 : Nat))).2), x733)) (IntKind.i64.wrap (x733 + (1 : Int)))) ∧ ((fcmp .lss .f32 (fop .add .f32 (before658.getD ((IntKind.i64.wrap (x713 - ((l0.getD (x661).toNat ([] : List ((Int) × (Nat)))).getD (x733).toNat ((0 : Int), (0 : Nat))).1))).toNat (false, (0 : Nat), (0 : Int))).2.1 ((l0.getD (x661).toNat ([] : List ((Int) × (Nat)))).getD (x733).toNat ((0 : Int), (0 : Nat))).2) (row732.getD (x713).toNat (false, (0 : Nat), (0 : Int))).2.1) = false → X731 (row732) (IntKind.i64.wrap (x733 + (1 : Int)))))) ∧ ((row732.getD (x713).toNat (false, (0 : Nat), (0 : Int))).1 = false → X731 (row732.set (x713).toNat (true, (fop .add .f32 (before658.getD ((IntKind.i64.wrap (x713 - ((l0.getD (x661).toNat ([] : List ((Int) × (Nat)))).getD (x733).toNat ((0 : Int), (0 : Nat))).1))).toNat (false, (0 : Nat), (0 : Int))).2.1 ((l0.getD (x661).toNat ([] : List ((Int) × (Nat)))).getD (x733).toNat ((0 : Int), (0 : Nat))).2), x733)) (IntKind.i64.wrap (x733 + (1 : Int)))))) ∧ ((before658.getD ((IntKind.i64.wrap (x713 - ((l0.getD (x661).toNat ([] : List ((Int) × (Nat)))).getD (x733).toNat ((0 : Int), (0 : Nat))).1))).toNat (false, (0 : Nat), (0 : Int))).1 = false → X731 (row732) (IntKind.i64.wrap (x733 + (1 : Int)))))))) ∧ (¬(x733 < ((l0.getD (x661).toNat ([] : List ((Int) × (Nat)))).length : Int)) → X711 (row732) (IntKind.i64.wrap (x713 + (1 : Int))))) → X731 row732 x733) → X731 (row712) (0 : Int)) ∧ (¬(x713 < ((List.replicate ((IntKind.i64.wrap (a1 + (1 : Int)))).toNat (false, (0 : Nat), (0 : Int))).length : Int)) → ((table655.length + ([row712] : List (List ((Bool) × (Nat) × (Int)))).length) * 24 ≤ 2 ^ 40) ∧ X654 (table655 ++ ([row712] : List (List ((Bool) × (Nat) × (Int))))) (row712) (IntKind.i64.wrap (x661 + (1 : Int))))) → X711 row712 x713) → X711 (List.replicate ((IntKind.i64.wrap (a1 + (1 : Int)))).toNat (false, (0 : Nat), (0 : Int))) (0 : Int)) ∧ (¬(x661 < (l0.length : Int)) → (0 ≤ a1 ∧ a1 < (before658.length : Int)) ∧ (((before658.getD (a1).toNat (false, (0 : Nat), (0 : Int))).1 = true → impl_IsFinite.wp (before658.getD (a1).toNat (false, (0 : Nat), (0 : Int))).2.1 fun y760 => ((y760 = true → (0 ≤ (l0.length : Int) ∧ (l0.length : Int) ≤ (l0.length : Int) ∧ (l0.length : Int) ≤ 2 ^ 40 ∧ (l0.length : Int) * 8 ≤ 2 ^ 40) ∧ ∀ X777 : List (Int) → Int → Int → Prop, (∀ (out778 : List (Int)) (left779 : Int) (k780 : Int), (((0 : Int) ≤ k780 → (0 ≤ k780 ∧ k780 < (table655.length : Int)) ∧ (0 ≤ left779 ∧ left779 < ((table655.getD (k780).toNat ([] : List ((Bool) × (Nat) × (Int)))).length : Int)) ∧ (0 ≤ k780 ∧ k780 < (out778.length : Int)) ∧ (0 ≤ k780 ∧ k780 < (l0.length : Int)) ∧ (0 ≤ ((table655.getD (k780).toNat ([] : List ((Bool) × (Nat) × (Int)))).getD (left779).toNat (false, (0 : Nat), (0 : Int))).2.2 ∧ ((table655.getD (k780).toNat ([] : List ((Bool) × (Nat) × (Int)))).getD (left779).toNat (false, (0 : Nat), (0 : Int))).2.2 < ((l0.getD (k780).toNat ([] : List ((Int) × (Nat)))).length : Int)) ∧ X777 (out778.set (k780).toNat ((table655.getD (k780).toNat ([] : List ((Bool) × (Nat) × (Int)))).getD (left779).toNat (false, (0 : Nat), (0 : Int))).2.2) (IntKind.i64.wrap (left779 - ((l0.getD (k780).toNat ([] : List ((Int) × (Nat)))).getD (((table655.getD (k780).toNat ([] : List ((Bool) × (Nat) × (Int)))).getD (left779).toNat (false, (0 : Nat), (0 : Int))).2.2).toNat ((0 : Int), (0 : Nat))).1)) (IntKind.i64.wrap (k780 - (1 : Int)))) ∧ (¬((0 : Int) ≤ k780) → K (out778) (before658.getD (a1).toNat (false, (0 : Nat), (0 : Int))).2.1 (true))) → X777 out778 left779 k780) → X777 (List.replicate ((l0.length : Int)).toNat (0 : Int)) (a1) (IntKind.i64.wrap ((l0.length : Int) - (1 : Int)))) ∧ (y760 = false → K ([] : List (Int)) (cz .f32 0) (false)))) ∧ ((before658.getD (a1).toNat (false, (0 : Nat), (0 : Int))).1 = false → K ([] : List (Int)) (cz .f32 0) (false))))) → X654 table655 before658 x661) → X654 ([] : List (List ((Bool) × (Nat) × (Int)))) (before452) (0 : Int))) → X451 before452 x453) → X451 (List.replicate ((IntKind.i64.wrap (a1 + (1 : Int)))).toNat (false, (0 : Nat), (0 : Int))) (0 : Int)) ∧ (y104 = false → K ([] : List (Int)) (cz .f32 0) (false)))) ∧ (y101 = false → K ([] : List (Int)) (cz .f32 0) (false)))
end Go.Proofs.Ytecdkjnomkdbkaa.G

namespace Go.Proofs.Ytecdkjnomkdbkaa.G
open Go Go.Ab
set_option maxRecDepth 100000
set_option linter.unusedVariables false
set_option linter.unusedSimpArgs false
set_option maxHeartbeats 1000000
def laws_eqCost.wp (a0 : Int) (a1 : Nat) (a2 : Int) (a3 : Nat) (K : Bool → Prop) : Prop := ((a0 = a2 → laws_sameFloat.wp (widen a1) (widen a3) fun y108 => ((y108 = true → K (true)) ∧ (y108 = false → K (false)))) ∧ (¬(a0 = a2) → K (false)))
end Go.Proofs.Ytecdkjnomkdbkaa.G

namespace Go.Proofs.Ytecdkjnomkdbkaa.G
open Go Go.Ab
set_option maxRecDepth 100000
set_option linter.unusedVariables false
set_option linter.unusedSimpArgs false
set_option maxHeartbeats 1000000
def laws_eqCostS.wp (l0 : List ((Int) × (Nat))) (l1 : List ((Int) × (Nat))) (K : Bool → Prop) : Prop := (((l0.length : Int) = (l1.length : Int) → ∀ X102 : Int → Prop, (∀ (i103 : Int), ((i103 < (l0.length : Int) → (0 ≤ i103 ∧ i103 < (l0.length : Int)) ∧ (0 ≤ i103 ∧ i103 < (l1.length : Int)) ∧ laws_eqCost.wp (l0.getD (i103).toNat ((0 : Int), (0 : Nat))).1 (l0.getD (i103).toNat ((0 : Int), (0 : Nat))).2 (l1.getD (i103).toNat ((0 : Int), (0 : Nat))).1 (l1.getD (i103).toNat ((0 : Int), (0 : Nat))).2 fun y107 => ((y107 = true → X102 (IntKind.i64.wrap (i103 + (1 : Int)))) ∧ (y107 = false → K (false)))) ∧ (¬(i103 < (l0.length : Int)) → K (true))) → X102 i103) → X102 (0 : Int)) ∧ (¬((l0.length : Int) = (l1.length : Int)) → K (false)))
end Go.Proofs.Ytecdkjnomkdbkaa.G

namespace Go.Proofs.Ytecdkjnomkdbkaa.G
open Go Go.Ab
set_option maxRecDepth 100000
set_option linter.unusedVariables false
set_option linter.unusedSimpArgs false
set_option maxHeartbeats 1000000
def laws_eqCostSS.wp (l0 : List (List ((Int) × (Nat)))) (l1 : List (List ((Int) × (Nat)))) (K : Bool → Prop) : Prop := (((l0.length : Int) = (l1.length : Int) → ∀ X102 : Int → Prop, (∀ (i103 : Int), ((i103 < (l0.length : Int) → (0 ≤ i103 ∧ i103 < (l0.length : Int)) ∧ (0 ≤ i103 ∧ i103 < (l1.length : Int)) ∧ laws_eqCostS.wp (l0.getD (i103).toNat ([] : List ((Int) × (Nat)))) (l1.getD (i103).toNat ([] : List ((Int) × (Nat)))) fun y107 => ((y107 = true → X102 (IntKind.i64.wrap (i103 + (1 : Int)))) ∧ (y107 = false → K (false)))) ∧ (¬(i103 < (l0.length : Int)) → K (true))) → X102 i103) → X102 (0 : Int)) ∧ (¬((l0.length : Int) = (l1.length : Int)) → K (false)))
end Go.Proofs.Ytecdkjnomkdbkaa.G

namespace Go.Proofs.Ytecdkjnomkdbkaa.G
open Go Go.Ab
set_option maxRecDepth 100000
set_option linter.unusedVariables false
set_option linter.unusedSimpArgs false
set_option maxHeartbeats 1000000
def laws_markCostS.wp (l0 : List ((Int) × (Nat))) (a1 : Int) (K : Int → (List ((Int) × (Nat))) → Prop) : Prop := ∀ X110 : List ((Int) × (Nat)) → Int → Int → Prop, (∀ (a111 : List ((Int) × (Nat))) (k112 : Int) (i113 : Int), ((i113 < (a111.length : Int) → (0 ≤ i113 ∧ i113 < (a111.length : Int)) ∧ (0 ≤ i113 ∧ i113 < ((a111.set (i113).toNat (k112, (a111.getD (i113).toNat ((0 : Int), (0 : Nat))).2)).length : Int)) ∧ X110 ((a111.set (i113).toNat (k112, (a111.getD (i113).toNat ((0 : Int), (0 : Nat))).2)).set (i113).toNat (((a111.set (i113).toNat (k112, (a111.getD (i113).toNat ((0 : Int), (0 : Nat))).2)).getD (i113).toNat ((0 : Int), (0 : Nat))).1, (itof .f32 (IntKind.i64.wrap (k112 + (1 : Int)))))) (IntKind.i64.wrap ((IntKind.i64.wrap (k112 + (1 : Int))) + (1 : Int))) (IntKind.i64.wrap (i113 + (1 : Int)))) ∧ (¬(i113 < (a111.length : Int)) → K (k112) (a111))) → X110 a111 k112 i113) → X110 (l0) (a1) (0 : Int)
end Go.Proofs.Ytecdkjnomkdbkaa.G

namespace Go.Proofs.Ytecdkjnomkdbkaa.G
open Go Go.Ab
set_option maxRecDepth 100000
set_option linter.unusedVariables false
set_option linter.unusedSimpArgs false
set_option maxHeartbeats 1000000
def laws_markCostSS.wp (l0 : List (List ((Int) × (Nat)))) (a1 : Int) (K : Int → (List (List ((Int) × (Nat)))) → Prop) : Prop := ∀ X112 : List (List ((Int) × (Nat))) → Int → Int → Prop, (∀ (a113 : List (List ((Int) × (Nat)))) (k116 : Int) (i117 : Int), ((i117 < (a113.length : Int) → (0 ≤ i117 ∧ i117 < (a113.length : Int)) ∧ laws_markCostS.wp (a113.getD (i117).toNat ([] : List ((Int) × (Nat)))) k116 fun y122 y123 => X112 (a113.set (i117).toNat y123) (y122) (IntKind.i64.wrap (i117 + (1 : Int)))) ∧ (¬(i117 < (a113.length : Int)) → K (k116) (a113))) → X112 a113 k116 i117) → X112 (l0) (a1) (0 : Int)
end Go.Proofs.Ytecdkjnomkdbkaa.G

namespace Go.Proofs.Ytecdkjnomkdbkaa.G
open Go Go.Ab
set_option maxRecDepth 100000
set_option linter.unusedVariables false
set_option linter.unusedSimpArgs false
set_option maxHeartbeats 1000000
def laws_markInt64S.wp (l0 : List (Int)) (a1 : Int) (K : Int → (List (Int)) → Prop) : Prop := ∀ X108 : List (Int) → Int → Int → Prop, (∀ (a109 : List (Int)) (k110 : Int) (i111 : Int), ((i111 < (a109.length : Int) → (0 ≤ i111 ∧ i111 < (a109.length : Int)) ∧ X108 (a109.set (i111).toNat k110) (IntKind.i64.wrap (k110 + (1 : Int))) (IntKind.i64.wrap (i111 + (1 : Int)))) ∧ (¬(i111 < (a109.length : Int)) → K (k110) (a109))) → X108 a109 k110 i111) → X108 (l0) (a1) (0 : Int)
end Go.Proofs.Ytecdkjnomkdbkaa.G

namespace Go.Proofs.Ytecdkjnomkdbkaa.G
open Go Go.Ab
set_option maxRecDepth 100000
set_option linter.unusedVariables false
set_option linter.unusedSimpArgs false
set_option maxHeartbeats 1000000
def laws_heldInt64S.wp (l0 : List (Int)) (a1 : Int) (K : Int → Prop) : Prop := ∀ X101 : Int → Int → Prop, (∀ (k102 : Int) (i103 : Int), ((i103 < (l0.length : Int) → (0 ≤ i103 ∧ i103 < (l0.length : Int)) ∧ (((l0.getD (i103).toNat (0 : Int)) = k102 → X101 (IntKind.i64.wrap (k102 + (1 : Int))) (IntKind.i64.wrap (i103 + (1 : Int)))) ∧ (¬((l0.getD (i103).toNat (0 : Int)) = k102) → K (-1 : Int)))) ∧ (¬(i103 < (l0.length : Int)) → K (k102))) → X101 k102 i103) → X101 (a1) (0 : Int)
end Go.Proofs.Ytecdkjnomkdbkaa.G

namespace Go.Proofs.Ytecdkjnomkdbkaa.G
open Go Go.Ab
set_option maxRecDepth 100000
set_option linter.unusedVariables false
set_option linter.unusedSimpArgs false
set_option maxHeartbeats 1000000
def laws_FnExactBestCuts.wp (l0 : List (List ((Int) × (Nat)))) (a1 : Int) (K : Bool → Prop) : Prop := laws_szCostSS.wp l0 (1048576 : Int) fun y101 => ((y101 < (0 : Int) → K (true)) ∧ (¬(y101 < (0 : Int)) → laws_toCostSS.wp l0 fun y104 => spec_BestCuts.wp y104 a1 fun y110 y113 y114 => laws_toCostSS.wp l0 fun y116 => impl_BestCuts.wp y116 a1 fun y122 y125 y126 => laws_eqInt64S.wp y122 y110 fun y128 => ((y128 = true → laws_sameFloat.wp (widen y125) (widen y113) fun y131 => ((y131 = true → (((y126 == y114) = true → laws_toCostSS.wp l0 fun y135 => laws_eqCostSS.wp y116 y135 fun y141 => ((y141 = true → laws_markCostSS.wp y116 (1 : Int) fun y144 y145 => ((y144 < (0 : Int) → K (false)) ∧ (¬(y144 < (0 : Int)) → laws_eqInt64S.wp y122 y110 fun y150 => ((y150 = true → laws_sameFloat.wp (widen y125) (widen y113) fun y153 => ((y153 = true → laws_markInt64S.wp y122 (1 : Int) fun y156 y157 => laws_heldInt64S.wp y157 (1 : Int) fun y159 => ((y159 < (0 : Int) → K (false)) ∧ (¬(y159 < (0 : Int)) → ((y159 = y156 → laws_toCostSS.wp l0 fun y163 => impl_BestCuts.wp y163 a1 fun y169 y172 y173 => laws_eqInt64S.wp y169 y110 fun y175 => ((y175 = true → laws_sameFloat.wp (widen y172) (widen y113) fun y178 => ((y178 = true → (((y173 == y114) = true → laws_heldInt64S.wp y157 (1 : Int) fun y182 => ((y182 < (0 : Int) → K (false)) ∧ (¬(y182 < (0 : Int)) → ((y182 = y156 → K (true)) ∧ (¬(y182 = y156) → K (false)))))) ∧ ((y173 == y114) = false → K (false)))) ∧ (y178 = false → K (false)))) ∧ (y175 = false → K (false)))) ∧ (¬(y159 = y156) → K (false)))))) ∧ (y153 = false → K (false)))) ∧ (y150 = false → K (false)))))) ∧ (y141 = false → K (false)))) ∧ ((y126 == y114) = false → K (false)))) ∧ (y131 = false → K (false)))) ∧ (y128 = false → K (false)))))
end Go.Proofs.Ytecdkjnomkdbkaa.G

namespace Go.Proofs.Ytecdkjnomkdbkaa.G
open Go Go.Ab
set_option maxRecDepth 100000
set_option linter.unusedVariables false
set_option linter.unusedSimpArgs false
set_option maxHeartbeats 1000000
def laws_toInt64S.wp (l0 : List (Int)) (K : (List (Int)) → Prop) : Prop := (0 ≤ (l0.length : Int) ∧ (l0.length : Int) ≤ (l0.length : Int) ∧ (l0.length : Int) ≤ 2 ^ 40 ∧ (l0.length : Int) * 8 ≤ 2 ^ 40) ∧ ∀ X111 : List (Int) → Int → Prop, (∀ (out112 : List (Int)) (i113 : Int), ((i113 < (l0.length : Int) → (0 ≤ i113 ∧ i113 < (l0.length : Int)) ∧ (0 ≤ i113 ∧ i113 < (out112.length : Int)) ∧ X111 (out112.set (i113).toNat (l0.getD (i113).toNat (0 : Int))) (IntKind.i64.wrap (i113 + (1 : Int)))) ∧ (¬(i113 < (l0.length : Int)) → K (out112))) → X111 out112 i113) → X111 (List.replicate ((l0.length : Int)).toNat (0 : Int)) (0 : Int)
end Go.Proofs.Ytecdkjnomkdbkaa.G

namespace Go.Proofs.Ytecdkjnomkdbkaa.G
open Go Go.Ab
set_option maxRecDepth 100000
set_option linter.unusedVariables false
set_option linter.unusedSimpArgs false
set_option maxHeartbeats 1000000
def spec_l02Bound.wp (l0 : List (Int)) (a1 : Int) (K : Bool → Prop) : Prop := ∀ X101 : Int → Prop, (∀ (i102 : Int), ((i102 < (l0.length : Int) → (0 ≤ i102 ∧ i102 < (l0.length : Int)) ∧ spec_l00In.wp (l0.getD (i102).toNat (0 : Int)) (IntKind.i64.wrap (0 - a1)) a1 fun y105 => ((y105 = true → X101 (IntKind.i64.wrap (i102 + (1 : Int)))) ∧ (y105 = false → K (false)))) ∧ (¬(i102 < (l0.length : Int)) → K (true))) → X101 i102) → X101 (0 : Int)
end Go.Proofs.Ytecdkjnomkdbkaa.G

namespace Go.Proofs.Ytecdkjnomkdbkaa.G
open Go Go.Ab
set_option maxRecDepth 100000
set_option linter.unusedVariables false
set_option linter.unusedSimpArgs false
set_option maxHeartbeats 1000000
def spec_l02Integers.wp (l0 : List (Int)) (K : Bool → Prop) : Prop := (((1 : Int) ≤ (l0.length : Int) → (((l0.length : Int) ≤ (128 : Int) → spec_l02Bound.wp l0 (1000000 : Int) fun y103 => K (y103)) ∧ (¬((l0.length : Int) ≤ (128 : Int)) → K (false)))) ∧ (¬((1 : Int) ≤ (l0.length : Int)) → K (false)))
end Go.Proofs.Ytecdkjnomkdbkaa.G

namespace Go.Proofs.Ytecdkjnomkdbkaa.G
open Go Go.Ab
set_option maxRecDepth 100000
set_option linter.unusedVariables false
set_option linter.unusedSimpArgs false
set_option maxHeartbeats 1000000
def impl_areWithin.wp (l0 : List (Int)) (a1 : Int) (K : Bool → Prop) : Prop := ∀ X101 : Int → Prop, (∀ (x102 : Int), ((x102 < (l0.length : Int) → (0 ≤ x102 ∧ x102 < (l0.length : Int)) ∧ impl_within.wp (l0.getD (x102).toNat (0 : Int)) (IntKind.i64.wrap (0 - a1)) a1 fun y105 => ((y105 = true → X101 (IntKind.i64.wrap (x102 + (1 : Int)))) ∧ (y105 = false → K (false)))) ∧ (¬(x102 < (l0.length : Int)) → K (true))) → X101 x102) → X101 (0 : Int)
end Go.Proofs.Ytecdkjnomkdbkaa.G

namespace Go.Proofs.Ytecdkjnomkdbkaa.G
open Go Go.Ab
set_option maxRecDepth 100000
set_option linter.unusedVariables false
set_option linter.unusedSimpArgs false
set_option maxHeartbeats 1000000
def impl_AreIntegers.wp (l0 : List (Int)) (K : Bool → Prop) : Prop := impl_within.wp (l0.length : Int) (1 : Int) (128 : Int) fun y101 => ((y101 = true → impl_areWithin.wp l0 (1000000 : Int) fun y104 => K (y104)) ∧ (y101 = false → K (false)))
end Go.Proofs.Ytecdkjnomkdbkaa.G

namespace Go.Proofs.Ytecdkjnomkdbkaa.G
open Go Go.Ab
set_option maxRecDepth 100000
set_option linter.unusedVariables false
set_option linter.unusedSimpArgs false
set_option maxHeartbeats 1000000
def impl_isShare.wp (a0 : Nat) (K : Bool → Prop) : Prop := (((fcmp .geq .f32 a0 (cz .f32 0)) = true → K (fcmp .leq .f32 a0 (cz .f32 1065353216))) ∧ ((fcmp .geq .f32 a0 (cz .f32 0)) = false → K (false)))
end Go.Proofs.Ytecdkjnomkdbkaa.G

namespace Go.Proofs.Ytecdkjnomkdbkaa.G
open Go Go.Ab
set_option maxRecDepth 100000
set_option linter.unusedVariables false
set_option linter.unusedSimpArgs false
set_option maxHeartbeats 1000000
def impl_areFinite.wp (l0 : List (List (Nat))) (K : Bool → Prop) : Prop := ∀ X101 : Int → Prop, (∀ (x102 : Int), ((x102 < (l0.length : Int) → (0 ≤ x102 ∧ x102 < (l0.length : Int)) ∧ ∀ X105 : Int → Prop, (∀ (x106 : Int), ((x106 < ((l0.getD (x102).toNat ([] : List (Nat))).length : Int) → (0 ≤ x106 ∧ x106 < ((l0.getD (x102).toNat ([] : List (Nat))).length : Int)) ∧ impl_IsFinite.wp ((l0.getD (x102).toNat ([] : List (Nat))).getD (x106).toNat (0 : Nat)) fun y109 => ((y109 = true → X105 (IntKind.i64.wrap (x106 + (1 : Int)))) ∧ (y109 = false → K (false)))) ∧ (¬(x106 < ((l0.getD (x102).toNat ([] : List (Nat))).length : Int)) → X101 (IntKind.i64.wrap (x102 + (1 : Int))))) → X105 x106) → X105 (0 : Int)) ∧ (¬(x102 < (l0.length : Int)) → K (true))) → X101 x102) → X101 (0 : Int)
end Go.Proofs.Ytecdkjnomkdbkaa.G

namespace Go.Proofs.Ytecdkjnomkdbkaa.G
open Go Go.Ab
set_option maxRecDepth 100000
set_option linter.unusedVariables false
set_option linter.unusedSimpArgs false
set_option maxHeartbeats 1000000
def impl_finiteList.wp (l0 : List (Nat)) (K : Bool → Bool → Prop) : Prop := impl_areFinite.wp ([l0] : List (List (Nat))) fun y104 => ((y104 = true → K (true) (true)) ∧ (y104 = false → K (false) (false)))
end Go.Proofs.Ytecdkjnomkdbkaa.G

namespace Go.Proofs.Ytecdkjnomkdbkaa.G
open Go Go.Ab
set_option maxRecDepth 100000
set_option linter.unusedVariables false
set_option linter.unusedSimpArgs false
set_option maxHeartbeats 1000000
def spec_l02Share.wp (a0 : Nat) (K : Bool → Prop) : Prop := (((fcmp .geq .f32 a0 (cz .f32 0)) = true → K (fcmp .leq .f32 a0 (cz .f32 1065353216))) ∧ ((fcmp .geq .f32 a0 (cz .f32 0)) = false → K (false)))
end Go.Proofs.Ytecdkjnomkdbkaa.G

namespace Go.Proofs.Ytecdkjnomkdbkaa.G
open Go Go.Ab
set_option maxRecDepth 100000
set_option linter.unusedVariables false
set_option linter.unusedSimpArgs false
set_option maxHeartbeats 1000000
def spec_l02Finite.wp (l0 : List (Nat)) (K : Bool → Prop) : Prop := ∀ X101 : Int → Prop, (∀ (i102 : Int), ((i102 < (l0.length : Int) → (0 ≤ i102 ∧ i102 < (l0.length : Int)) ∧ spec_l01Finite.wp (l0.getD (i102).toNat (0 : Nat)) fun y105 => ((y105 = true → X101 (IntKind.i64.wrap (i102 + (1 : Int)))) ∧ (y105 = false → K (false)))) ∧ (¬(i102 < (l0.length : Int)) → K (true))) → X101 i102) → X101 (0 : Int)
end Go.Proofs.Ytecdkjnomkdbkaa.G

