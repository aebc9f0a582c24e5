/-
  What the functions compute, as formulas over numbers and lists. Printed by a program of the session; nothing here is trusted.
-/
import Derived.Test.YtecdkjnomkdbkaaAbG
namespace Go.Proofs.Ytecdkjnomkdbkaa.G
open Go Go.Ab
set_option maxRecDepth 100000
set_option linter.unusedVariables false
set_option linter.unusedSimpArgs false
set_option maxHeartbeats 1000000
def IR_LeFlt_f32_o : Inn (List (Nat)) := fun x c => Pc.osl (c.getD 0 .und) 1 (enc (eFlt .f32) x)
def IR_LeInt_i64_o : Inn (List (Int)) := fun x c => Pc.osl (c.getD 0 .und) 1 (enc (eInt .i64) x)
def IR_LePair_eBool_ePair_eFlt_f32_eInt_i64_o : Inn (List ((Bool) × (Nat) × (Int))) := fun x c => Pc.osl (c.getD 0 .und) 3 (enc (ePair eBool (ePair (eFlt .f32) (eInt .i64))) x)
def IR_LePair_eInt_i64_eFlt_f32_o : Inn (List ((Int) × (Nat))) := fun x c => Pc.osl (c.getD 0 .und) 2 (enc (ePair (eInt .i64) (eFlt .f32)) x)
def R_LeFlt_f32_o (H : Heap) (x : List (Nat)) (c : List AV) : Prop := c = [(c.getD 0 .und)] ∧ Shows H (c.getD 0 .und) 1 (enc (eFlt .f32) x)
def R_LeInt_i64_o (H : Heap) (x : List (Int)) (c : List AV) : Prop := c = [(c.getD 0 .und)] ∧ Shows H (c.getD 0 .und) 1 (enc (eInt .i64) x)
def R_LePair_eBool_ePair_eFlt_f32_eInt_i64_o (H : Heap) (x : List ((Bool) × (Nat) × (Int))) (c : List AV) : Prop := c = [(c.getD 0 .und)] ∧ Shows H (c.getD 0 .und) 3 (enc (ePair eBool (ePair (eFlt .f32) (eInt .i64))) x)
def R_LePair_eInt_i64_eFlt_f32_o (H : Heap) (x : List ((Int) × (Nat))) (c : List AV) : Prop := c = [(c.getD 0 .und)] ∧ Shows H (c.getD 0 .und) 2 (enc (ePair (eInt .i64) (eFlt .f32)) x)
end Go.Proofs.Ytecdkjnomkdbkaa.G

namespace Go.Proofs.Ytecdkjnomkdbkaa.G
open Go Go.Ab
set_option maxRecDepth 100000
set_option linter.unusedVariables false
set_option linter.unusedSimpArgs false
set_option maxHeartbeats 1000000
def spec_l00In.wp (a0 : Int) (a1 : Int) (a2 : Int) (K : Bool → Prop) : Prop := ((a1 ≤ a0 → K (decide (a0 ≤ a2))) ∧ (¬(a1 ≤ a0) → K (false)))
end Go.Proofs.Ytecdkjnomkdbkaa.G

namespace Go.Proofs.Ytecdkjnomkdbkaa.G
open Go Go.Ab
set_option maxRecDepth 100000
set_option linter.unusedVariables false
set_option linter.unusedSimpArgs false
set_option maxHeartbeats 1000000
def spec_l01Finite.wp (a0 : Nat) (K : Bool → Prop) : Prop := K (fcmp .eql .f32 (fop .sub .f32 a0 a0) (cz .f32 0))
end Go.Proofs.Ytecdkjnomkdbkaa.G

namespace Go.Proofs.Ytecdkjnomkdbkaa.G
open Go Go.Ab
set_option maxRecDepth 100000
set_option linter.unusedVariables false
set_option linter.unusedSimpArgs false
set_option maxHeartbeats 1000000
def spec_l02Least.wp (a0 : Nat) (K : Bool → Prop) : Prop := spec_l01Finite.wp a0 fun y101 => ((y101 = true → K (fcmp .geq .f32 a0 (cz .f32 0))) ∧ (y101 = false → K (false)))
end Go.Proofs.Ytecdkjnomkdbkaa.G

namespace Go.Proofs.Ytecdkjnomkdbkaa.G
open Go Go.Ab
set_option maxRecDepth 100000
set_option linter.unusedVariables false
set_option linter.unusedSimpArgs false
set_option maxHeartbeats 1000000
def spec_l07Costs.wp (l0 : List ((Int) × (Nat))) (K : Bool → Prop) : Prop := (((l0.length : Int) < (1 : Int) → K (false)) ∧ (¬((l0.length : Int) < (1 : Int)) → (((16 : Int) < (l0.length : Int) → K (false)) ∧ (¬((16 : Int) < (l0.length : Int)) → ∀ X103 : Int → Prop, (∀ (x104 : Int), ((x104 < (l0.length : Int) → (0 ≤ x104 ∧ x104 < (l0.length : Int)) ∧ spec_l00In.wp (l0.getD (x104).toNat ((0 : Int), (0 : Nat))).1 (0 : Int) (512 : Int) fun y107 => ((y107 = true → spec_l02Least.wp (l0.getD (x104).toNat ((0 : Int), (0 : Nat))).2 fun y110 => ((y110 = true → (((0 : Int) < x104 → (0 ≤ (IntKind.i64.wrap (x104 - (1 : Int))) ∧ (IntKind.i64.wrap (x104 - (1 : Int))) < (l0.length : Int)) ∧ (((l0.getD (x104).toNat ((0 : Int), (0 : Nat))).1 ≤ (l0.getD ((IntKind.i64.wrap (x104 - (1 : Int)))).toNat ((0 : Int), (0 : Nat))).1 → K (false)) ∧ (¬((l0.getD (x104).toNat ((0 : Int), (0 : Nat))).1 ≤ (l0.getD ((IntKind.i64.wrap (x104 - (1 : Int)))).toNat ((0 : Int), (0 : Nat))).1) → (((fcmp .geq .f32 (l0.getD (x104).toNat ((0 : Int), (0 : Nat))).2 (l0.getD ((IntKind.i64.wrap (x104 - (1 : Int)))).toNat ((0 : Int), (0 : Nat))).2) = true → K (false)) ∧ ((fcmp .geq .f32 (l0.getD (x104).toNat ((0 : Int), (0 : Nat))).2 (l0.getD ((IntKind.i64.wrap (x104 - (1 : Int)))).toNat ((0 : Int), (0 : Nat))).2) = false → X103 (IntKind.i64.wrap (x104 + (1 : Int)))))))) ∧ (¬((0 : Int) < x104) → X103 (IntKind.i64.wrap (x104 + (1 : Int)))))) ∧ (y110 = false → K (false)))) ∧ (y107 = false → K (false)))) ∧ (¬(x104 < (l0.length : Int)) → K (true))) → X103 x104) → X103 (0 : Int)))))
end Go.Proofs.Ytecdkjnomkdbkaa.G

namespace Go.Proofs.Ytecdkjnomkdbkaa.G
open Go Go.Ab
set_option maxRecDepth 100000
set_option linter.unusedVariables false
set_option linter.unusedSimpArgs false
set_option maxHeartbeats 1000000
def spec_l07Blocks.wp (l0 : List (List ((Int) × (Nat)))) (K : Bool → Prop) : Prop := (((l0.length : Int) < (1 : Int) → K (false)) ∧ (¬((l0.length : Int) < (1 : Int)) → (((8 : Int) < (l0.length : Int) → K (false)) ∧ (¬((8 : Int) < (l0.length : Int)) → ∀ X103 : Int → Prop, (∀ (x104 : Int), ((x104 < (l0.length : Int) → (0 ≤ x104 ∧ x104 < (l0.length : Int)) ∧ spec_l07Costs.wp (l0.getD (x104).toNat ([] : List ((Int) × (Nat)))) fun y107 => ((y107 = true → X103 (IntKind.i64.wrap (x104 + (1 : Int)))) ∧ (y107 = false → K (false)))) ∧ (¬(x104 < (l0.length : Int)) → K (true))) → X103 x104) → X103 (0 : Int)))))
end Go.Proofs.Ytecdkjnomkdbkaa.G

namespace Go.Proofs.Ytecdkjnomkdbkaa.G
open Go Go.Ab
set_option maxRecDepth 100000
set_option linter.unusedVariables false
set_option linter.unusedSimpArgs false
set_option maxHeartbeats 1000000
def spec_BestCuts.wp (l0 : List (List ((Int) × (Nat)))) (a1 : Int) (K : (List (Int)) → Nat → Bool → Prop) : Prop := spec_l07Blocks.wp l0 fun y101 => ((y101 = true → spec_l00In.wp a1 (0 : Int) (512 : Int) fun y104 => ((y104 = true → (0 ≤ (IntKind.i64.wrap (a1 + (1 : Int))) ∧ (IntKind.i64.wrap (a1 + (1 : Int))) ≤ (IntKind.i64.wrap (a1 + (1 : Int))) ∧ (IntKind.i64.wrap (a1 + (1 : Int))) ≤ 2 ^ 40 ∧ (IntKind.i64.wrap (a1 + (1 : Int))) * 4 ≤ 2 ^ 40) ∧ (0 ≤ (IntKind.i64.wrap (a1 + (1 : Int))) ∧ (IntKind.i64.wrap (a1 + (1 : Int))) ≤ (IntKind.i64.wrap (a1 + (1 : Int))) ∧ (IntKind.i64.wrap (a1 + (1 : Int))) ≤ 2 ^ 40 ∧ (IntKind.i64.wrap (a1 + (1 : Int))) * 1 ≤ 2 ^ 40) ∧ ∀ X485 : List (Bool) → Int → Prop, (∀ (can486 : List (Bool)) (x487 : Int), ((x487 < ((List.replicate ((IntKind.i64.wrap (a1 + (1 : Int)))).toNat false).length : Int) → (0 ≤ x487 ∧ x487 < (can486.length : Int)) ∧ X485 (can486.set (x487).toNat true) (IntKind.i64.wrap (x487 + (1 : Int)))) ∧ (¬(x487 < ((List.replicate ((IntKind.i64.wrap (a1 + (1 : Int)))).toNat false).length : Int)) → ∀ X675 : List (List (Int)) → List (Bool) → List (Nat) → Int → Prop, (∀ (choices676 : List (List (Int))) (can680 : List (Bool)) (sums682 : List (Nat)) (x684 : Int), ((x684 < (l0.length : Int) → (0 ≤ (IntKind.i64.wrap (a1 + (1 : Int))) ∧ (IntKind.i64.wrap (a1 + (1 : Int))) ≤ (IntKind.i64.wrap (a1 + (1 : Int))) ∧ (IntKind.i64.wrap (a1 + (1 : Int))) ≤ 2 ^ 40 ∧ (IntKind.i64.wrap (a1 + (1 : Int))) * 8 ≤ 2 ^ 40) ∧ ∀ X755 : List (Int) → List (Bool) → List (Nat) → Int → Prop, (∀ (choice756 : List (Int)) (have757 : List (Bool)) (next758 : List (Nat)) (b759 : Int), ((b759 ≤ a1 → (0 ≤ x684 ∧ x684 < (l0.length : Int)) ∧ ∀ X783 : List (Int) → List (Bool) → List (Nat) → Int → Prop, (∀ (choice784 : List (Int)) (have785 : List (Bool)) (next786 : List (Nat)) (x787 : Int), ((x787 < ((l0.getD (x684).toNat ([] : List ((Int) × (Nat)))).length : Int) → (0 ≤ x787 ∧ x787 < ((l0.getD (x684).toNat ([] : List ((Int) × (Nat)))).length : Int)) ∧ (((IntKind.i64.wrap (b759 - ((l0.getD (x684).toNat ([] : List ((Int) × (Nat)))).getD (x787).toNat ((0 : Int), (0 : Nat))).1)) < (0 : Int) → X783 (choice784) (have785) (next786) (IntKind.i64.wrap (x787 + (1 : Int)))) ∧ (¬((IntKind.i64.wrap (b759 - ((l0.getD (x684).toNat ([] : List ((Int) × (Nat)))).getD (x787).toNat ((0 : Int), (0 : Nat))).1)) < (0 : Int)) → (0 ≤ (IntKind.i64.wrap (b759 - ((l0.getD (x684).toNat ([] : List ((Int) × (Nat)))).getD (x787).toNat ((0 : Int), (0 : Nat))).1)) ∧ (IntKind.i64.wrap (b759 - ((l0.getD (x684).toNat ([] : List ((Int) × (Nat)))).getD (x787).toNat ((0 : Int), (0 : Nat))).1)) < (can680.length : Int)) ∧ (((can680.getD ((IntKind.i64.wrap (b759 - ((l0.getD (x684).toNat ([] : List ((Int) × (Nat)))).getD (x787).toNat ((0 : Int), (0 : Nat))).1))).toNat false) = true → (0 ≤ (IntKind.i64.wrap (b759 - ((l0.getD (x684).toNat ([] : List ((Int) × (Nat)))).getD (x787).toNat ((0 : Int), (0 : Nat))).1)) ∧ (IntKind.i64.wrap (b759 - ((l0.getD (x684).toNat ([] : List ((Int) × (Nat)))).getD (x787).toNat ((0 : Int), (0 : Nat))).1)) < (sums682.length : Int)) ∧ (0 ≤ b759 ∧ b759 < (have785.length : Int)) ∧ (((have785.getD (b759).toNat false) = true → (0 ≤ b759 ∧ b759 < (next786.length : Int)) ∧ (((fcmp .lss .f32 (fop .add .f32 (sums682.getD ((IntKind.i64.wrap (b759 - ((l0.getD (x684).toNat ([] : List ((Int) × (Nat)))).getD (x787).toNat ((0 : Int), (0 : Nat))).1))).toNat (0 : Nat)) ((l0.getD (x684).toNat ([] : List ((Int) × (Nat)))).getD (x787).toNat ((0 : Int), (0 : Nat))).2) (next786.getD (b759).toNat (0 : Nat))) = true → (0 ≤ b759 ∧ b759 < (choice784.length : Int)) ∧ X783 (choice784.set (b759).toNat x787) (have785.set (b759).toNat true) (next786.set (b759).toNat (fop .add .f32 (sums682.getD ((IntKind.i64.wrap (b759 - ((l0.getD (x684).toNat ([] : List ((Int) × (Nat)))).getD (x787).toNat ((0 : Int), (0 : Nat))).1))).toNat (0 : Nat)) ((l0.getD (x684).toNat ([] : List ((Int) × (Nat)))).getD (x787).toNat ((0 : Int), (0 : Nat))).2)) (IntKind.i64.wrap (x787 + (1 : Int)))) ∧ ((fcmp .lss .f32 (fop .add .f32 (sums682.getD ((IntKind.i64.wrap (b759 - ((l0.getD (x684).toNat ([] : List ((Int) × (Nat)))).getD (x787).toNat ((0 : Int), (0 : Nat))).1))).toNat (0 : Nat)) ((l0.getD (x684).toNat ([] : List ((Int) × (Nat)))).getD (x787).toNat ((0 : Int), (0 : Nat))).2) (next786.getD (b759).toNat (0 : Nat))) = false → X783 (choice784) (have785) (next786) (IntKind.i64.wrap (x787 + (1 : Int)))))) ∧ ((have785.getD (b759).toNat false) = false → (0 ≤ b759 ∧ b759 < (next786.length : Int)) ∧ (0 ≤ b759 ∧ b759 < (choice784.length : Int)) ∧ X783 (choice784.set (b759).toNat x787) (have785.set (b759).toNat true) (next786.set (b759).toNat (fop .add .f32 (sums682.getD ((IntKind.i64.wrap (b759 - ((l0.getD (x684).toNat ([] : List ((Int) × (Nat)))).getD (x787).toNat ((0 : Int), (0 : Nat))).1))).toNat (0 : Nat)) ((l0.getD (x684).toNat ([] : List ((Int) × (Nat)))).getD (x787).toNat ((0 : Int), (0 : Nat))).2)) (IntKind.i64.wrap (x787 + (1 : Int)))))) ∧ ((can680.getD ((IntKind.i64.wrap (b759 - ((l0.getD (x684).toNat ([] : List ((Int) × (Nat)))).getD (x787).toNat ((0 : Int), (0 : Nat))).1))).toNat false) = false → X783 (choice784) (have785) (next786) (IntKind.i64.wrap (x787 + (1 : Int)))))))) ∧ (¬(x787 < ((l0.getD (x684).toNat ([] : List ((Int) × (Nat)))).length : Int)) → X755 (choice784) (have785) (next786) (IntKind.i64.wrap (b759 + (1 : Int))))) → X783 choice784 have785 next786 x787) → X783 (choice756) (have757) (next758) (0 : Int)) ∧ (¬(b759 ≤ a1) → ((choices676.length + ([choice756] : List (List (Int))).length) * 24 ≤ 2 ^ 40) ∧ X675 (choices676 ++ ([choice756] : List (List (Int)))) (have757) (next758) (IntKind.i64.wrap (x684 + (1 : Int))))) → X755 choice756 have757 next758 b759) → X755 (List.replicate ((IntKind.i64.wrap (a1 + (1 : Int)))).toNat (0 : Int)) (List.replicate ((IntKind.i64.wrap (a1 + (1 : Int)))).toNat false) (List.replicate ((IntKind.i64.wrap (a1 + (1 : Int)))).toNat (0 : Nat)) (0 : Int)) ∧ (¬(x684 < (l0.length : Int)) → (0 ≤ a1 ∧ a1 < (can680.length : Int)) ∧ (((can680.getD (a1).toNat false) = true → (0 ≤ a1 ∧ a1 < (sums682.length : Int)) ∧ spec_l01Finite.wp (sums682.getD (a1).toNat (0 : Nat)) fun y822 => ((y822 = true → (0 ≤ (l0.length : Int) ∧ (l0.length : Int) ≤ (l0.length : Int) ∧ (l0.length : Int) ≤ 2 ^ 40 ∧ (l0.length : Int) * 8 ≤ 2 ^ 40) ∧ ∀ X840 : List (Int) → Int → Int → Prop, (∀ (out841 : List (Int)) (atq842 : Int) (i843 : Int), (((0 : Int) ≤ i843 → (0 ≤ i843 ∧ i843 < (choices676.length : Int)) ∧ (0 ≤ atq842 ∧ atq842 < ((choices676.getD (i843).toNat ([] : List (Int))).length : Int)) ∧ (0 ≤ i843 ∧ i843 < (out841.length : Int)) ∧ (0 ≤ i843 ∧ i843 < (l0.length : Int)) ∧ (0 ≤ i843 ∧ i843 < ((out841.set (i843).toNat ((choices676.getD (i843).toNat ([] : List (Int))).getD (atq842).toNat (0 : Int))).length : Int)) ∧ (0 ≤ ((out841.set (i843).toNat ((choices676.getD (i843).toNat ([] : List (Int))).getD (atq842).toNat (0 : Int))).getD (i843).toNat (0 : Int)) ∧ ((out841.set (i843).toNat ((choices676.getD (i843).toNat ([] : List (Int))).getD (atq842).toNat (0 : Int))).getD (i843).toNat (0 : Int)) < ((l0.getD (i843).toNat ([] : List ((Int) × (Nat)))).length : Int)) ∧ X840 (out841.set (i843).toNat ((choices676.getD (i843).toNat ([] : List (Int))).getD (atq842).toNat (0 : Int))) (IntKind.i64.wrap (atq842 - ((l0.getD (i843).toNat ([] : List ((Int) × (Nat)))).getD (((out841.set (i843).toNat ((choices676.getD (i843).toNat ([] : List (Int))).getD (atq842).toNat (0 : Int))).getD (i843).toNat (0 : Int))).toNat ((0 : Int), (0 : Nat))).1)) (IntKind.i64.wrap (i843 - (1 : Int)))) ∧ (¬((0 : Int) ≤ i843) → K (out841) (sums682.getD (a1).toNat (0 : Nat)) (true))) → X840 out841 atq842 i843) → X840 (List.replicate ((l0.length : Int)).toNat (0 : Int)) (a1) (IntKind.i64.wrap ((l0.length : Int) - (1 : Int)))) ∧ (y822 = false → K ([] : List (Int)) (cz .f32 0) (false)))) ∧ ((can680.getD (a1).toNat false) = false → K ([] : List (Int)) (cz .f32 0) (false))))) → X675 choices676 can680 sums682 x684) → X675 ([] : List (List (Int))) (can486) (List.replicate ((IntKind.i64.wrap (a1 + (1 : Int)))).toNat (0 : Nat)) (0 : Int))) → X485 can486 x487) → X485 (List.replicate ((IntKind.i64.wrap (a1 + (1 : Int)))).toNat false) (0 : Int)) ∧ (y104 = false → K ([] : List (Int)) (cz .f32 0) (false)))) ∧ (y101 = false → K ([] : List (Int)) (cz .f32 0) (false)))
end Go.Proofs.Ytecdkjnomkdbkaa.G

namespace Go.Proofs.Ytecdkjnomkdbkaa.G
open Go Go.Ab
set_option maxRecDepth 100000
set_option linter.unusedVariables false
set_option linter.unusedSimpArgs false
set_option maxHeartbeats 1000000
def impl_within.wp (a0 : Int) (a1 : Int) (a2 : Int) (K : Bool → Prop) : Prop := ((a1 ≤ a0 → K (decide (a0 ≤ a2))) ∧ (¬(a1 ≤ a0) → K (false)))
end Go.Proofs.Ytecdkjnomkdbkaa.G

namespace Go.Proofs.Ytecdkjnomkdbkaa.G
open Go Go.Ab
set_option maxRecDepth 100000
set_option linter.unusedVariables false
set_option linter.unusedSimpArgs false
set_option maxHeartbeats 1000000
def impl_IsFinite.wp (a0 : Nat) (K : Bool → Prop) : Prop := K (fcmp .eql .f32 (fop .sub .f32 a0 a0) (cz .f32 0))
end Go.Proofs.Ytecdkjnomkdbkaa.G

namespace Go.Proofs.Ytecdkjnomkdbkaa.G
open Go Go.Ab
set_option maxRecDepth 100000
set_option linter.unusedVariables false
set_option linter.unusedSimpArgs false
set_option maxHeartbeats 1000000
def impl_isLeast.wp (a0 : Nat) (K : Bool → Prop) : Prop := impl_IsFinite.wp a0 fun y101 => ((y101 = true → K (fcmp .geq .f32 a0 (cz .f32 0))) ∧ (y101 = false → K (false)))
end Go.Proofs.Ytecdkjnomkdbkaa.G

namespace Go.Proofs.Ytecdkjnomkdbkaa.G
open Go Go.Ab
set_option maxRecDepth 100000
set_option linter.unusedVariables false
set_option linter.unusedSimpArgs false
set_option maxHeartbeats 1000000
def impl_AreCosts.wp (l0 : List ((Int) × (Nat))) (K : Bool → Prop) : Prop := impl_within.wp (l0.length : Int) (1 : Int) (16 : Int) fun y101 => ((y101 = true → ∀ X104 : Int → Prop, (∀ (x105 : Int), ((x105 < (l0.length : Int) → (0 ≤ x105 ∧ x105 < (l0.length : Int)) ∧ impl_within.wp (l0.getD (x105).toNat ((0 : Int), (0 : Nat))).1 (0 : Int) (512 : Int) fun y112 => ((y112 = true → impl_isLeast.wp (l0.getD (x105).toNat ((0 : Int), (0 : Nat))).2 fun y115 => ((y115 = true → (((0 : Int) < x105 → (0 ≤ (IntKind.i64.wrap (x105 - (1 : Int))) ∧ (IntKind.i64.wrap (x105 - (1 : Int))) < (l0.length : Int)) ∧ (((l0.getD (x105).toNat ((0 : Int), (0 : Nat))).1 ≤ (l0.getD ((IntKind.i64.wrap (x105 - (1 : Int)))).toNat ((0 : Int), (0 : Nat))).1 → K (false)) ∧ (¬((l0.getD (x105).toNat ((0 : Int), (0 : Nat))).1 ≤ (l0.getD ((IntKind.i64.wrap (x105 - (1 : Int)))).toNat ((0 : Int), (0 : Nat))).1) → (((fcmp .geq .f32 (l0.getD (x105).toNat ((0 : Int), (0 : Nat))).2 (l0.getD ((IntKind.i64.wrap (x105 - (1 : Int)))).toNat ((0 : Int), (0 : Nat))).2) = true → K (false)) ∧ ((fcmp .geq .f32 (l0.getD (x105).toNat ((0 : Int), (0 : Nat))).2 (l0.getD ((IntKind.i64.wrap (x105 - (1 : Int)))).toNat ((0 : Int), (0 : Nat))).2) = false → X104 (IntKind.i64.wrap (x105 + (1 : Int)))))))) ∧ (¬((0 : Int) < x105) → X104 (IntKind.i64.wrap (x105 + (1 : Int)))))) ∧ (y115 = false → K (false)))) ∧ (y112 = false → K (false)))) ∧ (¬(x105 < (l0.length : Int)) → K (true))) → X104 x105) → X104 (0 : Int)) ∧ (y101 = false → K (false)))
end Go.Proofs.Ytecdkjnomkdbkaa.G

namespace Go.Proofs.Ytecdkjnomkdbkaa.G
open Go Go.Ab
set_option maxRecDepth 100000
set_option linter.unusedVariables false
set_option linter.unusedSimpArgs false
set_option maxHeartbeats 1000000
def impl_areBlocks.wp (l0 : List (List ((Int) × (Nat)))) (K : Bool → Prop) : Prop := impl_within.wp (l0.length : Int) (1 : Int) (8 : Int) fun y101 => ((y101 = true → ∀ X104 : Int → Prop, (∀ (x105 : Int), ((x105 < (l0.length : Int) → (0 ≤ x105 ∧ x105 < (l0.length : Int)) ∧ impl_AreCosts.wp (l0.getD (x105).toNat ([] : List ((Int) × (Nat)))) fun y108 => ((y108 = true → X104 (IntKind.i64.wrap (x105 + (1 : Int)))) ∧ (y108 = false → K (false)))) ∧ (¬(x105 < (l0.length : Int)) → K (true))) → X104 x105) → X104 (0 : Int)) ∧ (y101 = false → K (false)))
end Go.Proofs.Ytecdkjnomkdbkaa.G

namespace Go.Proofs.Ytecdkjnomkdbkaa.G
open Go Go.Ab
set_option maxRecDepth 100000
set_option linter.unusedVariables false
set_option linter.unusedSimpArgs false
set_option maxHeartbeats 1000000
def impl_BestCuts.wp (l0 : List (List ((Int) × (Nat)))) (a1 : Int) (K : (List (Int)) → Nat → Bool → Prop) : Prop := impl_areBlocks.wp l0 fun y101 => ((y101 = true → impl_within.wp a1 (0 : Int) (512 : Int) fun y104 => ((y104 = true → (0 ≤ (IntKind.i64.wrap (a1 + (1 : Int))) ∧ (IntKind.i64.wrap (a1 + (1 : Int))) ≤ (IntKind.i64.wrap (a1 + (1 : Int))) ∧ (IntKind.i64.wrap (a1 + (1 : Int))) ≤ 2 ^ 40 ∧ (IntKind.i64.wrap (a1 + (1 : Int))) * 16 ≤ 2 ^ 40) ∧ ∀ X451 : List ((Bool) × (Nat) × (Int)) → Int → Prop, (∀ (before452 : List ((Bool) × (Nat) × (Int))) (x453 : Int), ((x453 < ((List.replicate ((IntKind.i64.wrap (a1 + (1 : Int)))).toNat (false, (0 : Nat), (0 : Int))).length : Int) → (0 ≤ x453 ∧ x453 < (before452.length : Int)) ∧ X451 (before452.set (x453).toNat (true, (before452.getD (x453).toNat (false, (0 : Nat), (0 : Int))).2.1, (before452.getD (x453).toNat (false, (0 : Nat), (0 : Int))).2.2)) (IntKind.i64.wrap (x453 + (1 : Int)))) ∧ (¬(x453 < ((List.replicate ((IntKind.i64.wrap (a1 + (1 : Int)))).toNat (false, (0 : Nat), (0 : Int))).length : Int)) → ∀ X654 : List (List ((Bool) × (Nat) × (Int))) → List ((Bool) × (Nat) × (Int)) → Int → Prop, (∀ (table655 : List (List ((Bool) × (Nat) × (Int)))) (before658 : List ((Bool) × (Nat) × (Int))) (x661 : Int), ((x661 < (l0.length : Int) → (0 ≤ x661 ∧ x661 < (l0.length : Int)) ∧ ∀ X711 : List ((Bool) × (Nat) × (Int)) → Int → Prop, (∀ (row712 : List ((Bool) × (Nat) × (Int))) (x713 : Int), ((x713 < ((List.replicate ((IntKind.i64.wrap (a1 + (1 : Int)))).toNat (false, (0 : Nat), (0 : Int))).length : Int) → ∀ X731 : List ((Bool) × (Nat) × (Int)) → Int → Prop, (∀ (row732 : List ((Bool) × (Nat) × (Int))) (x733 : Int), ((x733 < ((l0.getD (x661).toNat ([] : List ((Int) × (Nat)))).length : Int) → (0 ≤ x733 ∧ x733 < ((l0.getD (x661).toNat ([] : List ((Int) × (Nat)))).length : Int)) ∧ ((x713 < ((l0.getD (x661).toNat ([] : List ((Int) × (Nat)))).getD (x733).toNat ((0 : Int), (0 : Nat))).1 → X731 (row732) (IntKind.i64.wrap (x733 + (1 : Int)))) ∧ (¬(x713 < ((l0.getD (x661).toNat ([] : List ((Int) × (Nat)))).getD (x733).toNat ((0 : Int), (0 : Nat))).1) → (0 ≤ (IntKind.i64.wrap (x713 - ((l0.getD (x661).toNat ([] : List ((Int) × (Nat)))).getD (x733).toNat ((0 : Int), (0 : Nat))).1)) ∧ (IntKind.i64.wrap (x713 - ((l0.getD (x661).toNat ([] : List ((Int) × (Nat)))).getD (x733).toNat ((0 : Int), (0 : Nat))).1)) < (before658.length : Int)) ∧ (((before658.getD ((IntKind.i64.wrap (x713 - ((l0.getD (x661).toNat ([] : List ((Int) × (Nat)))).getD (x733).toNat ((0 : Int), (0 : Nat))).1))).toNat (false, (0 : Nat), (0 : Int))).1 = true → (0 ≤ x713 ∧ x713 < (row732.length : Int)) ∧ (((row732.getD (x713).toNat (false, (0 : Nat), (0 : Int))).1 = true → (((fcmp .lss .f32 (fop .add .f32 (before658.getD ((IntKind.i64.wrap (x713 - ((l0.getD (x661).toNat ([] : List ((Int) × (Nat)))).getD (x733).toNat ((0 : Int), (0 : Nat))).1))).toNat (false, (0 : Nat), (0 : Int))).2.1 ((l0.getD (x661).toNat ([] : List ((Int) × (Nat)))).getD (x733).toNat ((0 : Int), (0 : Nat))).2) (row732.getD (x713).toNat (false, (0 : Nat), (0 : Int))).2.1) = true → X731 (row732.set (x713).toNat (true, (fop .add .f32 (before658.getD ((IntKind.i64.wrap (x713 - ((l0.getD (x661).toNat ([] : List ((Int) × (Nat)))).getD (x733).toNat ((0 : Int), (0 : Nat))).1))).toNat (false, (0 : Nat), (0 : Int))).2.1 ((l0.getD (x661).toNat ([] : List ((Int) × (Nat)))).getD (x733).toNat ((0 : Int), (0 : Nat))).2), x733)) (IntKind.i64.wrap (x733 + (1 : Int)))) ∧ ((fcmp .lss .f32 (fop .add .f32 (before658.getD ((IntKind.i64.wrap (x713 - ((l0.getD (x661).toNat ([] : List ((Int) × (Nat)))).getD (x733).toNat ((0 : Int), (0 : Nat))).1))).toNat (false, (0 : Nat), (0 : Int))).2.1 ((l0.getD (x661).toNat ([] : List ((Int) × (Nat)))).getD (x733).toNat ((0 : Int), (0 : Nat))).2) (row732.getD (x713).toNat (false, (0 : Nat), (0 : Int))).2.1) = false → X731 (row732) (IntKind.i64.wrap (x733 + (1 : Int)))))) ∧ ((row732.getD (x713).toNat (false, (0 : Nat), (0 : Int))).1 = false → X731 (row732.set (x713).toNat (true, (fop .add .f32 (before658.getD ((IntKind.i64.wrap (x713 - ((l0.getD (x661).toNat ([] : List ((Int) × (Nat)))).getD (x733).toNat ((0 : Int), (0 : Nat))).1))).toNat (false, (0 : Nat), (0 : Int))).2.1 ((l0.getD (x661).toNat ([] : List ((Int) × (Nat)))).getD (x733).toNat ((0 : Int), (0 : Nat))).2), x733)) (IntKind.i64.wrap (x733 + (1 : Int)))))) ∧ ((before658.getD ((IntKind.i64.wrap (x713 - ((l0.getD (x661).toNat ([] : List ((Int) × (Nat)))).getD (x733).toNat ((0 : Int), (0 : Nat))).1))).toNat (false, (0 : Nat), (0 : Int))).1 = false → X731 (row732) (IntKind.i64.wrap (x733 + (1 : Int)))))))) ∧ (¬(x733 < ((l0.getD (x661).toNat ([] : List ((Int) × (Nat)))).length : Int)) → X711 (row732) (IntKind.i64.wrap (x713 + (1 : Int))))) → X731 row732 x733) → X731 (row712) (0 : Int)) ∧ (¬(x713 < ((List.replicate ((IntKind.i64.wrap (a1 + (1 : Int)))).toNat (false, (0 : Nat), (0 : Int))).length : Int)) → ((table655.length + ([row712] : List (List ((Bool) × (Nat) × (Int)))).length) * 24 ≤ 2 ^ 40) ∧ X654 (table655 ++ ([row712] : List (List ((Bool) × (Nat) × (Int))))) (row712) (IntKind.i64.wrap (x661 + (1 : Int))))) → X711 row712 x713) → X711 (List.replicate ((IntKind.i64.wrap (a1 + (1 : Int)))).toNat (false, (0 : Nat), (0 : Int))) (0 : Int)) ∧ (¬(x661 < (l0.length : Int)) → (0 ≤ a1 ∧ a1 < (before658.length : Int)) ∧ (((before658.getD (a1).toNat (false, (0 : Nat), (0 : Int))).1 = true → impl_IsFinite.wp (before658.getD (a1).toNat (false, (0 : Nat), (0 : Int))).2.1 fun y760 => ((y760 = true → (0 ≤ (l0.length : Int) ∧ (l0.length : Int) ≤ (l0.length : Int) ∧ (l0.length : Int) ≤ 2 ^ 40 ∧ (l0.length : Int) * 8 ≤ 2 ^ 40) ∧ ∀ X777 : List (Int) → Int → Int → Prop, (∀ (out778 : List (Int)) (left779 : Int) (k780 : Int), (((0 : Int) ≤ k780 → (0 ≤ k780 ∧ k780 < (table655.length : Int)) ∧ (0 ≤ left779 ∧ left779 < ((table655.getD (k780).toNat ([] : List ((Bool) × (Nat) × (Int)))).length : Int)) ∧ (0 ≤ k780 ∧ k780 < (out778.length : Int)) ∧ (0 ≤ k780 ∧ k780 < (l0.length : Int)) ∧ (0 ≤ ((table655.getD (k780).toNat ([] : List ((Bool) × (Nat) × (Int)))).getD (left779).toNat (false, (0 : Nat), (0 : Int))).2.2 ∧ ((table655.getD (k780).toNat ([] : List ((Bool) × (Nat) × (Int)))).getD (left779).toNat (false, (0 : Nat), (0 : Int))).2.2 < ((l0.getD (k780).toNat ([] : List ((Int) × (Nat)))).length : Int)) ∧ X777 (out778.set (k780).toNat ((table655.getD (k780).toNat ([] : List ((Bool) × (Nat) × (Int)))).getD (left779).toNat (false, (0 : Nat), (0 : Int))).2.2) (IntKind.i64.wrap (left779 - ((l0.getD (k780).toNat ([] : List ((Int) × (Nat)))).getD (((table655.getD (k780).toNat ([] : List ((Bool) × (Nat) × (Int)))).getD (left779).toNat (false, (0 : Nat), (0 : Int))).2.2).toNat ((0 : Int), (0 : Nat))).1)) (IntKind.i64.wrap (k780 - (1 : Int)))) ∧ (¬((0 : Int) ≤ k780) → K (out778) (before658.getD (a1).toNat (false, (0 : Nat), (0 : Int))).2.1 (true))) → X777 out778 left779 k780) → X777 (List.replicate ((l0.length : Int)).toNat (0 : Int)) (a1) (IntKind.i64.wrap ((l0.length : Int) - (1 : Int)))) ∧ (y760 = false → K ([] : List (Int)) (cz .f32 0) (false)))) ∧ ((before658.getD (a1).toNat (false, (0 : Nat), (0 : Int))).1 = false → K ([] : List (Int)) (cz .f32 0) (false))))) → X654 table655 before658 x661) → X654 ([] : List (List ((Bool) × (Nat) × (Int)))) (before452) (0 : Int))) → X451 before452 x453) → X451 (List.replicate ((IntKind.i64.wrap (a1 + (1 : Int)))).toNat (false, (0 : Nat), (0 : Int))) (0 : Int)) ∧ (y104 = false → K ([] : List (Int)) (cz .f32 0) (false)))) ∧ (y101 = false → K ([] : List (Int)) (cz .f32 0) (false)))
end Go.Proofs.Ytecdkjnomkdbkaa.G

namespace Go.Proofs.Ytecdkjnomkdbkaa.G
open Go Go.Ab
set_option maxRecDepth 100000
set_option linter.unusedVariables false
set_option linter.unusedSimpArgs false
set_option maxHeartbeats 1000000
def laws_b10Long.wp (l0 : List (Int)) (l1 : List (Int)) (K : Bool → Prop) : Prop := (((1048576 : Int) < (l0.length : Int) → K (true)) ∧ (¬((1048576 : Int) < (l0.length : Int)) → K (decide ((1048576 : Int) < (l1.length : Int)))))
end Go.Proofs.Ytecdkjnomkdbkaa.G

namespace Go.Proofs.Ytecdkjnomkdbkaa.G
open Go Go.Ab
set_option maxRecDepth 100000
set_option linter.unusedVariables false
set_option linter.unusedSimpArgs false
set_option maxHeartbeats 1000000
def spec_l00From.wp (l0 : List (Int)) (K : Bool → Int → Int → Prop) : Prop := K (true) (0 : Int) (0 : Int)
end Go.Proofs.Ytecdkjnomkdbkaa.G

namespace Go.Proofs.Ytecdkjnomkdbkaa.G
open Go Go.Ab
set_option maxRecDepth 100000
set_option linter.unusedVariables false
set_option linter.unusedSimpArgs false
set_option maxHeartbeats 1000000
def spec_l00Src_next.wp (l0 : List (Int)) (a1 : Int) (a2 : Int) (K : Int → Int → Int → Prop) : Prop := ((a1 < (l0.length : Int) → (0 ≤ a1 ∧ a1 < (l0.length : Int)) ∧ (((IntKind.i64.wrap (a1 + (1 : Int))) ≤ (l0.length : Int) → K (IntKind.i64.wrap (l0.getD (a1).toNat (0 : Int))) (IntKind.i64.wrap (a1 + (1 : Int))) (IntKind.u64.wrap ((IntKind.u64.wrap ((IntKind.u64.wrap (a2 * (6364136223846793005 : Int))) + (IntKind.u64.wrap (IntKind.i64.wrap (l0.getD (a1).toNat (0 : Int)))))) + (1442695040888963407 : Int)))) ∧ (¬((IntKind.i64.wrap (a1 + (1 : Int))) ≤ (l0.length : Int)) → K (IntKind.i64.wrap (ibits .and .u64 (Int.fdiv (IntKind.u64.wrap ((IntKind.u64.wrap ((IntKind.u64.wrap (a2 * (6364136223846793005 : Int))) + (IntKind.u64.wrap (IntKind.i64.wrap (l0.getD (a1).toNat (0 : Int)))))) + (1442695040888963407 : Int))) (2 ^ (min ((40 : Int)).toNat IntKind.u64.bits))) (255 : Int))) (IntKind.i64.wrap (a1 + (1 : Int))) (IntKind.u64.wrap ((IntKind.u64.wrap ((IntKind.u64.wrap (a2 * (6364136223846793005 : Int))) + (IntKind.u64.wrap (IntKind.i64.wrap (l0.getD (a1).toNat (0 : Int)))))) + (1442695040888963407 : Int)))))) ∧ (¬(a1 < (l0.length : Int)) → (((IntKind.i64.wrap (a1 + (1 : Int))) ≤ (l0.length : Int) → K (0 : Int) (IntKind.i64.wrap (a1 + (1 : Int))) (IntKind.u64.wrap ((IntKind.u64.wrap ((IntKind.u64.wrap (a2 * (6364136223846793005 : Int))) + (IntKind.u64.wrap (0 : Int)))) + (1442695040888963407 : Int)))) ∧ (¬((IntKind.i64.wrap (a1 + (1 : Int))) ≤ (l0.length : Int)) → K (IntKind.i64.wrap (ibits .and .u64 (Int.fdiv (IntKind.u64.wrap ((IntKind.u64.wrap ((IntKind.u64.wrap (a2 * (6364136223846793005 : Int))) + (IntKind.u64.wrap (0 : Int)))) + (1442695040888963407 : Int))) (2 ^ (min ((40 : Int)).toNat IntKind.u64.bits))) (255 : Int))) (IntKind.i64.wrap (a1 + (1 : Int))) (IntKind.u64.wrap ((IntKind.u64.wrap ((IntKind.u64.wrap (a2 * (6364136223846793005 : Int))) + (IntKind.u64.wrap (0 : Int)))) + (1442695040888963407 : Int)))))))
end Go.Proofs.Ytecdkjnomkdbkaa.G

namespace Go.Proofs.Ytecdkjnomkdbkaa.G
open Go Go.Ab
set_option maxRecDepth 100000
set_option linter.unusedVariables false
set_option linter.unusedSimpArgs false
set_option maxHeartbeats 1000000
def spec_l00Src_pick.wp (l0 : List (Int)) (a1 : Int) (a2 : Int) (a3 : Int) (K : Int → Int → Int → Prop) : Prop := ((a3 ≤ (1 : Int) → K (0 : Int) (a1) (a2)) ∧ (¬(a3 ≤ (1 : Int)) → spec_l00Src_next.wp l0 a1 a2 fun y103 y104 y105 => (((200 : Int) < a3 → spec_l00Src_next.wp l0 y104 y105 fun y108 y109 y110 => (a3 ≠ 0) ∧ K (Int.tmod (IntKind.i64.wrap ((IntKind.i64.wrap (y103 * (256 : Int))) + y108)) a3) (y109) (y110)) ∧ (¬((200 : Int) < a3) → (a3 ≠ 0) ∧ K (Int.tmod y103 a3) (y104) (y105)))))
end Go.Proofs.Ytecdkjnomkdbkaa.G

namespace Go.Proofs.Ytecdkjnomkdbkaa.G
open Go Go.Ab
set_option maxRecDepth 100000
set_option linter.unusedVariables false
set_option linter.unusedSimpArgs false
set_option maxHeartbeats 1000000
def spec_B10Blocks.wp (l0 : List (Int)) (K : (List (List ((Int) × (Nat)))) → Prop) : Prop := spec_l00From.wp l0 fun y101 y102 y103 => ((y101 = true → spec_l00Src_pick.wp l0 y102 y103 (4 : Int) fun y113 y114 y115 => ∀ X197 : List (List ((Int) × (Nat))) → Int → Int → Int → Prop, (∀ (out198 : List (List ((Int) × (Nat)))) (b202 : Int) (b203 : Int) (k204 : Int), (((0 : Int) < k204 → spec_l00Src_pick.wp l0 b202 b203 (17 : Int) fun y209 y210 y211 => spec_l00Src_pick.wp l0 y210 y211 (5 : Int) fun y213 y214 y215 => ∀ X248 : List ((Int) × (Nat)) → Int → Int → Int → Nat → Int → Prop, (∀ (list249 : List ((Int) × (Nat))) (b251 : Int) (b252 : Int) (bits253 : Int) (miss254 : Nat) (n255 : Int), (((0 : Int) < n255 → ((list249.length + ([(bits253, miss254)] : List ((Int) × (Nat))).length) * 16 ≤ 2 ^ 40) ∧ spec_l00Src_pick.wp l0 b251 b252 (6 : Int) fun y263 y264 y265 => spec_l00Src_pick.wp l0 y264 y265 (8 : Int) fun y267 y268 y269 => X248 (list249 ++ ([(bits253, miss254)] : List ((Int) × (Nat)))) (y268) (y269) (IntKind.i64.wrap (bits253 + (IntKind.i64.wrap ((1 : Int) + y263)))) (fop .sub .f32 miss254 (fop .quo .f32 (itof .f32 (IntKind.i64.wrap ((1 : Int) + y267))) (cz .f32 1082130432))) (IntKind.i64.wrap (n255 - (1 : Int)))) ∧ (¬((0 : Int) < n255) → ((out198.length + ([list249] : List (List ((Int) × (Nat)))).length) * 24 ≤ 2 ^ 40) ∧ X197 (out198 ++ ([list249] : List (List ((Int) × (Nat))))) (b251) (b252) (IntKind.i64.wrap (k204 - (1 : Int))))) → X248 list249 b251 b252 bits253 miss254 n255) → X248 ([] : List ((Int) × (Nat))) (y214) (y215) (0 : Int) (itof .f32 (IntKind.i64.wrap ((16 : Int) + y209))) (IntKind.i64.wrap ((1 : Int) + y213))) ∧ (¬((0 : Int) < k204) → K (out198))) → X197 out198 b202 b203 k204) → X197 ([] : List (List ((Int) × (Nat)))) (y114) (y115) (IntKind.i64.wrap ((1 : Int) + y113))) ∧ (y101 = false → spec_l00Src_pick.wp ([] : List (Int)) y102 y103 (4 : Int) fun y288 y289 y290 => ∀ X375 : List (List ((Int) × (Nat))) → List (Int) → Int → Int → Int → Prop, (∀ (out376 : List (List ((Int) × (Nat)))) (b381 : List (Int)) (b383 : Int) (b384 : Int) (k385 : Int), (((0 : Int) < k385 → spec_l00Src_pick.wp b381 b383 b384 (17 : Int) fun y390 y391 y392 => spec_l00Src_pick.wp b381 y391 y392 (5 : Int) fun y394 y395 y396 => ∀ X429 : List ((Int) × (Nat)) → Int → Int → Int → Nat → Int → Prop, (∀ (list430 : List ((Int) × (Nat))) (b432 : Int) (b433 : Int) (bits434 : Int) (miss435 : Nat) (n436 : Int), (((0 : Int) < n436 → ((list430.length + ([(bits434, miss435)] : List ((Int) × (Nat))).length) * 16 ≤ 2 ^ 40) ∧ spec_l00Src_pick.wp b381 b432 b433 (6 : Int) fun y444 y445 y446 => spec_l00Src_pick.wp b381 y445 y446 (8 : Int) fun y448 y449 y450 => X429 (list430 ++ ([(bits434, miss435)] : List ((Int) × (Nat)))) (y449) (y450) (IntKind.i64.wrap (bits434 + (IntKind.i64.wrap ((1 : Int) + y444)))) (fop .sub .f32 miss435 (fop .quo .f32 (itof .f32 (IntKind.i64.wrap ((1 : Int) + y448))) (cz .f32 1082130432))) (IntKind.i64.wrap (n436 - (1 : Int)))) ∧ (¬((0 : Int) < n436) → ((out376.length + ([list430] : List (List ((Int) × (Nat)))).length) * 24 ≤ 2 ^ 40) ∧ X375 (out376 ++ ([list430] : List (List ((Int) × (Nat))))) (b381) (b432) (b433) (IntKind.i64.wrap (k385 - (1 : Int))))) → X429 list430 b432 b433 bits434 miss435 n436) → X429 ([] : List ((Int) × (Nat))) (y395) (y396) (0 : Int) (itof .f32 (IntKind.i64.wrap ((16 : Int) + y390))) (IntKind.i64.wrap ((1 : Int) + y394))) ∧ (¬((0 : Int) < k385) → K (out376))) → X375 out376 b381 b383 b384 k385) → X375 ([] : List (List ((Int) × (Nat)))) ([] : List (Int)) (y289) (y290) (IntKind.i64.wrap ((1 : Int) + y288))))
end Go.Proofs.Ytecdkjnomkdbkaa.G

namespace Go.Proofs.Ytecdkjnomkdbkaa.G
open Go Go.Ab
set_option maxRecDepth 100000
set_option linter.unusedVariables false
set_option linter.unusedSimpArgs false
set_option maxHeartbeats 1000000
def laws_b10At.wp (l0 : List (Int)) (a1 : Int) (a2 : Int) (K : Int → Prop) : Prop := ((a2 ≤ (1 : Int) → K (0 : Int)) ∧ (¬(a2 ≤ (1 : Int)) → ((a1 < (l0.length : Int) → (0 ≤ a1 ∧ a1 < (l0.length : Int)) ∧ (a2 ≠ 0) ∧ K (Int.tmod (IntKind.i64.wrap (l0.getD (a1).toNat (0 : Int))) a2)) ∧ (¬(a1 < (l0.length : Int)) → (a2 ≠ 0) ∧ K (Int.tmod (IntKind.i64.wrap ((IntKind.i64.wrap (a1 * (37 : Int))) + (11 : Int))) a2)))))
end Go.Proofs.Ytecdkjnomkdbkaa.G

namespace Go.Proofs.Ytecdkjnomkdbkaa.G
open Go Go.Ab
set_option maxRecDepth 100000
set_option linter.unusedVariables false
set_option linter.unusedSimpArgs false
set_option maxHeartbeats 1000000
def impl_SlopeCuts_1.wp (a0 : Int) (a1 : Nat) (a2 : Nat) (K : Nat → Prop) : Prop := K (fop .add .f32 a1 (fop .mul .f32 a2 (itof .f32 a0)))
end Go.Proofs.Ytecdkjnomkdbkaa.G

namespace Go.Proofs.Ytecdkjnomkdbkaa.G
open Go Go.Ab
set_option maxRecDepth 100000
set_option linter.unusedVariables false
set_option linter.unusedSimpArgs false
set_option maxHeartbeats 1000000
def impl_SlopeCuts.wp (l0 : List (List ((Int) × (Nat)))) (a1 : Nat) (K : (List (Int)) → Int → Nat → Bool → Prop) : Prop := impl_areBlocks.wp l0 fun y104 => ((y104 = true → impl_isLeast.wp a1 fun y107 => ((y107 = true → ∀ X148 : List (Int) → Int → Nat → Int → Prop, (∀ (out149 : List (Int)) (many151 : Int) (sum152 : Nat) (x153 : Int), ((x153 < (l0.length : Int) → (0 ≤ x153 ∧ x153 < (l0.length : Int)) ∧ ∀ X156 : Int → Int → Prop, (∀ (best157 : Int) (x158 : Int), ((x158 < ((l0.getD (x153).toNat ([] : List ((Int) × (Nat)))).length : Int) → (0 ≤ x158 ∧ x158 < ((l0.getD (x153).toNat ([] : List ((Int) × (Nat)))).length : Int)) ∧ impl_SlopeCuts_1.wp ((l0.getD (x153).toNat ([] : List ((Int) × (Nat)))).getD (x158).toNat ((0 : Int), (0 : Nat))).1 ((l0.getD (x153).toNat ([] : List ((Int) × (Nat)))).getD (x158).toNat ((0 : Int), (0 : Nat))).2 a1 fun y165 => (0 ≤ best157 ∧ best157 < ((l0.getD (x153).toNat ([] : List ((Int) × (Nat)))).length : Int)) ∧ impl_SlopeCuts_1.wp ((l0.getD (x153).toNat ([] : List ((Int) × (Nat)))).getD (best157).toNat ((0 : Int), (0 : Nat))).1 ((l0.getD (x153).toNat ([] : List ((Int) × (Nat)))).getD (best157).toNat ((0 : Int), (0 : Nat))).2 a1 fun y168 => (((fcmp .lss .f32 y165 y168) = true → X156 (x158) (IntKind.i64.wrap (x158 + (1 : Int)))) ∧ ((fcmp .lss .f32 y165 y168) = false → X156 (best157) (IntKind.i64.wrap (x158 + (1 : Int)))))) ∧ (¬(x158 < ((l0.getD (x153).toNat ([] : List ((Int) × (Nat)))).length : Int)) → ((out149.length + ([best157] : List (Int)).length) * 8 ≤ 2 ^ 40) ∧ (0 ≤ best157 ∧ best157 < ((l0.getD (x153).toNat ([] : List ((Int) × (Nat)))).length : Int)) ∧ X148 (out149 ++ ([best157] : List (Int))) (IntKind.i64.wrap (many151 + ((l0.getD (x153).toNat ([] : List ((Int) × (Nat)))).getD (best157).toNat ((0 : Int), (0 : Nat))).1)) (fop .add .f32 sum152 ((l0.getD (x153).toNat ([] : List ((Int) × (Nat)))).getD (best157).toNat ((0 : Int), (0 : Nat))).2) (IntKind.i64.wrap (x153 + (1 : Int))))) → X156 best157 x158) → X156 (0 : Int) (0 : Int)) ∧ (¬(x153 < (l0.length : Int)) → impl_IsFinite.wp sum152 fun y180 => ((y180 = true → K (out149) (many151) (sum152) (true)) ∧ (y180 = false → K ([] : List (Int)) (0 : Int) (cz .f32 0) (false))))) → X148 out149 many151 sum152 x153) → X148 ([] : List (Int)) (0 : Int) (cz .f32 0) (0 : Int)) ∧ (y107 = false → K ([] : List (Int)) (0 : Int) (cz .f32 0) (false)))) ∧ (y104 = false → K ([] : List (Int)) (0 : Int) (cz .f32 0) (false)))
end Go.Proofs.Ytecdkjnomkdbkaa.G

namespace Go.Proofs.Ytecdkjnomkdbkaa.G
open Go Go.Ab
set_option maxRecDepth 100000
set_option linter.unusedVariables false
set_option linter.unusedSimpArgs false
set_option maxHeartbeats 1000000
def laws_b10Gap.wp (a0 : Nat) (a1 : Nat) (K : Nat → Prop) : Prop := (((fcmp .lss .f64 a0 a1) = true → K (fop .sub .f64 a1 a0)) ∧ ((fcmp .lss .f64 a0 a1) = false → K (fop .sub .f64 a0 a1)))
end Go.Proofs.Ytecdkjnomkdbkaa.G

namespace Go.Proofs.Ytecdkjnomkdbkaa.G
open Go Go.Ab
set_option maxRecDepth 100000
set_option linter.unusedVariables false
set_option linter.unusedSimpArgs false
set_option maxHeartbeats 1000000
def laws_b10Ints.wp (l0 : List (Int)) (l1 : List (Int)) (K : Bool → Prop) : Prop := (((l0.length : Int) = (l1.length : Int) → ∀ X102 : Int → Prop, (∀ (x103 : Int), ((x103 < (l0.length : Int) → (0 ≤ x103 ∧ x103 < (l0.length : Int)) ∧ (0 ≤ x103 ∧ x103 < (l1.length : Int)) ∧ (((l0.getD (x103).toNat (0 : Int)) = (l1.getD (x103).toNat (0 : Int)) → X102 (IntKind.i64.wrap (x103 + (1 : Int)))) ∧ (¬((l0.getD (x103).toNat (0 : Int)) = (l1.getD (x103).toNat (0 : Int))) → K (false)))) ∧ (¬(x103 < (l0.length : Int)) → K (true))) → X102 x103) → X102 (0 : Int)) ∧ (¬((l0.length : Int) = (l1.length : Int)) → K (false)))
end Go.Proofs.Ytecdkjnomkdbkaa.G

namespace Go.Proofs.Ytecdkjnomkdbkaa.G
open Go Go.Ab
set_option maxRecDepth 100000
set_option linter.unusedVariables false
set_option linter.unusedSimpArgs false
set_option maxHeartbeats 1000000
def math_Float32bits.wp (x : Nat) (K : Int → Prop) : Prop := (num .f32 x = true) ∧ K (x : Int)
end Go.Proofs.Ytecdkjnomkdbkaa.G

namespace Go.Proofs.Ytecdkjnomkdbkaa.G
open Go Go.Ab
set_option maxRecDepth 100000
set_option linter.unusedVariables false
set_option linter.unusedSimpArgs false
set_option maxHeartbeats 1000000
def spec_l01Bits.wp (a0 : Nat) (K : Int → Prop) : Prop := (((fcmp .neq .f32 a0 a0) = true → K (2143289344 : Int)) ∧ ((fcmp .neq .f32 a0 a0) = false → math_Float32bits.wp a0 fun y102 => K (IntKind.i64.wrap y102)))
end Go.Proofs.Ytecdkjnomkdbkaa.G

namespace Go.Proofs.Ytecdkjnomkdbkaa.G
open Go Go.Ab
set_option maxRecDepth 100000
set_option linter.unusedVariables false
set_option linter.unusedSimpArgs false
set_option maxHeartbeats 1000000
def spec_l01Same.wp (a0 : Nat) (a1 : Nat) (K : Bool → Prop) : Prop := spec_l01Bits.wp a0 fun y101 => spec_l01Bits.wp a1 fun y103 => K (decide (y101 = y103))
end Go.Proofs.Ytecdkjnomkdbkaa.G

namespace Go.Proofs.Ytecdkjnomkdbkaa.G
open Go Go.Ab
set_option maxRecDepth 100000
set_option linter.unusedVariables false
set_option linter.unusedSimpArgs false
set_option maxHeartbeats 1000000
def spec_SameNumber.wp (a0 : Nat) (a1 : Nat) (K : Bool → Prop) : Prop := spec_l01Same.wp a0 a1 fun y101 => K (y101)
end Go.Proofs.Ytecdkjnomkdbkaa.G

namespace Go.Proofs.Ytecdkjnomkdbkaa.G
open Go Go.Ab
set_option maxRecDepth 100000
set_option linter.unusedVariables false
set_option linter.unusedSimpArgs false
set_option maxHeartbeats 1000000
def impl_EdgeCosts.wp (l0 : List ((Int) × (Nat))) (K : (List (Int)) → Bool → Prop) : Prop := impl_AreCosts.wp l0 fun y101 => ((y101 = true → ∀ X129 : List (Int) → Int → Prop, (∀ (out130 : List (Int)) (i132 : Int), ((i132 < (IntKind.i64.wrap ((l0.length : Int) - (1 : Int))) → ∀ X134 : Int → Nat → Int → Prop, (∀ (next135 : Int) (best136 : Nat) (k137 : Int), ((k137 < (l0.length : Int) → (0 ≤ i132 ∧ i132 < (l0.length : Int)) ∧ (0 ≤ k137 ∧ k137 < (l0.length : Int)) ∧ ((next135 = i132 → X134 (k137) (fop .quo .f32 (fop .sub .f32 (l0.getD (i132).toNat ((0 : Int), (0 : Nat))).2 (l0.getD (k137).toNat ((0 : Int), (0 : Nat))).2) (itof .f32 (IntKind.i64.wrap ((l0.getD (k137).toNat ((0 : Int), (0 : Nat))).1 - (l0.getD (i132).toNat ((0 : Int), (0 : Nat))).1)))) (IntKind.i64.wrap (k137 + (1 : Int)))) ∧ (¬(next135 = i132) → (((fcmp .geq .f32 (fop .quo .f32 (fop .sub .f32 (l0.getD (i132).toNat ((0 : Int), (0 : Nat))).2 (l0.getD (k137).toNat ((0 : Int), (0 : Nat))).2) (itof .f32 (IntKind.i64.wrap ((l0.getD (k137).toNat ((0 : Int), (0 : Nat))).1 - (l0.getD (i132).toNat ((0 : Int), (0 : Nat))).1)))) best136) = true → X134 (k137) (fop .quo .f32 (fop .sub .f32 (l0.getD (i132).toNat ((0 : Int), (0 : Nat))).2 (l0.getD (k137).toNat ((0 : Int), (0 : Nat))).2) (itof .f32 (IntKind.i64.wrap ((l0.getD (k137).toNat ((0 : Int), (0 : Nat))).1 - (l0.getD (i132).toNat ((0 : Int), (0 : Nat))).1)))) (IntKind.i64.wrap (k137 + (1 : Int)))) ∧ ((fcmp .geq .f32 (fop .quo .f32 (fop .sub .f32 (l0.getD (i132).toNat ((0 : Int), (0 : Nat))).2 (l0.getD (k137).toNat ((0 : Int), (0 : Nat))).2) (itof .f32 (IntKind.i64.wrap ((l0.getD (k137).toNat ((0 : Int), (0 : Nat))).1 - (l0.getD (i132).toNat ((0 : Int), (0 : Nat))).1)))) best136) = false → X134 (next135) (best136) (IntKind.i64.wrap (k137 + (1 : Int)))))))) ∧ (¬(k137 < (l0.length : Int)) → ((out130.length + ([next135] : List (Int)).length) * 8 ≤ 2 ^ 40) ∧ X129 (out130 ++ ([next135] : List (Int))) (next135))) → X134 next135 best136 k137) → X134 (i132) (cz .f32 0) (IntKind.i64.wrap (i132 + (1 : Int)))) ∧ (¬(i132 < (IntKind.i64.wrap ((l0.length : Int) - (1 : Int)))) → K (out130) (true))) → X129 out130 i132) → X129 ([(0 : Int)] : List (Int)) (0 : Int)) ∧ (y101 = false → K ([] : List (Int)) (false)))
end Go.Proofs.Ytecdkjnomkdbkaa.G

namespace Go.Proofs.Ytecdkjnomkdbkaa.G
open Go Go.Ab
set_option maxRecDepth 100000
set_option linter.unusedVariables false
set_option linter.unusedSimpArgs false
set_option maxHeartbeats 1000000
def laws_FnCuts.wp (l0 : List (Int)) (l1 : List (Int)) (K : Bool → Prop) : Prop := laws_b10Long.wp l0 l1 fun y101 => ((y101 = true → K (true)) ∧ (y101 = false → spec_B10Blocks.wp l0 fun y104 => laws_b10At.wp l1 (0 : Int) (17 : Int) fun y110 => impl_SlopeCuts.wp y104 (fop .quo .f32 (itof .f32 y110) (cz .f32 1098907648)) fun y112 y115 y116 y117 => ((y117 = true → (((y112.length : Int) = (y104.length : Int) → ((y115 < (0 : Int) → K (false)) ∧ (¬(y115 < (0 : Int)) → ∀ X122 : Int → Nat → Int → Prop, (∀ (told123 : Int) (sum124 : Nat) (x125 : Int), ((x125 < (y112.length : Int) → (0 ≤ x125 ∧ x125 < (y112.length : Int)) ∧ (((y112.getD (x125).toNat (0 : Int)) < (0 : Int) → K (false)) ∧ (¬((y112.getD (x125).toNat (0 : Int)) < (0 : Int)) → (0 ≤ x125 ∧ x125 < (y104.length : Int)) ∧ ((((y104.getD (x125).toNat ([] : List ((Int) × (Nat)))).length : Int) ≤ (y112.getD (x125).toNat (0 : Int)) → K (false)) ∧ (¬(((y104.getD (x125).toNat ([] : List ((Int) × (Nat)))).length : Int) ≤ (y112.getD (x125).toNat (0 : Int))) → (0 ≤ (y112.getD (x125).toNat (0 : Int)) ∧ (y112.getD (x125).toNat (0 : Int)) < ((y104.getD (x125).toNat ([] : List ((Int) × (Nat)))).length : Int)) ∧ X122 (IntKind.i64.wrap (told123 + ((y104.getD (x125).toNat ([] : List ((Int) × (Nat)))).getD ((y112.getD (x125).toNat (0 : Int))).toNat ((0 : Int), (0 : Nat))).1)) (fop .add .f64 sum124 (widen ((y104.getD (x125).toNat ([] : List ((Int) × (Nat)))).getD ((y112.getD (x125).toNat (0 : Int))).toNat ((0 : Int), (0 : Nat))).2)) (IntKind.i64.wrap (x125 + (1 : Int)))))))) ∧ (¬(x125 < (y112.length : Int)) → impl_BestCuts.wp y104 y115 fun y132 y135 y136 => ((told123 = y115 → laws_b10Gap.wp sum124 (widen y116) fun y139 => (((fcmp .gtr .f64 y139 (cz .f64 4576918229304087675)) = true → K (false)) ∧ ((fcmp .gtr .f64 y139 (cz .f64 4576918229304087675)) = false → ((y136 = true → (((y132.length : Int) = (y104.length : Int) → (((fcmp .gtr .f64 (widen y135) (fop .add .f64 (widen y116) (cz .f64 4576918229304087675))) = true → K (false)) ∧ ((fcmp .gtr .f64 (widen y135) (fop .add .f64 (widen y116) (cz .f64 4576918229304087675))) = false → (((fcmp .lss .f64 (widen y135) (fop .sub .f64 (widen y116) (cz .f64 4576918229304087675))) = true → K (false)) ∧ ((fcmp .lss .f64 (widen y135) (fop .sub .f64 (widen y116) (cz .f64 4576918229304087675))) = false → laws_b10At.wp l1 (1 : Int) (60 : Int) fun y146 => impl_BestCuts.wp y104 y146 fun y148 y151 y152 => impl_BestCuts.wp y104 (IntKind.i64.wrap (y146 + (5 : Int))) fun y154 y157 y158 => spec_BestCuts.wp y104 y146 fun y160 y163 y164 => ((y152 = true → ((y158 = true → ((y164 = true → (((y148.length : Int) = (y104.length : Int) → (((y154.length : Int) = (y104.length : Int) → laws_b10Ints.wp y148 y160 fun y171 => ((y171 = true → spec_SameNumber.wp y151 y163 fun y174 => ((y174 = true → (((fcmp .gtr .f32 y157 y151) = true → K (false)) ∧ ((fcmp .gtr .f32 y157 y151) = false → ∀ X178 : Int → Int → Prop, (∀ (used179 : Int) (x180 : Int), ((x180 < (y148.length : Int) → (0 ≤ x180 ∧ x180 < (y104.length : Int)) ∧ (0 ≤ x180 ∧ x180 < (y148.length : Int)) ∧ (0 ≤ (y148.getD (x180).toNat (0 : Int)) ∧ (y148.getD (x180).toNat (0 : Int)) < ((y104.getD (x180).toNat ([] : List ((Int) × (Nat)))).length : Int)) ∧ X178 (IntKind.i64.wrap (used179 + ((y104.getD (x180).toNat ([] : List ((Int) × (Nat)))).getD ((y148.getD (x180).toNat (0 : Int))).toNat ((0 : Int), (0 : Nat))).1)) (IntKind.i64.wrap (x180 + (1 : Int)))) ∧ (¬(x180 < (y148.length : Int)) → (0 ≤ (0 : Int) ∧ (0 : Int) < (y104.length : Int)) ∧ impl_EdgeCosts.wp (y104.getD ((0 : Int)).toNat ([] : List ((Int) × (Nat)))) fun y186 y189 => ((y189 = true → ((y146 < used179 → K (false)) ∧ (¬(y146 < used179) → (((y186.length : Int) = (0 : Int) → K (false)) ∧ (¬((y186.length : Int) = (0 : Int)) → (0 ≤ (0 : Int) ∧ (0 : Int) < (y186.length : Int)) ∧ (((y186.getD ((0 : Int)).toNat (0 : Int)) = (0 : Int) → (0 ≤ (IntKind.i64.wrap ((y186.length : Int) - (1 : Int))) ∧ (IntKind.i64.wrap ((y186.length : Int) - (1 : Int))) < (y186.length : Int)) ∧ (((y186.getD ((IntKind.i64.wrap ((y186.length : Int) - (1 : Int)))).toNat (0 : Int)) = (IntKind.i64.wrap (((y104.getD ((0 : Int)).toNat ([] : List ((Int) × (Nat)))).length : Int) - (1 : Int))) → impl_AreCosts.wp (y104.getD ((0 : Int)).toNat ([] : List ((Int) × (Nat)))) fun y198 => ((y198 = true → ∀ X201 : Int → Prop, (∀ (x202 : Int), ((x202 < (y186.length : Int) → (((0 : Int) < x202 → (0 ≤ x202 ∧ x202 < (y186.length : Int)) ∧ (0 ≤ (IntKind.i64.wrap (x202 - (1 : Int))) ∧ (IntKind.i64.wrap (x202 - (1 : Int))) < (y186.length : Int)) ∧ (((y186.getD (x202).toNat (0 : Int)) ≤ (y186.getD ((IntKind.i64.wrap (x202 - (1 : Int)))).toNat (0 : Int)) → K (false)) ∧ (¬((y186.getD (x202).toNat (0 : Int)) ≤ (y186.getD ((IntKind.i64.wrap (x202 - (1 : Int)))).toNat (0 : Int))) → ((((y104.getD ((0 : Int)).toNat ([] : List ((Int) × (Nat)))).length : Int) ≤ (y186.getD (x202).toNat (0 : Int)) → K (false)) ∧ (¬(((y104.getD ((0 : Int)).toNat ([] : List ((Int) × (Nat)))).length : Int) ≤ (y186.getD (x202).toNat (0 : Int))) → X201 (IntKind.i64.wrap (x202 + (1 : Int)))))))) ∧ (¬((0 : Int) < x202) → X201 (IntKind.i64.wrap (x202 + (1 : Int)))))) ∧ (¬(x202 < (y186.length : Int)) → K (true))) → X201 x202) → X201 (0 : Int)) ∧ (y198 = false → K (false)))) ∧ (¬((y186.getD ((IntKind.i64.wrap ((y186.length : Int) - (1 : Int)))).toNat (0 : Int)) = (IntKind.i64.wrap (((y104.getD ((0 : Int)).toNat ([] : List ((Int) × (Nat)))).length : Int) - (1 : Int)))) → K (false)))) ∧ (¬((y186.getD ((0 : Int)).toNat (0 : Int)) = (0 : Int)) → K (false)))))))) ∧ (y189 = false → K (false))))) → X178 used179 x180) → X178 (0 : Int) (0 : Int)))) ∧ (y174 = false → K (false)))) ∧ (y171 = false → K (false)))) ∧ (¬((y154.length : Int) = (y104.length : Int)) → K (false)))) ∧ (¬((y148.length : Int) = (y104.length : Int)) → K (false)))) ∧ (y164 = false → K (false)))) ∧ (y158 = false → K (false)))) ∧ (y152 = false → K (false)))))))) ∧ (¬((y132.length : Int) = (y104.length : Int)) → K (false)))) ∧ (y136 = false → K (false)))))) ∧ (¬(told123 = y115) → K (false))))) → X122 told123 sum124 x125) → X122 (0 : Int) (cz .f64 0) (0 : Int)))) ∧ (¬((y112.length : Int) = (y104.length : Int)) → K (false)))) ∧ (y117 = false → K (false)))))
end Go.Proofs.Ytecdkjnomkdbkaa.G

namespace Go.Proofs.Ytecdkjnomkdbkaa.G
open Go Go.Ab
set_option maxRecDepth 100000
set_option linter.unusedVariables false
set_option linter.unusedSimpArgs false
set_option maxHeartbeats 1000000
def laws_sameFloat.wp (a0 : Nat) (a1 : Nat) (K : Bool → Prop) : Prop := (((fcmp .neq .f64 a0 a0) = true → K (fcmp .neq .f64 a1 a1)) ∧ ((fcmp .neq .f64 a0 a0) = false → (((fcmp .neq .f64 a1 a1) = true → K (false)) ∧ ((fcmp .neq .f64 a1 a1) = false → (((fcmp .eql .f64 a0 (cz .f64 0)) = true → (((fcmp .eql .f64 a1 (cz .f64 0)) = true → K ((fcmp .gtr .f64 (fop .quo .f64 (cz .f64 4607182418800017408) a0) (cz .f64 0)) == (fcmp .gtr .f64 (fop .quo .f64 (cz .f64 4607182418800017408) a1) (cz .f64 0)))) ∧ ((fcmp .eql .f64 a1 (cz .f64 0)) = false → K (fcmp .eql .f64 a0 a1)))) ∧ ((fcmp .eql .f64 a0 (cz .f64 0)) = false → K (fcmp .eql .f64 a0 a1)))))))
end Go.Proofs.Ytecdkjnomkdbkaa.G

namespace Go.Proofs.Ytecdkjnomkdbkaa.G
open Go Go.Ab
set_option maxRecDepth 100000
set_option linter.unusedVariables false
set_option linter.unusedSimpArgs false
set_option maxHeartbeats 1000000
def laws_eqInt64S.wp (l0 : List (Int)) (l1 : List (Int)) (K : Bool → Prop) : Prop := (((l0.length : Int) = (l1.length : Int) → ∀ X102 : Int → Prop, (∀ (i103 : Int), ((i103 < (l0.length : Int) → (0 ≤ i103 ∧ i103 < (l0.length : Int)) ∧ (0 ≤ i103 ∧ i103 < (l1.length : Int)) ∧ (((l0.getD (i103).toNat (0 : Int)) = (l1.getD (i103).toNat (0 : Int)) → X102 (IntKind.i64.wrap (i103 + (1 : Int)))) ∧ (¬((l0.getD (i103).toNat (0 : Int)) = (l1.getD (i103).toNat (0 : Int))) → K (false)))) ∧ (¬(i103 < (l0.length : Int)) → K (true))) → X102 i103) → X102 (0 : Int)) ∧ (¬((l0.length : Int) = (l1.length : Int)) → K (false)))
end Go.Proofs.Ytecdkjnomkdbkaa.G

namespace Go.Proofs.Ytecdkjnomkdbkaa.G
open Go Go.Ab
set_option maxRecDepth 100000
set_option linter.unusedVariables false
set_option linter.unusedSimpArgs false
set_option maxHeartbeats 1000000
def laws_markInt64S.wp (l0 : List (Int)) (a1 : Int) (K : Int → (List (Int)) → Prop) : Prop := ∀ X108 : List (Int) → Int → Int → Prop, (∀ (a109 : List (Int)) (k110 : Int) (i111 : Int), ((i111 < (a109.length : Int) → (0 ≤ i111 ∧ i111 < (a109.length : Int)) ∧ X108 (a109.set (i111).toNat k110) (IntKind.i64.wrap (k110 + (1 : Int))) (IntKind.i64.wrap (i111 + (1 : Int)))) ∧ (¬(i111 < (a109.length : Int)) → K (k110) (a109))) → X108 a109 k110 i111) → X108 (l0) (a1) (0 : Int)
end Go.Proofs.Ytecdkjnomkdbkaa.G

namespace Go.Proofs.Ytecdkjnomkdbkaa.G
open Go Go.Ab
set_option maxRecDepth 100000
set_option linter.unusedVariables false
set_option linter.unusedSimpArgs false
set_option maxHeartbeats 1000000
def laws_heldInt64S.wp (l0 : List (Int)) (a1 : Int) (K : Int → Prop) : Prop := ∀ X101 : Int → Int → Prop, (∀ (k102 : Int) (i103 : Int), ((i103 < (l0.length : Int) → (0 ≤ i103 ∧ i103 < (l0.length : Int)) ∧ (((l0.getD (i103).toNat (0 : Int)) = k102 → X101 (IntKind.i64.wrap (k102 + (1 : Int))) (IntKind.i64.wrap (i103 + (1 : Int)))) ∧ (¬((l0.getD (i103).toNat (0 : Int)) = k102) → K (-1 : Int)))) ∧ (¬(i103 < (l0.length : Int)) → K (k102))) → X101 k102 i103) → X101 (a1) (0 : Int)
end Go.Proofs.Ytecdkjnomkdbkaa.G

namespace Go.Proofs.Ytecdkjnomkdbkaa.G
open Go Go.Ab
set_option maxRecDepth 100000
set_option linter.unusedVariables false
set_option linter.unusedSimpArgs false
set_option maxHeartbeats 1000000
def laws_toInt64S.wp (l0 : List (Int)) (K : (List (Int)) → Prop) : Prop := (0 ≤ (l0.length : Int) ∧ (l0.length : Int) ≤ (l0.length : Int) ∧ (l0.length : Int) ≤ 2 ^ 40 ∧ (l0.length : Int) * 8 ≤ 2 ^ 40) ∧ ∀ X111 : List (Int) → Int → Prop, (∀ (out112 : List (Int)) (i113 : Int), ((i113 < (l0.length : Int) → (0 ≤ i113 ∧ i113 < (l0.length : Int)) ∧ (0 ≤ i113 ∧ i113 < (out112.length : Int)) ∧ X111 (out112.set (i113).toNat (l0.getD (i113).toNat (0 : Int))) (IntKind.i64.wrap (i113 + (1 : Int)))) ∧ (¬(i113 < (l0.length : Int)) → K (out112))) → X111 out112 i113) → X111 (List.replicate ((l0.length : Int)).toNat (0 : Int)) (0 : Int)
end Go.Proofs.Ytecdkjnomkdbkaa.G

namespace Go.Proofs.Ytecdkjnomkdbkaa.G
open Go Go.Ab
set_option maxRecDepth 100000
set_option linter.unusedVariables false
set_option linter.unusedSimpArgs false
set_option maxHeartbeats 1000000
def spec_l02Bound.wp (l0 : List (Int)) (a1 : Int) (K : Bool → Prop) : Prop := ∀ X101 : Int → Prop, (∀ (i102 : Int), ((i102 < (l0.length : Int) → (0 ≤ i102 ∧ i102 < (l0.length : Int)) ∧ spec_l00In.wp (l0.getD (i102).toNat (0 : Int)) (IntKind.i64.wrap (0 - a1)) a1 fun y105 => ((y105 = true → X101 (IntKind.i64.wrap (i102 + (1 : Int)))) ∧ (y105 = false → K (false)))) ∧ (¬(i102 < (l0.length : Int)) → K (true))) → X101 i102) → X101 (0 : Int)
end Go.Proofs.Ytecdkjnomkdbkaa.G

namespace Go.Proofs.Ytecdkjnomkdbkaa.G
open Go Go.Ab
set_option maxRecDepth 100000
set_option linter.unusedVariables false
set_option linter.unusedSimpArgs false
set_option maxHeartbeats 1000000
def spec_l02Integers.wp (l0 : List (Int)) (K : Bool → Prop) : Prop := (((1 : Int) ≤ (l0.length : Int) → (((l0.length : Int) ≤ (128 : Int) → spec_l02Bound.wp l0 (1000000 : Int) fun y103 => K (y103)) ∧ (¬((l0.length : Int) ≤ (128 : Int)) → K (false)))) ∧ (¬((1 : Int) ≤ (l0.length : Int)) → K (false)))
end Go.Proofs.Ytecdkjnomkdbkaa.G

namespace Go.Proofs.Ytecdkjnomkdbkaa.G
open Go Go.Ab
set_option maxRecDepth 100000
set_option linter.unusedVariables false
set_option linter.unusedSimpArgs false
set_option maxHeartbeats 1000000
def impl_areWithin.wp (l0 : List (Int)) (a1 : Int) (K : Bool → Prop) : Prop := ∀ X101 : Int → Prop, (∀ (x102 : Int), ((x102 < (l0.length : Int) → (0 ≤ x102 ∧ x102 < (l0.length : Int)) ∧ impl_within.wp (l0.getD (x102).toNat (0 : Int)) (IntKind.i64.wrap (0 - a1)) a1 fun y105 => ((y105 = true → X101 (IntKind.i64.wrap (x102 + (1 : Int)))) ∧ (y105 = false → K (false)))) ∧ (¬(x102 < (l0.length : Int)) → K (true))) → X101 x102) → X101 (0 : Int)
end Go.Proofs.Ytecdkjnomkdbkaa.G

namespace Go.Proofs.Ytecdkjnomkdbkaa.G
open Go Go.Ab
set_option maxRecDepth 100000
set_option linter.unusedVariables false
set_option linter.unusedSimpArgs false
set_option maxHeartbeats 1000000
def impl_AreIntegers.wp (l0 : List (Int)) (K : Bool → Prop) : Prop := impl_within.wp (l0.length : Int) (1 : Int) (128 : Int) fun y101 => ((y101 = true → impl_areWithin.wp l0 (1000000 : Int) fun y104 => K (y104)) ∧ (y101 = false → K (false)))
end Go.Proofs.Ytecdkjnomkdbkaa.G

namespace Go.Proofs.Ytecdkjnomkdbkaa.G
open Go Go.Ab
set_option maxRecDepth 100000
set_option linter.unusedVariables false
set_option linter.unusedSimpArgs false
set_option maxHeartbeats 1000000
def impl_isShare.wp (a0 : Nat) (K : Bool → Prop) : Prop := (((fcmp .geq .f32 a0 (cz .f32 0)) = true → K (fcmp .leq .f32 a0 (cz .f32 1065353216))) ∧ ((fcmp .geq .f32 a0 (cz .f32 0)) = false → K (false)))
end Go.Proofs.Ytecdkjnomkdbkaa.G

namespace Go.Proofs.Ytecdkjnomkdbkaa.G
open Go Go.Ab
set_option maxRecDepth 100000
set_option linter.unusedVariables false
set_option linter.unusedSimpArgs false
set_option maxHeartbeats 1000000
def impl_areFinite.wp (l0 : List (List (Nat))) (K : Bool → Prop) : Prop := ∀ X101 : Int → Prop, (∀ (x102 : Int), ((x102 < (l0.length : Int) → (0 ≤ x102 ∧ x102 < (l0.length : Int)) ∧ ∀ X105 : Int → Prop, (∀ (x106 : Int), ((x106 < ((l0.getD (x102).toNat ([] : List (Nat))).length : Int) → (0 ≤ x106 ∧ x106 < ((l0.getD (x102).toNat ([] : List (Nat))).length : Int)) ∧ impl_IsFinite.wp ((l0.getD (x102).toNat ([] : List (Nat))).getD (x106).toNat (0 : Nat)) fun y109 => ((y109 = true → X105 (IntKind.i64.wrap (x106 + (1 : Int)))) ∧ (y109 = false → K (false)))) ∧ (¬(x106 < ((l0.getD (x102).toNat ([] : List (Nat))).length : Int)) → X101 (IntKind.i64.wrap (x102 + (1 : Int))))) → X105 x106) → X105 (0 : Int)) ∧ (¬(x102 < (l0.length : Int)) → K (true))) → X101 x102) → X101 (0 : Int)
end Go.Proofs.Ytecdkjnomkdbkaa.G

namespace Go.Proofs.Ytecdkjnomkdbkaa.G
open Go Go.Ab
set_option maxRecDepth 100000
set_option linter.unusedVariables false
set_option linter.unusedSimpArgs false
set_option maxHeartbeats 1000000
def impl_finiteList.wp (l0 : List (Nat)) (K : Bool → Bool → Prop) : Prop := impl_areFinite.wp ([l0] : List (List (Nat))) fun y104 => ((y104 = true → K (true) (true)) ∧ (y104 = false → K (false) (false)))
end Go.Proofs.Ytecdkjnomkdbkaa.G

namespace Go.Proofs.Ytecdkjnomkdbkaa.G
open Go Go.Ab
set_option maxRecDepth 100000
set_option linter.unusedVariables false
set_option linter.unusedSimpArgs false
set_option maxHeartbeats 1000000
def spec_l02Share.wp (a0 : Nat) (K : Bool → Prop) : Prop := (((fcmp .geq .f32 a0 (cz .f32 0)) = true → K (fcmp .leq .f32 a0 (cz .f32 1065353216))) ∧ ((fcmp .geq .f32 a0 (cz .f32 0)) = false → K (false)))
end Go.Proofs.Ytecdkjnomkdbkaa.G

namespace Go.Proofs.Ytecdkjnomkdbkaa.G
open Go Go.Ab
set_option maxRecDepth 100000
set_option linter.unusedVariables false
set_option linter.unusedSimpArgs false
set_option maxHeartbeats 1000000
def spec_l02Finite.wp (l0 : List (Nat)) (K : Bool → Prop) : Prop := ∀ X101 : Int → Prop, (∀ (i102 : Int), ((i102 < (l0.length : Int) → (0 ≤ i102 ∧ i102 < (l0.length : Int)) ∧ spec_l01Finite.wp (l0.getD (i102).toNat (0 : Nat)) fun y105 => ((y105 = true → X101 (IntKind.i64.wrap (i102 + (1 : Int)))) ∧ (y105 = false → K (false)))) ∧ (¬(i102 < (l0.length : Int)) → K (true))) → X101 i102) → X101 (0 : Int)
end Go.Proofs.Ytecdkjnomkdbkaa.G

namespace Go.Proofs.Ytecdkjnomkdbkaa.G
open Go Go.Ab
set_option maxRecDepth 100000
set_option linter.unusedVariables false
set_option linter.unusedSimpArgs false
set_option maxHeartbeats 1000000
def laws_szCostS.wp (l0 : List ((Int) × (Nat))) (a1 : Int) (K : Int → Prop) : Prop := (((IntKind.i64.wrap (a1 - (l0.length : Int))) < (0 : Int) → K (-1 : Int)) ∧ (¬((IntKind.i64.wrap (a1 - (l0.length : Int))) < (0 : Int)) → K (IntKind.i64.wrap (a1 - (l0.length : Int)))))
end Go.Proofs.Ytecdkjnomkdbkaa.G

namespace Go.Proofs.Ytecdkjnomkdbkaa.G
open Go Go.Ab
set_option maxRecDepth 100000
set_option linter.unusedVariables false
set_option linter.unusedSimpArgs false
set_option maxHeartbeats 1000000
def laws_toCost.wp (a0 : Int) (a1 : Nat) (K : Int → Nat → Prop) : Prop := K (a0) (a1)
end Go.Proofs.Ytecdkjnomkdbkaa.G

namespace Go.Proofs.Ytecdkjnomkdbkaa.G
open Go Go.Ab
set_option maxRecDepth 100000
set_option linter.unusedVariables false
set_option linter.unusedSimpArgs false
set_option maxHeartbeats 1000000
def laws_toCostS.wp (l0 : List ((Int) × (Nat))) (K : (List ((Int) × (Nat))) → Prop) : Prop := (0 ≤ (l0.length : Int) ∧ (l0.length : Int) ≤ (l0.length : Int) ∧ (l0.length : Int) ≤ 2 ^ 40 ∧ (l0.length : Int) * 16 ≤ 2 ^ 40) ∧ ∀ X114 : List ((Int) × (Nat)) → Int → Prop, (∀ (out115 : List ((Int) × (Nat))) (i116 : Int), ((i116 < (l0.length : Int) → (0 ≤ i116 ∧ i116 < (l0.length : Int)) ∧ laws_toCost.wp (l0.getD (i116).toNat ((0 : Int), (0 : Nat))).1 (l0.getD (i116).toNat ((0 : Int), (0 : Nat))).2 fun y119 y120 => (0 ≤ i116 ∧ i116 < (out115.length : Int)) ∧ X114 (out115.set (i116).toNat (y119, y120)) (IntKind.i64.wrap (i116 + (1 : Int)))) ∧ (¬(i116 < (l0.length : Int)) → K (out115))) → X114 out115 i116) → X114 (List.replicate ((l0.length : Int)).toNat ((0 : Int), (0 : Nat))) (0 : Int)
end Go.Proofs.Ytecdkjnomkdbkaa.G

namespace Go.Proofs.Ytecdkjnomkdbkaa.G
open Go Go.Ab
set_option maxRecDepth 100000
set_option linter.unusedVariables false
set_option linter.unusedSimpArgs false
set_option maxHeartbeats 1000000
def laws_eqCost.wp (a0 : Int) (a1 : Nat) (a2 : Int) (a3 : Nat) (K : Bool → Prop) : Prop := ((a0 = a2 → laws_sameFloat.wp (widen a1) (widen a3) fun y108 => ((y108 = true → K (true)) ∧ (y108 = false → K (false)))) ∧ (¬(a0 = a2) → K (false)))
end Go.Proofs.Ytecdkjnomkdbkaa.G

namespace Go.Proofs.Ytecdkjnomkdbkaa.G
open Go Go.Ab
set_option maxRecDepth 100000
set_option linter.unusedVariables false
set_option linter.unusedSimpArgs false
set_option maxHeartbeats 1000000
def laws_eqCostS.wp (l0 : List ((Int) × (Nat))) (l1 : List ((Int) × (Nat))) (K : Bool → Prop) : Prop := (((l0.length : Int) = (l1.length : Int) → ∀ X102 : Int → Prop, (∀ (i103 : Int), ((i103 < (l0.length : Int) → (0 ≤ i103 ∧ i103 < (l0.length : Int)) ∧ (0 ≤ i103 ∧ i103 < (l1.length : Int)) ∧ laws_eqCost.wp (l0.getD (i103).toNat ((0 : Int), (0 : Nat))).1 (l0.getD (i103).toNat ((0 : Int), (0 : Nat))).2 (l1.getD (i103).toNat ((0 : Int), (0 : Nat))).1 (l1.getD (i103).toNat ((0 : Int), (0 : Nat))).2 fun y107 => ((y107 = true → X102 (IntKind.i64.wrap (i103 + (1 : Int)))) ∧ (y107 = false → K (false)))) ∧ (¬(i103 < (l0.length : Int)) → K (true))) → X102 i103) → X102 (0 : Int)) ∧ (¬((l0.length : Int) = (l1.length : Int)) → K (false)))
end Go.Proofs.Ytecdkjnomkdbkaa.G

namespace Go.Proofs.Ytecdkjnomkdbkaa.G
open Go Go.Ab
set_option maxRecDepth 100000
set_option linter.unusedVariables false
set_option linter.unusedSimpArgs false
set_option maxHeartbeats 1000000
def laws_markCostS.wp (l0 : List ((Int) × (Nat))) (a1 : Int) (K : Int → (List ((Int) × (Nat))) → Prop) : Prop := ∀ X110 : List ((Int) × (Nat)) → Int → Int → Prop, (∀ (a111 : List ((Int) × (Nat))) (k112 : Int) (i113 : Int), ((i113 < (a111.length : Int) → (0 ≤ i113 ∧ i113 < (a111.length : Int)) ∧ (0 ≤ i113 ∧ i113 < ((a111.set (i113).toNat (k112, (a111.getD (i113).toNat ((0 : Int), (0 : Nat))).2)).length : Int)) ∧ X110 ((a111.set (i113).toNat (k112, (a111.getD (i113).toNat ((0 : Int), (0 : Nat))).2)).set (i113).toNat (((a111.set (i113).toNat (k112, (a111.getD (i113).toNat ((0 : Int), (0 : Nat))).2)).getD (i113).toNat ((0 : Int), (0 : Nat))).1, (itof .f32 (IntKind.i64.wrap (k112 + (1 : Int)))))) (IntKind.i64.wrap ((IntKind.i64.wrap (k112 + (1 : Int))) + (1 : Int))) (IntKind.i64.wrap (i113 + (1 : Int)))) ∧ (¬(i113 < (a111.length : Int)) → K (k112) (a111))) → X110 a111 k112 i113) → X110 (l0) (a1) (0 : Int)
end Go.Proofs.Ytecdkjnomkdbkaa.G

namespace Go.Proofs.Ytecdkjnomkdbkaa.G
open Go Go.Ab
set_option maxRecDepth 100000
set_option linter.unusedVariables false
set_option linter.unusedSimpArgs false
set_option maxHeartbeats 1000000
def laws_szCostSS.wp (l0 : List (List ((Int) × (Nat)))) (a1 : Int) (K : Int → Prop) : Prop := (((IntKind.i64.wrap (a1 - (l0.length : Int))) < (0 : Int) → K (-1 : Int)) ∧ (¬((IntKind.i64.wrap (a1 - (l0.length : Int))) < (0 : Int)) → ∀ X102 : Int → Int → Prop, (∀ (left103 : Int) (i104 : Int), ((i104 < (l0.length : Int) → (0 ≤ i104 ∧ i104 < (l0.length : Int)) ∧ laws_szCostS.wp (l0.getD (i104).toNat ([] : List ((Int) × (Nat)))) left103 fun y107 => ((y107 < (0 : Int) → K (-1 : Int)) ∧ (¬(y107 < (0 : Int)) → X102 (y107) (IntKind.i64.wrap (i104 + (1 : Int)))))) ∧ (¬(i104 < (l0.length : Int)) → K (left103))) → X102 left103 i104) → X102 (IntKind.i64.wrap (a1 - (l0.length : Int))) (0 : Int)))
end Go.Proofs.Ytecdkjnomkdbkaa.G

namespace Go.Proofs.Ytecdkjnomkdbkaa.G
open Go Go.Ab
set_option maxRecDepth 100000
set_option linter.unusedVariables false
set_option linter.unusedSimpArgs false
set_option maxHeartbeats 1000000
def laws_toCostSS.wp (l0 : List (List ((Int) × (Nat)))) (K : (List (List ((Int) × (Nat)))) → Prop) : Prop := (0 ≤ (l0.length : Int) ∧ (l0.length : Int) ≤ (l0.length : Int) ∧ (l0.length : Int) ≤ 2 ^ 40 ∧ (l0.length : Int) * 24 ≤ 2 ^ 40) ∧ ∀ X119 : List (List ((Int) × (Nat))) → Int → Prop, (∀ (out120 : List (List ((Int) × (Nat)))) (i123 : Int), ((i123 < (l0.length : Int) → (0 ≤ i123 ∧ i123 < (l0.length : Int)) ∧ laws_toCostS.wp (l0.getD (i123).toNat ([] : List ((Int) × (Nat)))) fun y126 => (0 ≤ i123 ∧ i123 < (out120.length : Int)) ∧ X119 (out120.set (i123).toNat y126) (IntKind.i64.wrap (i123 + (1 : Int)))) ∧ (¬(i123 < (l0.length : Int)) → K (out120))) → X119 out120 i123) → X119 (List.replicate ((l0.length : Int)).toNat ([] : List ((Int) × (Nat)))) (0 : Int)
end Go.Proofs.Ytecdkjnomkdbkaa.G

namespace Go.Proofs.Ytecdkjnomkdbkaa.G
open Go Go.Ab
set_option maxRecDepth 100000
set_option linter.unusedVariables false
set_option linter.unusedSimpArgs false
set_option maxHeartbeats 1000000
def laws_eqCostSS.wp (l0 : List (List ((Int) × (Nat)))) (l1 : List (List ((Int) × (Nat)))) (K : Bool → Prop) : Prop := (((l0.length : Int) = (l1.length : Int) → ∀ X102 : Int → Prop, (∀ (i103 : Int), ((i103 < (l0.length : Int) → (0 ≤ i103 ∧ i103 < (l0.length : Int)) ∧ (0 ≤ i103 ∧ i103 < (l1.length : Int)) ∧ laws_eqCostS.wp (l0.getD (i103).toNat ([] : List ((Int) × (Nat)))) (l1.getD (i103).toNat ([] : List ((Int) × (Nat)))) fun y107 => ((y107 = true → X102 (IntKind.i64.wrap (i103 + (1 : Int)))) ∧ (y107 = false → K (false)))) ∧ (¬(i103 < (l0.length : Int)) → K (true))) → X102 i103) → X102 (0 : Int)) ∧ (¬((l0.length : Int) = (l1.length : Int)) → K (false)))
end Go.Proofs.Ytecdkjnomkdbkaa.G

namespace Go.Proofs.Ytecdkjnomkdbkaa.G
open Go Go.Ab
set_option maxRecDepth 100000
set_option linter.unusedVariables false
set_option linter.unusedSimpArgs false
set_option maxHeartbeats 1000000
def laws_markCostSS.wp (l0 : List (List ((Int) × (Nat)))) (a1 : Int) (K : Int → (List (List ((Int) × (Nat)))) → Prop) : Prop := ∀ X112 : List (List ((Int) × (Nat))) → Int → Int → Prop, (∀ (a113 : List (List ((Int) × (Nat)))) (k116 : Int) (i117 : Int), ((i117 < (a113.length : Int) → (0 ≤ i117 ∧ i117 < (a113.length : Int)) ∧ laws_markCostS.wp (a113.getD (i117).toNat ([] : List ((Int) × (Nat)))) k116 fun y122 y123 => X112 (a113.set (i117).toNat y123) (y122) (IntKind.i64.wrap (i117 + (1 : Int)))) ∧ (¬(i117 < (a113.length : Int)) → K (k116) (a113))) → X112 a113 k116 i117) → X112 (l0) (a1) (0 : Int)
end Go.Proofs.Ytecdkjnomkdbkaa.G

namespace Go.Proofs.Ytecdkjnomkdbkaa.G
open Go Go.Ab
set_option maxRecDepth 100000
set_option linter.unusedVariables false
set_option linter.unusedSimpArgs false
set_option maxHeartbeats 1000000
def spec_l03Size.wp (a0 : Nat) (K : Nat → Prop) : Prop := (((fcmp .leq .f32 a0 (cz .f32 0)) = true → K (fop .sub .f32 (cz .f32 0) a0)) ∧ ((fcmp .leq .f32 a0 (cz .f32 0)) = false → K (a0)))
end Go.Proofs.Ytecdkjnomkdbkaa.G

namespace Go.Proofs.Ytecdkjnomkdbkaa.G
open Go Go.Ab
set_option maxRecDepth 100000
set_option linter.unusedVariables false
set_option linter.unusedSimpArgs false
set_option maxHeartbeats 1000000
def impl_size.wp (a0 : Nat) (K : Nat → Prop) : Prop := (((fcmp .lss .f32 a0 (cz .f32 0)) = true → K (fneg .f32 a0)) ∧ ((fcmp .lss .f32 a0 (cz .f32 0)) = false → (((fcmp .eql .f32 a0 (cz .f32 0)) = true → K (cz .f32 0)) ∧ ((fcmp .eql .f32 a0 (cz .f32 0)) = false → K (a0)))))
end Go.Proofs.Ytecdkjnomkdbkaa.G

