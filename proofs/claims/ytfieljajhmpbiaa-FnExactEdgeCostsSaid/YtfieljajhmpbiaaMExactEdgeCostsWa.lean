/-
  What the functions compute, as formulas over numbers and lists. Printed by a program of the session; nothing here is trusted.
-/
import Derived.Test.YtfieljajhmpbiaaAbK
namespace Go.Proofs.Ytfieljajhmpbiaa.G
open Go Go.Ab
set_option maxRecDepth 100000
set_option linter.unusedVariables false
set_option linter.unusedSimpArgs false
set_option maxHeartbeats 1000000
def R_LeFlt_f32_o (H : Heap) (x : List (Nat)) (c : List AV) : Prop := c = [(c.getD 0 .und)] ∧ Shows H (c.getD 0 .und) 1 (enc (eFlt .f32) x)
def R_s_ii64_LeFlt_f32_poooq (H : Heap) (x : (List UInt8) × (Int) × (List (Nat))) (c : List AV) : Prop := c = [(.str (pk x.1)), (.int .i64 x.2.1), (c.getD 2 .und)] ∧ Shows H (c.getD 2 .und) 1 (enc (eFlt .f32) x.2.2)
end Go.Proofs.Ytfieljajhmpbiaa.G

namespace Go.Proofs.Ytfieljajhmpbiaa.G
open Go Go.Ab
set_option maxRecDepth 100000
set_option linter.unusedVariables false
set_option linter.unusedSimpArgs false
set_option maxHeartbeats 1000000
def laws_eqInt64S.wp (l0 : List (Int)) (l1 : List (Int)) (K : Bool → Prop) : Prop := (((l0.length : Int) = (l1.length : Int) → ∀ X102 : Int → Prop, (∀ (i103 : Int), ((i103 < (l0.length : Int) → (0 ≤ i103 ∧ i103 < (l0.length : Int)) ∧ (0 ≤ i103 ∧ i103 < (l1.length : Int)) ∧ (((l0.getD (i103).toNat (0 : Int)) = (l1.getD (i103).toNat (0 : Int)) → X102 (IntKind.i64.wrap (i103 + (1 : Int)))) ∧ (¬((l0.getD (i103).toNat (0 : Int)) = (l1.getD (i103).toNat (0 : Int))) → K (false)))) ∧ (¬(i103 < (l0.length : Int)) → K (true))) → X102 i103) → X102 (0 : Int)) ∧ (¬((l0.length : Int) = (l1.length : Int)) → K (false)))
end Go.Proofs.Ytfieljajhmpbiaa.G

namespace Go.Proofs.Ytfieljajhmpbiaa.G
open Go Go.Ab
set_option maxRecDepth 100000
set_option linter.unusedVariables false
set_option linter.unusedSimpArgs false
set_option maxHeartbeats 1000000
def laws_markInt64S.wp (l0 : List (Int)) (a1 : Int) (K : Int → (List (Int)) → Prop) : Prop := ∀ X108 : List (Int) → Int → Int → Prop, (∀ (a109 : List (Int)) (k110 : Int) (i111 : Int), ((i111 < (a109.length : Int) → (0 ≤ i111 ∧ i111 < (a109.length : Int)) ∧ X108 (a109.set (i111).toNat k110) (IntKind.i64.wrap (k110 + (1 : Int))) (IntKind.i64.wrap (i111 + (1 : Int)))) ∧ (¬(i111 < (a109.length : Int)) → K (k110) (a109))) → X108 a109 k110 i111) → X108 (l0) (a1) (0 : Int)
end Go.Proofs.Ytfieljajhmpbiaa.G

namespace Go.Proofs.Ytfieljajhmpbiaa.G
open Go Go.Ab
set_option maxRecDepth 100000
set_option linter.unusedVariables false
set_option linter.unusedSimpArgs false
set_option maxHeartbeats 1000000
def laws_heldInt64S.wp (l0 : List (Int)) (a1 : Int) (K : Int → Prop) : Prop := ∀ X101 : Int → Int → Prop, (∀ (k102 : Int) (i103 : Int), ((i103 < (l0.length : Int) → (0 ≤ i103 ∧ i103 < (l0.length : Int)) ∧ (((l0.getD (i103).toNat (0 : Int)) = k102 → X101 (IntKind.i64.wrap (k102 + (1 : Int))) (IntKind.i64.wrap (i103 + (1 : Int)))) ∧ (¬((l0.getD (i103).toNat (0 : Int)) = k102) → K (-1 : Int)))) ∧ (¬(i103 < (l0.length : Int)) → K (k102))) → X101 k102 i103) → X101 (a1) (0 : Int)
end Go.Proofs.Ytfieljajhmpbiaa.G

namespace Go.Proofs.Ytfieljajhmpbiaa.G
open Go Go.Ab
set_option maxRecDepth 100000
set_option linter.unusedVariables false
set_option linter.unusedSimpArgs false
set_option maxHeartbeats 1000000
def laws_szCostS.wp (l0 : List ((Int) × (Nat))) (a1 : Int) (K : Int → Prop) : Prop := (((IntKind.i64.wrap (a1 - (l0.length : Int))) < (0 : Int) → K (-1 : Int)) ∧ (¬((IntKind.i64.wrap (a1 - (l0.length : Int))) < (0 : Int)) → K (IntKind.i64.wrap (a1 - (l0.length : Int)))))
end Go.Proofs.Ytfieljajhmpbiaa.G

namespace Go.Proofs.Ytfieljajhmpbiaa.G
open Go Go.Ab
set_option maxRecDepth 100000
set_option linter.unusedVariables false
set_option linter.unusedSimpArgs false
set_option maxHeartbeats 1000000
def spec_l00In.wp (a0 : Int) (a1 : Int) (a2 : Int) (K : Bool → Prop) : Prop := ((a1 ≤ a0 → K (decide (a0 ≤ a2))) ∧ (¬(a1 ≤ a0) → K (false)))
end Go.Proofs.Ytfieljajhmpbiaa.G

namespace Go.Proofs.Ytfieljajhmpbiaa.G
open Go Go.Ab
set_option maxRecDepth 100000
set_option linter.unusedVariables false
set_option linter.unusedSimpArgs false
set_option maxHeartbeats 1000000
def spec_l01Finite.wp (a0 : Nat) (K : Bool → Prop) : Prop := K (fcmp .eql .f32 (fop .sub .f32 a0 a0) (cz .f32 0))
end Go.Proofs.Ytfieljajhmpbiaa.G

namespace Go.Proofs.Ytfieljajhmpbiaa.G
open Go Go.Ab
set_option maxRecDepth 100000
set_option linter.unusedVariables false
set_option linter.unusedSimpArgs false
set_option maxHeartbeats 1000000
def spec_l02Least.wp (a0 : Nat) (K : Bool → Prop) : Prop := spec_l01Finite.wp a0 fun y101 => ((y101 = true → K (fcmp .geq .f32 a0 (cz .f32 0))) ∧ (y101 = false → K (false)))
end Go.Proofs.Ytfieljajhmpbiaa.G

namespace Go.Proofs.Ytfieljajhmpbiaa.G
open Go Go.Ab
set_option maxRecDepth 100000
set_option linter.unusedVariables false
set_option linter.unusedSimpArgs false
set_option maxHeartbeats 1000000
def spec_l07Costs.wp (l0 : List ((Int) × (Nat))) (K : Bool → Prop) : Prop := (((l0.length : Int) < (1 : Int) → K (false)) ∧ (¬((l0.length : Int) < (1 : Int)) → (((16 : Int) < (l0.length : Int) → K (false)) ∧ (¬((16 : Int) < (l0.length : Int)) → ∀ X103 : Int → Prop, (∀ (x104 : Int), ((x104 < (l0.length : Int) → (0 ≤ x104 ∧ x104 < (l0.length : Int)) ∧ spec_l00In.wp (l0.getD (x104).toNat ((0 : Int), (0 : Nat))).1 (0 : Int) (512 : Int) fun y107 => ((y107 = true → spec_l02Least.wp (l0.getD (x104).toNat ((0 : Int), (0 : Nat))).2 fun y110 => ((y110 = true → (((0 : Int) < x104 → (0 ≤ (IntKind.i64.wrap (x104 - (1 : Int))) ∧ (IntKind.i64.wrap (x104 - (1 : Int))) < (l0.length : Int)) ∧ (((l0.getD (x104).toNat ((0 : Int), (0 : Nat))).1 ≤ (l0.getD ((IntKind.i64.wrap (x104 - (1 : Int)))).toNat ((0 : Int), (0 : Nat))).1 → K (false)) ∧ (¬((l0.getD (x104).toNat ((0 : Int), (0 : Nat))).1 ≤ (l0.getD ((IntKind.i64.wrap (x104 - (1 : Int)))).toNat ((0 : Int), (0 : Nat))).1) → (((fcmp .geq .f32 (l0.getD (x104).toNat ((0 : Int), (0 : Nat))).2 (l0.getD ((IntKind.i64.wrap (x104 - (1 : Int)))).toNat ((0 : Int), (0 : Nat))).2) = true → K (false)) ∧ ((fcmp .geq .f32 (l0.getD (x104).toNat ((0 : Int), (0 : Nat))).2 (l0.getD ((IntKind.i64.wrap (x104 - (1 : Int)))).toNat ((0 : Int), (0 : Nat))).2) = false → X103 (IntKind.i64.wrap (x104 + (1 : Int)))))))) ∧ (¬((0 : Int) < x104) → X103 (IntKind.i64.wrap (x104 + (1 : Int)))))) ∧ (y110 = false → K (false)))) ∧ (y107 = false → K (false)))) ∧ (¬(x104 < (l0.length : Int)) → K (true))) → X103 x104) → X103 (0 : Int)))))
end Go.Proofs.Ytfieljajhmpbiaa.G

namespace Go.Proofs.Ytfieljajhmpbiaa.G
open Go Go.Ab
set_option maxRecDepth 100000
set_option linter.unusedVariables false
set_option linter.unusedSimpArgs false
set_option maxHeartbeats 1000000
def spec_EdgeCosts.wp (l0 : List ((Int) × (Nat))) (K : (List (Int)) → Bool → Prop) : Prop := spec_l07Costs.wp l0 fun y101 => ((y101 = true → ∀ X129 : List (Int) → Int → Prop, (∀ (out130 : List (Int)) (atq132 : Int), (((IntKind.i64.wrap (atq132 + (1 : Int))) < (l0.length : Int) → ∀ X134 : Int → Nat → Int → Prop, (∀ (best135 : Int) (top136 : Nat) (k137 : Int), ((k137 < (l0.length : Int) → (0 ≤ atq132 ∧ atq132 < (l0.length : Int)) ∧ (0 ≤ k137 ∧ k137 < (l0.length : Int)) ∧ ((k137 = (IntKind.i64.wrap (atq132 + (1 : Int))) → X134 (k137) (fop .quo .f32 (fop .sub .f32 (l0.getD (atq132).toNat ((0 : Int), (0 : Nat))).2 (l0.getD (k137).toNat ((0 : Int), (0 : Nat))).2) (itof .f32 (IntKind.i64.wrap ((l0.getD (k137).toNat ((0 : Int), (0 : Nat))).1 - (l0.getD (atq132).toNat ((0 : Int), (0 : Nat))).1)))) (IntKind.i64.wrap (k137 + (1 : Int)))) ∧ (¬(k137 = (IntKind.i64.wrap (atq132 + (1 : Int)))) → (((fcmp .geq .f32 (fop .quo .f32 (fop .sub .f32 (l0.getD (atq132).toNat ((0 : Int), (0 : Nat))).2 (l0.getD (k137).toNat ((0 : Int), (0 : Nat))).2) (itof .f32 (IntKind.i64.wrap ((l0.getD (k137).toNat ((0 : Int), (0 : Nat))).1 - (l0.getD (atq132).toNat ((0 : Int), (0 : Nat))).1)))) top136) = true → X134 (k137) (fop .quo .f32 (fop .sub .f32 (l0.getD (atq132).toNat ((0 : Int), (0 : Nat))).2 (l0.getD (k137).toNat ((0 : Int), (0 : Nat))).2) (itof .f32 (IntKind.i64.wrap ((l0.getD (k137).toNat ((0 : Int), (0 : Nat))).1 - (l0.getD (atq132).toNat ((0 : Int), (0 : Nat))).1)))) (IntKind.i64.wrap (k137 + (1 : Int)))) ∧ ((fcmp .geq .f32 (fop .quo .f32 (fop .sub .f32 (l0.getD (atq132).toNat ((0 : Int), (0 : Nat))).2 (l0.getD (k137).toNat ((0 : Int), (0 : Nat))).2) (itof .f32 (IntKind.i64.wrap ((l0.getD (k137).toNat ((0 : Int), (0 : Nat))).1 - (l0.getD (atq132).toNat ((0 : Int), (0 : Nat))).1)))) top136) = false → X134 (best135) (top136) (IntKind.i64.wrap (k137 + (1 : Int)))))))) ∧ (¬(k137 < (l0.length : Int)) → ((out130.length + ([best135] : List (Int)).length) * 8 ≤ 2 ^ 40) ∧ X129 (out130 ++ ([best135] : List (Int))) (best135))) → X134 best135 top136 k137) → X134 (IntKind.i64.wrap (atq132 + (1 : Int))) (cz .f32 0) (IntKind.i64.wrap (atq132 + (1 : Int)))) ∧ (¬((IntKind.i64.wrap (atq132 + (1 : Int))) < (l0.length : Int)) → K (out130) (true))) → X129 out130 atq132) → X129 ([(0 : Int)] : List (Int)) (0 : Int)) ∧ (y101 = false → K ([] : List (Int)) (false)))
end Go.Proofs.Ytfieljajhmpbiaa.G

namespace Go.Proofs.Ytfieljajhmpbiaa.G
open Go Go.Ab
set_option maxRecDepth 100000
set_option linter.unusedVariables false
set_option linter.unusedSimpArgs false
set_option maxHeartbeats 1000000
def laws_toCost.wp (a0 : Int) (a1 : Nat) (K : Int → Nat → Prop) : Prop := K (a0) (a1)
end Go.Proofs.Ytfieljajhmpbiaa.G

namespace Go.Proofs.Ytfieljajhmpbiaa.G
open Go Go.Ab
set_option maxRecDepth 100000
set_option linter.unusedVariables false
set_option linter.unusedSimpArgs false
set_option maxHeartbeats 1000000
def laws_toCostS.wp (l0 : List ((Int) × (Nat))) (K : (List ((Int) × (Nat))) → Prop) : Prop := (0 ≤ (l0.length : Int) ∧ (l0.length : Int) ≤ (l0.length : Int) ∧ (l0.length : Int) ≤ 2 ^ 40 ∧ (l0.length : Int) * 16 ≤ 2 ^ 40) ∧ ∀ X114 : List ((Int) × (Nat)) → Int → Prop, (∀ (out115 : List ((Int) × (Nat))) (i116 : Int), ((i116 < (l0.length : Int) → (0 ≤ i116 ∧ i116 < (l0.length : Int)) ∧ laws_toCost.wp (l0.getD (i116).toNat ((0 : Int), (0 : Nat))).1 (l0.getD (i116).toNat ((0 : Int), (0 : Nat))).2 fun y119 y120 => (0 ≤ i116 ∧ i116 < (out115.length : Int)) ∧ X114 (out115.set (i116).toNat (y119, y120)) (IntKind.i64.wrap (i116 + (1 : Int)))) ∧ (¬(i116 < (l0.length : Int)) → K (out115))) → X114 out115 i116) → X114 (List.replicate ((l0.length : Int)).toNat ((0 : Int), (0 : Nat))) (0 : Int)
end Go.Proofs.Ytfieljajhmpbiaa.G

namespace Go.Proofs.Ytfieljajhmpbiaa.G
open Go Go.Ab
set_option maxRecDepth 100000
set_option linter.unusedVariables false
set_option linter.unusedSimpArgs false
set_option maxHeartbeats 1000000
def impl_IsFinite.wp (a0 : Nat) (K : Bool → Prop) : Prop := K (fcmp .eql .f32 (fop .sub .f32 a0 a0) (cz .f32 0))
end Go.Proofs.Ytfieljajhmpbiaa.G

namespace Go.Proofs.Ytfieljajhmpbiaa.G
open Go Go.Ab
set_option maxRecDepth 100000
set_option linter.unusedVariables false
set_option linter.unusedSimpArgs false
set_option maxHeartbeats 1000000
def impl_isLeast.wp (a0 : Nat) (K : Bool → Prop) : Prop := impl_IsFinite.wp a0 fun y101 => ((y101 = true → K (fcmp .geq .f32 a0 (cz .f32 0))) ∧ (y101 = false → K (false)))
end Go.Proofs.Ytfieljajhmpbiaa.G

namespace Go.Proofs.Ytfieljajhmpbiaa.G
open Go Go.Ab
set_option maxRecDepth 100000
set_option linter.unusedVariables false
set_option linter.unusedSimpArgs false
set_option maxHeartbeats 1000000
def impl_within.wp (a0 : Int) (a1 : Int) (a2 : Int) (K : Bool → Prop) : Prop := ((a1 ≤ a0 → K (decide (a0 ≤ a2))) ∧ (¬(a1 ≤ a0) → K (false)))
end Go.Proofs.Ytfieljajhmpbiaa.G

namespace Go.Proofs.Ytfieljajhmpbiaa.G
open Go Go.Ab
set_option maxRecDepth 100000
set_option linter.unusedVariables false
set_option linter.unusedSimpArgs false
set_option maxHeartbeats 1000000
def impl_AreCosts.wp (l0 : List ((Int) × (Nat))) (K : Bool → Prop) : Prop := impl_within.wp (l0.length : Int) (1 : Int) (16 : Int) fun y101 => ((y101 = true → ∀ X104 : Int → Prop, (∀ (x105 : Int), ((x105 < (l0.length : Int) → (0 ≤ x105 ∧ x105 < (l0.length : Int)) ∧ impl_within.wp (l0.getD (x105).toNat ((0 : Int), (0 : Nat))).1 (0 : Int) (512 : Int) fun y112 => ((y112 = true → impl_isLeast.wp (l0.getD (x105).toNat ((0 : Int), (0 : Nat))).2 fun y115 => ((y115 = true → (((0 : Int) < x105 → (0 ≤ (IntKind.i64.wrap (x105 - (1 : Int))) ∧ (IntKind.i64.wrap (x105 - (1 : Int))) < (l0.length : Int)) ∧ (((l0.getD (x105).toNat ((0 : Int), (0 : Nat))).1 ≤ (l0.getD ((IntKind.i64.wrap (x105 - (1 : Int)))).toNat ((0 : Int), (0 : Nat))).1 → K (false)) ∧ (¬((l0.getD (x105).toNat ((0 : Int), (0 : Nat))).1 ≤ (l0.getD ((IntKind.i64.wrap (x105 - (1 : Int)))).toNat ((0 : Int), (0 : Nat))).1) → (((fcmp .geq .f32 (l0.getD (x105).toNat ((0 : Int), (0 : Nat))).2 (l0.getD ((IntKind.i64.wrap (x105 - (1 : Int)))).toNat ((0 : Int), (0 : Nat))).2) = true → K (false)) ∧ ((fcmp .geq .f32 (l0.getD (x105).toNat ((0 : Int), (0 : Nat))).2 (l0.getD ((IntKind.i64.wrap (x105 - (1 : Int)))).toNat ((0 : Int), (0 : Nat))).2) = false → X104 (IntKind.i64.wrap (x105 + (1 : Int)))))))) ∧ (¬((0 : Int) < x105) → X104 (IntKind.i64.wrap (x105 + (1 : Int)))))) ∧ (y115 = false → K (false)))) ∧ (y112 = false → K (false)))) ∧ (¬(x105 < (l0.length : Int)) → K (true))) → X104 x105) → X104 (0 : Int)) ∧ (y101 = false → K (false)))
end Go.Proofs.Ytfieljajhmpbiaa.G

namespace Go.Proofs.Ytfieljajhmpbiaa.G
open Go Go.Ab
set_option maxRecDepth 100000
set_option linter.unusedVariables false
set_option linter.unusedSimpArgs false
set_option maxHeartbeats 1000000
def impl_EdgeCosts.wp (l0 : List ((Int) × (Nat))) (K : (List (Int)) → Bool → Prop) : Prop := impl_AreCosts.wp l0 fun y101 => ((y101 = true → ∀ X129 : List (Int) → Int → Prop, (∀ (out130 : List (Int)) (i132 : Int), ((i132 < (IntKind.i64.wrap ((l0.length : Int) - (1 : Int))) → ∀ X134 : Int → Nat → Int → Prop, (∀ (next135 : Int) (best136 : Nat) (k137 : Int), ((k137 < (l0.length : Int) → (0 ≤ i132 ∧ i132 < (l0.length : Int)) ∧ (0 ≤ k137 ∧ k137 < (l0.length : Int)) ∧ ((next135 = i132 → X134 (k137) (fop .quo .f32 (fop .sub .f32 (l0.getD (i132).toNat ((0 : Int), (0 : Nat))).2 (l0.getD (k137).toNat ((0 : Int), (0 : Nat))).2) (itof .f32 (IntKind.i64.wrap ((l0.getD (k137).toNat ((0 : Int), (0 : Nat))).1 - (l0.getD (i132).toNat ((0 : Int), (0 : Nat))).1)))) (IntKind.i64.wrap (k137 + (1 : Int)))) ∧ (¬(next135 = i132) → (((fcmp .geq .f32 (fop .quo .f32 (fop .sub .f32 (l0.getD (i132).toNat ((0 : Int), (0 : Nat))).2 (l0.getD (k137).toNat ((0 : Int), (0 : Nat))).2) (itof .f32 (IntKind.i64.wrap ((l0.getD (k137).toNat ((0 : Int), (0 : Nat))).1 - (l0.getD (i132).toNat ((0 : Int), (0 : Nat))).1)))) best136) = true → X134 (k137) (fop .quo .f32 (fop .sub .f32 (l0.getD (i132).toNat ((0 : Int), (0 : Nat))).2 (l0.getD (k137).toNat ((0 : Int), (0 : Nat))).2) (itof .f32 (IntKind.i64.wrap ((l0.getD (k137).toNat ((0 : Int), (0 : Nat))).1 - (l0.getD (i132).toNat ((0 : Int), (0 : Nat))).1)))) (IntKind.i64.wrap (k137 + (1 : Int)))) ∧ ((fcmp .geq .f32 (fop .quo .f32 (fop .sub .f32 (l0.getD (i132).toNat ((0 : Int), (0 : Nat))).2 (l0.getD (k137).toNat ((0 : Int), (0 : Nat))).2) (itof .f32 (IntKind.i64.wrap ((l0.getD (k137).toNat ((0 : Int), (0 : Nat))).1 - (l0.getD (i132).toNat ((0 : Int), (0 : Nat))).1)))) best136) = false → X134 (next135) (best136) (IntKind.i64.wrap (k137 + (1 : Int)))))))) ∧ (¬(k137 < (l0.length : Int)) → ((out130.length + ([next135] : List (Int)).length) * 8 ≤ 2 ^ 40) ∧ X129 (out130 ++ ([next135] : List (Int))) (next135))) → X134 next135 best136 k137) → X134 (i132) (cz .f32 0) (IntKind.i64.wrap (i132 + (1 : Int)))) ∧ (¬(i132 < (IntKind.i64.wrap ((l0.length : Int) - (1 : Int)))) → K (out130) (true))) → X129 out130 i132) → X129 ([(0 : Int)] : List (Int)) (0 : Int)) ∧ (y101 = false → K ([] : List (Int)) (false)))
end Go.Proofs.Ytfieljajhmpbiaa.G

namespace Go.Proofs.Ytfieljajhmpbiaa.G
open Go Go.Ab
set_option maxRecDepth 100000
set_option linter.unusedVariables false
set_option linter.unusedSimpArgs false
set_option maxHeartbeats 1000000
def laws_sameFloat.wp (a0 : Nat) (a1 : Nat) (K : Bool → Prop) : Prop := (((fcmp .neq .f64 a0 a0) = true → K (fcmp .neq .f64 a1 a1)) ∧ ((fcmp .neq .f64 a0 a0) = false → (((fcmp .neq .f64 a1 a1) = true → K (false)) ∧ ((fcmp .neq .f64 a1 a1) = false → (((fcmp .eql .f64 a0 (cz .f64 0)) = true → (((fcmp .eql .f64 a1 (cz .f64 0)) = true → K ((fcmp .gtr .f64 (fop .quo .f64 (cz .f64 4607182418800017408) a0) (cz .f64 0)) == (fcmp .gtr .f64 (fop .quo .f64 (cz .f64 4607182418800017408) a1) (cz .f64 0)))) ∧ ((fcmp .eql .f64 a1 (cz .f64 0)) = false → K (fcmp .eql .f64 a0 a1)))) ∧ ((fcmp .eql .f64 a0 (cz .f64 0)) = false → K (fcmp .eql .f64 a0 a1)))))))
end Go.Proofs.Ytfieljajhmpbiaa.G

namespace Go.Proofs.Ytfieljajhmpbiaa.G
open Go Go.Ab
set_option maxRecDepth 100000
set_option linter.unusedVariables false
set_option linter.unusedSimpArgs false
set_option maxHeartbeats 1000000
def laws_eqCost.wp (a0 : Int) (a1 : Nat) (a2 : Int) (a3 : Nat) (K : Bool → Prop) : Prop := ((a0 = a2 → laws_sameFloat.wp (widen a1) (widen a3) fun y108 => ((y108 = true → K (true)) ∧ (y108 = false → K (false)))) ∧ (¬(a0 = a2) → K (false)))
end Go.Proofs.Ytfieljajhmpbiaa.G

namespace Go.Proofs.Ytfieljajhmpbiaa.G
open Go Go.Ab
set_option maxRecDepth 100000
set_option linter.unusedVariables false
set_option linter.unusedSimpArgs false
set_option maxHeartbeats 1000000
def laws_eqCostS.wp (l0 : List ((Int) × (Nat))) (l1 : List ((Int) × (Nat))) (K : Bool → Prop) : Prop := (((l0.length : Int) = (l1.length : Int) → ∀ X102 : Int → Prop, (∀ (i103 : Int), ((i103 < (l0.length : Int) → (0 ≤ i103 ∧ i103 < (l0.length : Int)) ∧ (0 ≤ i103 ∧ i103 < (l1.length : Int)) ∧ laws_eqCost.wp (l0.getD (i103).toNat ((0 : Int), (0 : Nat))).1 (l0.getD (i103).toNat ((0 : Int), (0 : Nat))).2 (l1.getD (i103).toNat ((0 : Int), (0 : Nat))).1 (l1.getD (i103).toNat ((0 : Int), (0 : Nat))).2 fun y107 => ((y107 = true → X102 (IntKind.i64.wrap (i103 + (1 : Int)))) ∧ (y107 = false → K (false)))) ∧ (¬(i103 < (l0.length : Int)) → K (true))) → X102 i103) → X102 (0 : Int)) ∧ (¬((l0.length : Int) = (l1.length : Int)) → K (false)))
end Go.Proofs.Ytfieljajhmpbiaa.G

namespace Go.Proofs.Ytfieljajhmpbiaa.G
open Go Go.Ab
set_option maxRecDepth 100000
set_option linter.unusedVariables false
set_option linter.unusedSimpArgs false
set_option maxHeartbeats 1000000
def laws_markCostS.wp (l0 : List ((Int) × (Nat))) (a1 : Int) (K : Int → (List ((Int) × (Nat))) → Prop) : Prop := ∀ X110 : List ((Int) × (Nat)) → Int → Int → Prop, (∀ (a111 : List ((Int) × (Nat))) (k112 : Int) (i113 : Int), ((i113 < (a111.length : Int) → (0 ≤ i113 ∧ i113 < (a111.length : Int)) ∧ (0 ≤ i113 ∧ i113 < ((a111.set (i113).toNat (k112, (a111.getD (i113).toNat ((0 : Int), (0 : Nat))).2)).length : Int)) ∧ X110 ((a111.set (i113).toNat (k112, (a111.getD (i113).toNat ((0 : Int), (0 : Nat))).2)).set (i113).toNat (((a111.set (i113).toNat (k112, (a111.getD (i113).toNat ((0 : Int), (0 : Nat))).2)).getD (i113).toNat ((0 : Int), (0 : Nat))).1, (itof .f32 (IntKind.i64.wrap (k112 + (1 : Int)))))) (IntKind.i64.wrap ((IntKind.i64.wrap (k112 + (1 : Int))) + (1 : Int))) (IntKind.i64.wrap (i113 + (1 : Int)))) ∧ (¬(i113 < (a111.length : Int)) → K (k112) (a111))) → X110 a111 k112 i113) → X110 (l0) (a1) (0 : Int)
end Go.Proofs.Ytfieljajhmpbiaa.G

namespace Go.Proofs.Ytfieljajhmpbiaa.G
open Go Go.Ab
set_option maxRecDepth 100000
set_option linter.unusedVariables false
set_option linter.unusedSimpArgs false
set_option maxHeartbeats 1000000
def laws_FnExactEdgeCosts.wp (l0 : List ((Int) × (Nat))) (K : Bool → Prop) : Prop := laws_szCostS.wp l0 (1048576 : Int) fun y101 => ((y101 < (0 : Int) → K (true)) ∧ (¬(y101 < (0 : Int)) → laws_toCostS.wp l0 fun y104 => spec_EdgeCosts.wp y104 fun y108 y111 => laws_toCostS.wp l0 fun y113 => impl_EdgeCosts.wp y113 fun y117 y120 => laws_eqInt64S.wp y117 y108 fun y122 => ((y122 = true → (((y120 == y111) = true → laws_toCostS.wp l0 fun y126 => laws_eqCostS.wp y113 y126 fun y130 => ((y130 = true → laws_markCostS.wp y113 (1 : Int) fun y133 y134 => ((y133 < (0 : Int) → K (false)) ∧ (¬(y133 < (0 : Int)) → laws_eqInt64S.wp y117 y108 fun y137 => ((y137 = true → laws_markInt64S.wp y117 (1 : Int) fun y140 y141 => laws_heldInt64S.wp y141 (1 : Int) fun y143 => ((y143 < (0 : Int) → K (false)) ∧ (¬(y143 < (0 : Int)) → ((y143 = y140 → laws_toCostS.wp l0 fun y147 => impl_EdgeCosts.wp y147 fun y151 y154 => laws_eqInt64S.wp y151 y108 fun y156 => ((y156 = true → (((y154 == y111) = true → laws_heldInt64S.wp y141 (1 : Int) fun y160 => ((y160 < (0 : Int) → K (false)) ∧ (¬(y160 < (0 : Int)) → ((y160 = y140 → K (true)) ∧ (¬(y160 = y140) → K (false)))))) ∧ ((y154 == y111) = false → K (false)))) ∧ (y156 = false → K (false)))) ∧ (¬(y143 = y140) → K (false)))))) ∧ (y137 = false → K (false)))))) ∧ (y130 = false → K (false)))) ∧ ((y120 == y111) = false → K (false)))) ∧ (y122 = false → K (false)))))
end Go.Proofs.Ytfieljajhmpbiaa.G

namespace Go.Proofs.Ytfieljajhmpbiaa.G
open Go Go.Ab
set_option maxRecDepth 100000
set_option linter.unusedVariables false
set_option linter.unusedSimpArgs false
set_option maxHeartbeats 1000000
def laws_toBoolS.wp (l0 : List (Bool)) (K : (List (Bool)) → Prop) : Prop := (0 ≤ (l0.length : Int) ∧ (l0.length : Int) ≤ (l0.length : Int) ∧ (l0.length : Int) ≤ 2 ^ 40 ∧ (l0.length : Int) * 1 ≤ 2 ^ 40) ∧ ∀ X111 : List (Bool) → Int → Prop, (∀ (out112 : List (Bool)) (i113 : Int), ((i113 < (l0.length : Int) → (0 ≤ i113 ∧ i113 < (l0.length : Int)) ∧ (0 ≤ i113 ∧ i113 < (out112.length : Int)) ∧ X111 (out112.set (i113).toNat (l0.getD (i113).toNat false)) (IntKind.i64.wrap (i113 + (1 : Int)))) ∧ (¬(i113 < (l0.length : Int)) → K (out112))) → X111 out112 i113) → X111 (List.replicate ((l0.length : Int)).toNat false) (0 : Int)
end Go.Proofs.Ytfieljajhmpbiaa.G

namespace Go.Proofs.Ytfieljajhmpbiaa.G
open Go Go.Ab
set_option maxRecDepth 100000
set_option linter.unusedVariables false
set_option linter.unusedSimpArgs false
set_option maxHeartbeats 1000000
def laws_eqBoolS.wp (l0 : List (Bool)) (l1 : List (Bool)) (K : Bool → Prop) : Prop := (((l0.length : Int) = (l1.length : Int) → ∀ X102 : Int → Prop, (∀ (i103 : Int), ((i103 < (l0.length : Int) → (0 ≤ i103 ∧ i103 < (l0.length : Int)) ∧ (0 ≤ i103 ∧ i103 < (l1.length : Int)) ∧ ((((l0.getD (i103).toNat false) == (l1.getD (i103).toNat false)) = true → X102 (IntKind.i64.wrap (i103 + (1 : Int)))) ∧ (((l0.getD (i103).toNat false) == (l1.getD (i103).toNat false)) = false → K (false)))) ∧ (¬(i103 < (l0.length : Int)) → K (true))) → X102 i103) → X102 (0 : Int)) ∧ (¬((l0.length : Int) = (l1.length : Int)) → K (false)))
end Go.Proofs.Ytfieljajhmpbiaa.G

namespace Go.Proofs.Ytfieljajhmpbiaa.G
open Go Go.Ab
set_option maxRecDepth 100000
set_option linter.unusedVariables false
set_option linter.unusedSimpArgs false
set_option maxHeartbeats 1000000
def laws_toFloat32S.wp (l0 : List (Nat)) (K : (List (Nat)) → Prop) : Prop := (0 ≤ (l0.length : Int) ∧ (l0.length : Int) ≤ (l0.length : Int) ∧ (l0.length : Int) ≤ 2 ^ 40 ∧ (l0.length : Int) * 4 ≤ 2 ^ 40) ∧ ∀ X111 : List (Nat) → Int → Prop, (∀ (out112 : List (Nat)) (i113 : Int), ((i113 < (l0.length : Int) → (0 ≤ i113 ∧ i113 < (l0.length : Int)) ∧ (0 ≤ i113 ∧ i113 < (out112.length : Int)) ∧ X111 (out112.set (i113).toNat (l0.getD (i113).toNat (0 : Nat))) (IntKind.i64.wrap (i113 + (1 : Int)))) ∧ (¬(i113 < (l0.length : Int)) → K (out112))) → X111 out112 i113) → X111 (List.replicate ((l0.length : Int)).toNat (0 : Nat)) (0 : Int)
end Go.Proofs.Ytfieljajhmpbiaa.G

namespace Go.Proofs.Ytfieljajhmpbiaa.G
open Go Go.Ab
set_option maxRecDepth 100000
set_option linter.unusedVariables false
set_option linter.unusedSimpArgs false
set_option maxHeartbeats 1000000
def laws_eqFloat32S.wp (l0 : List (Nat)) (l1 : List (Nat)) (K : Bool → Prop) : Prop := (((l0.length : Int) = (l1.length : Int) → ∀ X102 : Int → Prop, (∀ (i103 : Int), ((i103 < (l0.length : Int) → (0 ≤ i103 ∧ i103 < (l0.length : Int)) ∧ (0 ≤ i103 ∧ i103 < (l1.length : Int)) ∧ laws_sameFloat.wp (widen (l0.getD (i103).toNat (0 : Nat))) (widen (l1.getD (i103).toNat (0 : Nat))) fun y107 => ((y107 = true → X102 (IntKind.i64.wrap (i103 + (1 : Int)))) ∧ (y107 = false → K (false)))) ∧ (¬(i103 < (l0.length : Int)) → K (true))) → X102 i103) → X102 (0 : Int)) ∧ (¬((l0.length : Int) = (l1.length : Int)) → K (false)))
end Go.Proofs.Ytfieljajhmpbiaa.G

namespace Go.Proofs.Ytfieljajhmpbiaa.G
open Go Go.Ab
set_option maxRecDepth 100000
set_option linter.unusedVariables false
set_option linter.unusedSimpArgs false
set_option maxHeartbeats 1000000
def laws_markFloat32S.wp (l0 : List (Nat)) (a1 : Int) (K : Int → (List (Nat)) → Prop) : Prop := ∀ X108 : List (Nat) → Int → Int → Prop, (∀ (a109 : List (Nat)) (k110 : Int) (i111 : Int), ((i111 < (a109.length : Int) → (0 ≤ i111 ∧ i111 < (a109.length : Int)) ∧ X108 (a109.set (i111).toNat (itof .f32 k110)) (IntKind.i64.wrap (k110 + (1 : Int))) (IntKind.i64.wrap (i111 + (1 : Int)))) ∧ (¬(i111 < (a109.length : Int)) → K (k110) (a109))) → X108 a109 k110 i111) → X108 (l0) (a1) (0 : Int)
end Go.Proofs.Ytfieljajhmpbiaa.G

namespace Go.Proofs.Ytfieljajhmpbiaa.G
open Go Go.Ab
set_option maxRecDepth 100000
set_option linter.unusedVariables false
set_option linter.unusedSimpArgs false
set_option maxHeartbeats 1000000
def laws_heldFloat32S.wp (l0 : List (Nat)) (a1 : Int) (K : Int → Prop) : Prop := ∀ X101 : Int → Int → Prop, (∀ (k102 : Int) (i103 : Int), ((i103 < (l0.length : Int) → (0 ≤ i103 ∧ i103 < (l0.length : Int)) ∧ (((fcmp .neq .f32 (l0.getD (i103).toNat (0 : Nat)) (itof .f32 k102)) = true → K (-1 : Int)) ∧ ((fcmp .neq .f32 (l0.getD (i103).toNat (0 : Nat)) (itof .f32 k102)) = false → X101 (IntKind.i64.wrap (k102 + (1 : Int))) (IntKind.i64.wrap (i103 + (1 : Int)))))) ∧ (¬(i103 < (l0.length : Int)) → K (k102))) → X101 k102 i103) → X101 (a1) (0 : Int)
end Go.Proofs.Ytfieljajhmpbiaa.G

namespace Go.Proofs.Ytfieljajhmpbiaa.G
open Go Go.Ab
set_option maxRecDepth 100000
set_option linter.unusedVariables false
set_option linter.unusedSimpArgs false
set_option maxHeartbeats 1000000
def laws_toInt64S.wp (l0 : List (Int)) (K : (List (Int)) → Prop) : Prop := (0 ≤ (l0.length : Int) ∧ (l0.length : Int) ≤ (l0.length : Int) ∧ (l0.length : Int) ≤ 2 ^ 40 ∧ (l0.length : Int) * 8 ≤ 2 ^ 40) ∧ ∀ X111 : List (Int) → Int → Prop, (∀ (out112 : List (Int)) (i113 : Int), ((i113 < (l0.length : Int) → (0 ≤ i113 ∧ i113 < (l0.length : Int)) ∧ (0 ≤ i113 ∧ i113 < (out112.length : Int)) ∧ X111 (out112.set (i113).toNat (l0.getD (i113).toNat (0 : Int))) (IntKind.i64.wrap (i113 + (1 : Int)))) ∧ (¬(i113 < (l0.length : Int)) → K (out112))) → X111 out112 i113) → X111 (List.replicate ((l0.length : Int)).toNat (0 : Int)) (0 : Int)
end Go.Proofs.Ytfieljajhmpbiaa.G

namespace Go.Proofs.Ytfieljajhmpbiaa.G
open Go Go.Ab
set_option maxRecDepth 100000
set_option linter.unusedVariables false
set_option linter.unusedSimpArgs false
set_option maxHeartbeats 1000000
def impl_areFinite.wp (l0 : List (List (Nat))) (K : Bool → Prop) : Prop := ∀ X101 : Int → Prop, (∀ (x102 : Int), ((x102 < (l0.length : Int) → (0 ≤ x102 ∧ x102 < (l0.length : Int)) ∧ ∀ X105 : Int → Prop, (∀ (x106 : Int), ((x106 < ((l0.getD (x102).toNat ([] : List (Nat))).length : Int) → (0 ≤ x106 ∧ x106 < ((l0.getD (x102).toNat ([] : List (Nat))).length : Int)) ∧ impl_IsFinite.wp ((l0.getD (x102).toNat ([] : List (Nat))).getD (x106).toNat (0 : Nat)) fun y109 => ((y109 = true → X105 (IntKind.i64.wrap (x106 + (1 : Int)))) ∧ (y109 = false → K (false)))) ∧ (¬(x106 < ((l0.getD (x102).toNat ([] : List (Nat))).length : Int)) → X101 (IntKind.i64.wrap (x102 + (1 : Int))))) → X105 x106) → X105 (0 : Int)) ∧ (¬(x102 < (l0.length : Int)) → K (true))) → X101 x102) → X101 (0 : Int)
end Go.Proofs.Ytfieljajhmpbiaa.G

namespace Go.Proofs.Ytfieljajhmpbiaa.G
open Go Go.Ab
set_option maxRecDepth 100000
set_option linter.unusedVariables false
set_option linter.unusedSimpArgs false
set_option maxHeartbeats 1000000
def spec_l02Bound.wp (l0 : List (Int)) (a1 : Int) (K : Bool → Prop) : Prop := ∀ X101 : Int → Prop, (∀ (i102 : Int), ((i102 < (l0.length : Int) → (0 ≤ i102 ∧ i102 < (l0.length : Int)) ∧ spec_l00In.wp (l0.getD (i102).toNat (0 : Int)) (IntKind.i64.wrap (0 - a1)) a1 fun y105 => ((y105 = true → X101 (IntKind.i64.wrap (i102 + (1 : Int)))) ∧ (y105 = false → K (false)))) ∧ (¬(i102 < (l0.length : Int)) → K (true))) → X101 i102) → X101 (0 : Int)
end Go.Proofs.Ytfieljajhmpbiaa.G

namespace Go.Proofs.Ytfieljajhmpbiaa.G
open Go Go.Ab
set_option maxRecDepth 100000
set_option linter.unusedVariables false
set_option linter.unusedSimpArgs false
set_option maxHeartbeats 1000000
def impl_areWithin.wp (l0 : List (Int)) (a1 : Int) (K : Bool → Prop) : Prop := ∀ X101 : Int → Prop, (∀ (x102 : Int), ((x102 < (l0.length : Int) → (0 ≤ x102 ∧ x102 < (l0.length : Int)) ∧ impl_within.wp (l0.getD (x102).toNat (0 : Int)) (IntKind.i64.wrap (0 - a1)) a1 fun y105 => ((y105 = true → X101 (IntKind.i64.wrap (x102 + (1 : Int)))) ∧ (y105 = false → K (false)))) ∧ (¬(x102 < (l0.length : Int)) → K (true))) → X101 x102) → X101 (0 : Int)
end Go.Proofs.Ytfieljajhmpbiaa.G

namespace Go.Proofs.Ytfieljajhmpbiaa.G
open Go Go.Ab
set_option maxRecDepth 100000
set_option linter.unusedVariables false
set_option linter.unusedSimpArgs false
set_option maxHeartbeats 1000000
def spec_l02Above.wp (a0 : Nat) (K : Bool → Prop) : Prop := spec_l01Finite.wp a0 fun y101 => ((y101 = true → K (fcmp .gtr .f32 a0 (cz .f32 0))) ∧ (y101 = false → K (false)))
end Go.Proofs.Ytfieljajhmpbiaa.G

namespace Go.Proofs.Ytfieljajhmpbiaa.G
open Go Go.Ab
set_option maxRecDepth 100000
set_option linter.unusedVariables false
set_option linter.unusedSimpArgs false
set_option maxHeartbeats 1000000
def spec_l02Finite.wp (l0 : List (Nat)) (K : Bool → Prop) : Prop := ∀ X101 : Int → Prop, (∀ (i102 : Int), ((i102 < (l0.length : Int) → (0 ≤ i102 ∧ i102 < (l0.length : Int)) ∧ spec_l01Finite.wp (l0.getD (i102).toNat (0 : Nat)) fun y105 => ((y105 = true → X101 (IntKind.i64.wrap (i102 + (1 : Int)))) ∧ (y105 = false → K (false)))) ∧ (¬(i102 < (l0.length : Int)) → K (true))) → X101 i102) → X101 (0 : Int)
end Go.Proofs.Ytfieljajhmpbiaa.G

namespace Go.Proofs.Ytfieljajhmpbiaa.G
open Go Go.Ab
set_option maxRecDepth 100000
set_option linter.unusedVariables false
set_option linter.unusedSimpArgs false
set_option maxHeartbeats 1000000
def impl_isOver.wp (a0 : Nat) (K : Bool → Prop) : Prop := impl_IsFinite.wp a0 fun y101 => ((y101 = true → K (fcmp .gtr .f32 a0 (cz .f32 0))) ∧ (y101 = false → K (false)))
end Go.Proofs.Ytfieljajhmpbiaa.G

namespace Go.Proofs.Ytfieljajhmpbiaa.G
open Go Go.Ab
set_option maxRecDepth 100000
set_option linter.unusedVariables false
set_option linter.unusedSimpArgs false
set_option maxHeartbeats 1000000
def impl_finiteList.wp (l0 : List (Nat)) (K : Bool → Bool → Prop) : Prop := impl_areFinite.wp ([l0] : List (List (Nat))) fun y104 => ((y104 = true → K (true) (true)) ∧ (y104 = false → K (false) (false)))
end Go.Proofs.Ytfieljajhmpbiaa.G

namespace Go.Proofs.Ytfieljajhmpbiaa.G
open Go Go.Ab
set_option maxRecDepth 100000
set_option linter.unusedVariables false
set_option linter.unusedSimpArgs false
set_option maxHeartbeats 1000000
def spec_l02Is.wp (l0 : List (Nat)) (K : Bool → Prop) : Prop := (((1 : Int) ≤ (l0.length : Int) → (((l0.length : Int) ≤ (128 : Int) → spec_l02Finite.wp l0 fun y103 => K (y103)) ∧ (¬((l0.length : Int) ≤ (128 : Int)) → K (false)))) ∧ (¬((1 : Int) ≤ (l0.length : Int)) → K (false)))
end Go.Proofs.Ytfieljajhmpbiaa.G

namespace Go.Proofs.Ytfieljajhmpbiaa.G
open Go Go.Ab
set_option maxRecDepth 100000
set_option linter.unusedVariables false
set_option linter.unusedSimpArgs false
set_option maxHeartbeats 1000000
def spec_l02Integers.wp (l0 : List (Int)) (K : Bool → Prop) : Prop := (((1 : Int) ≤ (l0.length : Int) → (((l0.length : Int) ≤ (128 : Int) → spec_l02Bound.wp l0 (1000000 : Int) fun y103 => K (y103)) ∧ (¬((l0.length : Int) ≤ (128 : Int)) → K (false)))) ∧ (¬((1 : Int) ≤ (l0.length : Int)) → K (false)))
end Go.Proofs.Ytfieljajhmpbiaa.G

namespace Go.Proofs.Ytfieljajhmpbiaa.G
open Go Go.Ab
set_option maxRecDepth 100000
set_option linter.unusedVariables false
set_option linter.unusedSimpArgs false
set_option maxHeartbeats 1000000
def impl_IsList.wp (l0 : List (Nat)) (K : Bool → Prop) : Prop := impl_within.wp (l0.length : Int) (1 : Int) (128 : Int) fun y101 => ((y101 = true → impl_areFinite.wp ([l0] : List (List (Nat))) fun y107 => K (y107)) ∧ (y101 = false → K (false)))
end Go.Proofs.Ytfieljajhmpbiaa.G

namespace Go.Proofs.Ytfieljajhmpbiaa.G
open Go Go.Ab
set_option maxRecDepth 100000
set_option linter.unusedVariables false
set_option linter.unusedSimpArgs false
set_option maxHeartbeats 1000000
def spec_l02Share.wp (a0 : Nat) (K : Bool → Prop) : Prop := (((fcmp .geq .f32 a0 (cz .f32 0)) = true → K (fcmp .leq .f32 a0 (cz .f32 1065353216))) ∧ ((fcmp .geq .f32 a0 (cz .f32 0)) = false → K (false)))
end Go.Proofs.Ytfieljajhmpbiaa.G

namespace Go.Proofs.Ytfieljajhmpbiaa.G
open Go Go.Ab
set_option maxRecDepth 100000
set_option linter.unusedVariables false
set_option linter.unusedSimpArgs false
set_option maxHeartbeats 1000000
def spec_l02List.wp (l0 : List (Nat)) (K : Bool → Bool → Prop) : Prop := spec_l02Finite.wp l0 fun y101 => ((y101 = true → K (true) (true)) ∧ (y101 = false → K (false) (false)))
end Go.Proofs.Ytfieljajhmpbiaa.G

namespace Go.Proofs.Ytfieljajhmpbiaa.G
open Go Go.Ab
set_option maxRecDepth 100000
set_option linter.unusedVariables false
set_option linter.unusedSimpArgs false
set_option maxHeartbeats 1000000
def impl_AreIntegers.wp (l0 : List (Int)) (K : Bool → Prop) : Prop := impl_within.wp (l0.length : Int) (1 : Int) (128 : Int) fun y101 => ((y101 = true → impl_areWithin.wp l0 (1000000 : Int) fun y104 => K (y104)) ∧ (y101 = false → K (false)))
end Go.Proofs.Ytfieljajhmpbiaa.G

namespace Go.Proofs.Ytfieljajhmpbiaa.G
open Go Go.Ab
set_option maxRecDepth 100000
set_option linter.unusedVariables false
set_option linter.unusedSimpArgs false
set_option maxHeartbeats 1000000
def impl_isShare.wp (a0 : Nat) (K : Bool → Prop) : Prop := (((fcmp .geq .f32 a0 (cz .f32 0)) = true → K (fcmp .leq .f32 a0 (cz .f32 1065353216))) ∧ ((fcmp .geq .f32 a0 (cz .f32 0)) = false → K (false)))
end Go.Proofs.Ytfieljajhmpbiaa.G

