/-
  What the functions compute, as formulas over numbers and lists. Printed by a program of the session; nothing here is trusted.
-/
import Derived.Test.YtfieljajhmpbiaaAbK
namespace Go.Proofs.Ytfieljajhmpbiaa.G
open Go Go.Ab
set_option maxRecDepth 100000
set_option linter.unusedVariables false
set_option linter.unusedSimpArgs false
set_option maxHeartbeats 1000000
def R_LeFlt_f32_o (H : Heap) (x : List (Nat)) (c : List AV) : Prop := c = [(c.getD 0 .und)] ∧ Shows H (c.getD 0 .und) 1 (enc (eFlt .f32) x)
def R_s_ii64_LeFlt_f32_poooq (H : Heap) (x : (List UInt8) × (Int) × (List (Nat))) (c : List AV) : Prop := c = [(.str (pk x.1)), (.int .i64 x.2.1), (c.getD 2 .und)] ∧ Shows H (c.getD 2 .und) 1 (enc (eFlt .f32) x.2.2)
end Go.Proofs.Ytfieljajhmpbiaa.G

namespace Go.Proofs.Ytfieljajhmpbiaa.G
open Go Go.Ab
set_option maxRecDepth 100000
set_option linter.unusedVariables false
set_option linter.unusedSimpArgs false
set_option maxHeartbeats 1000000
def laws_toFloat32S.wp (l0 : List (Nat)) (K : (List (Nat)) → Prop) : Prop := (0 ≤ (l0.length : Int) ∧ (l0.length : Int) ≤ (l0.length : Int) ∧ (l0.length : Int) ≤ 2 ^ 40 ∧ (l0.length : Int) * 4 ≤ 2 ^ 40) ∧ ∀ X111 : List (Nat) → Int → Prop, (∀ (out112 : List (Nat)) (i113 : Int), ((i113 < (l0.length : Int) → (0 ≤ i113 ∧ i113 < (l0.length : Int)) ∧ (0 ≤ i113 ∧ i113 < (out112.length : Int)) ∧ X111 (out112.set (i113).toNat (l0.getD (i113).toNat (0 : Nat))) (IntKind.i64.wrap (i113 + (1 : Int)))) ∧ (¬(i113 < (l0.length : Int)) → K (out112))) → X111 out112 i113) → X111 (List.replicate ((l0.length : Int)).toNat (0 : Nat)) (0 : Int)
end Go.Proofs.Ytfieljajhmpbiaa.G

namespace Go.Proofs.Ytfieljajhmpbiaa.G
open Go Go.Ab
set_option maxRecDepth 100000
set_option linter.unusedVariables false
set_option linter.unusedSimpArgs false
set_option maxHeartbeats 1000000
def laws_sameFloat.wp (a0 : Nat) (a1 : Nat) (K : Bool → Prop) : Prop := (((fcmp .neq .f64 a0 a0) = true → K (fcmp .neq .f64 a1 a1)) ∧ ((fcmp .neq .f64 a0 a0) = false → (((fcmp .neq .f64 a1 a1) = true → K (false)) ∧ ((fcmp .neq .f64 a1 a1) = false → (((fcmp .eql .f64 a0 (cz .f64 0)) = true → (((fcmp .eql .f64 a1 (cz .f64 0)) = true → K ((fcmp .gtr .f64 (fop .quo .f64 (cz .f64 4607182418800017408) a0) (cz .f64 0)) == (fcmp .gtr .f64 (fop .quo .f64 (cz .f64 4607182418800017408) a1) (cz .f64 0)))) ∧ ((fcmp .eql .f64 a1 (cz .f64 0)) = false → K (fcmp .eql .f64 a0 a1)))) ∧ ((fcmp .eql .f64 a0 (cz .f64 0)) = false → K (fcmp .eql .f64 a0 a1)))))))
end Go.Proofs.Ytfieljajhmpbiaa.G

namespace Go.Proofs.Ytfieljajhmpbiaa.G
open Go Go.Ab
set_option maxRecDepth 100000
set_option linter.unusedVariables false
set_option linter.unusedSimpArgs false
set_option maxHeartbeats 1000000
def laws_eqFloat32S.wp (l0 : List (Nat)) (l1 : List (Nat)) (K : Bool → Prop) : Prop := (((l0.length : Int) = (l1.length : Int) → ∀ X102 : Int → Prop, (∀ (i103 : Int), ((i103 < (l0.length : Int) → (0 ≤ i103 ∧ i103 < (l0.length : Int)) ∧ (0 ≤ i103 ∧ i103 < (l1.length : Int)) ∧ laws_sameFloat.wp (widen (l0.getD (i103).toNat (0 : Nat))) (widen (l1.getD (i103).toNat (0 : Nat))) fun y107 => ((y107 = true → X102 (IntKind.i64.wrap (i103 + (1 : Int)))) ∧ (y107 = false → K (false)))) ∧ (¬(i103 < (l0.length : Int)) → K (true))) → X102 i103) → X102 (0 : Int)) ∧ (¬((l0.length : Int) = (l1.length : Int)) → K (false)))
end Go.Proofs.Ytfieljajhmpbiaa.G

namespace Go.Proofs.Ytfieljajhmpbiaa.G
open Go Go.Ab
set_option maxRecDepth 100000
set_option linter.unusedVariables false
set_option linter.unusedSimpArgs false
set_option maxHeartbeats 1000000
def laws_markFloat32S.wp (l0 : List (Nat)) (a1 : Int) (K : Int → (List (Nat)) → Prop) : Prop := ∀ X108 : List (Nat) → Int → Int → Prop, (∀ (a109 : List (Nat)) (k110 : Int) (i111 : Int), ((i111 < (a109.length : Int) → (0 ≤ i111 ∧ i111 < (a109.length : Int)) ∧ X108 (a109.set (i111).toNat (itof .f32 k110)) (IntKind.i64.wrap (k110 + (1 : Int))) (IntKind.i64.wrap (i111 + (1 : Int)))) ∧ (¬(i111 < (a109.length : Int)) → K (k110) (a109))) → X108 a109 k110 i111) → X108 (l0) (a1) (0 : Int)
end Go.Proofs.Ytfieljajhmpbiaa.G

namespace Go.Proofs.Ytfieljajhmpbiaa.G
open Go Go.Ab
set_option maxRecDepth 100000
set_option linter.unusedVariables false
set_option linter.unusedSimpArgs false
set_option maxHeartbeats 1000000
def laws_heldFloat32S.wp (l0 : List (Nat)) (a1 : Int) (K : Int → Prop) : Prop := ∀ X101 : Int → Int → Prop, (∀ (k102 : Int) (i103 : Int), ((i103 < (l0.length : Int) → (0 ≤ i103 ∧ i103 < (l0.length : Int)) ∧ (((fcmp .neq .f32 (l0.getD (i103).toNat (0 : Nat)) (itof .f32 k102)) = true → K (-1 : Int)) ∧ ((fcmp .neq .f32 (l0.getD (i103).toNat (0 : Nat)) (itof .f32 k102)) = false → X101 (IntKind.i64.wrap (k102 + (1 : Int))) (IntKind.i64.wrap (i103 + (1 : Int)))))) ∧ (¬(i103 < (l0.length : Int)) → K (k102))) → X101 k102 i103) → X101 (a1) (0 : Int)
end Go.Proofs.Ytfieljajhmpbiaa.G

namespace Go.Proofs.Ytfieljajhmpbiaa.G
open Go Go.Ab
set_option maxRecDepth 100000
set_option linter.unusedVariables false
set_option linter.unusedSimpArgs false
set_option maxHeartbeats 1000000
def spec_l07From.wp (l0 : List (Nat)) (K : (List (Nat)) → Prop) : Prop := ((([] : List (Nat)).length + l0.length) * 4 ≤ 2 ^ 40) ∧ ∀ X127 : List (Nat) → Int → Prop, (∀ (out128 : List (Nat)) (hq129 : Int), (((1 : Int) ≤ hq129 → ∀ X138 : List (Nat) → Int → Prop, (∀ (out139 : List (Nat)) (i140 : Int), ((i140 < (IntKind.i64.wrap ((l0.length : Int) - (1 : Int))) → (0 ≤ i140 ∧ i140 < (out139.length : Int)) ∧ (0 ≤ (IntKind.i64.wrap (i140 - hq129)) ∧ (IntKind.i64.wrap (i140 - hq129)) < (out139.length : Int)) ∧ (0 ≤ (IntKind.i64.wrap (i140 + hq129)) ∧ (IntKind.i64.wrap (i140 + hq129)) < (out139.length : Int)) ∧ X138 (out139.set (i140).toNat (fop .add .f32 (out139.getD (i140).toNat (0 : Nat)) (fop .mul .f32 (cz .f32 1056964608) (fop .add .f32 (out139.getD ((IntKind.i64.wrap (i140 - hq129))).toNat (0 : Nat)) (out139.getD ((IntKind.i64.wrap (i140 + hq129))).toNat (0 : Nat)))))) (IntKind.i64.wrap (i140 + (IntKind.i64.wrap ((2 : Int) * hq129))))) ∧ (¬(i140 < (IntKind.i64.wrap ((l0.length : Int) - (1 : Int)))) → X127 (out139) (IntKind.i64.wrap (Int.tdiv hq129 (2 : Int))))) → X138 out139 i140) → X138 (out128) (hq129)) ∧ (¬((1 : Int) ≤ hq129) → K (out128))) → X127 out128 hq129) → X127 (([] : List (Nat)) ++ l0) (IntKind.i64.wrap (Int.tdiv (IntKind.i64.wrap ((l0.length : Int) - (1 : Int))) (2 : Int)))
end Go.Proofs.Ytfieljajhmpbiaa.G

namespace Go.Proofs.Ytfieljajhmpbiaa.G
open Go Go.Ab
set_option maxRecDepth 100000
set_option linter.unusedVariables false
set_option linter.unusedSimpArgs false
set_option maxHeartbeats 1000000
def spec_l01Finite.wp (a0 : Nat) (K : Bool → Prop) : Prop := K (fcmp .eql .f32 (fop .sub .f32 a0 a0) (cz .f32 0))
end Go.Proofs.Ytfieljajhmpbiaa.G

namespace Go.Proofs.Ytfieljajhmpbiaa.G
open Go Go.Ab
set_option maxRecDepth 100000
set_option linter.unusedVariables false
set_option linter.unusedSimpArgs false
set_option maxHeartbeats 1000000
def spec_l02Finite.wp (l0 : List (Nat)) (K : Bool → Prop) : Prop := ∀ X101 : Int → Prop, (∀ (i102 : Int), ((i102 < (l0.length : Int) → (0 ≤ i102 ∧ i102 < (l0.length : Int)) ∧ spec_l01Finite.wp (l0.getD (i102).toNat (0 : Nat)) fun y105 => ((y105 = true → X101 (IntKind.i64.wrap (i102 + (1 : Int)))) ∧ (y105 = false → K (false)))) ∧ (¬(i102 < (l0.length : Int)) → K (true))) → X101 i102) → X101 (0 : Int)
end Go.Proofs.Ytfieljajhmpbiaa.G

namespace Go.Proofs.Ytfieljajhmpbiaa.G
open Go Go.Ab
set_option maxRecDepth 100000
set_option linter.unusedVariables false
set_option linter.unusedSimpArgs false
set_option maxHeartbeats 1000000
def spec_l07Grid.wp (l0 : List (Nat)) (K : Bool → Prop) : Prop := (((l0.length : Int) = (2 : Int) → spec_l02Finite.wp l0 fun y102 => K (y102)) ∧ (¬((l0.length : Int) = (2 : Int)) → (((l0.length : Int) = (3 : Int) → spec_l02Finite.wp l0 fun y105 => K (y105)) ∧ (¬((l0.length : Int) = (3 : Int)) → (((l0.length : Int) = (5 : Int) → spec_l02Finite.wp l0 fun y108 => K (y108)) ∧ (¬((l0.length : Int) = (5 : Int)) → (((l0.length : Int) = (9 : Int) → spec_l02Finite.wp l0 fun y111 => K (y111)) ∧ (¬((l0.length : Int) = (9 : Int)) → (((l0.length : Int) = (17 : Int) → spec_l02Finite.wp l0 fun y114 => K (y114)) ∧ (¬((l0.length : Int) = (17 : Int)) → (((l0.length : Int) = (33 : Int) → spec_l02Finite.wp l0 fun y117 => K (y117)) ∧ (¬((l0.length : Int) = (33 : Int)) → (((l0.length : Int) = (65 : Int) → spec_l02Finite.wp l0 fun y120 => K (y120)) ∧ (¬((l0.length : Int) = (65 : Int)) → K (false)))))))))))))))
end Go.Proofs.Ytfieljajhmpbiaa.G

namespace Go.Proofs.Ytfieljajhmpbiaa.G
open Go Go.Ab
set_option maxRecDepth 100000
set_option linter.unusedVariables false
set_option linter.unusedSimpArgs false
set_option maxHeartbeats 1000000
def spec_l07Surplus.wp (l0 : List (Nat)) (K : (List (Nat)) → Prop) : Prop := ((([] : List (Nat)).length + l0.length) * 4 ≤ 2 ^ 40) ∧ ∀ X129 : List (Nat) → Int → Prop, (∀ (out130 : List (Nat)) (hq131 : Int), (((IntKind.i64.wrap ((2 : Int) * hq131)) < (l0.length : Int) → ∀ X141 : List (Nat) → Int → Prop, (∀ (out142 : List (Nat)) (i143 : Int), ((i143 < (IntKind.i64.wrap ((l0.length : Int) - (1 : Int))) → (0 ≤ i143 ∧ i143 < (l0.length : Int)) ∧ (0 ≤ (IntKind.i64.wrap (i143 - hq131)) ∧ (IntKind.i64.wrap (i143 - hq131)) < (l0.length : Int)) ∧ (0 ≤ (IntKind.i64.wrap (i143 + hq131)) ∧ (IntKind.i64.wrap (i143 + hq131)) < (l0.length : Int)) ∧ (0 ≤ i143 ∧ i143 < (out142.length : Int)) ∧ X141 (out142.set (i143).toNat (fop .sub .f32 (l0.getD (i143).toNat (0 : Nat)) (fop .mul .f32 (cz .f32 1056964608) (fop .add .f32 (l0.getD ((IntKind.i64.wrap (i143 - hq131))).toNat (0 : Nat)) (l0.getD ((IntKind.i64.wrap (i143 + hq131))).toNat (0 : Nat)))))) (IntKind.i64.wrap (i143 + (IntKind.i64.wrap ((2 : Int) * hq131))))) ∧ (¬(i143 < (IntKind.i64.wrap ((l0.length : Int) - (1 : Int)))) → X129 (out142) (IntKind.i64.wrap (hq131 * (2 : Int))))) → X141 out142 i143) → X141 (out130) (hq131)) ∧ (¬((IntKind.i64.wrap ((2 : Int) * hq131)) < (l0.length : Int)) → K (out130))) → X129 out130 hq131) → X129 (([] : List (Nat)) ++ l0) (1 : Int)
end Go.Proofs.Ytfieljajhmpbiaa.G

namespace Go.Proofs.Ytfieljajhmpbiaa.G
open Go Go.Ab
set_option maxRecDepth 100000
set_option linter.unusedVariables false
set_option linter.unusedSimpArgs false
set_option maxHeartbeats 1000000
def spec_SurplusOf.wp (l0 : List (Nat)) (K : (List (Nat)) → Bool → Prop) : Prop := spec_l07Grid.wp l0 fun y101 => ((y101 = true → spec_l07Surplus.wp l0 fun y104 => spec_l02Finite.wp y104 fun y108 => ((y108 = true → K (y104) (true)) ∧ (y108 = false → K ([] : List (Nat)) (false)))) ∧ (y101 = false → K ([] : List (Nat)) (false)))
end Go.Proofs.Ytfieljajhmpbiaa.G

namespace Go.Proofs.Ytfieljajhmpbiaa.G
open Go Go.Ab
set_option maxRecDepth 100000
set_option linter.unusedVariables false
set_option linter.unusedSimpArgs false
set_option maxHeartbeats 1000000
def spec_l02Least.wp (a0 : Nat) (K : Bool → Prop) : Prop := spec_l01Finite.wp a0 fun y101 => ((y101 = true → K (fcmp .geq .f32 a0 (cz .f32 0))) ∧ (y101 = false → K (false)))
end Go.Proofs.Ytfieljajhmpbiaa.G

namespace Go.Proofs.Ytfieljajhmpbiaa.G
open Go Go.Ab
set_option maxRecDepth 100000
set_option linter.unusedVariables false
set_option linter.unusedSimpArgs false
set_option maxHeartbeats 1000000
def spec_l03Size.wp (a0 : Nat) (K : Nat → Prop) : Prop := (((fcmp .leq .f32 a0 (cz .f32 0)) = true → K (fop .sub .f32 (cz .f32 0) a0)) ∧ ((fcmp .leq .f32 a0 (cz .f32 0)) = false → K (a0)))
end Go.Proofs.Ytfieljajhmpbiaa.G

namespace Go.Proofs.Ytfieljajhmpbiaa.G
open Go Go.Ab
set_option maxRecDepth 100000
set_option linter.unusedVariables false
set_option linter.unusedSimpArgs false
set_option maxHeartbeats 1000000
def spec_ThinSurplus.wp (l0 : List (Nat)) (a1 : Nat) (K : (List (Nat)) → Int → Bool → Prop) : Prop := spec_SurplusOf.wp l0 fun y101 y104 => ((y104 = true → spec_l02Least.wp a1 fun y107 => ((y107 = true → ∀ X126 : List (Nat) → Int → Int → Prop, (∀ (surplus127 : List (Nat)) (n128 : Int) (i129 : Int), (((IntKind.i64.wrap (i129 + (1 : Int))) < (surplus127.length : Int) → (0 ≤ i129 ∧ i129 < (surplus127.length : Int)) ∧ spec_l03Size.wp (surplus127.getD (i129).toNat (0 : Nat)) fun y132 => (((fcmp .leq .f32 y132 a1) = true → X126 (surplus127.set (i129).toNat (cz .f32 0)) (n128) (IntKind.i64.wrap (i129 + (1 : Int)))) ∧ ((fcmp .leq .f32 y132 a1) = false → X126 (surplus127) (IntKind.i64.wrap (n128 + (1 : Int))) (IntKind.i64.wrap (i129 + (1 : Int)))))) ∧ (¬((IntKind.i64.wrap (i129 + (1 : Int))) < (surplus127.length : Int)) → spec_l07From.wp surplus127 fun y136 => spec_l02Finite.wp y136 fun y140 => ((y140 = true → K (y136) (n128) (true)) ∧ (y140 = false → K ([] : List (Nat)) (0 : Int) (false))))) → X126 surplus127 n128 i129) → X126 (y101) (0 : Int) (1 : Int)) ∧ (y107 = false → K ([] : List (Nat)) (0 : Int) (false)))) ∧ (y104 = false → K ([] : List (Nat)) (0 : Int) (false)))
end Go.Proofs.Ytfieljajhmpbiaa.G

namespace Go.Proofs.Ytfieljajhmpbiaa.G
open Go Go.Ab
set_option maxRecDepth 100000
set_option linter.unusedVariables false
set_option linter.unusedSimpArgs false
set_option maxHeartbeats 1000000
def impl_IsFinite.wp (a0 : Nat) (K : Bool → Prop) : Prop := K (fcmp .eql .f32 (fop .sub .f32 a0 a0) (cz .f32 0))
end Go.Proofs.Ytfieljajhmpbiaa.G

namespace Go.Proofs.Ytfieljajhmpbiaa.G
open Go Go.Ab
set_option maxRecDepth 100000
set_option linter.unusedVariables false
set_option linter.unusedSimpArgs false
set_option maxHeartbeats 1000000
def impl_areFinite.wp (l0 : List (List (Nat))) (K : Bool → Prop) : Prop := ∀ X101 : Int → Prop, (∀ (x102 : Int), ((x102 < (l0.length : Int) → (0 ≤ x102 ∧ x102 < (l0.length : Int)) ∧ ∀ X105 : Int → Prop, (∀ (x106 : Int), ((x106 < ((l0.getD (x102).toNat ([] : List (Nat))).length : Int) → (0 ≤ x106 ∧ x106 < ((l0.getD (x102).toNat ([] : List (Nat))).length : Int)) ∧ impl_IsFinite.wp ((l0.getD (x102).toNat ([] : List (Nat))).getD (x106).toNat (0 : Nat)) fun y109 => ((y109 = true → X105 (IntKind.i64.wrap (x106 + (1 : Int)))) ∧ (y109 = false → K (false)))) ∧ (¬(x106 < ((l0.getD (x102).toNat ([] : List (Nat))).length : Int)) → X101 (IntKind.i64.wrap (x102 + (1 : Int))))) → X105 x106) → X105 (0 : Int)) ∧ (¬(x102 < (l0.length : Int)) → K (true))) → X101 x102) → X101 (0 : Int)
end Go.Proofs.Ytfieljajhmpbiaa.G

namespace Go.Proofs.Ytfieljajhmpbiaa.G
open Go Go.Ab
set_option maxRecDepth 100000
set_option linter.unusedVariables false
set_option linter.unusedSimpArgs false
set_option maxHeartbeats 1000000
def impl_isGrid.wp (l0 : List (Nat)) (K : Bool → Prop) : Prop := (((1 : Int) ≤ (IntKind.i64.wrap ((l0.length : Int) - (1 : Int))) → (((IntKind.i64.wrap ((l0.length : Int) - (1 : Int))) ≤ (64 : Int) → (((ibits .and .i64 (IntKind.i64.wrap ((l0.length : Int) - (1 : Int))) (IntKind.i64.wrap ((IntKind.i64.wrap ((l0.length : Int) - (1 : Int))) - (1 : Int)))) = (0 : Int) → impl_areFinite.wp ([l0] : List (List (Nat))) fun y107 => K (y107)) ∧ (¬((ibits .and .i64 (IntKind.i64.wrap ((l0.length : Int) - (1 : Int))) (IntKind.i64.wrap ((IntKind.i64.wrap ((l0.length : Int) - (1 : Int))) - (1 : Int)))) = (0 : Int)) → K (false)))) ∧ (¬((IntKind.i64.wrap ((l0.length : Int) - (1 : Int))) ≤ (64 : Int)) → K (false)))) ∧ (¬((1 : Int) ≤ (IntKind.i64.wrap ((l0.length : Int) - (1 : Int)))) → K (false)))
end Go.Proofs.Ytfieljajhmpbiaa.G

namespace Go.Proofs.Ytfieljajhmpbiaa.G
open Go Go.Ab
set_option maxRecDepth 100000
set_option linter.unusedVariables false
set_option linter.unusedSimpArgs false
set_option maxHeartbeats 1000000
def impl_copyOf.wp (l0 : List (Nat)) (K : (List (Nat)) → Prop) : Prop := ((([] : List (Nat)).length + l0.length) * 4 ≤ 2 ^ 40) ∧ K (([] : List (Nat)) ++ l0)
end Go.Proofs.Ytfieljajhmpbiaa.G

namespace Go.Proofs.Ytfieljajhmpbiaa.G
open Go Go.Ab
set_option maxRecDepth 100000
set_option linter.unusedVariables false
set_option linter.unusedSimpArgs false
set_option maxHeartbeats 1000000
def impl_finiteList.wp (l0 : List (Nat)) (K : Bool → Bool → Prop) : Prop := impl_areFinite.wp ([l0] : List (List (Nat))) fun y104 => ((y104 = true → K (true) (true)) ∧ (y104 = false → K (false) (false)))
end Go.Proofs.Ytfieljajhmpbiaa.G

namespace Go.Proofs.Ytfieljajhmpbiaa.G
open Go Go.Ab
set_option maxRecDepth 100000
set_option linter.unusedVariables false
set_option linter.unusedSimpArgs false
set_option maxHeartbeats 1000000
def impl_SurplusOf.wp (l0 : List (Nat)) (K : (List (Nat)) → Bool → Prop) : Prop := impl_isGrid.wp l0 fun y101 => ((y101 = true → impl_copyOf.wp l0 fun y104 => ∀ X120 : List (Nat) → Int → Prop, (∀ (out121 : List (Nat)) (i122 : Int), ((i122 < (IntKind.i64.wrap ((l0.length : Int) - (1 : Int))) → (0 ≤ i122 ∧ i122 < (l0.length : Int)) ∧ (0 ≤ (IntKind.i64.wrap (i122 - (ibits .and .i64 i122 (IntKind.i64.wrap (0 - i122))))) ∧ (IntKind.i64.wrap (i122 - (ibits .and .i64 i122 (IntKind.i64.wrap (0 - i122))))) < (l0.length : Int)) ∧ (0 ≤ (IntKind.i64.wrap (i122 + (ibits .and .i64 i122 (IntKind.i64.wrap (0 - i122))))) ∧ (IntKind.i64.wrap (i122 + (ibits .and .i64 i122 (IntKind.i64.wrap (0 - i122))))) < (l0.length : Int)) ∧ (0 ≤ i122 ∧ i122 < (out121.length : Int)) ∧ X120 (out121.set (i122).toNat (fop .sub .f32 (l0.getD (i122).toNat (0 : Nat)) (fop .quo .f32 (fop .add .f32 (l0.getD ((IntKind.i64.wrap (i122 - (ibits .and .i64 i122 (IntKind.i64.wrap (0 - i122)))))).toNat (0 : Nat)) (l0.getD ((IntKind.i64.wrap (i122 + (ibits .and .i64 i122 (IntKind.i64.wrap (0 - i122)))))).toNat (0 : Nat))) (cz .f32 1073741824)))) (IntKind.i64.wrap (i122 + (1 : Int)))) ∧ (¬(i122 < (IntKind.i64.wrap ((l0.length : Int) - (1 : Int)))) → impl_finiteList.wp out121 fun y129 y130 => ((y129 = true → K (out121) (y130)) ∧ (y129 = false → K ([] : List (Nat)) (y130))))) → X120 out121 i122) → X120 (y104) (1 : Int)) ∧ (y101 = false → K ([] : List (Nat)) (false)))
end Go.Proofs.Ytfieljajhmpbiaa.G

namespace Go.Proofs.Ytfieljajhmpbiaa.G
open Go Go.Ab
set_option maxRecDepth 100000
set_option linter.unusedVariables false
set_option linter.unusedSimpArgs false
set_option maxHeartbeats 1000000
def impl_isLeast.wp (a0 : Nat) (K : Bool → Prop) : Prop := impl_IsFinite.wp a0 fun y101 => ((y101 = true → K (fcmp .geq .f32 a0 (cz .f32 0))) ∧ (y101 = false → K (false)))
end Go.Proofs.Ytfieljajhmpbiaa.G

namespace Go.Proofs.Ytfieljajhmpbiaa.G
open Go Go.Ab
set_option maxRecDepth 100000
set_option linter.unusedVariables false
set_option linter.unusedSimpArgs false
set_option maxHeartbeats 1000000
def impl_FromSurplus.wp (l0 : List (Nat)) (K : (List (Nat)) → Bool → Prop) : Prop := impl_isGrid.wp l0 fun y101 => ((y101 = true → impl_copyOf.wp l0 fun y104 => ∀ X132 : List (Nat) → Int → Prop, (∀ (out133 : List (Nat)) (hq134 : Int), (((1 : Int) ≤ hq134 → ∀ X143 : List (Nat) → Int → Prop, (∀ (out144 : List (Nat)) (i145 : Int), ((i145 < (IntKind.i64.wrap ((l0.length : Int) - (1 : Int))) → (0 ≤ i145 ∧ i145 < (out144.length : Int)) ∧ (0 ≤ (IntKind.i64.wrap (i145 - hq134)) ∧ (IntKind.i64.wrap (i145 - hq134)) < (out144.length : Int)) ∧ (0 ≤ (IntKind.i64.wrap (i145 + hq134)) ∧ (IntKind.i64.wrap (i145 + hq134)) < (out144.length : Int)) ∧ X143 (out144.set (i145).toNat (fop .add .f32 (out144.getD (i145).toNat (0 : Nat)) (fop .quo .f32 (fop .add .f32 (out144.getD ((IntKind.i64.wrap (i145 - hq134))).toNat (0 : Nat)) (out144.getD ((IntKind.i64.wrap (i145 + hq134))).toNat (0 : Nat))) (cz .f32 1073741824)))) (IntKind.i64.wrap (i145 + (IntKind.i64.wrap ((2 : Int) * hq134))))) ∧ (¬(i145 < (IntKind.i64.wrap ((l0.length : Int) - (1 : Int)))) → X132 (out144) (IntKind.i64.wrap (Int.tdiv hq134 (2 : Int))))) → X143 out144 i145) → X143 (out133) (hq134)) ∧ (¬((1 : Int) ≤ hq134) → impl_finiteList.wp out133 fun y153 y154 => ((y153 = true → K (out133) (y154)) ∧ (y153 = false → K ([] : List (Nat)) (y154))))) → X132 out133 hq134) → X132 (y104) (IntKind.i64.wrap (Int.tdiv (IntKind.i64.wrap ((l0.length : Int) - (1 : Int))) (2 : Int)))) ∧ (y101 = false → K ([] : List (Nat)) (false)))
end Go.Proofs.Ytfieljajhmpbiaa.G

namespace Go.Proofs.Ytfieljajhmpbiaa.G
open Go Go.Ab
set_option maxRecDepth 100000
set_option linter.unusedVariables false
set_option linter.unusedSimpArgs false
set_option maxHeartbeats 1000000
def impl_size.wp (a0 : Nat) (K : Nat → Prop) : Prop := (((fcmp .lss .f32 a0 (cz .f32 0)) = true → K (fneg .f32 a0)) ∧ ((fcmp .lss .f32 a0 (cz .f32 0)) = false → (((fcmp .eql .f32 a0 (cz .f32 0)) = true → K (cz .f32 0)) ∧ ((fcmp .eql .f32 a0 (cz .f32 0)) = false → K (a0)))))
end Go.Proofs.Ytfieljajhmpbiaa.G

namespace Go.Proofs.Ytfieljajhmpbiaa.G
open Go Go.Ab
set_option maxRecDepth 100000
set_option linter.unusedVariables false
set_option linter.unusedSimpArgs false
set_option maxHeartbeats 1000000
def impl_ThinSurplus.wp (l0 : List (Nat)) (a1 : Nat) (K : (List (Nat)) → Int → Bool → Prop) : Prop := impl_SurplusOf.wp l0 fun y101 y104 => ((y104 = true → impl_isLeast.wp a1 fun y107 => ((y107 = true → ∀ X125 : List (Nat) → Int → Int → Prop, (∀ (more126 : List (Nat)) (left127 : Int) (i128 : Int), ((i128 < (IntKind.i64.wrap ((more126.length : Int) - (1 : Int))) → (0 ≤ i128 ∧ i128 < (more126.length : Int)) ∧ impl_size.wp (more126.getD (i128).toNat (0 : Nat)) fun y131 => (((fcmp .leq .f32 y131 a1) = true → X125 (more126.set (i128).toNat (cz .f32 0)) (left127) (IntKind.i64.wrap (i128 + (1 : Int)))) ∧ ((fcmp .leq .f32 y131 a1) = false → X125 (more126) (IntKind.i64.wrap (left127 + (1 : Int))) (IntKind.i64.wrap (i128 + (1 : Int)))))) ∧ (¬(i128 < (IntKind.i64.wrap ((more126.length : Int) - (1 : Int)))) → impl_FromSurplus.wp more126 fun y135 y138 => ((y138 = true → K (y135) (left127) (true)) ∧ (y138 = false → K ([] : List (Nat)) (0 : Int) (false))))) → X125 more126 left127 i128) → X125 (y101) (0 : Int) (1 : Int)) ∧ (y107 = false → K ([] : List (Nat)) (0 : Int) (false)))) ∧ (y104 = false → K ([] : List (Nat)) (0 : Int) (false)))
end Go.Proofs.Ytfieljajhmpbiaa.G

namespace Go.Proofs.Ytfieljajhmpbiaa.G
open Go Go.Ab
set_option maxRecDepth 100000
set_option linter.unusedVariables false
set_option linter.unusedSimpArgs false
set_option maxHeartbeats 1000000
def laws_FnExactThinSurplus.wp (l0 : List (Nat)) (a1 : Nat) (K : Bool → Prop) : Prop := (((1048576 : Int) < (l0.length : Int) → K (true)) ∧ (¬((1048576 : Int) < (l0.length : Int)) → laws_toFloat32S.wp l0 fun y102 => spec_ThinSurplus.wp y102 a1 fun y106 y109 y110 => laws_toFloat32S.wp l0 fun y112 => impl_ThinSurplus.wp y112 a1 fun y116 y119 y120 => laws_eqFloat32S.wp y116 y106 fun y122 => ((y122 = true → ((y119 = y109 → (((y120 == y110) = true → laws_toFloat32S.wp l0 fun y127 => laws_eqFloat32S.wp y112 y127 fun y131 => ((y131 = true → laws_markFloat32S.wp y112 (1 : Int) fun y134 y135 => ((y134 < (0 : Int) → K (false)) ∧ (¬(y134 < (0 : Int)) → laws_eqFloat32S.wp y116 y106 fun y138 => ((y138 = true → laws_markFloat32S.wp y116 (1 : Int) fun y141 y142 => laws_heldFloat32S.wp y142 (1 : Int) fun y144 => ((y144 < (0 : Int) → K (false)) ∧ (¬(y144 < (0 : Int)) → ((y144 = y141 → laws_toFloat32S.wp l0 fun y148 => impl_ThinSurplus.wp y148 a1 fun y152 y155 y156 => laws_eqFloat32S.wp y152 y106 fun y158 => ((y158 = true → ((y155 = y109 → (((y156 == y110) = true → laws_heldFloat32S.wp y142 (1 : Int) fun y163 => ((y163 < (0 : Int) → K (false)) ∧ (¬(y163 < (0 : Int)) → ((y163 = y141 → K (true)) ∧ (¬(y163 = y141) → K (false)))))) ∧ ((y156 == y110) = false → K (false)))) ∧ (¬(y155 = y109) → K (false)))) ∧ (y158 = false → K (false)))) ∧ (¬(y144 = y141) → K (false)))))) ∧ (y138 = false → K (false)))))) ∧ (y131 = false → K (false)))) ∧ ((y120 == y110) = false → K (false)))) ∧ (¬(y119 = y109) → K (false)))) ∧ (y122 = false → K (false)))))
end Go.Proofs.Ytfieljajhmpbiaa.G

namespace Go.Proofs.Ytfieljajhmpbiaa.G
open Go Go.Ab
set_option maxRecDepth 100000
set_option linter.unusedVariables false
set_option linter.unusedSimpArgs false
set_option maxHeartbeats 1000000
def laws_toBoolS.wp (l0 : List (Bool)) (K : (List (Bool)) → Prop) : Prop := (0 ≤ (l0.length : Int) ∧ (l0.length : Int) ≤ (l0.length : Int) ∧ (l0.length : Int) ≤ 2 ^ 40 ∧ (l0.length : Int) * 1 ≤ 2 ^ 40) ∧ ∀ X111 : List (Bool) → Int → Prop, (∀ (out112 : List (Bool)) (i113 : Int), ((i113 < (l0.length : Int) → (0 ≤ i113 ∧ i113 < (l0.length : Int)) ∧ (0 ≤ i113 ∧ i113 < (out112.length : Int)) ∧ X111 (out112.set (i113).toNat (l0.getD (i113).toNat false)) (IntKind.i64.wrap (i113 + (1 : Int)))) ∧ (¬(i113 < (l0.length : Int)) → K (out112))) → X111 out112 i113) → X111 (List.replicate ((l0.length : Int)).toNat false) (0 : Int)
end Go.Proofs.Ytfieljajhmpbiaa.G

namespace Go.Proofs.Ytfieljajhmpbiaa.G
open Go Go.Ab
set_option maxRecDepth 100000
set_option linter.unusedVariables false
set_option linter.unusedSimpArgs false
set_option maxHeartbeats 1000000
def laws_eqBoolS.wp (l0 : List (Bool)) (l1 : List (Bool)) (K : Bool → Prop) : Prop := (((l0.length : Int) = (l1.length : Int) → ∀ X102 : Int → Prop, (∀ (i103 : Int), ((i103 < (l0.length : Int) → (0 ≤ i103 ∧ i103 < (l0.length : Int)) ∧ (0 ≤ i103 ∧ i103 < (l1.length : Int)) ∧ ((((l0.getD (i103).toNat false) == (l1.getD (i103).toNat false)) = true → X102 (IntKind.i64.wrap (i103 + (1 : Int)))) ∧ (((l0.getD (i103).toNat false) == (l1.getD (i103).toNat false)) = false → K (false)))) ∧ (¬(i103 < (l0.length : Int)) → K (true))) → X102 i103) → X102 (0 : Int)) ∧ (¬((l0.length : Int) = (l1.length : Int)) → K (false)))
end Go.Proofs.Ytfieljajhmpbiaa.G

namespace Go.Proofs.Ytfieljajhmpbiaa.G
open Go Go.Ab
set_option maxRecDepth 100000
set_option linter.unusedVariables false
set_option linter.unusedSimpArgs false
set_option maxHeartbeats 1000000
def laws_eqInt64S.wp (l0 : List (Int)) (l1 : List (Int)) (K : Bool → Prop) : Prop := (((l0.length : Int) = (l1.length : Int) → ∀ X102 : Int → Prop, (∀ (i103 : Int), ((i103 < (l0.length : Int) → (0 ≤ i103 ∧ i103 < (l0.length : Int)) ∧ (0 ≤ i103 ∧ i103 < (l1.length : Int)) ∧ (((l0.getD (i103).toNat (0 : Int)) = (l1.getD (i103).toNat (0 : Int)) → X102 (IntKind.i64.wrap (i103 + (1 : Int)))) ∧ (¬((l0.getD (i103).toNat (0 : Int)) = (l1.getD (i103).toNat (0 : Int))) → K (false)))) ∧ (¬(i103 < (l0.length : Int)) → K (true))) → X102 i103) → X102 (0 : Int)) ∧ (¬((l0.length : Int) = (l1.length : Int)) → K (false)))
end Go.Proofs.Ytfieljajhmpbiaa.G

namespace Go.Proofs.Ytfieljajhmpbiaa.G
open Go Go.Ab
set_option maxRecDepth 100000
set_option linter.unusedVariables false
set_option linter.unusedSimpArgs false
set_option maxHeartbeats 1000000
def laws_markInt64S.wp (l0 : List (Int)) (a1 : Int) (K : Int → (List (Int)) → Prop) : Prop := ∀ X108 : List (Int) → Int → Int → Prop, (∀ (a109 : List (Int)) (k110 : Int) (i111 : Int), ((i111 < (a109.length : Int) → (0 ≤ i111 ∧ i111 < (a109.length : Int)) ∧ X108 (a109.set (i111).toNat k110) (IntKind.i64.wrap (k110 + (1 : Int))) (IntKind.i64.wrap (i111 + (1 : Int)))) ∧ (¬(i111 < (a109.length : Int)) → K (k110) (a109))) → X108 a109 k110 i111) → X108 (l0) (a1) (0 : Int)
end Go.Proofs.Ytfieljajhmpbiaa.G

namespace Go.Proofs.Ytfieljajhmpbiaa.G
open Go Go.Ab
set_option maxRecDepth 100000
set_option linter.unusedVariables false
set_option linter.unusedSimpArgs false
set_option maxHeartbeats 1000000
def laws_heldInt64S.wp (l0 : List (Int)) (a1 : Int) (K : Int → Prop) : Prop := ∀ X101 : Int → Int → Prop, (∀ (k102 : Int) (i103 : Int), ((i103 < (l0.length : Int) → (0 ≤ i103 ∧ i103 < (l0.length : Int)) ∧ (((l0.getD (i103).toNat (0 : Int)) = k102 → X101 (IntKind.i64.wrap (k102 + (1 : Int))) (IntKind.i64.wrap (i103 + (1 : Int)))) ∧ (¬((l0.getD (i103).toNat (0 : Int)) = k102) → K (-1 : Int)))) ∧ (¬(i103 < (l0.length : Int)) → K (k102))) → X101 k102 i103) → X101 (a1) (0 : Int)
end Go.Proofs.Ytfieljajhmpbiaa.G

namespace Go.Proofs.Ytfieljajhmpbiaa.G
open Go Go.Ab
set_option maxRecDepth 100000
set_option linter.unusedVariables false
set_option linter.unusedSimpArgs false
set_option maxHeartbeats 1000000
def laws_toInt64S.wp (l0 : List (Int)) (K : (List (Int)) → Prop) : Prop := (0 ≤ (l0.length : Int) ∧ (l0.length : Int) ≤ (l0.length : Int) ∧ (l0.length : Int) ≤ 2 ^ 40 ∧ (l0.length : Int) * 8 ≤ 2 ^ 40) ∧ ∀ X111 : List (Int) → Int → Prop, (∀ (out112 : List (Int)) (i113 : Int), ((i113 < (l0.length : Int) → (0 ≤ i113 ∧ i113 < (l0.length : Int)) ∧ (0 ≤ i113 ∧ i113 < (out112.length : Int)) ∧ X111 (out112.set (i113).toNat (l0.getD (i113).toNat (0 : Int))) (IntKind.i64.wrap (i113 + (1 : Int)))) ∧ (¬(i113 < (l0.length : Int)) → K (out112))) → X111 out112 i113) → X111 (List.replicate ((l0.length : Int)).toNat (0 : Int)) (0 : Int)
end Go.Proofs.Ytfieljajhmpbiaa.G

namespace Go.Proofs.Ytfieljajhmpbiaa.G
open Go Go.Ab
set_option maxRecDepth 100000
set_option linter.unusedVariables false
set_option linter.unusedSimpArgs false
set_option maxHeartbeats 1000000
def spec_l00In.wp (a0 : Int) (a1 : Int) (a2 : Int) (K : Bool → Prop) : Prop := ((a1 ≤ a0 → K (decide (a0 ≤ a2))) ∧ (¬(a1 ≤ a0) → K (false)))
end Go.Proofs.Ytfieljajhmpbiaa.G

namespace Go.Proofs.Ytfieljajhmpbiaa.G
open Go Go.Ab
set_option maxRecDepth 100000
set_option linter.unusedVariables false
set_option linter.unusedSimpArgs false
set_option maxHeartbeats 1000000
def spec_l02Bound.wp (l0 : List (Int)) (a1 : Int) (K : Bool → Prop) : Prop := ∀ X101 : Int → Prop, (∀ (i102 : Int), ((i102 < (l0.length : Int) → (0 ≤ i102 ∧ i102 < (l0.length : Int)) ∧ spec_l00In.wp (l0.getD (i102).toNat (0 : Int)) (IntKind.i64.wrap (0 - a1)) a1 fun y105 => ((y105 = true → X101 (IntKind.i64.wrap (i102 + (1 : Int)))) ∧ (y105 = false → K (false)))) ∧ (¬(i102 < (l0.length : Int)) → K (true))) → X101 i102) → X101 (0 : Int)
end Go.Proofs.Ytfieljajhmpbiaa.G

namespace Go.Proofs.Ytfieljajhmpbiaa.G
open Go Go.Ab
set_option maxRecDepth 100000
set_option linter.unusedVariables false
set_option linter.unusedSimpArgs false
set_option maxHeartbeats 1000000
def impl_within.wp (a0 : Int) (a1 : Int) (a2 : Int) (K : Bool → Prop) : Prop := ((a1 ≤ a0 → K (decide (a0 ≤ a2))) ∧ (¬(a1 ≤ a0) → K (false)))
end Go.Proofs.Ytfieljajhmpbiaa.G

namespace Go.Proofs.Ytfieljajhmpbiaa.G
open Go Go.Ab
set_option maxRecDepth 100000
set_option linter.unusedVariables false
set_option linter.unusedSimpArgs false
set_option maxHeartbeats 1000000
def impl_areWithin.wp (l0 : List (Int)) (a1 : Int) (K : Bool → Prop) : Prop := ∀ X101 : Int → Prop, (∀ (x102 : Int), ((x102 < (l0.length : Int) → (0 ≤ x102 ∧ x102 < (l0.length : Int)) ∧ impl_within.wp (l0.getD (x102).toNat (0 : Int)) (IntKind.i64.wrap (0 - a1)) a1 fun y105 => ((y105 = true → X101 (IntKind.i64.wrap (x102 + (1 : Int)))) ∧ (y105 = false → K (false)))) ∧ (¬(x102 < (l0.length : Int)) → K (true))) → X101 x102) → X101 (0 : Int)
end Go.Proofs.Ytfieljajhmpbiaa.G

namespace Go.Proofs.Ytfieljajhmpbiaa.G
open Go Go.Ab
set_option maxRecDepth 100000
set_option linter.unusedVariables false
set_option linter.unusedSimpArgs false
set_option maxHeartbeats 1000000
def spec_l02Above.wp (a0 : Nat) (K : Bool → Prop) : Prop := spec_l01Finite.wp a0 fun y101 => ((y101 = true → K (fcmp .gtr .f32 a0 (cz .f32 0))) ∧ (y101 = false → K (false)))
end Go.Proofs.Ytfieljajhmpbiaa.G

namespace Go.Proofs.Ytfieljajhmpbiaa.G
open Go Go.Ab
set_option maxRecDepth 100000
set_option linter.unusedVariables false
set_option linter.unusedSimpArgs false
set_option maxHeartbeats 1000000
def impl_isOver.wp (a0 : Nat) (K : Bool → Prop) : Prop := impl_IsFinite.wp a0 fun y101 => ((y101 = true → K (fcmp .gtr .f32 a0 (cz .f32 0))) ∧ (y101 = false → K (false)))
end Go.Proofs.Ytfieljajhmpbiaa.G

namespace Go.Proofs.Ytfieljajhmpbiaa.G
open Go Go.Ab
set_option maxRecDepth 100000
set_option linter.unusedVariables false
set_option linter.unusedSimpArgs false
set_option maxHeartbeats 1000000
def spec_l02Is.wp (l0 : List (Nat)) (K : Bool → Prop) : Prop := (((1 : Int) ≤ (l0.length : Int) → (((l0.length : Int) ≤ (128 : Int) → spec_l02Finite.wp l0 fun y103 => K (y103)) ∧ (¬((l0.length : Int) ≤ (128 : Int)) → K (false)))) ∧ (¬((1 : Int) ≤ (l0.length : Int)) → K (false)))
end Go.Proofs.Ytfieljajhmpbiaa.G

namespace Go.Proofs.Ytfieljajhmpbiaa.G
open Go Go.Ab
set_option maxRecDepth 100000
set_option linter.unusedVariables false
set_option linter.unusedSimpArgs false
set_option maxHeartbeats 1000000
def spec_l02Integers.wp (l0 : List (Int)) (K : Bool → Prop) : Prop := (((1 : Int) ≤ (l0.length : Int) → (((l0.length : Int) ≤ (128 : Int) → spec_l02Bound.wp l0 (1000000 : Int) fun y103 => K (y103)) ∧ (¬((l0.length : Int) ≤ (128 : Int)) → K (false)))) ∧ (¬((1 : Int) ≤ (l0.length : Int)) → K (false)))
end Go.Proofs.Ytfieljajhmpbiaa.G

namespace Go.Proofs.Ytfieljajhmpbiaa.G
open Go Go.Ab
set_option maxRecDepth 100000
set_option linter.unusedVariables false
set_option linter.unusedSimpArgs false
set_option maxHeartbeats 1000000
def impl_IsList.wp (l0 : List (Nat)) (K : Bool → Prop) : Prop := impl_within.wp (l0.length : Int) (1 : Int) (128 : Int) fun y101 => ((y101 = true → impl_areFinite.wp ([l0] : List (List (Nat))) fun y107 => K (y107)) ∧ (y101 = false → K (false)))
end Go.Proofs.Ytfieljajhmpbiaa.G

namespace Go.Proofs.Ytfieljajhmpbiaa.G
open Go Go.Ab
set_option maxRecDepth 100000
set_option linter.unusedVariables false
set_option linter.unusedSimpArgs false
set_option maxHeartbeats 1000000
def spec_l02Share.wp (a0 : Nat) (K : Bool → Prop) : Prop := (((fcmp .geq .f32 a0 (cz .f32 0)) = true → K (fcmp .leq .f32 a0 (cz .f32 1065353216))) ∧ ((fcmp .geq .f32 a0 (cz .f32 0)) = false → K (false)))
end Go.Proofs.Ytfieljajhmpbiaa.G

namespace Go.Proofs.Ytfieljajhmpbiaa.G
open Go Go.Ab
set_option maxRecDepth 100000
set_option linter.unusedVariables false
set_option linter.unusedSimpArgs false
set_option maxHeartbeats 1000000
def spec_l02List.wp (l0 : List (Nat)) (K : Bool → Bool → Prop) : Prop := spec_l02Finite.wp l0 fun y101 => ((y101 = true → K (true) (true)) ∧ (y101 = false → K (false) (false)))
end Go.Proofs.Ytfieljajhmpbiaa.G

namespace Go.Proofs.Ytfieljajhmpbiaa.G
open Go Go.Ab
set_option maxRecDepth 100000
set_option linter.unusedVariables false
set_option linter.unusedSimpArgs false
set_option maxHeartbeats 1000000
def impl_AreIntegers.wp (l0 : List (Int)) (K : Bool → Prop) : Prop := impl_within.wp (l0.length : Int) (1 : Int) (128 : Int) fun y101 => ((y101 = true → impl_areWithin.wp l0 (1000000 : Int) fun y104 => K (y104)) ∧ (y101 = false → K (false)))
end Go.Proofs.Ytfieljajhmpbiaa.G

namespace Go.Proofs.Ytfieljajhmpbiaa.G
open Go Go.Ab
set_option maxRecDepth 100000
set_option linter.unusedVariables false
set_option linter.unusedSimpArgs false
set_option maxHeartbeats 1000000
def impl_isShare.wp (a0 : Nat) (K : Bool → Prop) : Prop := (((fcmp .geq .f32 a0 (cz .f32 0)) = true → K (fcmp .leq .f32 a0 (cz .f32 1065353216))) ∧ ((fcmp .geq .f32 a0 (cz .f32 0)) = false → K (false)))
end Go.Proofs.Ytfieljajhmpbiaa.G

