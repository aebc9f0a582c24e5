/-
  What the functions compute, as formulas over numbers and lists. Printed by a program of the session; nothing here is trusted.
-/
import Derived.Test.YtcgiboeilcdonaaDoorAbG
namespace Go.Proofs.YtcgiboeilcdonaaDoor.G
open Go Go.Ab
set_option maxRecDepth 100000
set_option linter.unusedVariables false
set_option linter.unusedSimpArgs false
set_option maxHeartbeats 1000000
def R_LeFlt_f32_o (H : Heap) (x : List (Nat)) (c : List AV) : Prop := c = [(c.getD 0 .und)] ∧ Shows H (c.getD 0 .und) 1 (enc (eFlt .f32) x)
end Go.Proofs.YtcgiboeilcdonaaDoor.G

namespace Go.Proofs.YtcgiboeilcdonaaDoor.G
open Go Go.Ab
set_option maxRecDepth 100000
set_option linter.unusedVariables false
set_option linter.unusedSimpArgs false
set_option maxHeartbeats 1000000
def spec_l06Read.wp (a0 : List UInt8) (K : (List (Bool)) → Bool → Prop) : Prop := ∀ X127 : List (Bool) → Int → Prop, (∀ (out128 : List (Bool)) (i130 : Int), ((i130 < (a0.length : Int) → (((a0.length : Int) ≤ (32768 : Int) → (0 ≤ i130 ∧ i130 < (a0.length : Int)) ∧ (((bt a0 i130) = (48 : Int) → ((out128.length + ([(decide ((bt a0 i130) = (49 : Int)))] : List (Bool)).length) * 1 ≤ 2 ^ 40) ∧ X127 (out128 ++ ([(decide ((bt a0 i130) = (49 : Int)))] : List (Bool))) (IntKind.i64.wrap (i130 + (1 : Int)))) ∧ (¬((bt a0 i130) = (48 : Int)) → (((bt a0 i130) = (49 : Int) → ((out128.length + ([(decide ((bt a0 i130) = (49 : Int)))] : List (Bool)).length) * 1 ≤ 2 ^ 40) ∧ X127 (out128 ++ ([(decide ((bt a0 i130) = (49 : Int)))] : List (Bool))) (IntKind.i64.wrap (i130 + (1 : Int)))) ∧ (¬((bt a0 i130) = (49 : Int)) → K ([] : List (Bool)) (false)))))) ∧ (¬((a0.length : Int) ≤ (32768 : Int)) → (((32768 : Int) < (a0.length : Int) → K ([] : List (Bool)) (false)) ∧ (¬((32768 : Int) < (a0.length : Int)) → K (out128) (true)))))) ∧ (¬(i130 < (a0.length : Int)) → (((32768 : Int) < (a0.length : Int) → K ([] : List (Bool)) (false)) ∧ (¬((32768 : Int) < (a0.length : Int)) → K (out128) (true))))) → X127 out128 i130) → X127 ([] : List (Bool)) (0 : Int)
end Go.Proofs.YtcgiboeilcdonaaDoor.G

namespace Go.Proofs.YtcgiboeilcdonaaDoor.G
open Go Go.Ab
set_option maxRecDepth 100000
set_option linter.unusedVariables false
set_option linter.unusedSimpArgs false
set_option maxHeartbeats 1000000
def spec_ReadBits.wp (a0 : List UInt8) (K : (List (Bool)) → Bool → Prop) : Prop := spec_l06Read.wp a0 fun y101 y104 => K (y101) (y104)
end Go.Proofs.YtcgiboeilcdonaaDoor.G

namespace Go.Proofs.YtcgiboeilcdonaaDoor.G
open Go Go.Ab
set_option maxRecDepth 100000
set_option linter.unusedVariables false
set_option linter.unusedSimpArgs false
set_option maxHeartbeats 1000000
def strings_Trim.wp (a0 : List UInt8) (a1 : List UInt8) (K : List UInt8 → Prop) : Prop := (a0.length ≤ 2 ^ 40 ∧ a1.length ≤ 2 ^ 30 ∧ a1.all (fun b => decide (b.toNat < 128)) = true) ∧ K (Lib.trimS a0 a1)
end Go.Proofs.YtcgiboeilcdonaaDoor.G

namespace Go.Proofs.YtcgiboeilcdonaaDoor.G
open Go Go.Ab
set_option maxRecDepth 100000
set_option linter.unusedVariables false
set_option linter.unusedSimpArgs false
set_option maxHeartbeats 1000000
def impl_ReadBits.wp (a0 : List UInt8) (K : (List (Bool)) → Bool → Prop) : Prop := (((32768 : Int) < (a0.length : Int) → K ([] : List (Bool)) (false)) ∧ (¬((32768 : Int) < (a0.length : Int)) → strings_Trim.wp a0 ([48, 49] : List UInt8) fun y102 => ((y102 = ([] : List UInt8) → ∀ X120 : List (Bool) → Int → Prop, (∀ (out121 : List (Bool)) (x123 : Int), ((x123 < (a0.length : Int) → (0 ≤ x123 ∧ x123 < (a0.length : Int)) ∧ ((out121.length + ([(decide ((bt a0 x123) = (49 : Int)))] : List (Bool)).length) * 1 ≤ 2 ^ 40) ∧ X120 (out121 ++ ([(decide ((bt a0 x123) = (49 : Int)))] : List (Bool))) (IntKind.i64.wrap (x123 + (1 : Int)))) ∧ (¬(x123 < (a0.length : Int)) → K (out121) (true))) → X120 out121 x123) → X120 ([] : List (Bool)) (0 : Int)) ∧ (¬(y102 = ([] : List UInt8)) → K ([] : List (Bool)) (false)))))
end Go.Proofs.YtcgiboeilcdonaaDoor.G

namespace Go.Proofs.YtcgiboeilcdonaaDoor.G
open Go Go.Ab
set_option maxRecDepth 100000
set_option linter.unusedVariables false
set_option linter.unusedSimpArgs false
set_option maxHeartbeats 1000000
def laws_eqBoolS.wp (l0 : List (Bool)) (l1 : List (Bool)) (K : Bool → Prop) : Prop := (((l0.length : Int) = (l1.length : Int) → ∀ X102 : Int → Prop, (∀ (i103 : Int), ((i103 < (l0.length : Int) → (0 ≤ i103 ∧ i103 < (l0.length : Int)) ∧ (0 ≤ i103 ∧ i103 < (l1.length : Int)) ∧ ((((l0.getD (i103).toNat false) == (l1.getD (i103).toNat false)) = true → X102 (IntKind.i64.wrap (i103 + (1 : Int)))) ∧ (((l0.getD (i103).toNat false) == (l1.getD (i103).toNat false)) = false → K (false)))) ∧ (¬(i103 < (l0.length : Int)) → K (true))) → X102 i103) → X102 (0 : Int)) ∧ (¬((l0.length : Int) = (l1.length : Int)) → K (false)))
end Go.Proofs.YtcgiboeilcdonaaDoor.G

namespace Go.Proofs.YtcgiboeilcdonaaDoor.G
open Go Go.Ab
set_option maxRecDepth 100000
set_option linter.unusedVariables false
set_option linter.unusedSimpArgs false
set_option maxHeartbeats 1000000
def laws_markBoolS.wp (l0 : List (Bool)) (a1 : Int) (K : Int → (List (Bool)) → Prop) : Prop := ∀ X108 : List (Bool) → Int → Int → Prop, (∀ (a109 : List (Bool)) (k110 : Int) (i111 : Int), ((i111 < (a109.length : Int) → (0 ≤ i111 ∧ i111 < (a109.length : Int)) ∧ X108 (a109.set (i111).toNat (decide ((Int.tmod k110 (3 : Int)) = (0 : Int)))) (IntKind.i64.wrap (k110 + (1 : Int))) (IntKind.i64.wrap (i111 + (1 : Int)))) ∧ (¬(i111 < (a109.length : Int)) → K (k110) (a109))) → X108 a109 k110 i111) → X108 (l0) (a1) (0 : Int)
end Go.Proofs.YtcgiboeilcdonaaDoor.G

namespace Go.Proofs.YtcgiboeilcdonaaDoor.G
open Go Go.Ab
set_option maxRecDepth 100000
set_option linter.unusedVariables false
set_option linter.unusedSimpArgs false
set_option maxHeartbeats 1000000
def laws_heldBoolS.wp (l0 : List (Bool)) (a1 : Int) (K : Int → Prop) : Prop := ∀ X101 : Int → Int → Prop, (∀ (k102 : Int) (i103 : Int), ((i103 < (l0.length : Int) → (0 ≤ i103 ∧ i103 < (l0.length : Int)) ∧ ((((l0.getD (i103).toNat false) == (decide ((Int.tmod k102 (3 : Int)) = (0 : Int)))) = true → X101 (IntKind.i64.wrap (k102 + (1 : Int))) (IntKind.i64.wrap (i103 + (1 : Int)))) ∧ (((l0.getD (i103).toNat false) == (decide ((Int.tmod k102 (3 : Int)) = (0 : Int)))) = false → K (-1 : Int)))) ∧ (¬(i103 < (l0.length : Int)) → K (k102))) → X101 k102 i103) → X101 (a1) (0 : Int)
end Go.Proofs.YtcgiboeilcdonaaDoor.G

namespace Go.Proofs.YtcgiboeilcdonaaDoor.G
open Go Go.Ab
set_option maxRecDepth 100000
set_option linter.unusedVariables false
set_option linter.unusedSimpArgs false
set_option maxHeartbeats 1000000
def laws_FnExactReadBits.wp (a0 : List UInt8) (K : Bool → Prop) : Prop := (((1048576 : Int) < (a0.length : Int) → K (true)) ∧ (¬((1048576 : Int) < (a0.length : Int)) → spec_ReadBits.wp a0 fun y102 y105 => impl_ReadBits.wp a0 fun y107 y110 => laws_eqBoolS.wp y107 y102 fun y112 => ((y112 = true → (((y110 == y105) = true → laws_markBoolS.wp y107 (1 : Int) fun y116 y117 => laws_heldBoolS.wp y117 (1 : Int) fun y119 => ((y119 < (0 : Int) → K (false)) ∧ (¬(y119 < (0 : Int)) → ((y119 = y116 → impl_ReadBits.wp a0 fun y123 y126 => laws_eqBoolS.wp y123 y102 fun y128 => ((y128 = true → (((y126 == y105) = true → laws_heldBoolS.wp y117 (1 : Int) fun y132 => ((y132 < (0 : Int) → K (false)) ∧ (¬(y132 < (0 : Int)) → ((y132 = y116 → K (true)) ∧ (¬(y132 = y116) → K (false)))))) ∧ ((y126 == y105) = false → K (false)))) ∧ (y128 = false → K (false)))) ∧ (¬(y119 = y116) → K (false)))))) ∧ ((y110 == y105) = false → K (false)))) ∧ (y112 = false → K (false)))))
end Go.Proofs.YtcgiboeilcdonaaDoor.G

namespace Go.Proofs.YtcgiboeilcdonaaDoor.G
open Go Go.Ab
set_option maxRecDepth 100000
set_option linter.unusedVariables false
set_option linter.unusedSimpArgs false
set_option maxHeartbeats 1000000
def laws_toBoolS.wp (l0 : List (Bool)) (K : (List (Bool)) → Prop) : Prop := (0 ≤ (l0.length : Int) ∧ (l0.length : Int) ≤ (l0.length : Int) ∧ (l0.length : Int) ≤ 2 ^ 40 ∧ (l0.length : Int) * 1 ≤ 2 ^ 40) ∧ ∀ X111 : List (Bool) → Int → Prop, (∀ (out112 : List (Bool)) (i113 : Int), ((i113 < (l0.length : Int) → (0 ≤ i113 ∧ i113 < (l0.length : Int)) ∧ (0 ≤ i113 ∧ i113 < (out112.length : Int)) ∧ X111 (out112.set (i113).toNat (l0.getD (i113).toNat false)) (IntKind.i64.wrap (i113 + (1 : Int)))) ∧ (¬(i113 < (l0.length : Int)) → K (out112))) → X111 out112 i113) → X111 (List.replicate ((l0.length : Int)).toNat false) (0 : Int)
end Go.Proofs.YtcgiboeilcdonaaDoor.G

namespace Go.Proofs.YtcgiboeilcdonaaDoor.G
open Go Go.Ab
set_option maxRecDepth 100000
set_option linter.unusedVariables false
set_option linter.unusedSimpArgs false
set_option maxHeartbeats 1000000
def laws_toFloat32S.wp (l0 : List (Nat)) (K : (List (Nat)) → Prop) : Prop := (0 ≤ (l0.length : Int) ∧ (l0.length : Int) ≤ (l0.length : Int) ∧ (l0.length : Int) ≤ 2 ^ 40 ∧ (l0.length : Int) * 4 ≤ 2 ^ 40) ∧ ∀ X111 : List (Nat) → Int → Prop, (∀ (out112 : List (Nat)) (i113 : Int), ((i113 < (l0.length : Int) → (0 ≤ i113 ∧ i113 < (l0.length : Int)) ∧ (0 ≤ i113 ∧ i113 < (out112.length : Int)) ∧ X111 (out112.set (i113).toNat (l0.getD (i113).toNat (0 : Nat))) (IntKind.i64.wrap (i113 + (1 : Int)))) ∧ (¬(i113 < (l0.length : Int)) → K (out112))) → X111 out112 i113) → X111 (List.replicate ((l0.length : Int)).toNat (0 : Nat)) (0 : Int)
end Go.Proofs.YtcgiboeilcdonaaDoor.G

namespace Go.Proofs.YtcgiboeilcdonaaDoor.G
open Go Go.Ab
set_option maxRecDepth 100000
set_option linter.unusedVariables false
set_option linter.unusedSimpArgs false
set_option maxHeartbeats 1000000
def laws_sameFloat.wp (a0 : Nat) (a1 : Nat) (K : Bool → Prop) : Prop := (((fcmp .neq .f64 a0 a0) = true → K (fcmp .neq .f64 a1 a1)) ∧ ((fcmp .neq .f64 a0 a0) = false → (((fcmp .neq .f64 a1 a1) = true → K (false)) ∧ ((fcmp .neq .f64 a1 a1) = false → (((fcmp .eql .f64 a0 (cz .f64 0)) = true → (((fcmp .eql .f64 a1 (cz .f64 0)) = true → K ((fcmp .gtr .f64 (fop .quo .f64 (cz .f64 4607182418800017408) a0) (cz .f64 0)) == (fcmp .gtr .f64 (fop .quo .f64 (cz .f64 4607182418800017408) a1) (cz .f64 0)))) ∧ ((fcmp .eql .f64 a1 (cz .f64 0)) = false → K (fcmp .eql .f64 a0 a1)))) ∧ ((fcmp .eql .f64 a0 (cz .f64 0)) = false → K (fcmp .eql .f64 a0 a1)))))))
end Go.Proofs.YtcgiboeilcdonaaDoor.G

namespace Go.Proofs.YtcgiboeilcdonaaDoor.G
open Go Go.Ab
set_option maxRecDepth 100000
set_option linter.unusedVariables false
set_option linter.unusedSimpArgs false
set_option maxHeartbeats 1000000
def laws_eqFloat32S.wp (l0 : List (Nat)) (l1 : List (Nat)) (K : Bool → Prop) : Prop := (((l0.length : Int) = (l1.length : Int) → ∀ X102 : Int → Prop, (∀ (i103 : Int), ((i103 < (l0.length : Int) → (0 ≤ i103 ∧ i103 < (l0.length : Int)) ∧ (0 ≤ i103 ∧ i103 < (l1.length : Int)) ∧ laws_sameFloat.wp (widen (l0.getD (i103).toNat (0 : Nat))) (widen (l1.getD (i103).toNat (0 : Nat))) fun y107 => ((y107 = true → X102 (IntKind.i64.wrap (i103 + (1 : Int)))) ∧ (y107 = false → K (false)))) ∧ (¬(i103 < (l0.length : Int)) → K (true))) → X102 i103) → X102 (0 : Int)) ∧ (¬((l0.length : Int) = (l1.length : Int)) → K (false)))
end Go.Proofs.YtcgiboeilcdonaaDoor.G

namespace Go.Proofs.YtcgiboeilcdonaaDoor.G
open Go Go.Ab
set_option maxRecDepth 100000
set_option linter.unusedVariables false
set_option linter.unusedSimpArgs false
set_option maxHeartbeats 1000000
def laws_markFloat32S.wp (l0 : List (Nat)) (a1 : Int) (K : Int → (List (Nat)) → Prop) : Prop := ∀ X108 : List (Nat) → Int → Int → Prop, (∀ (a109 : List (Nat)) (k110 : Int) (i111 : Int), ((i111 < (a109.length : Int) → (0 ≤ i111 ∧ i111 < (a109.length : Int)) ∧ X108 (a109.set (i111).toNat (itof .f32 k110)) (IntKind.i64.wrap (k110 + (1 : Int))) (IntKind.i64.wrap (i111 + (1 : Int)))) ∧ (¬(i111 < (a109.length : Int)) → K (k110) (a109))) → X108 a109 k110 i111) → X108 (l0) (a1) (0 : Int)
end Go.Proofs.YtcgiboeilcdonaaDoor.G

namespace Go.Proofs.YtcgiboeilcdonaaDoor.G
open Go Go.Ab
set_option maxRecDepth 100000
set_option linter.unusedVariables false
set_option linter.unusedSimpArgs false
set_option maxHeartbeats 1000000
def laws_heldFloat32S.wp (l0 : List (Nat)) (a1 : Int) (K : Int → Prop) : Prop := ∀ X101 : Int → Int → Prop, (∀ (k102 : Int) (i103 : Int), ((i103 < (l0.length : Int) → (0 ≤ i103 ∧ i103 < (l0.length : Int)) ∧ (((fcmp .neq .f32 (l0.getD (i103).toNat (0 : Nat)) (itof .f32 k102)) = true → K (-1 : Int)) ∧ ((fcmp .neq .f32 (l0.getD (i103).toNat (0 : Nat)) (itof .f32 k102)) = false → X101 (IntKind.i64.wrap (k102 + (1 : Int))) (IntKind.i64.wrap (i103 + (1 : Int)))))) ∧ (¬(i103 < (l0.length : Int)) → K (k102))) → X101 k102 i103) → X101 (a1) (0 : Int)
end Go.Proofs.YtcgiboeilcdonaaDoor.G

namespace Go.Proofs.YtcgiboeilcdonaaDoor.G
open Go Go.Ab
set_option maxRecDepth 100000
set_option linter.unusedVariables false
set_option linter.unusedSimpArgs false
set_option maxHeartbeats 1000000
def laws_markText.wp (a0 : Int) (K : (List UInt8) → Prop) : Prop := ((a0 ≤ (0 : Int) → K ([109, 48] : List UInt8)) ∧ (¬(a0 ≤ (0 : Int)) → ∀ X102 : Int → List UInt8 → Prop, (∀ (k103 : Int) (out104 : List UInt8), (((0 : Int) < k103 → (((byts ([(IntKind.u8.wrap (IntKind.i64.wrap ((48 : Int) + (Int.tmod k103 (10 : Int)))))] : List (Int))).length : Int) + (out104.length : Int) ≤ 9223372036854775807) ∧ X102 (IntKind.i64.wrap (Int.tdiv k103 (10 : Int))) ((byts ([(IntKind.u8.wrap (IntKind.i64.wrap ((48 : Int) + (Int.tmod k103 (10 : Int)))))] : List (Int))) ++ out104)) ∧ (¬((0 : Int) < k103) → ((([109] : List UInt8).length : Int) + (out104.length : Int) ≤ 9223372036854775807) ∧ K (([109] : List UInt8) ++ out104))) → X102 k103 out104) → X102 (a0) ([] : List UInt8)))
end Go.Proofs.YtcgiboeilcdonaaDoor.G

namespace Go.Proofs.YtcgiboeilcdonaaDoor.G
open Go Go.Ab
set_option maxRecDepth 100000
set_option linter.unusedVariables false
set_option linter.unusedSimpArgs false
set_option maxHeartbeats 1000000
def spec_l01Dec.wp (a0 : Int) (K : (List UInt8) → Prop) : Prop := ∀ X104 : List (Int) → Int → Prop, (∀ (out105 : List (Int)) (rest107 : Int), (((out105.length : Int) = (0 : Int) → (((Int.tmod rest107 (10 : Int)) < (0 : Int) → ((([(IntKind.u8.wrap (IntKind.i64.wrap ((48 : Int) + (IntKind.i64.wrap (0 - (Int.tmod rest107 (10 : Int)))))))] : List (Int)).length + out105.length) * 1 ≤ 2 ^ 40) ∧ X104 (([(IntKind.u8.wrap (IntKind.i64.wrap ((48 : Int) + (IntKind.i64.wrap (0 - (Int.tmod rest107 (10 : Int)))))))] : List (Int)) ++ out105) (IntKind.i64.wrap (Int.tdiv rest107 (10 : Int)))) ∧ (¬((Int.tmod rest107 (10 : Int)) < (0 : Int)) → ((([(IntKind.u8.wrap (IntKind.i64.wrap ((48 : Int) + (Int.tmod rest107 (10 : Int)))))] : List (Int)).length + out105.length) * 1 ≤ 2 ^ 40) ∧ X104 (([(IntKind.u8.wrap (IntKind.i64.wrap ((48 : Int) + (Int.tmod rest107 (10 : Int)))))] : List (Int)) ++ out105) (IntKind.i64.wrap (Int.tdiv rest107 (10 : Int)))))) ∧ (¬((out105.length : Int) = (0 : Int)) → ((rest107 = (0 : Int) → ((a0 < (0 : Int) → ((([(45 : Int)] : List (Int)).length + out105.length) * 1 ≤ 2 ^ 40) ∧ K (byts (([(45 : Int)] : List (Int)) ++ out105))) ∧ (¬(a0 < (0 : Int)) → K (byts out105)))) ∧ (¬(rest107 = (0 : Int)) → (((Int.tmod rest107 (10 : Int)) < (0 : Int) → ((([(IntKind.u8.wrap (IntKind.i64.wrap ((48 : Int) + (IntKind.i64.wrap (0 - (Int.tmod rest107 (10 : Int)))))))] : List (Int)).length + out105.length) * 1 ≤ 2 ^ 40) ∧ X104 (([(IntKind.u8.wrap (IntKind.i64.wrap ((48 : Int) + (IntKind.i64.wrap (0 - (Int.tmod rest107 (10 : Int)))))))] : List (Int)) ++ out105) (IntKind.i64.wrap (Int.tdiv rest107 (10 : Int)))) ∧ (¬((Int.tmod rest107 (10 : Int)) < (0 : Int)) → ((([(IntKind.u8.wrap (IntKind.i64.wrap ((48 : Int) + (Int.tmod rest107 (10 : Int)))))] : List (Int)).length + out105.length) * 1 ≤ 2 ^ 40) ∧ X104 (([(IntKind.u8.wrap (IntKind.i64.wrap ((48 : Int) + (Int.tmod rest107 (10 : Int)))))] : List (Int)) ++ out105) (IntKind.i64.wrap (Int.tdiv rest107 (10 : Int))))))))) → X104 out105 rest107) → X104 ([] : List (Int)) (a0)
end Go.Proofs.YtcgiboeilcdonaaDoor.G

