/-
  What the functions compute, as formulas over numbers and lists. Printed by a program of the session; nothing here is trusted.
-/
import Derived.Test.YtkaidcgelbhofaaAbG
namespace Go.Proofs.Ytkaidcgelbhofaa.G
open Go Go.Ab
set_option maxRecDepth 100000
set_option linter.unusedVariables false
set_option linter.unusedSimpArgs false
set_option maxHeartbeats 1000000
def R_LeFlt_f32_o (H : Heap) (x : List (Nat)) (c : List AV) : Prop := c = [(c.getD 0 .und)] ∧ Shows H (c.getD 0 .und) 1 (enc (eFlt .f32) x)
def R_LeInt_i64_o (H : Heap) (x : List (Int)) (c : List AV) : Prop := c = [(c.getD 0 .und)] ∧ Shows H (c.getD 0 .und) 1 (enc (eInt .i64) x)
def R_LePair_eBool_ePair_eFlt_f32_eInt_i64_o (H : Heap) (x : List ((Bool) × (Nat) × (Int))) (c : List AV) : Prop := c = [(c.getD 0 .und)] ∧ Shows H (c.getD 0 .und) 3 (enc (ePair eBool (ePair (eFlt .f32) (eInt .i64))) x)
def R_LePair_eInt_i64_eFlt_f32_o (H : Heap) (x : List ((Int) × (Nat))) (c : List AV) : Prop := c = [(c.getD 0 .und)] ∧ Shows H (c.getD 0 .und) 2 (enc (ePair (eInt .i64) (eFlt .f32)) x)
def R_s_ii64_LeFlt_f32_poooq (H : Heap) (x : (List UInt8) × (Int) × (List (Nat))) (c : List AV) : Prop := c = [(.str (pk x.1)), (.int .i64 x.2.1), (c.getD 2 .und)] ∧ Shows H (c.getD 2 .und) 1 (enc (eFlt .f32) x.2.2)
end Go.Proofs.Ytkaidcgelbhofaa.G

namespace Go.Proofs.Ytkaidcgelbhofaa.G
open Go Go.Ab
set_option maxRecDepth 100000
set_option linter.unusedVariables false
set_option linter.unusedSimpArgs false
set_option maxHeartbeats 1000000
def laws_szBoolS.wp (l0 : List (Bool)) (a1 : Int) (K : Int → Prop) : Prop := (((IntKind.i64.wrap (a1 - (l0.length : Int))) < (0 : Int) → K (-1 : Int)) ∧ (¬((IntKind.i64.wrap (a1 - (l0.length : Int))) < (0 : Int)) → K (IntKind.i64.wrap (a1 - (l0.length : Int)))))
end Go.Proofs.Ytkaidcgelbhofaa.G

namespace Go.Proofs.Ytkaidcgelbhofaa.G
open Go Go.Ab
set_option maxRecDepth 100000
set_option linter.unusedVariables false
set_option linter.unusedSimpArgs false
set_option maxHeartbeats 1000000
def laws_szCoded.wp (a0 : Int) (a1 : Int) (l2 : List (Bool)) (a3 : Int) (K : Int → Prop) : Prop := laws_szBoolS.wp l2 a3 fun y104 => ((y104 < (0 : Int) → K (-1 : Int)) ∧ (¬(y104 < (0 : Int)) → K (y104)))
end Go.Proofs.Ytkaidcgelbhofaa.G

namespace Go.Proofs.Ytkaidcgelbhofaa.G
open Go Go.Ab
set_option maxRecDepth 100000
set_option linter.unusedVariables false
set_option linter.unusedSimpArgs false
set_option maxHeartbeats 1000000
def spec_l00In.wp (a0 : Int) (a1 : Int) (a2 : Int) (K : Bool → Prop) : Prop := ((a1 ≤ a0 → K (decide (a0 ≤ a2))) ∧ (¬(a1 ≤ a0) → K (false)))
end Go.Proofs.Ytkaidcgelbhofaa.G

namespace Go.Proofs.Ytkaidcgelbhofaa.G
open Go Go.Ab
set_option maxRecDepth 100000
set_option linter.unusedVariables false
set_option linter.unusedSimpArgs false
set_option maxHeartbeats 1000000
def spec_l06Is.wp (a0 : Int) (a1 : Int) (l2 : List (Bool)) (K : Bool → Prop) : Prop := spec_l00In.wp a0 (1 : Int) (128 : Int) fun y101 => ((y101 = true → spec_l00In.wp a1 (0 : Int) (24 : Int) fun y104 => ((y104 = true → K (decide ((l2.length : Int) ≤ (32768 : Int)))) ∧ (y104 = false → K (false)))) ∧ (y101 = false → K (false)))
end Go.Proofs.Ytkaidcgelbhofaa.G

namespace Go.Proofs.Ytkaidcgelbhofaa.G
open Go Go.Ab
set_option maxRecDepth 100000
set_option linter.unusedVariables false
set_option linter.unusedSimpArgs false
set_option maxHeartbeats 1000000
def spec_l02Bound.wp (l0 : List (Int)) (a1 : Int) (K : Bool → Prop) : Prop := ∀ X101 : Int → Prop, (∀ (i102 : Int), ((i102 < (l0.length : Int) → (0 ≤ i102 ∧ i102 < (l0.length : Int)) ∧ spec_l00In.wp (l0.getD (i102).toNat (0 : Int)) (IntKind.i64.wrap (0 - a1)) a1 fun y105 => ((y105 = true → X101 (IntKind.i64.wrap (i102 + (1 : Int)))) ∧ (y105 = false → K (false)))) ∧ (¬(i102 < (l0.length : Int)) → K (true))) → X101 i102) → X101 (0 : Int)
end Go.Proofs.Ytkaidcgelbhofaa.G

namespace Go.Proofs.Ytkaidcgelbhofaa.G
open Go Go.Ab
set_option maxRecDepth 100000
set_option linter.unusedVariables false
set_option linter.unusedSimpArgs false
set_option maxHeartbeats 1000000
def spec_l02Integers.wp (l0 : List (Int)) (K : Bool → Prop) : Prop := (((1 : Int) ≤ (l0.length : Int) → (((l0.length : Int) ≤ (128 : Int) → spec_l02Bound.wp l0 (1000000 : Int) fun y103 => K (y103)) ∧ (¬((l0.length : Int) ≤ (128 : Int)) → K (false)))) ∧ (¬((1 : Int) ≤ (l0.length : Int)) → K (false)))
end Go.Proofs.Ytkaidcgelbhofaa.G

namespace Go.Proofs.Ytkaidcgelbhofaa.G
open Go Go.Ab
set_option maxRecDepth 100000
set_option linter.unusedVariables false
set_option linter.unusedSimpArgs false
set_option maxHeartbeats 1000000
def spec_ListFrom.wp (a0 : Int) (a1 : Int) (l2 : List (Bool)) (K : (List (Int)) → Bool → Prop) : Prop := spec_l06Is.wp a0 a1 l2 fun y104 => ((y104 = true → (0 ≤ a0 ∧ a0 ≤ a0 ∧ a0 ≤ 2 ^ 40 ∧ a0 * 8 ≤ 2 ^ 40) ∧ ∀ X201 : List (Int) → List (Int) → Int → Int → Prop, (∀ (signs202 : List (Int)) (sizes203 : List (Int)) (atq204 : Int) (k205 : Int), (((0 : Int) ≤ k205 → ∀ X229 : List (Int) → List (Int) → Int → Int → Prop, (∀ (signs230 : List (Int)) (sizes231 : List (Int)) (atq232 : Int) (i233 : Int), ((i233 < a0 → ((atq232 < (l2.length : Int) → (0 ≤ atq232 ∧ atq232 < (l2.length : Int)) ∧ (((l2.getD (atq232).toNat false) = true → (0 ≤ i233 ∧ i233 < (sizes231.length : Int)) ∧ (((sizes231.getD (i233).toNat (0 : Int)) = (0 : Int) → (((IntKind.i64.wrap (atq232 + (1 : Int))) = (l2.length : Int) → X201 (signs230) (sizes231) (IntKind.i64.wrap (atq232 + (1 : Int))) (IntKind.i64.wrap (k205 - (1 : Int)))) ∧ (¬((IntKind.i64.wrap (atq232 + (1 : Int))) = (l2.length : Int)) → (0 ≤ i233 ∧ i233 < (signs230.length : Int)) ∧ (0 ≤ (IntKind.i64.wrap (atq232 + (1 : Int))) ∧ (IntKind.i64.wrap (atq232 + (1 : Int))) < (l2.length : Int)) ∧ (((l2.getD ((IntKind.i64.wrap (atq232 + (1 : Int)))).toNat false) = true → (0 ≤ i233 ∧ i233 < ((signs230.set (i233).toNat (1 : Int)).length : Int)) ∧ (0 ≤ (IntKind.u64.wrap k205)) ∧ X229 ((signs230.set (i233).toNat (1 : Int)).set (i233).toNat (-1 : Int)) (sizes231.set (i233).toNat (IntKind.i64.wrap ((sizes231.getD (i233).toNat (0 : Int)) + (IntKind.i64.wrap ((1 : Int) * (2 ^ (min ((IntKind.u64.wrap k205)).toNat IntKind.i64.bits))))))) (IntKind.i64.wrap ((IntKind.i64.wrap (atq232 + (1 : Int))) + (1 : Int))) (IntKind.i64.wrap (i233 + (1 : Int)))) ∧ ((l2.getD ((IntKind.i64.wrap (atq232 + (1 : Int)))).toNat false) = false → (0 ≤ (IntKind.u64.wrap k205)) ∧ X229 (signs230.set (i233).toNat (1 : Int)) (sizes231.set (i233).toNat (IntKind.i64.wrap ((sizes231.getD (i233).toNat (0 : Int)) + (IntKind.i64.wrap ((1 : Int) * (2 ^ (min ((IntKind.u64.wrap k205)).toNat IntKind.i64.bits))))))) (IntKind.i64.wrap ((IntKind.i64.wrap (atq232 + (1 : Int))) + (1 : Int))) (IntKind.i64.wrap (i233 + (1 : Int)))))))) ∧ (¬((sizes231.getD (i233).toNat (0 : Int)) = (0 : Int)) → (0 ≤ (IntKind.u64.wrap k205)) ∧ X229 (signs230) (sizes231.set (i233).toNat (IntKind.i64.wrap ((sizes231.getD (i233).toNat (0 : Int)) + (IntKind.i64.wrap ((1 : Int) * (2 ^ (min ((IntKind.u64.wrap k205)).toNat IntKind.i64.bits))))))) (IntKind.i64.wrap (atq232 + (1 : Int))) (IntKind.i64.wrap (i233 + (1 : Int)))))) ∧ ((l2.getD (atq232).toNat false) = false → X229 (signs230) (sizes231) (IntKind.i64.wrap (atq232 + (1 : Int))) (IntKind.i64.wrap (i233 + (1 : Int)))))) ∧ (¬(atq232 < (l2.length : Int)) → X201 (signs230) (sizes231) (atq232) (IntKind.i64.wrap (k205 - (1 : Int)))))) ∧ (¬(i233 < a0) → X201 (signs230) (sizes231) (atq232) (IntKind.i64.wrap (k205 - (1 : Int))))) → X229 signs230 sizes231 atq232 i233) → X229 (signs202) (sizes203) (atq204) (0 : Int)) ∧ (¬((0 : Int) ≤ k205) → ((atq204 < (l2.length : Int) → K ([] : List (Int)) (false)) ∧ (¬(atq204 < (l2.length : Int)) → ∀ X275 : List (Int) → Int → Prop, (∀ (out276 : List (Int)) (i278 : Int), ((i278 < a0 → (0 ≤ i278 ∧ i278 < (sizes203.length : Int)) ∧ (0 ≤ i278 ∧ i278 < (signs202.length : Int)) ∧ ((out276.length + ([(IntKind.i64.wrap ((sizes203.getD (i278).toNat (0 : Int)) * (signs202.getD (i278).toNat (0 : Int))))] : List (Int)).length) * 8 ≤ 2 ^ 40) ∧ X275 (out276 ++ ([(IntKind.i64.wrap ((sizes203.getD (i278).toNat (0 : Int)) * (signs202.getD (i278).toNat (0 : Int))))] : List (Int))) (IntKind.i64.wrap (i278 + (1 : Int)))) ∧ (¬(i278 < a0) → spec_l02Integers.wp out276 fun y288 => ((y288 = true → K (out276) (true)) ∧ (y288 = false → K ([] : List (Int)) (false))))) → X275 out276 i278) → X275 ([] : List (Int)) (0 : Int))))) → X201 signs202 sizes203 atq204 k205) → X201 (List.replicate (a0).toNat (0 : Int)) (List.replicate (a0).toNat (0 : Int)) (0 : Int) (IntKind.i64.wrap (a1 - (1 : Int)))) ∧ (y104 = false → K ([] : List (Int)) (false)))
end Go.Proofs.Ytkaidcgelbhofaa.G

namespace Go.Proofs.Ytkaidcgelbhofaa.G
open Go Go.Ab
set_option maxRecDepth 100000
set_option linter.unusedVariables false
set_option linter.unusedSimpArgs false
set_option maxHeartbeats 1000000
def laws_toBoolS.wp (l0 : List (Bool)) (K : (List (Bool)) → Prop) : Prop := (0 ≤ (l0.length : Int) ∧ (l0.length : Int) ≤ (l0.length : Int) ∧ (l0.length : Int) ≤ 2 ^ 40 ∧ (l0.length : Int) * 1 ≤ 2 ^ 40) ∧ ∀ X111 : List (Bool) → Int → Prop, (∀ (out112 : List (Bool)) (i113 : Int), ((i113 < (l0.length : Int) → (0 ≤ i113 ∧ i113 < (l0.length : Int)) ∧ (0 ≤ i113 ∧ i113 < (out112.length : Int)) ∧ X111 (out112.set (i113).toNat (l0.getD (i113).toNat false)) (IntKind.i64.wrap (i113 + (1 : Int)))) ∧ (¬(i113 < (l0.length : Int)) → K (out112))) → X111 out112 i113) → X111 (List.replicate ((l0.length : Int)).toNat false) (0 : Int)
end Go.Proofs.Ytkaidcgelbhofaa.G

namespace Go.Proofs.Ytkaidcgelbhofaa.G
open Go Go.Ab
set_option maxRecDepth 100000
set_option linter.unusedVariables false
set_option linter.unusedSimpArgs false
set_option maxHeartbeats 1000000
def laws_toCoded.wp (a0 : Int) (a1 : Int) (l2 : List (Bool)) (K : Int → Int → (List (Bool)) → Prop) : Prop := laws_toBoolS.wp l2 fun y112 => K (a0) (a1) (y112)
end Go.Proofs.Ytkaidcgelbhofaa.G

namespace Go.Proofs.Ytkaidcgelbhofaa.G
open Go Go.Ab
set_option maxRecDepth 100000
set_option linter.unusedVariables false
set_option linter.unusedSimpArgs false
set_option maxHeartbeats 1000000
def impl_within.wp (a0 : Int) (a1 : Int) (a2 : Int) (K : Bool → Prop) : Prop := ((a1 ≤ a0 → K (decide (a0 ≤ a2))) ∧ (¬(a1 ≤ a0) → K (false)))
end Go.Proofs.Ytkaidcgelbhofaa.G

namespace Go.Proofs.Ytkaidcgelbhofaa.G
open Go Go.Ab
set_option maxRecDepth 100000
set_option linter.unusedVariables false
set_option linter.unusedSimpArgs false
set_option maxHeartbeats 1000000
def impl_ValidCoded.wp (a0 : Int) (a1 : Int) (l2 : List (Bool)) (K : Bool → Prop) : Prop := impl_within.wp a0 (1 : Int) (128 : Int) fun y104 => ((y104 = true → impl_within.wp a1 (0 : Int) (24 : Int) fun y107 => ((y107 = true → K (decide ((l2.length : Int) ≤ (32768 : Int)))) ∧ (y107 = false → K (false)))) ∧ (y104 = false → K (false)))
end Go.Proofs.Ytkaidcgelbhofaa.G

namespace Go.Proofs.Ytkaidcgelbhofaa.G
open Go Go.Ab
set_option maxRecDepth 100000
set_option linter.unusedVariables false
set_option linter.unusedSimpArgs false
set_option maxHeartbeats 1000000
def impl_areWithin.wp (l0 : List (Int)) (a1 : Int) (K : Bool → Prop) : Prop := ∀ X101 : Int → Prop, (∀ (x102 : Int), ((x102 < (l0.length : Int) → (0 ≤ x102 ∧ x102 < (l0.length : Int)) ∧ impl_within.wp (l0.getD (x102).toNat (0 : Int)) (IntKind.i64.wrap (0 - a1)) a1 fun y105 => ((y105 = true → X101 (IntKind.i64.wrap (x102 + (1 : Int)))) ∧ (y105 = false → K (false)))) ∧ (¬(x102 < (l0.length : Int)) → K (true))) → X101 x102) → X101 (0 : Int)
end Go.Proofs.Ytkaidcgelbhofaa.G

namespace Go.Proofs.Ytkaidcgelbhofaa.G
open Go Go.Ab
set_option maxRecDepth 100000
set_option linter.unusedVariables false
set_option linter.unusedSimpArgs false
set_option maxHeartbeats 1000000
def impl_AreIntegers.wp (l0 : List (Int)) (K : Bool → Prop) : Prop := impl_within.wp (l0.length : Int) (1 : Int) (128 : Int) fun y101 => ((y101 = true → impl_areWithin.wp l0 (1000000 : Int) fun y104 => K (y104)) ∧ (y101 = false → K (false)))
end Go.Proofs.Ytkaidcgelbhofaa.G

namespace Go.Proofs.Ytkaidcgelbhofaa.G
open Go Go.Ab
set_option maxRecDepth 100000
set_option linter.unusedVariables false
set_option linter.unusedSimpArgs false
set_option maxHeartbeats 1000000
def impl_ListFrom.wp (a0 : Int) (a1 : Int) (l2 : List (Bool)) (K : (List (Int)) → Bool → Prop) : Prop := impl_ValidCoded.wp a0 a1 l2 fun y104 => ((y104 = true → (0 ≤ a0 ∧ a0 ≤ a0 ∧ a0 ≤ 2 ^ 40 ∧ a0 * 8 ≤ 2 ^ 40) ∧ ∀ X205 : List (Int) → List (Int) → Int → Int → Prop, (∀ (signs206 : List (Int)) (sizes207 : List (Int)) (atq208 : Int) (plane209 : Int), (((0 : Int) ≤ plane209 → ∀ X229 : List (Int) → List (Int) → Int → Int → Prop, (∀ (signs230 : List (Int)) (sizes231 : List (Int)) (atq232 : Int) (x233 : Int), ((x233 < (sizes207.length : Int) → ((atq232 = (l2.length : Int) → X205 (signs230) (sizes231) (atq232) (IntKind.i64.wrap (plane209 - (1 : Int)))) ∧ (¬(atq232 = (l2.length : Int)) → (0 ≤ atq232 ∧ atq232 < (l2.length : Int)) ∧ (((l2.getD (atq232).toNat false) = true → (0 ≤ x233 ∧ x233 < (sizes231.length : Int)) ∧ (0 ≤ plane209) ∧ (0 ≤ x233 ∧ x233 < (signs230.length : Int)) ∧ (((signs230.getD (x233).toNat (0 : Int)) = (0 : Int) → (((IntKind.i64.wrap (atq232 + (1 : Int))) < (l2.length : Int) → (0 ≤ (IntKind.i64.wrap (atq232 + (1 : Int))) ∧ (IntKind.i64.wrap (atq232 + (1 : Int))) < (l2.length : Int)) ∧ (((l2.getD ((IntKind.i64.wrap (atq232 + (1 : Int)))).toNat false) = true → (0 ≤ x233 ∧ x233 < ((signs230.set (x233).toNat (1 : Int)).length : Int)) ∧ X229 ((signs230.set (x233).toNat (1 : Int)).set (x233).toNat (-1 : Int)) (sizes231.set (x233).toNat (ibits .or .i64 (sizes231.getD (x233).toNat (0 : Int)) (IntKind.i64.wrap ((1 : Int) * (2 ^ (min (plane209).toNat IntKind.i64.bits)))))) (IntKind.i64.wrap ((IntKind.i64.wrap (atq232 + (1 : Int))) + (1 : Int))) (IntKind.i64.wrap (x233 + (1 : Int)))) ∧ ((l2.getD ((IntKind.i64.wrap (atq232 + (1 : Int)))).toNat false) = false → X229 (signs230.set (x233).toNat (1 : Int)) (sizes231.set (x233).toNat (ibits .or .i64 (sizes231.getD (x233).toNat (0 : Int)) (IntKind.i64.wrap ((1 : Int) * (2 ^ (min (plane209).toNat IntKind.i64.bits)))))) (IntKind.i64.wrap ((IntKind.i64.wrap (atq232 + (1 : Int))) + (1 : Int))) (IntKind.i64.wrap (x233 + (1 : Int)))))) ∧ (¬((IntKind.i64.wrap (atq232 + (1 : Int))) < (l2.length : Int)) → X229 (signs230) (sizes231.set (x233).toNat (ibits .or .i64 (sizes231.getD (x233).toNat (0 : Int)) (IntKind.i64.wrap ((1 : Int) * (2 ^ (min (plane209).toNat IntKind.i64.bits)))))) (IntKind.i64.wrap (atq232 + (1 : Int))) (IntKind.i64.wrap (x233 + (1 : Int)))))) ∧ (¬((signs230.getD (x233).toNat (0 : Int)) = (0 : Int)) → X229 (signs230) (sizes231.set (x233).toNat (ibits .or .i64 (sizes231.getD (x233).toNat (0 : Int)) (IntKind.i64.wrap ((1 : Int) * (2 ^ (min (plane209).toNat IntKind.i64.bits)))))) (IntKind.i64.wrap (atq232 + (1 : Int))) (IntKind.i64.wrap (x233 + (1 : Int)))))) ∧ ((l2.getD (atq232).toNat false) = false → X229 (signs230) (sizes231) (IntKind.i64.wrap (atq232 + (1 : Int))) (IntKind.i64.wrap (x233 + (1 : Int)))))))) ∧ (¬(x233 < (sizes207.length : Int)) → X205 (signs230) (sizes231) (atq232) (IntKind.i64.wrap (plane209 - (1 : Int))))) → X229 signs230 sizes231 atq232 x233) → X229 (signs206) (sizes207) (atq208) (0 : Int)) ∧ (¬((0 : Int) ≤ plane209) → ((atq208 < (l2.length : Int) → K ([] : List (Int)) (false)) ∧ (¬(atq208 < (l2.length : Int)) → ∀ X271 : List (Int) → Int → Prop, (∀ (out272 : List (Int)) (x274 : Int), ((x274 < (sizes207.length : Int) → (0 ≤ x274 ∧ x274 < (sizes207.length : Int)) ∧ (0 ≤ x274 ∧ x274 < (signs206.length : Int)) ∧ ((out272.length + ([(IntKind.i64.wrap ((sizes207.getD (x274).toNat (0 : Int)) * (signs206.getD (x274).toNat (0 : Int))))] : List (Int)).length) * 8 ≤ 2 ^ 40) ∧ X271 (out272 ++ ([(IntKind.i64.wrap ((sizes207.getD (x274).toNat (0 : Int)) * (signs206.getD (x274).toNat (0 : Int))))] : List (Int))) (IntKind.i64.wrap (x274 + (1 : Int)))) ∧ (¬(x274 < (sizes207.length : Int)) → impl_AreIntegers.wp out272 fun y284 => ((y284 = true → K (out272) (true)) ∧ (y284 = false → K ([] : List (Int)) (false))))) → X271 out272 x274) → X271 ([] : List (Int)) (0 : Int))))) → X205 signs206 sizes207 atq208 plane209) → X205 (List.replicate (a0).toNat (0 : Int)) (List.replicate (a0).toNat (0 : Int)) (0 : Int) (IntKind.i64.wrap (a1 - (1 : Int)))) ∧ (y104 = false → K ([] : List (Int)) (false)))
end Go.Proofs.Ytkaidcgelbhofaa.G

namespace Go.Proofs.Ytkaidcgelbhofaa.G
open Go Go.Ab
set_option maxRecDepth 100000
set_option linter.unusedVariables false
set_option linter.unusedSimpArgs false
set_option maxHeartbeats 1000000
def laws_eqInt64S.wp (l0 : List (Int)) (l1 : List (Int)) (K : Bool → Prop) : Prop := (((l0.length : Int) = (l1.length : Int) → ∀ X102 : Int → Prop, (∀ (i103 : Int), ((i103 < (l0.length : Int) → (0 ≤ i103 ∧ i103 < (l0.length : Int)) ∧ (0 ≤ i103 ∧ i103 < (l1.length : Int)) ∧ (((l0.getD (i103).toNat (0 : Int)) = (l1.getD (i103).toNat (0 : Int)) → X102 (IntKind.i64.wrap (i103 + (1 : Int)))) ∧ (¬((l0.getD (i103).toNat (0 : Int)) = (l1.getD (i103).toNat (0 : Int))) → K (false)))) ∧ (¬(i103 < (l0.length : Int)) → K (true))) → X102 i103) → X102 (0 : Int)) ∧ (¬((l0.length : Int) = (l1.length : Int)) → K (false)))
end Go.Proofs.Ytkaidcgelbhofaa.G

namespace Go.Proofs.Ytkaidcgelbhofaa.G
open Go Go.Ab
set_option maxRecDepth 100000
set_option linter.unusedVariables false
set_option linter.unusedSimpArgs false
set_option maxHeartbeats 1000000
def laws_eqBoolS.wp (l0 : List (Bool)) (l1 : List (Bool)) (K : Bool → Prop) : Prop := (((l0.length : Int) = (l1.length : Int) → ∀ X102 : Int → Prop, (∀ (i103 : Int), ((i103 < (l0.length : Int) → (0 ≤ i103 ∧ i103 < (l0.length : Int)) ∧ (0 ≤ i103 ∧ i103 < (l1.length : Int)) ∧ ((((l0.getD (i103).toNat false) == (l1.getD (i103).toNat false)) = true → X102 (IntKind.i64.wrap (i103 + (1 : Int)))) ∧ (((l0.getD (i103).toNat false) == (l1.getD (i103).toNat false)) = false → K (false)))) ∧ (¬(i103 < (l0.length : Int)) → K (true))) → X102 i103) → X102 (0 : Int)) ∧ (¬((l0.length : Int) = (l1.length : Int)) → K (false)))
end Go.Proofs.Ytkaidcgelbhofaa.G

namespace Go.Proofs.Ytkaidcgelbhofaa.G
open Go Go.Ab
set_option maxRecDepth 100000
set_option linter.unusedVariables false
set_option linter.unusedSimpArgs false
set_option maxHeartbeats 1000000
def laws_eqCoded.wp (a0 : Int) (a1 : Int) (l2 : List (Bool)) (a3 : Int) (a4 : Int) (l5 : List (Bool)) (K : Bool → Prop) : Prop := ((a0 = a3 → ((a1 = a4 → laws_eqBoolS.wp l2 l5 fun y109 => ((y109 = true → K (true)) ∧ (y109 = false → K (false)))) ∧ (¬(a1 = a4) → K (false)))) ∧ (¬(a0 = a3) → K (false)))
end Go.Proofs.Ytkaidcgelbhofaa.G

namespace Go.Proofs.Ytkaidcgelbhofaa.G
open Go Go.Ab
set_option maxRecDepth 100000
set_option linter.unusedVariables false
set_option linter.unusedSimpArgs false
set_option maxHeartbeats 1000000
def laws_markBoolS.wp (l0 : List (Bool)) (a1 : Int) (K : Int → (List (Bool)) → Prop) : Prop := ∀ X108 : List (Bool) → Int → Int → Prop, (∀ (a109 : List (Bool)) (k110 : Int) (i111 : Int), ((i111 < (a109.length : Int) → (0 ≤ i111 ∧ i111 < (a109.length : Int)) ∧ X108 (a109.set (i111).toNat (decide ((Int.tmod k110 (3 : Int)) = (0 : Int)))) (IntKind.i64.wrap (k110 + (1 : Int))) (IntKind.i64.wrap (i111 + (1 : Int)))) ∧ (¬(i111 < (a109.length : Int)) → K (k110) (a109))) → X108 a109 k110 i111) → X108 (l0) (a1) (0 : Int)
end Go.Proofs.Ytkaidcgelbhofaa.G

namespace Go.Proofs.Ytkaidcgelbhofaa.G
open Go Go.Ab
set_option maxRecDepth 100000
set_option linter.unusedVariables false
set_option linter.unusedSimpArgs false
set_option maxHeartbeats 1000000
def laws_markCoded.wp (a0 : Int) (a1 : Int) (l2 : List (Bool)) (a3 : Int) (K : Int → (List (Bool)) → Prop) : Prop := laws_markBoolS.wp l2 a3 fun y105 y106 => K (y105) (y106)
end Go.Proofs.Ytkaidcgelbhofaa.G

namespace Go.Proofs.Ytkaidcgelbhofaa.G
open Go Go.Ab
set_option maxRecDepth 100000
set_option linter.unusedVariables false
set_option linter.unusedSimpArgs false
set_option maxHeartbeats 1000000
def laws_markInt64S.wp (l0 : List (Int)) (a1 : Int) (K : Int → (List (Int)) → Prop) : Prop := ∀ X108 : List (Int) → Int → Int → Prop, (∀ (a109 : List (Int)) (k110 : Int) (i111 : Int), ((i111 < (a109.length : Int) → (0 ≤ i111 ∧ i111 < (a109.length : Int)) ∧ X108 (a109.set (i111).toNat k110) (IntKind.i64.wrap (k110 + (1 : Int))) (IntKind.i64.wrap (i111 + (1 : Int)))) ∧ (¬(i111 < (a109.length : Int)) → K (k110) (a109))) → X108 a109 k110 i111) → X108 (l0) (a1) (0 : Int)
end Go.Proofs.Ytkaidcgelbhofaa.G

namespace Go.Proofs.Ytkaidcgelbhofaa.G
open Go Go.Ab
set_option maxRecDepth 100000
set_option linter.unusedVariables false
set_option linter.unusedSimpArgs false
set_option maxHeartbeats 1000000
def laws_heldInt64S.wp (l0 : List (Int)) (a1 : Int) (K : Int → Prop) : Prop := ∀ X101 : Int → Int → Prop, (∀ (k102 : Int) (i103 : Int), ((i103 < (l0.length : Int) → (0 ≤ i103 ∧ i103 < (l0.length : Int)) ∧ (((l0.getD (i103).toNat (0 : Int)) = k102 → X101 (IntKind.i64.wrap (k102 + (1 : Int))) (IntKind.i64.wrap (i103 + (1 : Int)))) ∧ (¬((l0.getD (i103).toNat (0 : Int)) = k102) → K (-1 : Int)))) ∧ (¬(i103 < (l0.length : Int)) → K (k102))) → X101 k102 i103) → X101 (a1) (0 : Int)
end Go.Proofs.Ytkaidcgelbhofaa.G

namespace Go.Proofs.Ytkaidcgelbhofaa.G
open Go Go.Ab
set_option maxRecDepth 100000
set_option linter.unusedVariables false
set_option linter.unusedSimpArgs false
set_option maxHeartbeats 1000000
def laws_FnExactListFrom.wp (a0 : Int) (a1 : Int) (l2 : List (Bool)) (K : Bool → Prop) : Prop := laws_szCoded.wp a0 a1 l2 (1048576 : Int) fun y104 => ((y104 < (0 : Int) → K (true)) ∧ (¬(y104 < (0 : Int)) → laws_toCoded.wp a0 a1 l2 fun y107 y108 y109 => spec_ListFrom.wp y107 y108 y109 fun y113 y116 => laws_toCoded.wp a0 a1 l2 fun y118 y119 y120 => impl_ListFrom.wp y118 y119 y120 fun y128 y131 => laws_eqInt64S.wp y128 y113 fun y133 => ((y133 = true → (((y131 == y116) = true → laws_toCoded.wp a0 a1 l2 fun y137 y138 y139 => laws_eqCoded.wp y118 y119 y120 y137 y138 y139 fun y143 => ((y143 = true → laws_markCoded.wp y118 y119 y120 (1 : Int) fun y146 y147 => ((y146 < (0 : Int) → K (false)) ∧ (¬(y146 < (0 : Int)) → laws_eqInt64S.wp y128 y113 fun y150 => ((y150 = true → laws_markInt64S.wp y128 (1 : Int) fun y153 y154 => laws_heldInt64S.wp y154 (1 : Int) fun y156 => ((y156 < (0 : Int) → K (false)) ∧ (¬(y156 < (0 : Int)) → ((y156 = y153 → laws_toCoded.wp a0 a1 l2 fun y160 y161 y162 => impl_ListFrom.wp y160 y161 y162 fun y166 y169 => laws_eqInt64S.wp y166 y113 fun y171 => ((y171 = true → (((y169 == y116) = true → laws_heldInt64S.wp y154 (1 : Int) fun y175 => ((y175 < (0 : Int) → K (false)) ∧ (¬(y175 < (0 : Int)) → ((y175 = y153 → K (true)) ∧ (¬(y175 = y153) → K (false)))))) ∧ ((y169 == y116) = false → K (false)))) ∧ (y171 = false → K (false)))) ∧ (¬(y156 = y153) → K (false)))))) ∧ (y150 = false → K (false)))))) ∧ (y143 = false → K (false)))) ∧ ((y131 == y116) = false → K (false)))) ∧ (y133 = false → K (false)))))
end Go.Proofs.Ytkaidcgelbhofaa.G

namespace Go.Proofs.Ytkaidcgelbhofaa.G
open Go Go.Ab
set_option maxRecDepth 100000
set_option linter.unusedVariables false
set_option linter.unusedSimpArgs false
set_option maxHeartbeats 1000000
def laws_toFloat32S.wp (l0 : List (Nat)) (K : (List (Nat)) → Prop) : Prop := (0 ≤ (l0.length : Int) ∧ (l0.length : Int) ≤ (l0.length : Int) ∧ (l0.length : Int) ≤ 2 ^ 40 ∧ (l0.length : Int) * 4 ≤ 2 ^ 40) ∧ ∀ X111 : List (Nat) → Int → Prop, (∀ (out112 : List (Nat)) (i113 : Int), ((i113 < (l0.length : Int) → (0 ≤ i113 ∧ i113 < (l0.length : Int)) ∧ (0 ≤ i113 ∧ i113 < (out112.length : Int)) ∧ X111 (out112.set (i113).toNat (l0.getD (i113).toNat (0 : Nat))) (IntKind.i64.wrap (i113 + (1 : Int)))) ∧ (¬(i113 < (l0.length : Int)) → K (out112))) → X111 out112 i113) → X111 (List.replicate ((l0.length : Int)).toNat (0 : Nat)) (0 : Int)
end Go.Proofs.Ytkaidcgelbhofaa.G

namespace Go.Proofs.Ytkaidcgelbhofaa.G
open Go Go.Ab
set_option maxRecDepth 100000
set_option linter.unusedVariables false
set_option linter.unusedSimpArgs false
set_option maxHeartbeats 1000000
def laws_sameFloat.wp (a0 : Nat) (a1 : Nat) (K : Bool → Prop) : Prop := (((fcmp .neq .f64 a0 a0) = true → K (fcmp .neq .f64 a1 a1)) ∧ ((fcmp .neq .f64 a0 a0) = false → (((fcmp .neq .f64 a1 a1) = true → K (false)) ∧ ((fcmp .neq .f64 a1 a1) = false → (((fcmp .eql .f64 a0 (cz .f64 0)) = true → (((fcmp .eql .f64 a1 (cz .f64 0)) = true → K ((fcmp .gtr .f64 (fop .quo .f64 (cz .f64 4607182418800017408) a0) (cz .f64 0)) == (fcmp .gtr .f64 (fop .quo .f64 (cz .f64 4607182418800017408) a1) (cz .f64 0)))) ∧ ((fcmp .eql .f64 a1 (cz .f64 0)) = false → K (fcmp .eql .f64 a0 a1)))) ∧ ((fcmp .eql .f64 a0 (cz .f64 0)) = false → K (fcmp .eql .f64 a0 a1)))))))
end Go.Proofs.Ytkaidcgelbhofaa.G

namespace Go.Proofs.Ytkaidcgelbhofaa.G
open Go Go.Ab
set_option maxRecDepth 100000
set_option linter.unusedVariables false
set_option linter.unusedSimpArgs false
set_option maxHeartbeats 1000000
def laws_eqFloat32S.wp (l0 : List (Nat)) (l1 : List (Nat)) (K : Bool → Prop) : Prop := (((l0.length : Int) = (l1.length : Int) → ∀ X102 : Int → Prop, (∀ (i103 : Int), ((i103 < (l0.length : Int) → (0 ≤ i103 ∧ i103 < (l0.length : Int)) ∧ (0 ≤ i103 ∧ i103 < (l1.length : Int)) ∧ laws_sameFloat.wp (widen (l0.getD (i103).toNat (0 : Nat))) (widen (l1.getD (i103).toNat (0 : Nat))) fun y107 => ((y107 = true → X102 (IntKind.i64.wrap (i103 + (1 : Int)))) ∧ (y107 = false → K (false)))) ∧ (¬(i103 < (l0.length : Int)) → K (true))) → X102 i103) → X102 (0 : Int)) ∧ (¬((l0.length : Int) = (l1.length : Int)) → K (false)))
end Go.Proofs.Ytkaidcgelbhofaa.G

namespace Go.Proofs.Ytkaidcgelbhofaa.G
open Go Go.Ab
set_option maxRecDepth 100000
set_option linter.unusedVariables false
set_option linter.unusedSimpArgs false
set_option maxHeartbeats 1000000
def laws_markFloat32S.wp (l0 : List (Nat)) (a1 : Int) (K : Int → (List (Nat)) → Prop) : Prop := ∀ X108 : List (Nat) → Int → Int → Prop, (∀ (a109 : List (Nat)) (k110 : Int) (i111 : Int), ((i111 < (a109.length : Int) → (0 ≤ i111 ∧ i111 < (a109.length : Int)) ∧ X108 (a109.set (i111).toNat (itof .f32 k110)) (IntKind.i64.wrap (k110 + (1 : Int))) (IntKind.i64.wrap (i111 + (1 : Int)))) ∧ (¬(i111 < (a109.length : Int)) → K (k110) (a109))) → X108 a109 k110 i111) → X108 (l0) (a1) (0 : Int)
end Go.Proofs.Ytkaidcgelbhofaa.G

namespace Go.Proofs.Ytkaidcgelbhofaa.G
open Go Go.Ab
set_option maxRecDepth 100000
set_option linter.unusedVariables false
set_option linter.unusedSimpArgs false
set_option maxHeartbeats 1000000
def laws_heldFloat32S.wp (l0 : List (Nat)) (a1 : Int) (K : Int → Prop) : Prop := ∀ X101 : Int → Int → Prop, (∀ (k102 : Int) (i103 : Int), ((i103 < (l0.length : Int) → (0 ≤ i103 ∧ i103 < (l0.length : Int)) ∧ (((fcmp .neq .f32 (l0.getD (i103).toNat (0 : Nat)) (itof .f32 k102)) = true → K (-1 : Int)) ∧ ((fcmp .neq .f32 (l0.getD (i103).toNat (0 : Nat)) (itof .f32 k102)) = false → X101 (IntKind.i64.wrap (k102 + (1 : Int))) (IntKind.i64.wrap (i103 + (1 : Int)))))) ∧ (¬(i103 < (l0.length : Int)) → K (k102))) → X101 k102 i103) → X101 (a1) (0 : Int)
end Go.Proofs.Ytkaidcgelbhofaa.G

namespace Go.Proofs.Ytkaidcgelbhofaa.G
open Go Go.Ab
set_option maxRecDepth 100000
set_option linter.unusedVariables false
set_option linter.unusedSimpArgs false
set_option maxHeartbeats 1000000
def laws_toInt64S.wp (l0 : List (Int)) (K : (List (Int)) → Prop) : Prop := (0 ≤ (l0.length : Int) ∧ (l0.length : Int) ≤ (l0.length : Int) ∧ (l0.length : Int) ≤ 2 ^ 40 ∧ (l0.length : Int) * 8 ≤ 2 ^ 40) ∧ ∀ X111 : List (Int) → Int → Prop, (∀ (out112 : List (Int)) (i113 : Int), ((i113 < (l0.length : Int) → (0 ≤ i113 ∧ i113 < (l0.length : Int)) ∧ (0 ≤ i113 ∧ i113 < (out112.length : Int)) ∧ X111 (out112.set (i113).toNat (l0.getD (i113).toNat (0 : Int))) (IntKind.i64.wrap (i113 + (1 : Int)))) ∧ (¬(i113 < (l0.length : Int)) → K (out112))) → X111 out112 i113) → X111 (List.replicate ((l0.length : Int)).toNat (0 : Int)) (0 : Int)
end Go.Proofs.Ytkaidcgelbhofaa.G

namespace Go.Proofs.Ytkaidcgelbhofaa.G
open Go Go.Ab
set_option maxRecDepth 100000
set_option linter.unusedVariables false
set_option linter.unusedSimpArgs false
set_option maxHeartbeats 1000000
def spec_l01Finite.wp (a0 : Nat) (K : Bool → Prop) : Prop := K (fcmp .eql .f32 (fop .sub .f32 a0 a0) (cz .f32 0))
end Go.Proofs.Ytkaidcgelbhofaa.G

namespace Go.Proofs.Ytkaidcgelbhofaa.G
open Go Go.Ab
set_option maxRecDepth 100000
set_option linter.unusedVariables false
set_option linter.unusedSimpArgs false
set_option maxHeartbeats 1000000
def impl_IsFinite.wp (a0 : Nat) (K : Bool → Prop) : Prop := K (fcmp .eql .f32 (fop .sub .f32 a0 a0) (cz .f32 0))
end Go.Proofs.Ytkaidcgelbhofaa.G

namespace Go.Proofs.Ytkaidcgelbhofaa.G
open Go Go.Ab
set_option maxRecDepth 100000
set_option linter.unusedVariables false
set_option linter.unusedSimpArgs false
set_option maxHeartbeats 1000000
def impl_isLeast.wp (a0 : Nat) (K : Bool → Prop) : Prop := impl_IsFinite.wp a0 fun y101 => ((y101 = true → K (fcmp .geq .f32 a0 (cz .f32 0))) ∧ (y101 = false → K (false)))
end Go.Proofs.Ytkaidcgelbhofaa.G

namespace Go.Proofs.Ytkaidcgelbhofaa.G
open Go Go.Ab
set_option maxRecDepth 100000
set_option linter.unusedVariables false
set_option linter.unusedSimpArgs false
set_option maxHeartbeats 1000000
def impl_areFinite.wp (l0 : List (List (Nat))) (K : Bool → Prop) : Prop := ∀ X101 : Int → Prop, (∀ (x102 : Int), ((x102 < (l0.length : Int) → (0 ≤ x102 ∧ x102 < (l0.length : Int)) ∧ ∀ X105 : Int → Prop, (∀ (x106 : Int), ((x106 < ((l0.getD (x102).toNat ([] : List (Nat))).length : Int) → (0 ≤ x106 ∧ x106 < ((l0.getD (x102).toNat ([] : List (Nat))).length : Int)) ∧ impl_IsFinite.wp ((l0.getD (x102).toNat ([] : List (Nat))).getD (x106).toNat (0 : Nat)) fun y109 => ((y109 = true → X105 (IntKind.i64.wrap (x106 + (1 : Int)))) ∧ (y109 = false → K (false)))) ∧ (¬(x106 < ((l0.getD (x102).toNat ([] : List (Nat))).length : Int)) → X101 (IntKind.i64.wrap (x102 + (1 : Int))))) → X105 x106) → X105 (0 : Int)) ∧ (¬(x102 < (l0.length : Int)) → K (true))) → X101 x102) → X101 (0 : Int)
end Go.Proofs.Ytkaidcgelbhofaa.G

namespace Go.Proofs.Ytkaidcgelbhofaa.G
open Go Go.Ab
set_option maxRecDepth 100000
set_option linter.unusedVariables false
set_option linter.unusedSimpArgs false
set_option maxHeartbeats 1000000
def impl_IsList.wp (l0 : List (Nat)) (K : Bool → Prop) : Prop := impl_within.wp (l0.length : Int) (1 : Int) (128 : Int) fun y101 => ((y101 = true → impl_areFinite.wp ([l0] : List (List (Nat))) fun y107 => K (y107)) ∧ (y101 = false → K (false)))
end Go.Proofs.Ytkaidcgelbhofaa.G

namespace Go.Proofs.Ytkaidcgelbhofaa.G
open Go Go.Ab
set_option maxRecDepth 100000
set_option linter.unusedVariables false
set_option linter.unusedSimpArgs false
set_option maxHeartbeats 1000000
def impl_isShare.wp (a0 : Nat) (K : Bool → Prop) : Prop := (((fcmp .geq .f32 a0 (cz .f32 0)) = true → K (fcmp .leq .f32 a0 (cz .f32 1065353216))) ∧ ((fcmp .geq .f32 a0 (cz .f32 0)) = false → K (false)))
end Go.Proofs.Ytkaidcgelbhofaa.G

namespace Go.Proofs.Ytkaidcgelbhofaa.G
open Go Go.Ab
set_option maxRecDepth 100000
set_option linter.unusedVariables false
set_option linter.unusedSimpArgs false
set_option maxHeartbeats 1000000
def spec_l02Least.wp (a0 : Nat) (K : Bool → Prop) : Prop := spec_l01Finite.wp a0 fun y101 => ((y101 = true → K (fcmp .geq .f32 a0 (cz .f32 0))) ∧ (y101 = false → K (false)))
end Go.Proofs.Ytkaidcgelbhofaa.G

namespace Go.Proofs.Ytkaidcgelbhofaa.G
open Go Go.Ab
set_option maxRecDepth 100000
set_option linter.unusedVariables false
set_option linter.unusedSimpArgs false
set_option maxHeartbeats 1000000
def spec_l02Share.wp (a0 : Nat) (K : Bool → Prop) : Prop := (((fcmp .geq .f32 a0 (cz .f32 0)) = true → K (fcmp .leq .f32 a0 (cz .f32 1065353216))) ∧ ((fcmp .geq .f32 a0 (cz .f32 0)) = false → K (false)))
end Go.Proofs.Ytkaidcgelbhofaa.G

namespace Go.Proofs.Ytkaidcgelbhofaa.G
open Go Go.Ab
set_option maxRecDepth 100000
set_option linter.unusedVariables false
set_option linter.unusedSimpArgs false
set_option maxHeartbeats 1000000
def spec_l02Finite.wp (l0 : List (Nat)) (K : Bool → Prop) : Prop := ∀ X101 : Int → Prop, (∀ (i102 : Int), ((i102 < (l0.length : Int) → (0 ≤ i102 ∧ i102 < (l0.length : Int)) ∧ spec_l01Finite.wp (l0.getD (i102).toNat (0 : Nat)) fun y105 => ((y105 = true → X101 (IntKind.i64.wrap (i102 + (1 : Int)))) ∧ (y105 = false → K (false)))) ∧ (¬(i102 < (l0.length : Int)) → K (true))) → X101 i102) → X101 (0 : Int)
end Go.Proofs.Ytkaidcgelbhofaa.G

namespace Go.Proofs.Ytkaidcgelbhofaa.G
open Go Go.Ab
set_option maxRecDepth 100000
set_option linter.unusedVariables false
set_option linter.unusedSimpArgs false
set_option maxHeartbeats 1000000
def spec_l02Is.wp (l0 : List (Nat)) (K : Bool → Prop) : Prop := (((1 : Int) ≤ (l0.length : Int) → (((l0.length : Int) ≤ (128 : Int) → spec_l02Finite.wp l0 fun y103 => K (y103)) ∧ (¬((l0.length : Int) ≤ (128 : Int)) → K (false)))) ∧ (¬((1 : Int) ≤ (l0.length : Int)) → K (false)))
end Go.Proofs.Ytkaidcgelbhofaa.G

namespace Go.Proofs.Ytkaidcgelbhofaa.G
open Go Go.Ab
set_option maxRecDepth 100000
set_option linter.unusedVariables false
set_option linter.unusedSimpArgs false
set_option maxHeartbeats 1000000
def spec_l02List.wp (l0 : List (Nat)) (K : Bool → Bool → Prop) : Prop := spec_l02Finite.wp l0 fun y101 => ((y101 = true → K (true) (true)) ∧ (y101 = false → K (false) (false)))
end Go.Proofs.Ytkaidcgelbhofaa.G

namespace Go.Proofs.Ytkaidcgelbhofaa.G
open Go Go.Ab
set_option maxRecDepth 100000
set_option linter.unusedVariables false
set_option linter.unusedSimpArgs false
set_option maxHeartbeats 1000000
def spec_l02Above.wp (a0 : Nat) (K : Bool → Prop) : Prop := spec_l01Finite.wp a0 fun y101 => ((y101 = true → K (fcmp .gtr .f32 a0 (cz .f32 0))) ∧ (y101 = false → K (false)))
end Go.Proofs.Ytkaidcgelbhofaa.G

namespace Go.Proofs.Ytkaidcgelbhofaa.G
open Go Go.Ab
set_option maxRecDepth 100000
set_option linter.unusedVariables false
set_option linter.unusedSimpArgs false
set_option maxHeartbeats 1000000
def impl_isOver.wp (a0 : Nat) (K : Bool → Prop) : Prop := impl_IsFinite.wp a0 fun y101 => ((y101 = true → K (fcmp .gtr .f32 a0 (cz .f32 0))) ∧ (y101 = false → K (false)))
end Go.Proofs.Ytkaidcgelbhofaa.G

namespace Go.Proofs.Ytkaidcgelbhofaa.G
open Go Go.Ab
set_option maxRecDepth 100000
set_option linter.unusedVariables false
set_option linter.unusedSimpArgs false
set_option maxHeartbeats 1000000
def impl_finiteList.wp (l0 : List (Nat)) (K : Bool → Bool → Prop) : Prop := impl_areFinite.wp ([l0] : List (List (Nat))) fun y104 => ((y104 = true → K (true) (true)) ∧ (y104 = false → K (false) (false)))
end Go.Proofs.Ytkaidcgelbhofaa.G

namespace Go.Proofs.Ytkaidcgelbhofaa.G
open Go Go.Ab
set_option maxRecDepth 100000
set_option linter.unusedVariables false
set_option linter.unusedSimpArgs false
set_option maxHeartbeats 1000000
def math_Float32bits.wp (x : Nat) (K : Int → Prop) : Prop := (num .f32 x = true) ∧ K (x : Int)
end Go.Proofs.Ytkaidcgelbhofaa.G

namespace Go.Proofs.Ytkaidcgelbhofaa.G
open Go Go.Ab
set_option maxRecDepth 100000
set_option linter.unusedVariables false
set_option linter.unusedSimpArgs false
set_option maxHeartbeats 1000000
def spec_l01Bits.wp (a0 : Nat) (K : Int → Prop) : Prop := (((fcmp .neq .f32 a0 a0) = true → K (2143289344 : Int)) ∧ ((fcmp .neq .f32 a0 a0) = false → math_Float32bits.wp a0 fun y102 => K (IntKind.i64.wrap y102)))
end Go.Proofs.Ytkaidcgelbhofaa.G

namespace Go.Proofs.Ytkaidcgelbhofaa.G
open Go Go.Ab
set_option maxRecDepth 100000
set_option linter.unusedVariables false
set_option linter.unusedSimpArgs false
set_option maxHeartbeats 1000000
def spec_l07Pack.wp (l0 : List (Nat)) (K : (List UInt8) → Prop) : Prop := ∀ X218 : List (Int) → Int → Int → Prop, (∀ (out219 : List (Int)) (before221 : Int) (x222 : Int), ((x222 < (l0.length : Int) → (0 ≤ x222 ∧ x222 < (l0.length : Int)) ∧ spec_l01Bits.wp (l0.getD (x222).toNat (0 : Nat)) fun y225 => ∀ X227 : Int → Int → Prop, (∀ (z228 : Int) (scale229 : Int), ((z228 < (4 : Int) → (scale229 ≠ 0) ∧ (((IntKind.i64.wrap (Int.tdiv (ibits .xor .i64 y225 before221) scale229)) = (0 : Int) → ((scale229 = (1 : Int) → ((out219.length + ([(IntKind.u8.wrap (IntKind.i64.wrap (z228 + (1 : Int))))] : List (Int)).length) * 1 ≤ 2 ^ 40) ∧ ∀ X252 : List (Int) → Int → Int → Prop, (∀ (out253 : List (Int)) (x255 : Int) (k256 : Int), ((k256 < (4 : Int) → ((out253.length + ([(IntKind.u8.wrap (Int.tmod x255 (256 : Int)))] : List (Int)).length) * 1 ≤ 2 ^ 40) ∧ X252 (out253 ++ ([(IntKind.u8.wrap (Int.tmod x255 (256 : Int)))] : List (Int))) (IntKind.i64.wrap (Int.tdiv x255 (256 : Int))) (IntKind.i64.wrap (k256 + (1 : Int)))) ∧ (¬(k256 < (4 : Int)) → X218 (out253) (y225) (IntKind.i64.wrap (x222 + (1 : Int))))) → X252 out253 x255 k256) → X252 (out219 ++ ([(IntKind.u8.wrap (IntKind.i64.wrap (z228 + (1 : Int))))] : List (Int))) (ibits .xor .i64 y225 before221) (IntKind.i64.wrap (z228 + (1 : Int)))) ∧ (¬(scale229 = (1 : Int)) → X227 (IntKind.i64.wrap (z228 + (1 : Int))) (IntKind.i64.wrap (Int.tdiv scale229 (256 : Int)))))) ∧ (¬((IntKind.i64.wrap (Int.tdiv (ibits .xor .i64 y225 before221) scale229)) = (0 : Int)) → ((out219.length + ([(IntKind.u8.wrap z228)] : List (Int)).length) * 1 ≤ 2 ^ 40) ∧ ∀ X284 : List (Int) → Int → Int → Prop, (∀ (out285 : List (Int)) (x287 : Int) (k288 : Int), ((k288 < (4 : Int) → ((out285.length + ([(IntKind.u8.wrap (Int.tmod x287 (256 : Int)))] : List (Int)).length) * 1 ≤ 2 ^ 40) ∧ X284 (out285 ++ ([(IntKind.u8.wrap (Int.tmod x287 (256 : Int)))] : List (Int))) (IntKind.i64.wrap (Int.tdiv x287 (256 : Int))) (IntKind.i64.wrap (k288 + (1 : Int)))) ∧ (¬(k288 < (4 : Int)) → X218 (out285) (y225) (IntKind.i64.wrap (x222 + (1 : Int))))) → X284 out285 x287 k288) → X284 (out219 ++ ([(IntKind.u8.wrap z228)] : List (Int))) (ibits .xor .i64 y225 before221) (z228)))) ∧ (¬(z228 < (4 : Int)) → ((out219.length + ([(IntKind.u8.wrap z228)] : List (Int)).length) * 1 ≤ 2 ^ 40) ∧ ∀ X316 : List (Int) → Int → Int → Prop, (∀ (out317 : List (Int)) (x319 : Int) (k320 : Int), ((k320 < (4 : Int) → ((out317.length + ([(IntKind.u8.wrap (Int.tmod x319 (256 : Int)))] : List (Int)).length) * 1 ≤ 2 ^ 40) ∧ X316 (out317 ++ ([(IntKind.u8.wrap (Int.tmod x319 (256 : Int)))] : List (Int))) (IntKind.i64.wrap (Int.tdiv x319 (256 : Int))) (IntKind.i64.wrap (k320 + (1 : Int)))) ∧ (¬(k320 < (4 : Int)) → X218 (out317) (y225) (IntKind.i64.wrap (x222 + (1 : Int))))) → X316 out317 x319 k320) → X316 (out219 ++ ([(IntKind.u8.wrap z228)] : List (Int))) (ibits .xor .i64 y225 before221) (z228))) → X227 z228 scale229) → X227 (0 : Int) (16777216 : Int)) ∧ (¬(x222 < (l0.length : Int)) → K (byts out219))) → X218 out219 before221 x222) → X218 ([] : List (Int)) (0 : Int) (0 : Int)
end Go.Proofs.Ytkaidcgelbhofaa.G

namespace Go.Proofs.Ytkaidcgelbhofaa.G
open Go Go.Ab
set_option maxRecDepth 100000
set_option linter.unusedVariables false
set_option linter.unusedSimpArgs false
set_option maxHeartbeats 1000000
def impl_BitsOf.wp (a0 : Nat) (K : Int → Prop) : Prop := (((fcmp .neq .f32 a0 a0) = true → K (2143289344 : Int)) ∧ ((fcmp .neq .f32 a0 a0) = false → math_Float32bits.wp a0 fun y102 => K (IntKind.i64.wrap y102)))
end Go.Proofs.Ytkaidcgelbhofaa.G

namespace Go.Proofs.Ytkaidcgelbhofaa.G
open Go Go.Ab
set_option maxRecDepth 100000
set_option linter.unusedVariables false
set_option linter.unusedSimpArgs false
set_option maxHeartbeats 1000000
def impl_packed.wp (l0 : List (Nat)) (K : (List UInt8) → Prop) : Prop := ∀ X151 : List (Int) → Int → Int → Prop, (∀ (out152 : List (Int)) (last154 : Int) (x155 : Int), ((x155 < (l0.length : Int) → (0 ≤ x155 ∧ x155 < (l0.length : Int)) ∧ impl_BitsOf.wp (l0.getD (x155).toNat (0 : Nat)) fun y158 => ∀ X160 : Int → Int → Prop, (∀ (z161 : Int) (m162 : Int), (((0 : Int) < m162 → X160 (IntKind.i64.wrap (z161 - (1 : Int))) (Int.fdiv m162 (2 ^ (min ((8 : Int)).toNat IntKind.i64.bits)))) ∧ (¬((0 : Int) < m162) → ((out152.length + ([(IntKind.u8.wrap z161)] : List (Int)).length) * 1 ≤ 2 ^ 40) ∧ ∀ X182 : List (Int) → Int → Int → Prop, (∀ (out183 : List (Int)) (more185 : Int) (x186 : Int), ((x186 < (IntKind.i64.wrap ((4 : Int) - z161)) → ((out183.length + ([(IntKind.u8.wrap more185)] : List (Int)).length) * 1 ≤ 2 ^ 40) ∧ X182 (out183 ++ ([(IntKind.u8.wrap more185)] : List (Int))) (Int.fdiv more185 (2 ^ (min ((8 : Int)).toNat IntKind.i64.bits))) (IntKind.i64.wrap (x186 + (1 : Int)))) ∧ (¬(x186 < (IntKind.i64.wrap ((4 : Int) - z161))) → X151 (out183) (y158) (IntKind.i64.wrap (x155 + (1 : Int))))) → X182 out183 more185 x186) → X182 (out152 ++ ([(IntKind.u8.wrap z161)] : List (Int))) (ibits .xor .i64 y158 last154) (0 : Int))) → X160 z161 m162) → X160 (4 : Int) (ibits .xor .i64 y158 last154)) ∧ (¬(x155 < (l0.length : Int)) → K (byts out152))) → X151 out152 last154 x155) → X151 ([] : List (Int)) (0 : Int) (0 : Int)
end Go.Proofs.Ytkaidcgelbhofaa.G

namespace Go.Proofs.Ytkaidcgelbhofaa.G
open Go Go.Ab
set_option maxRecDepth 100000
set_option linter.unusedVariables false
set_option linter.unusedSimpArgs false
set_option maxHeartbeats 1000000
def laws_eqTake.wp (a0 : List UInt8) (a1 : Int) (l2 : List (Nat)) (a3 : List UInt8) (a4 : Int) (l5 : List (Nat)) (K : Bool → Prop) : Prop := ((a0 = a3 → ((a1 = a4 → laws_eqFloat32S.wp l2 l5 fun y109 => ((y109 = true → K (true)) ∧ (y109 = false → K (false)))) ∧ (¬(a1 = a4) → K (false)))) ∧ (¬(a0 = a3) → K (false)))
end Go.Proofs.Ytkaidcgelbhofaa.G

namespace Go.Proofs.Ytkaidcgelbhofaa.G
open Go Go.Ab
set_option maxRecDepth 100000
set_option linter.unusedVariables false
set_option linter.unusedSimpArgs false
set_option maxHeartbeats 1000000
def laws_szFloat32S.wp (l0 : List (Nat)) (a1 : Int) (K : Int → Prop) : Prop := (((IntKind.i64.wrap (a1 - (l0.length : Int))) < (0 : Int) → K (-1 : Int)) ∧ (¬((IntKind.i64.wrap (a1 - (l0.length : Int))) < (0 : Int)) → K (IntKind.i64.wrap (a1 - (l0.length : Int)))))
end Go.Proofs.Ytkaidcgelbhofaa.G

namespace Go.Proofs.Ytkaidcgelbhofaa.G
open Go Go.Ab
set_option maxRecDepth 100000
set_option linter.unusedVariables false
set_option linter.unusedSimpArgs false
set_option maxHeartbeats 1000000
def spec_l07Values.wp (l0 : List (Nat)) (K : Bool → Prop) : Prop := (((1 : Int) ≤ (l0.length : Int) → K (decide ((l0.length : Int) ≤ (128 : Int)))) ∧ (¬((1 : Int) ≤ (l0.length : Int)) → K (false)))
end Go.Proofs.Ytkaidcgelbhofaa.G

namespace Go.Proofs.Ytkaidcgelbhofaa.G
open Go Go.Ab
set_option maxRecDepth 100000
set_option linter.unusedVariables false
set_option linter.unusedSimpArgs false
set_option maxHeartbeats 1000000
def spec_l07Name.wp (a0 : List UInt8) (K : Bool → Prop) : Prop := ∀ X101 : Int → Prop, (∀ (i102 : Int), ((i102 < (a0.length : Int) → (0 ≤ i102 ∧ i102 < (a0.length : Int)) ∧ (((bt a0 i102) < (97 : Int) → K (false)) ∧ (¬((bt a0 i102) < (97 : Int)) → (((122 : Int) < (bt a0 i102) → K (false)) ∧ (¬((122 : Int) < (bt a0 i102)) → X101 (IntKind.i64.wrap (i102 + (1 : Int)))))))) ∧ (¬(i102 < (a0.length : Int)) → (((1 : Int) ≤ (a0.length : Int) → K (decide ((a0.length : Int) ≤ (8 : Int)))) ∧ (¬((1 : Int) ≤ (a0.length : Int)) → K (false))))) → X101 i102) → X101 (0 : Int)
end Go.Proofs.Ytkaidcgelbhofaa.G

namespace Go.Proofs.Ytkaidcgelbhofaa.G
open Go Go.Ab
set_option maxRecDepth 100000
set_option linter.unusedVariables false
set_option linter.unusedSimpArgs false
set_option maxHeartbeats 1000000
def spec_l07Take.wp (a0 : List UInt8) (a1 : Int) (l2 : List (Nat)) (K : Bool → Prop) : Prop := spec_l07Name.wp a0 fun y101 => ((y101 = true → spec_l00In.wp a1 (1 : Int) (65535 : Int) fun y104 => ((y104 = true → spec_l07Values.wp l2 fun y107 => K (y107)) ∧ (y104 = false → K (false)))) ∧ (y101 = false → K (false)))
end Go.Proofs.Ytkaidcgelbhofaa.G

namespace Go.Proofs.Ytkaidcgelbhofaa.G
open Go Go.Ab
set_option maxRecDepth 100000
set_option linter.unusedVariables false
set_option linter.unusedSimpArgs false
set_option maxHeartbeats 1000000
def impl_IsName.wp (a0 : List UInt8) (K : Bool → Prop) : Prop := ∀ X101 : Int → Prop, (∀ (x102 : Int), ((x102 < (a0.length : Int) → (0 ≤ x102 ∧ x102 < (a0.length : Int)) ∧ (((bt a0 x102) < (97 : Int) → K (false)) ∧ (¬((bt a0 x102) < (97 : Int)) → (((122 : Int) < (bt a0 x102) → K (false)) ∧ (¬((122 : Int) < (bt a0 x102)) → X101 (IntKind.i64.wrap (x102 + (1 : Int)))))))) ∧ (¬(x102 < (a0.length : Int)) → (((1 : Int) ≤ (a0.length : Int) → K (decide ((a0.length : Int) ≤ (8 : Int)))) ∧ (¬((1 : Int) ≤ (a0.length : Int)) → K (false))))) → X101 x102) → X101 (0 : Int)
end Go.Proofs.Ytkaidcgelbhofaa.G

namespace Go.Proofs.Ytkaidcgelbhofaa.G
open Go Go.Ab
set_option maxRecDepth 100000
set_option linter.unusedVariables false
set_option linter.unusedSimpArgs false
set_option maxHeartbeats 1000000
def impl_ValidTake.wp (a0 : List UInt8) (a1 : Int) (l2 : List (Nat)) (K : Bool → Prop) : Prop := impl_IsName.wp a0 fun y104 => ((y104 = true → impl_within.wp a1 (1 : Int) (65535 : Int) fun y107 => ((y107 = true → impl_within.wp (l2.length : Int) (1 : Int) (128 : Int) fun y110 => K (y110)) ∧ (y107 = false → K (false)))) ∧ (y104 = false → K (false)))
end Go.Proofs.Ytkaidcgelbhofaa.G

namespace Go.Proofs.Ytkaidcgelbhofaa.G
open Go Go.Ab
set_option maxRecDepth 100000
set_option linter.unusedVariables false
set_option linter.unusedSimpArgs false
set_option maxHeartbeats 1000000
def spec_l02Scheme.wp (l0 : List (Nat)) (a1 : Nat) (K : Bool → Prop) : Prop := (((1 : Int) ≤ (l0.length : Int) → (((l0.length : Int) ≤ (8 : Int) → spec_l02Finite.wp l0 fun y103 => ((y103 = true → spec_l02Above.wp a1 fun y106 => K (y106)) ∧ (y103 = false → K (false)))) ∧ (¬((l0.length : Int) ≤ (8 : Int)) → K (false)))) ∧ (¬((1 : Int) ≤ (l0.length : Int)) → K (false)))
end Go.Proofs.Ytkaidcgelbhofaa.G

namespace Go.Proofs.Ytkaidcgelbhofaa.G
open Go Go.Ab
set_option maxRecDepth 100000
set_option linter.unusedVariables false
set_option linter.unusedSimpArgs false
set_option maxHeartbeats 1000000
def impl_ValidScheme.wp (l0 : List (Nat)) (a1 : Nat) (K : Bool → Prop) : Prop := impl_within.wp (l0.length : Int) (1 : Int) (8 : Int) fun y104 => ((y104 = true → impl_areFinite.wp ([l0] : List (List (Nat))) fun y110 => ((y110 = true → impl_isOver.wp a1 fun y113 => K (y113)) ∧ (y110 = false → K (false)))) ∧ (y104 = false → K (false)))
end Go.Proofs.Ytkaidcgelbhofaa.G

namespace Go.Proofs.Ytkaidcgelbhofaa.G
open Go Go.Ab
set_option maxRecDepth 100000
set_option linter.unusedVariables false
set_option linter.unusedSimpArgs false
set_option maxHeartbeats 1000000
def laws_szScheme.wp (l0 : List (Nat)) (a1 : Nat) (a2 : Int) (K : Int → Prop) : Prop := laws_szFloat32S.wp l0 a2 fun y104 => ((y104 < (0 : Int) → K (-1 : Int)) ∧ (¬(y104 < (0 : Int)) → K (y104)))
end Go.Proofs.Ytkaidcgelbhofaa.G

namespace Go.Proofs.Ytkaidcgelbhofaa.G
open Go Go.Ab
set_option maxRecDepth 100000
set_option linter.unusedVariables false
set_option linter.unusedSimpArgs false
set_option maxHeartbeats 1000000
def laws_toScheme.wp (l0 : List (Nat)) (a1 : Nat) (K : (List (Nat)) → Nat → Prop) : Prop := laws_toFloat32S.wp l0 fun y110 => K (y110) (a1)
end Go.Proofs.Ytkaidcgelbhofaa.G

namespace Go.Proofs.Ytkaidcgelbhofaa.G
open Go Go.Ab
set_option maxRecDepth 100000
set_option linter.unusedVariables false
set_option linter.unusedSimpArgs false
set_option maxHeartbeats 1000000
def laws_eqScheme.wp (l0 : List (Nat)) (a1 : Nat) (l2 : List (Nat)) (a3 : Nat) (K : Bool → Prop) : Prop := laws_eqFloat32S.wp l0 l2 fun y107 => ((y107 = true → laws_sameFloat.wp (widen a1) (widen a3) fun y110 => ((y110 = true → K (true)) ∧ (y110 = false → K (false)))) ∧ (y107 = false → K (false)))
end Go.Proofs.Ytkaidcgelbhofaa.G

