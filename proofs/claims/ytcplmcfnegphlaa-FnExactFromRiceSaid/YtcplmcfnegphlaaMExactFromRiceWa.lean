/-
  What the functions compute, as formulas over numbers and lists. Printed by a program of the session; nothing here is trusted.
-/
import Derived.Test.YtcplmcfnegphlaaAbK
namespace Go.Proofs.Ytcplmcfnegphlaa.G
open Go Go.Ab
set_option maxRecDepth 100000
set_option linter.unusedVariables false
set_option linter.unusedSimpArgs false
set_option maxHeartbeats 1000000

end Go.Proofs.Ytcplmcfnegphlaa.G

namespace Go.Proofs.Ytcplmcfnegphlaa.G
open Go Go.Ab
set_option maxRecDepth 100000
set_option linter.unusedVariables false
set_option linter.unusedSimpArgs false
set_option maxHeartbeats 1000000
def laws_eqBoolS.wp (l0 : List (Bool)) (l1 : List (Bool)) (K : Bool → Prop) : Prop := (((l0.length : Int) = (l1.length : Int) → ∀ X102 : Int → Prop, (∀ (i103 : Int), ((i103 < (l0.length : Int) → (0 ≤ i103 ∧ i103 < (l0.length : Int)) ∧ (0 ≤ i103 ∧ i103 < (l1.length : Int)) ∧ ((((l0.getD (i103).toNat false) == (l1.getD (i103).toNat false)) = true → X102 (IntKind.i64.wrap (i103 + (1 : Int)))) ∧ (((l0.getD (i103).toNat false) == (l1.getD (i103).toNat false)) = false → K (false)))) ∧ (¬(i103 < (l0.length : Int)) → K (true))) → X102 i103) → X102 (0 : Int)) ∧ (¬((l0.length : Int) = (l1.length : Int)) → K (false)))
end Go.Proofs.Ytcplmcfnegphlaa.G

namespace Go.Proofs.Ytcplmcfnegphlaa.G
open Go Go.Ab
set_option maxRecDepth 100000
set_option linter.unusedVariables false
set_option linter.unusedSimpArgs false
set_option maxHeartbeats 1000000
def laws_eqInt64S.wp (l0 : List (Int)) (l1 : List (Int)) (K : Bool → Prop) : Prop := (((l0.length : Int) = (l1.length : Int) → ∀ X102 : Int → Prop, (∀ (i103 : Int), ((i103 < (l0.length : Int) → (0 ≤ i103 ∧ i103 < (l0.length : Int)) ∧ (0 ≤ i103 ∧ i103 < (l1.length : Int)) ∧ (((l0.getD (i103).toNat (0 : Int)) = (l1.getD (i103).toNat (0 : Int)) → X102 (IntKind.i64.wrap (i103 + (1 : Int)))) ∧ (¬((l0.getD (i103).toNat (0 : Int)) = (l1.getD (i103).toNat (0 : Int))) → K (false)))) ∧ (¬(i103 < (l0.length : Int)) → K (true))) → X102 i103) → X102 (0 : Int)) ∧ (¬((l0.length : Int) = (l1.length : Int)) → K (false)))
end Go.Proofs.Ytcplmcfnegphlaa.G

namespace Go.Proofs.Ytcplmcfnegphlaa.G
open Go Go.Ab
set_option maxRecDepth 100000
set_option linter.unusedVariables false
set_option linter.unusedSimpArgs false
set_option maxHeartbeats 1000000
def laws_markInt64S.wp (l0 : List (Int)) (a1 : Int) (K : Int → (List (Int)) → Prop) : Prop := ∀ X108 : List (Int) → Int → Int → Prop, (∀ (a109 : List (Int)) (k110 : Int) (i111 : Int), ((i111 < (a109.length : Int) → (0 ≤ i111 ∧ i111 < (a109.length : Int)) ∧ X108 (a109.set (i111).toNat k110) (IntKind.i64.wrap (k110 + (1 : Int))) (IntKind.i64.wrap (i111 + (1 : Int)))) ∧ (¬(i111 < (a109.length : Int)) → K (k110) (a109))) → X108 a109 k110 i111) → X108 (l0) (a1) (0 : Int)
end Go.Proofs.Ytcplmcfnegphlaa.G

namespace Go.Proofs.Ytcplmcfnegphlaa.G
open Go Go.Ab
set_option maxRecDepth 100000
set_option linter.unusedVariables false
set_option linter.unusedSimpArgs false
set_option maxHeartbeats 1000000
def laws_markBoolS.wp (l0 : List (Bool)) (a1 : Int) (K : Int → (List (Bool)) → Prop) : Prop := ∀ X108 : List (Bool) → Int → Int → Prop, (∀ (a109 : List (Bool)) (k110 : Int) (i111 : Int), ((i111 < (a109.length : Int) → (0 ≤ i111 ∧ i111 < (a109.length : Int)) ∧ X108 (a109.set (i111).toNat (decide ((Int.tmod k110 (3 : Int)) = (0 : Int)))) (IntKind.i64.wrap (k110 + (1 : Int))) (IntKind.i64.wrap (i111 + (1 : Int)))) ∧ (¬(i111 < (a109.length : Int)) → K (k110) (a109))) → X108 a109 k110 i111) → X108 (l0) (a1) (0 : Int)
end Go.Proofs.Ytcplmcfnegphlaa.G

namespace Go.Proofs.Ytcplmcfnegphlaa.G
open Go Go.Ab
set_option maxRecDepth 100000
set_option linter.unusedVariables false
set_option linter.unusedSimpArgs false
set_option maxHeartbeats 1000000
def laws_heldInt64S.wp (l0 : List (Int)) (a1 : Int) (K : Int → Prop) : Prop := ∀ X101 : Int → Int → Prop, (∀ (k102 : Int) (i103 : Int), ((i103 < (l0.length : Int) → (0 ≤ i103 ∧ i103 < (l0.length : Int)) ∧ (((l0.getD (i103).toNat (0 : Int)) = k102 → X101 (IntKind.i64.wrap (k102 + (1 : Int))) (IntKind.i64.wrap (i103 + (1 : Int)))) ∧ (¬((l0.getD (i103).toNat (0 : Int)) = k102) → K (-1 : Int)))) ∧ (¬(i103 < (l0.length : Int)) → K (k102))) → X101 k102 i103) → X101 (a1) (0 : Int)
end Go.Proofs.Ytcplmcfnegphlaa.G

namespace Go.Proofs.Ytcplmcfnegphlaa.G
open Go Go.Ab
set_option maxRecDepth 100000
set_option linter.unusedVariables false
set_option linter.unusedSimpArgs false
set_option maxHeartbeats 1000000
def spec_l00In.wp (a0 : Int) (a1 : Int) (a2 : Int) (K : Bool → Prop) : Prop := ((a1 ≤ a0 → K (decide (a0 ≤ a2))) ∧ (¬(a1 ≤ a0) → K (false)))
end Go.Proofs.Ytcplmcfnegphlaa.G

namespace Go.Proofs.Ytcplmcfnegphlaa.G
open Go Go.Ab
set_option maxRecDepth 100000
set_option linter.unusedVariables false
set_option linter.unusedSimpArgs false
set_option maxHeartbeats 1000000
def spec_l02Bound.wp (l0 : List (Int)) (a1 : Int) (K : Bool → Prop) : Prop := ∀ X101 : Int → Prop, (∀ (i102 : Int), ((i102 < (l0.length : Int) → (0 ≤ i102 ∧ i102 < (l0.length : Int)) ∧ spec_l00In.wp (l0.getD (i102).toNat (0 : Int)) (IntKind.i64.wrap (0 - a1)) a1 fun y105 => ((y105 = true → X101 (IntKind.i64.wrap (i102 + (1 : Int)))) ∧ (y105 = false → K (false)))) ∧ (¬(i102 < (l0.length : Int)) → K (true))) → X101 i102) → X101 (0 : Int)
end Go.Proofs.Ytcplmcfnegphlaa.G

namespace Go.Proofs.Ytcplmcfnegphlaa.G
open Go Go.Ab
set_option maxRecDepth 100000
set_option linter.unusedVariables false
set_option linter.unusedSimpArgs false
set_option maxHeartbeats 1000000
def spec_l02Integers.wp (l0 : List (Int)) (K : Bool → Prop) : Prop := (((1 : Int) ≤ (l0.length : Int) → (((l0.length : Int) ≤ (128 : Int) → spec_l02Bound.wp l0 (1000000 : Int) fun y103 => K (y103)) ∧ (¬((l0.length : Int) ≤ (128 : Int)) → K (false)))) ∧ (¬((1 : Int) ≤ (l0.length : Int)) → K (false)))
end Go.Proofs.Ytcplmcfnegphlaa.G

namespace Go.Proofs.Ytcplmcfnegphlaa.G
open Go Go.Ab
set_option maxRecDepth 100000
set_option linter.unusedVariables false
set_option linter.unusedSimpArgs false
set_option maxHeartbeats 1000000
def spec_l06Zag.wp (a0 : Int) (K : Int → Prop) : Prop := (((Int.tmod a0 (2 : Int)) = (1 : Int) → K (IntKind.i64.wrap (Int.tdiv (IntKind.i64.wrap (0 - (IntKind.i64.wrap (a0 + (1 : Int))))) (2 : Int)))) ∧ (¬((Int.tmod a0 (2 : Int)) = (1 : Int)) → K (IntKind.i64.wrap (Int.tdiv a0 (2 : Int)))))
end Go.Proofs.Ytcplmcfnegphlaa.G

namespace Go.Proofs.Ytcplmcfnegphlaa.G
open Go Go.Ab
set_option maxRecDepth 100000
set_option linter.unusedVariables false
set_option linter.unusedSimpArgs false
set_option maxHeartbeats 1000000
def spec_FromRice.wp (l0 : List (Bool)) (a1 : Int) (a2 : Int) (K : (List (Int)) → Bool → Prop) : Prop := (((32768 : Int) < (l0.length : Int) → K ([] : List (Int)) (false)) ∧ (¬((32768 : Int) < (l0.length : Int)) → spec_l00In.wp a1 (1 : Int) (128 : Int) fun y102 => ((y102 = true → spec_l00In.wp a2 (0 : Int) (20 : Int) fun y105 => ((y105 = true → ∀ X167 : List (Int) → Int → Int → Prop, (∀ (out168 : List (Int)) (atq170 : Int) (n171 : Int), ((n171 < a1 → ∀ X173 : Int → Int → Prop, (∀ (atq174 : Int) (z175 : Int), ((atq174 < (l0.length : Int) → (0 ≤ atq174 ∧ atq174 < (l0.length : Int)) ∧ (((l0.getD (atq174).toNat false) = true → X173 (IntKind.i64.wrap (atq174 + (1 : Int))) (IntKind.i64.wrap (z175 + (1 : Int)))) ∧ ((l0.getD (atq174).toNat false) = false → ∀ X179 : Int → Int → Int → Prop, (∀ (atq180 : Int) (z181 : Int) (j182 : Int), ((j182 < a2 → ((atq180 < (l0.length : Int) → (0 ≤ atq180 ∧ atq180 < (l0.length : Int)) ∧ (((l0.getD (atq180).toNat false) = true → X179 (IntKind.i64.wrap (atq180 + (1 : Int))) (IntKind.i64.wrap ((IntKind.i64.wrap ((2 : Int) * z181)) + (1 : Int))) (IntKind.i64.wrap (j182 + (1 : Int)))) ∧ ((l0.getD (atq180).toNat false) = false → X179 (IntKind.i64.wrap (atq180 + (1 : Int))) (IntKind.i64.wrap ((2 : Int) * z181)) (IntKind.i64.wrap (j182 + (1 : Int)))))) ∧ (¬(atq180 < (l0.length : Int)) → X179 (IntKind.i64.wrap (atq180 + (1 : Int))) (IntKind.i64.wrap ((2 : Int) * z181)) (IntKind.i64.wrap (j182 + (1 : Int)))))) ∧ (¬(j182 < a2) → (((l0.length : Int) < atq180 → K ([] : List (Int)) (false)) ∧ (¬((l0.length : Int) < atq180) → spec_l06Zag.wp z181 fun y188 => ((out168.length + ([y188] : List (Int)).length) * 8 ≤ 2 ^ 40) ∧ X167 (out168 ++ ([y188] : List (Int))) (atq180) (IntKind.i64.wrap (n171 + (1 : Int))))))) → X179 atq180 z181 j182) → X179 (IntKind.i64.wrap (atq174 + (1 : Int))) (z175) (0 : Int)))) ∧ (¬(atq174 < (l0.length : Int)) → ∀ X198 : Int → Int → Int → Prop, (∀ (atq199 : Int) (z200 : Int) (j201 : Int), ((j201 < a2 → ((atq199 < (l0.length : Int) → (0 ≤ atq199 ∧ atq199 < (l0.length : Int)) ∧ (((l0.getD (atq199).toNat false) = true → X198 (IntKind.i64.wrap (atq199 + (1 : Int))) (IntKind.i64.wrap ((IntKind.i64.wrap ((2 : Int) * z200)) + (1 : Int))) (IntKind.i64.wrap (j201 + (1 : Int)))) ∧ ((l0.getD (atq199).toNat false) = false → X198 (IntKind.i64.wrap (atq199 + (1 : Int))) (IntKind.i64.wrap ((2 : Int) * z200)) (IntKind.i64.wrap (j201 + (1 : Int)))))) ∧ (¬(atq199 < (l0.length : Int)) → X198 (IntKind.i64.wrap (atq199 + (1 : Int))) (IntKind.i64.wrap ((2 : Int) * z200)) (IntKind.i64.wrap (j201 + (1 : Int)))))) ∧ (¬(j201 < a2) → (((l0.length : Int) < atq199 → K ([] : List (Int)) (false)) ∧ (¬((l0.length : Int) < atq199) → spec_l06Zag.wp z200 fun y207 => ((out168.length + ([y207] : List (Int)).length) * 8 ≤ 2 ^ 40) ∧ X167 (out168 ++ ([y207] : List (Int))) (atq199) (IntKind.i64.wrap (n171 + (1 : Int))))))) → X198 atq199 z200 j201) → X198 (IntKind.i64.wrap (atq174 + (1 : Int))) (z175) (0 : Int))) → X173 atq174 z175) → X173 (atq170) (0 : Int)) ∧ (¬(n171 < a1) → ((atq170 = (l0.length : Int) → spec_l02Integers.wp out168 fun y220 => ((y220 = true → K (out168) (true)) ∧ (y220 = false → K ([] : List (Int)) (false)))) ∧ (¬(atq170 = (l0.length : Int)) → K ([] : List (Int)) (false))))) → X167 out168 atq170 n171) → X167 ([] : List (Int)) (0 : Int) (0 : Int)) ∧ (y105 = false → K ([] : List (Int)) (false)))) ∧ (y102 = false → K ([] : List (Int)) (false)))))
end Go.Proofs.Ytcplmcfnegphlaa.G

namespace Go.Proofs.Ytcplmcfnegphlaa.G
open Go Go.Ab
set_option maxRecDepth 100000
set_option linter.unusedVariables false
set_option linter.unusedSimpArgs false
set_option maxHeartbeats 1000000
def laws_toBoolS.wp (l0 : List (Bool)) (K : (List (Bool)) → Prop) : Prop := (0 ≤ (l0.length : Int) ∧ (l0.length : Int) ≤ (l0.length : Int) ∧ (l0.length : Int) ≤ 2 ^ 40 ∧ (l0.length : Int) * 1 ≤ 2 ^ 40) ∧ ∀ X111 : List (Bool) → Int → Prop, (∀ (out112 : List (Bool)) (i113 : Int), ((i113 < (l0.length : Int) → (0 ≤ i113 ∧ i113 < (l0.length : Int)) ∧ (0 ≤ i113 ∧ i113 < (out112.length : Int)) ∧ X111 (out112.set (i113).toNat (l0.getD (i113).toNat false)) (IntKind.i64.wrap (i113 + (1 : Int)))) ∧ (¬(i113 < (l0.length : Int)) → K (out112))) → X111 out112 i113) → X111 (List.replicate ((l0.length : Int)).toNat false) (0 : Int)
end Go.Proofs.Ytcplmcfnegphlaa.G

namespace Go.Proofs.Ytcplmcfnegphlaa.G
open Go Go.Ab
set_option maxRecDepth 100000
set_option linter.unusedVariables false
set_option linter.unusedSimpArgs false
set_option maxHeartbeats 1000000
def impl_within.wp (a0 : Int) (a1 : Int) (a2 : Int) (K : Bool → Prop) : Prop := ((a1 ≤ a0 → K (decide (a0 ≤ a2))) ∧ (¬(a1 ≤ a0) → K (false)))
end Go.Proofs.Ytcplmcfnegphlaa.G

namespace Go.Proofs.Ytcplmcfnegphlaa.G
open Go Go.Ab
set_option maxRecDepth 100000
set_option linter.unusedVariables false
set_option linter.unusedSimpArgs false
set_option maxHeartbeats 1000000
def impl_fromZigZag.wp (a0 : Int) (K : Int → Prop) : Prop := (((Int.tmod a0 (2 : Int)) = (0 : Int) → K (IntKind.i64.wrap (Int.tdiv a0 (2 : Int)))) ∧ (¬((Int.tmod a0 (2 : Int)) = (0 : Int)) → K (IntKind.i64.wrap (Int.tdiv (IntKind.i64.wrap (0 - (IntKind.i64.wrap (a0 + (1 : Int))))) (2 : Int)))))
end Go.Proofs.Ytcplmcfnegphlaa.G

namespace Go.Proofs.Ytcplmcfnegphlaa.G
open Go Go.Ab
set_option maxRecDepth 100000
set_option linter.unusedVariables false
set_option linter.unusedSimpArgs false
set_option maxHeartbeats 1000000
def impl_FromRice.wp (l0 : List (Bool)) (a1 : Int) (a2 : Int) (K : (List (Int)) → Bool → Prop) : Prop := (((32768 : Int) < (l0.length : Int) → K ([] : List (Int)) (false)) ∧ (¬((32768 : Int) < (l0.length : Int)) → impl_within.wp a1 (1 : Int) (128 : Int) fun y102 => ((y102 = true → impl_within.wp a2 (0 : Int) (20 : Int) fun y105 => ((y105 = true → ∀ X166 : List (Int) → Int → Int → Prop, (∀ (out167 : List (Int)) (atq169 : Int) (x170 : Int), ((x170 < a1 → ∀ X172 : Int → Int → Prop, (∀ (atq173 : Int) (z174 : Int), ((atq173 < (l0.length : Int) → (0 ≤ atq173 ∧ atq173 < (l0.length : Int)) ∧ (((l0.getD (atq173).toNat false) = true → X172 (IntKind.i64.wrap (atq173 + (1 : Int))) (IntKind.i64.wrap (z174 + (1 : Int)))) ∧ ((l0.getD (atq173).toNat false) = false → ∀ X178 : Int → Int → Int → Prop, (∀ (atq179 : Int) (z180 : Int) (x181 : Int), ((x181 < a2 → ((atq179 < (l0.length : Int) → (0 ≤ atq179 ∧ atq179 < (l0.length : Int)) ∧ (((l0.getD (atq179).toNat false) = true → X178 (IntKind.i64.wrap (atq179 + (1 : Int))) (IntKind.i64.wrap ((IntKind.i64.wrap (z180 * (2 ^ (min ((1 : Int)).toNat IntKind.i64.bits)))) + (1 : Int))) (IntKind.i64.wrap (x181 + (1 : Int)))) ∧ ((l0.getD (atq179).toNat false) = false → X178 (IntKind.i64.wrap (atq179 + (1 : Int))) (IntKind.i64.wrap (z180 * (2 ^ (min ((1 : Int)).toNat IntKind.i64.bits)))) (IntKind.i64.wrap (x181 + (1 : Int)))))) ∧ (¬(atq179 < (l0.length : Int)) → X178 (IntKind.i64.wrap (atq179 + (1 : Int))) (IntKind.i64.wrap (z180 * (2 ^ (min ((1 : Int)).toNat IntKind.i64.bits)))) (IntKind.i64.wrap (x181 + (1 : Int)))))) ∧ (¬(x181 < a2) → (((l0.length : Int) < atq179 → K ([] : List (Int)) (false)) ∧ (¬((l0.length : Int) < atq179) → (((2000000 : Int) < z180 → K ([] : List (Int)) (false)) ∧ (¬((2000000 : Int) < z180) → impl_fromZigZag.wp z180 fun y188 => ((out167.length + ([y188] : List (Int)).length) * 8 ≤ 2 ^ 40) ∧ X166 (out167 ++ ([y188] : List (Int))) (atq179) (IntKind.i64.wrap (x170 + (1 : Int))))))))) → X178 atq179 z180 x181) → X178 (IntKind.i64.wrap (atq173 + (1 : Int))) (z174) (0 : Int)))) ∧ (¬(atq173 < (l0.length : Int)) → ∀ X198 : Int → Int → Int → Prop, (∀ (atq199 : Int) (z200 : Int) (x201 : Int), ((x201 < a2 → ((atq199 < (l0.length : Int) → (0 ≤ atq199 ∧ atq199 < (l0.length : Int)) ∧ (((l0.getD (atq199).toNat false) = true → X198 (IntKind.i64.wrap (atq199 + (1 : Int))) (IntKind.i64.wrap ((IntKind.i64.wrap (z200 * (2 ^ (min ((1 : Int)).toNat IntKind.i64.bits)))) + (1 : Int))) (IntKind.i64.wrap (x201 + (1 : Int)))) ∧ ((l0.getD (atq199).toNat false) = false → X198 (IntKind.i64.wrap (atq199 + (1 : Int))) (IntKind.i64.wrap (z200 * (2 ^ (min ((1 : Int)).toNat IntKind.i64.bits)))) (IntKind.i64.wrap (x201 + (1 : Int)))))) ∧ (¬(atq199 < (l0.length : Int)) → X198 (IntKind.i64.wrap (atq199 + (1 : Int))) (IntKind.i64.wrap (z200 * (2 ^ (min ((1 : Int)).toNat IntKind.i64.bits)))) (IntKind.i64.wrap (x201 + (1 : Int)))))) ∧ (¬(x201 < a2) → (((l0.length : Int) < atq199 → K ([] : List (Int)) (false)) ∧ (¬((l0.length : Int) < atq199) → (((2000000 : Int) < z200 → K ([] : List (Int)) (false)) ∧ (¬((2000000 : Int) < z200) → impl_fromZigZag.wp z200 fun y208 => ((out167.length + ([y208] : List (Int)).length) * 8 ≤ 2 ^ 40) ∧ X166 (out167 ++ ([y208] : List (Int))) (atq199) (IntKind.i64.wrap (x170 + (1 : Int))))))))) → X198 atq199 z200 x201) → X198 (IntKind.i64.wrap (atq173 + (1 : Int))) (z174) (0 : Int))) → X172 atq173 z174) → X172 (atq169) (0 : Int)) ∧ (¬(x170 < a1) → ((atq169 = (l0.length : Int) → K (out167) (true)) ∧ (¬(atq169 = (l0.length : Int)) → K ([] : List (Int)) (false))))) → X166 out167 atq169 x170) → X166 ([] : List (Int)) (0 : Int) (0 : Int)) ∧ (y105 = false → K ([] : List (Int)) (false)))) ∧ (y102 = false → K ([] : List (Int)) (false)))))
end Go.Proofs.Ytcplmcfnegphlaa.G

namespace Go.Proofs.Ytcplmcfnegphlaa.G
open Go Go.Ab
set_option maxRecDepth 100000
set_option linter.unusedVariables false
set_option linter.unusedSimpArgs false
set_option maxHeartbeats 1000000
def laws_FnExactFromRice.wp (l0 : List (Bool)) (a1 : Int) (a2 : Int) (K : Bool → Prop) : Prop := (((1048576 : Int) < (l0.length : Int) → K (true)) ∧ (¬((1048576 : Int) < (l0.length : Int)) → laws_toBoolS.wp l0 fun y102 => spec_FromRice.wp y102 a1 a2 fun y106 y109 => laws_toBoolS.wp l0 fun y111 => impl_FromRice.wp y111 a1 a2 fun y115 y118 => laws_eqInt64S.wp y115 y106 fun y120 => ((y120 = true → (((y118 == y109) = true → laws_toBoolS.wp l0 fun y124 => laws_eqBoolS.wp y111 y124 fun y128 => ((y128 = true → laws_markBoolS.wp y111 (1 : Int) fun y131 y132 => ((y131 < (0 : Int) → K (false)) ∧ (¬(y131 < (0 : Int)) → laws_eqInt64S.wp y115 y106 fun y135 => ((y135 = true → laws_markInt64S.wp y115 (1 : Int) fun y138 y139 => laws_heldInt64S.wp y139 (1 : Int) fun y141 => ((y141 < (0 : Int) → K (false)) ∧ (¬(y141 < (0 : Int)) → ((y141 = y138 → laws_toBoolS.wp l0 fun y145 => impl_FromRice.wp y145 a1 a2 fun y149 y152 => laws_eqInt64S.wp y149 y106 fun y154 => ((y154 = true → (((y152 == y109) = true → laws_heldInt64S.wp y139 (1 : Int) fun y158 => ((y158 < (0 : Int) → K (false)) ∧ (¬(y158 < (0 : Int)) → ((y158 = y138 → K (true)) ∧ (¬(y158 = y138) → K (false)))))) ∧ ((y152 == y109) = false → K (false)))) ∧ (y154 = false → K (false)))) ∧ (¬(y141 = y138) → K (false)))))) ∧ (y135 = false → K (false)))))) ∧ (y128 = false → K (false)))) ∧ ((y118 == y109) = false → K (false)))) ∧ (y120 = false → K (false)))))
end Go.Proofs.Ytcplmcfnegphlaa.G

namespace Go.Proofs.Ytcplmcfnegphlaa.G
open Go Go.Ab
set_option maxRecDepth 100000
set_option linter.unusedVariables false
set_option linter.unusedSimpArgs false
set_option maxHeartbeats 1000000
def laws_toInt64S.wp (l0 : List (Int)) (K : (List (Int)) → Prop) : Prop := (0 ≤ (l0.length : Int) ∧ (l0.length : Int) ≤ (l0.length : Int) ∧ (l0.length : Int) ≤ 2 ^ 40 ∧ (l0.length : Int) * 8 ≤ 2 ^ 40) ∧ ∀ X111 : List (Int) → Int → Prop, (∀ (out112 : List (Int)) (i113 : Int), ((i113 < (l0.length : Int) → (0 ≤ i113 ∧ i113 < (l0.length : Int)) ∧ (0 ≤ i113 ∧ i113 < (out112.length : Int)) ∧ X111 (out112.set (i113).toNat (l0.getD (i113).toNat (0 : Int))) (IntKind.i64.wrap (i113 + (1 : Int)))) ∧ (¬(i113 < (l0.length : Int)) → K (out112))) → X111 out112 i113) → X111 (List.replicate ((l0.length : Int)).toNat (0 : Int)) (0 : Int)
end Go.Proofs.Ytcplmcfnegphlaa.G

namespace Go.Proofs.Ytcplmcfnegphlaa.G
open Go Go.Ab
set_option maxRecDepth 100000
set_option linter.unusedVariables false
set_option linter.unusedSimpArgs false
set_option maxHeartbeats 1000000
def laws_heldBoolS.wp (l0 : List (Bool)) (a1 : Int) (K : Int → Prop) : Prop := ∀ X101 : Int → Int → Prop, (∀ (k102 : Int) (i103 : Int), ((i103 < (l0.length : Int) → (0 ≤ i103 ∧ i103 < (l0.length : Int)) ∧ ((((l0.getD (i103).toNat false) == (decide ((Int.tmod k102 (3 : Int)) = (0 : Int)))) = true → X101 (IntKind.i64.wrap (k102 + (1 : Int))) (IntKind.i64.wrap (i103 + (1 : Int)))) ∧ (((l0.getD (i103).toNat false) == (decide ((Int.tmod k102 (3 : Int)) = (0 : Int)))) = false → K (-1 : Int)))) ∧ (¬(i103 < (l0.length : Int)) → K (k102))) → X101 k102 i103) → X101 (a1) (0 : Int)
end Go.Proofs.Ytcplmcfnegphlaa.G

namespace Go.Proofs.Ytcplmcfnegphlaa.G
open Go Go.Ab
set_option maxRecDepth 100000
set_option linter.unusedVariables false
set_option linter.unusedSimpArgs false
set_option maxHeartbeats 1000000
def impl_areWithin.wp (l0 : List (Int)) (a1 : Int) (K : Bool → Prop) : Prop := ∀ X101 : Int → Prop, (∀ (x102 : Int), ((x102 < (l0.length : Int) → (0 ≤ x102 ∧ x102 < (l0.length : Int)) ∧ impl_within.wp (l0.getD (x102).toNat (0 : Int)) (IntKind.i64.wrap (0 - a1)) a1 fun y105 => ((y105 = true → X101 (IntKind.i64.wrap (x102 + (1 : Int)))) ∧ (y105 = false → K (false)))) ∧ (¬(x102 < (l0.length : Int)) → K (true))) → X101 x102) → X101 (0 : Int)
end Go.Proofs.Ytcplmcfnegphlaa.G

namespace Go.Proofs.Ytcplmcfnegphlaa.G
open Go Go.Ab
set_option maxRecDepth 100000
set_option linter.unusedVariables false
set_option linter.unusedSimpArgs false
set_option maxHeartbeats 1000000
def impl_AreIntegers.wp (l0 : List (Int)) (K : Bool → Prop) : Prop := impl_within.wp (l0.length : Int) (1 : Int) (128 : Int) fun y101 => ((y101 = true → impl_areWithin.wp l0 (1000000 : Int) fun y104 => K (y104)) ∧ (y101 = false → K (false)))
end Go.Proofs.Ytcplmcfnegphlaa.G

