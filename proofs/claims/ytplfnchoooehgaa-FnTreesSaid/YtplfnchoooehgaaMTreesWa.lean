/-
  What the functions compute, as formulas over numbers and lists. Printed by a program of the session; nothing here is trusted.
-/
import Derived.Test.YtplfnchoooehgaaAbK
namespace Go.Proofs.Ytplfnchoooehgaa.G
open Go Go.Ab
set_option maxRecDepth 100000
set_option linter.unusedVariables false
set_option linter.unusedSimpArgs false
set_option maxHeartbeats 1000000

end Go.Proofs.Ytplfnchoooehgaa.G

namespace Go.Proofs.Ytplfnchoooehgaa.G
open Go Go.Ab
set_option maxRecDepth 100000
set_option linter.unusedVariables false
set_option linter.unusedSimpArgs false
set_option maxHeartbeats 1000000
def laws_r8Long.wp (l0 : List (Int)) (l1 : List (Int)) (K : Bool → Prop) : Prop := (((48 : Int) < (l0.length : Int) → K (true)) ∧ (¬((48 : Int) < (l0.length : Int)) → K (decide ((48 : Int) < (l1.length : Int)))))
end Go.Proofs.Ytplfnchoooehgaa.G

namespace Go.Proofs.Ytplfnchoooehgaa.G
open Go Go.Ab
set_option maxRecDepth 100000
set_option linter.unusedVariables false
set_option linter.unusedSimpArgs false
set_option maxHeartbeats 1000000
def spec_l00From.wp (l0 : List (Int)) (K : Bool → Int → Int → Prop) : Prop := K (true) (0 : Int) (0 : Int)
end Go.Proofs.Ytplfnchoooehgaa.G

namespace Go.Proofs.Ytplfnchoooehgaa.G
open Go Go.Ab
set_option maxRecDepth 100000
set_option linter.unusedVariables false
set_option linter.unusedSimpArgs false
set_option maxHeartbeats 1000000
def spec_l00Src_next.wp (l0 : List (Int)) (a1 : Int) (a2 : Int) (K : Int → Int → Int → Prop) : Prop := ((a1 < (l0.length : Int) → (0 ≤ a1 ∧ a1 < (l0.length : Int)) ∧ (((IntKind.i64.wrap (a1 + (1 : Int))) ≤ (l0.length : Int) → K (IntKind.i64.wrap (l0.getD (a1).toNat (0 : Int))) (IntKind.i64.wrap (a1 + (1 : Int))) (IntKind.u64.wrap ((IntKind.u64.wrap ((IntKind.u64.wrap (a2 * (6364136223846793005 : Int))) + (IntKind.u64.wrap (IntKind.i64.wrap (l0.getD (a1).toNat (0 : Int)))))) + (1442695040888963407 : Int)))) ∧ (¬((IntKind.i64.wrap (a1 + (1 : Int))) ≤ (l0.length : Int)) → K (IntKind.i64.wrap (ibits .and .u64 (Int.fdiv (IntKind.u64.wrap ((IntKind.u64.wrap ((IntKind.u64.wrap (a2 * (6364136223846793005 : Int))) + (IntKind.u64.wrap (IntKind.i64.wrap (l0.getD (a1).toNat (0 : Int)))))) + (1442695040888963407 : Int))) (2 ^ (min ((40 : Int)).toNat IntKind.u64.bits))) (255 : Int))) (IntKind.i64.wrap (a1 + (1 : Int))) (IntKind.u64.wrap ((IntKind.u64.wrap ((IntKind.u64.wrap (a2 * (6364136223846793005 : Int))) + (IntKind.u64.wrap (IntKind.i64.wrap (l0.getD (a1).toNat (0 : Int)))))) + (1442695040888963407 : Int)))))) ∧ (¬(a1 < (l0.length : Int)) → (((IntKind.i64.wrap (a1 + (1 : Int))) ≤ (l0.length : Int) → K (0 : Int) (IntKind.i64.wrap (a1 + (1 : Int))) (IntKind.u64.wrap ((IntKind.u64.wrap ((IntKind.u64.wrap (a2 * (6364136223846793005 : Int))) + (IntKind.u64.wrap (0 : Int)))) + (1442695040888963407 : Int)))) ∧ (¬((IntKind.i64.wrap (a1 + (1 : Int))) ≤ (l0.length : Int)) → K (IntKind.i64.wrap (ibits .and .u64 (Int.fdiv (IntKind.u64.wrap ((IntKind.u64.wrap ((IntKind.u64.wrap (a2 * (6364136223846793005 : Int))) + (IntKind.u64.wrap (0 : Int)))) + (1442695040888963407 : Int))) (2 ^ (min ((40 : Int)).toNat IntKind.u64.bits))) (255 : Int))) (IntKind.i64.wrap (a1 + (1 : Int))) (IntKind.u64.wrap ((IntKind.u64.wrap ((IntKind.u64.wrap (a2 * (6364136223846793005 : Int))) + (IntKind.u64.wrap (0 : Int)))) + (1442695040888963407 : Int)))))))
end Go.Proofs.Ytplfnchoooehgaa.G

namespace Go.Proofs.Ytplfnchoooehgaa.G
open Go Go.Ab
set_option maxRecDepth 100000
set_option linter.unusedVariables false
set_option linter.unusedSimpArgs false
set_option maxHeartbeats 1000000
def spec_l00Src_pick.wp (l0 : List (Int)) (a1 : Int) (a2 : Int) (a3 : Int) (K : Int → Int → Int → Prop) : Prop := ((a3 ≤ (1 : Int) → K (0 : Int) (a1) (a2)) ∧ (¬(a3 ≤ (1 : Int)) → spec_l00Src_next.wp l0 a1 a2 fun y103 y104 y105 => (((200 : Int) < a3 → spec_l00Src_next.wp l0 y104 y105 fun y108 y109 y110 => (a3 ≠ 0) ∧ K (Int.tmod (IntKind.i64.wrap ((IntKind.i64.wrap (y103 * (256 : Int))) + y108)) a3) (y109) (y110)) ∧ (¬((200 : Int) < a3) → (a3 ≠ 0) ∧ K (Int.tmod y103 a3) (y104) (y105)))))
end Go.Proofs.Ytplfnchoooehgaa.G

namespace Go.Proofs.Ytplfnchoooehgaa.G
open Go Go.Ab
set_option maxRecDepth 100000
set_option linter.unusedVariables false
set_option linter.unusedSimpArgs false
set_option maxHeartbeats 1000000
def spec_R8Integers.wp (l0 : List (Int)) (K : (List (Int)) → Prop) : Prop := spec_l00From.wp l0 fun y101 y102 y103 => ((y101 = true → spec_l00Src_pick.wp l0 y102 y103 (16 : Int) fun y111 y112 y113 => ∀ X130 : List (Int) → Int → Int → Int → Prop, (∀ (out131 : List (Int)) (b133 : Int) (b134 : Int) (n135 : Int), (((0 : Int) < n135 → spec_l00Src_pick.wp l0 b133 b134 (201 : Int) fun y137 y138 y139 => ((out131.length + ([(IntKind.i64.wrap (y137 - (100 : Int)))] : List (Int)).length) * 8 ≤ 2 ^ 40) ∧ X130 (out131 ++ ([(IntKind.i64.wrap (y137 - (100 : Int)))] : List (Int))) (y138) (y139) (IntKind.i64.wrap (n135 - (1 : Int)))) ∧ (¬((0 : Int) < n135) → K (out131))) → X130 out131 b133 b134 n135) → X130 ([] : List (Int)) (y112) (y113) (IntKind.i64.wrap ((1 : Int) + y111))) ∧ (y101 = false → spec_l00Src_pick.wp ([] : List (Int)) y102 y103 (16 : Int) fun y152 y153 y154 => ∀ X171 : List (Int) → List (Int) → Int → Int → Int → Prop, (∀ (out172 : List (Int)) (b175 : List (Int)) (b177 : Int) (b178 : Int) (n179 : Int), (((0 : Int) < n179 → spec_l00Src_pick.wp b175 b177 b178 (201 : Int) fun y181 y182 y183 => ((out172.length + ([(IntKind.i64.wrap (y181 - (100 : Int)))] : List (Int)).length) * 8 ≤ 2 ^ 40) ∧ X171 (out172 ++ ([(IntKind.i64.wrap (y181 - (100 : Int)))] : List (Int))) (b175) (y182) (y183) (IntKind.i64.wrap (n179 - (1 : Int)))) ∧ (¬((0 : Int) < n179) → K (out172))) → X171 out172 b175 b177 b178 n179) → X171 ([] : List (Int)) ([] : List (Int)) (y153) (y154) (IntKind.i64.wrap ((1 : Int) + y152))))
end Go.Proofs.Ytplfnchoooehgaa.G

namespace Go.Proofs.Ytplfnchoooehgaa.G
open Go Go.Ab
set_option maxRecDepth 100000
set_option linter.unusedVariables false
set_option linter.unusedSimpArgs false
set_option maxHeartbeats 1000000
def laws_r8At.wp (l0 : List (Int)) (a1 : Int) (a2 : Int) (K : Int → Prop) : Prop := ((a2 ≤ (1 : Int) → K (0 : Int)) ∧ (¬(a2 ≤ (1 : Int)) → (((l0.length : Int) ≤ a1 → K (0 : Int)) ∧ (¬((l0.length : Int) ≤ a1) → (0 ≤ a1 ∧ a1 < (l0.length : Int)) ∧ (a2 ≠ 0) ∧ K (Int.tmod (IntKind.i64.wrap (l0.getD (a1).toNat (0 : Int))) a2)))))
end Go.Proofs.Ytplfnchoooehgaa.G

namespace Go.Proofs.Ytplfnchoooehgaa.G
open Go Go.Ab
set_option maxRecDepth 100000
set_option linter.unusedVariables false
set_option linter.unusedSimpArgs false
set_option maxHeartbeats 1000000
def impl_within.wp (a0 : Int) (a1 : Int) (a2 : Int) (K : Bool → Prop) : Prop := ((a1 ≤ a0 → K (decide (a0 ≤ a2))) ∧ (¬(a1 ≤ a0) → K (false)))
end Go.Proofs.Ytplfnchoooehgaa.G

namespace Go.Proofs.Ytplfnchoooehgaa.G
open Go Go.Ab
set_option maxRecDepth 100000
set_option linter.unusedVariables false
set_option linter.unusedSimpArgs false
set_option maxHeartbeats 1000000
def impl_BandSizes.wp (a0 : Int) (a1 : Int) (K : (List (Int)) → Bool → Prop) : Prop := impl_within.wp a0 (1 : Int) (128 : Int) fun y101 => ((y101 = true → impl_within.wp a1 (1 : Int) (6 : Int) fun y104 => ((y104 = true → ∀ X135 : List (Int) → Int → Int → Prop, (∀ (out136 : List (Int)) (n138 : Int) (k139 : Int), ((k139 < a1 → (((1 : Int) < n138 → ((out136.length + ([(IntKind.i64.wrap (Int.tdiv n138 (2 : Int)))] : List (Int)).length) * 8 ≤ 2 ^ 40) ∧ X135 (out136 ++ ([(IntKind.i64.wrap (Int.tdiv n138 (2 : Int)))] : List (Int))) (IntKind.i64.wrap (n138 - (IntKind.i64.wrap (Int.tdiv n138 (2 : Int))))) (IntKind.i64.wrap (k139 + (1 : Int)))) ∧ (¬((1 : Int) < n138) → ((out136.length + ([n138] : List (Int)).length) * 8 ≤ 2 ^ 40) ∧ K (out136 ++ ([n138] : List (Int))) (true)))) ∧ (¬(k139 < a1) → ((out136.length + ([n138] : List (Int)).length) * 8 ≤ 2 ^ 40) ∧ K (out136 ++ ([n138] : List (Int))) (true))) → X135 out136 n138 k139) → X135 ([] : List (Int)) (a0) (0 : Int)) ∧ (y104 = false → K ([] : List (Int)) (false)))) ∧ (y101 = false → K ([] : List (Int)) (false)))
end Go.Proofs.Ytplfnchoooehgaa.G

namespace Go.Proofs.Ytplfnchoooehgaa.G
open Go Go.Ab
set_option maxRecDepth 100000
set_option linter.unusedVariables false
set_option linter.unusedSimpArgs false
set_option maxHeartbeats 1000000
def impl_parents.wp (l0 : List (Int)) (K : (List (Int)) → Prop) : Prop := ∀ X151 : List (Int) → Int → Int → Prop, (∀ (out152 : List (Int)) (start154 : Int) (b155 : Int), (((0 : Int) ≤ b155 → (0 ≤ b155 ∧ b155 < (l0.length : Int)) ∧ ∀ X177 : List (Int) → Int → Prop, (∀ (out178 : List (Int)) (x180 : Int), ((x180 < (l0.getD (b155).toNat (0 : Int)) → (((IntKind.i64.wrap ((IntKind.i64.wrap ((l0.length : Int) - (1 : Int))) - (1 : Int))) ≤ b155 → ((out178.length + ([(-1 : Int)] : List (Int)).length) * 8 ≤ 2 ^ 40) ∧ X177 (out178 ++ ([(-1 : Int)] : List (Int))) (IntKind.i64.wrap (x180 + (1 : Int)))) ∧ (¬((IntKind.i64.wrap ((IntKind.i64.wrap ((l0.length : Int) - (1 : Int))) - (1 : Int))) ≤ b155) → (0 ≤ (IntKind.i64.wrap (b155 + (1 : Int))) ∧ (IntKind.i64.wrap (b155 + (1 : Int))) < (l0.length : Int)) ∧ ((out178.length + ([(IntKind.i64.wrap ((IntKind.i64.wrap (start154 - (l0.getD ((IntKind.i64.wrap (b155 + (1 : Int)))).toNat (0 : Int)))) + (mnI (IntKind.i64.wrap (Int.tdiv x180 (2 : Int))) (IntKind.i64.wrap ((l0.getD ((IntKind.i64.wrap (b155 + (1 : Int)))).toNat (0 : Int)) - (1 : Int))))))] : List (Int)).length) * 8 ≤ 2 ^ 40) ∧ X177 (out178 ++ ([(IntKind.i64.wrap ((IntKind.i64.wrap (start154 - (l0.getD ((IntKind.i64.wrap (b155 + (1 : Int)))).toNat (0 : Int)))) + (mnI (IntKind.i64.wrap (Int.tdiv x180 (2 : Int))) (IntKind.i64.wrap ((l0.getD ((IntKind.i64.wrap (b155 + (1 : Int)))).toNat (0 : Int)) - (1 : Int))))))] : List (Int))) (IntKind.i64.wrap (x180 + (1 : Int)))))) ∧ (¬(x180 < (l0.getD (b155).toNat (0 : Int))) → X151 (out178) (IntKind.i64.wrap (start154 + (l0.getD (b155).toNat (0 : Int)))) (IntKind.i64.wrap (b155 - (1 : Int))))) → X177 out178 x180) → X177 (out152) (0 : Int)) ∧ (¬((0 : Int) ≤ b155) → K (out152))) → X151 out152 start154 b155) → X151 ([] : List (Int)) (0 : Int) (IntKind.i64.wrap ((l0.length : Int) - (1 : Int)))
end Go.Proofs.Ytplfnchoooehgaa.G

namespace Go.Proofs.Ytplfnchoooehgaa.G
open Go Go.Ab
set_option maxRecDepth 100000
set_option linter.unusedVariables false
set_option linter.unusedSimpArgs false
set_option maxHeartbeats 1000000
def impl_parentsOf.wp (a0 : Int) (a1 : Int) (K : (List (Int)) → Bool → Prop) : Prop := impl_BandSizes.wp a0 a1 fun y101 y104 => ((y104 = true → impl_parents.wp y101 fun y107 => K (y107) (true)) ∧ (y104 = false → K ([] : List (Int)) (false)))
end Go.Proofs.Ytplfnchoooehgaa.G

namespace Go.Proofs.Ytplfnchoooehgaa.G
open Go Go.Ab
set_option maxRecDepth 100000
set_option linter.unusedVariables false
set_option linter.unusedSimpArgs false
set_option maxHeartbeats 1000000
def impl_TreeOf.wp (a0 : Int) (a1 : Int) (a2 : Int) (K : (List (Int)) → Bool → Prop) : Prop := impl_parentsOf.wp a0 a1 fun y101 y104 => ((y104 = true → impl_within.wp a2 (0 : Int) (IntKind.i64.wrap (a0 - (1 : Int))) fun y107 => ((y107 = true → (0 ≤ a0 ∧ a0 ≤ a0 ∧ a0 ≤ 2 ^ 40 ∧ a0 * 1 ≤ 2 ^ 40) ∧ ∀ X143 : List (Int) → List (Bool) → Int → Prop, (∀ (out144 : List (Int)) (in146 : List (Bool)) (x147 : Int), ((x147 < (y101.length : Int) → (0 ≤ x147 ∧ x147 < (y101.length : Int)) ∧ ((x147 = a2 → (0 ≤ x147 ∧ x147 < (in146.length : Int)) ∧ ((out144.length + ([x147] : List (Int)).length) * 8 ≤ 2 ^ 40) ∧ X143 (out144 ++ ([x147] : List (Int))) (in146.set (x147).toNat true) (IntKind.i64.wrap (x147 + (1 : Int)))) ∧ (¬(x147 = a2) → (((0 : Int) ≤ (y101.getD (x147).toNat (0 : Int)) → (0 ≤ (y101.getD (x147).toNat (0 : Int)) ∧ (y101.getD (x147).toNat (0 : Int)) < (in146.length : Int)) ∧ (((in146.getD ((y101.getD (x147).toNat (0 : Int))).toNat false) = true → (0 ≤ x147 ∧ x147 < (in146.length : Int)) ∧ ((out144.length + ([x147] : List (Int)).length) * 8 ≤ 2 ^ 40) ∧ X143 (out144 ++ ([x147] : List (Int))) (in146.set (x147).toNat true) (IntKind.i64.wrap (x147 + (1 : Int)))) ∧ ((in146.getD ((y101.getD (x147).toNat (0 : Int))).toNat false) = false → X143 (out144) (in146) (IntKind.i64.wrap (x147 + (1 : Int)))))) ∧ (¬((0 : Int) ≤ (y101.getD (x147).toNat (0 : Int))) → X143 (out144) (in146) (IntKind.i64.wrap (x147 + (1 : Int)))))))) ∧ (¬(x147 < (y101.length : Int)) → K (out144) (true))) → X143 out144 in146 x147) → X143 ([] : List (Int)) (List.replicate (a0).toNat false) (0 : Int)) ∧ (y107 = false → K ([] : List (Int)) (false)))) ∧ (y104 = false → K ([] : List (Int)) (false)))
end Go.Proofs.Ytplfnchoooehgaa.G

namespace Go.Proofs.Ytplfnchoooehgaa.G
open Go Go.Ab
set_option maxRecDepth 100000
set_option linter.unusedVariables false
set_option linter.unusedSimpArgs false
set_option maxHeartbeats 1000000
def impl_areWithin.wp (l0 : List (Int)) (a1 : Int) (K : Bool → Prop) : Prop := ∀ X101 : Int → Prop, (∀ (x102 : Int), ((x102 < (l0.length : Int) → (0 ≤ x102 ∧ x102 < (l0.length : Int)) ∧ impl_within.wp (l0.getD (x102).toNat (0 : Int)) (IntKind.i64.wrap (0 - a1)) a1 fun y105 => ((y105 = true → X101 (IntKind.i64.wrap (x102 + (1 : Int)))) ∧ (y105 = false → K (false)))) ∧ (¬(x102 < (l0.length : Int)) → K (true))) → X101 x102) → X101 (0 : Int)
end Go.Proofs.Ytplfnchoooehgaa.G

namespace Go.Proofs.Ytplfnchoooehgaa.G
open Go Go.Ab
set_option maxRecDepth 100000
set_option linter.unusedVariables false
set_option linter.unusedSimpArgs false
set_option maxHeartbeats 1000000
def impl_AreIntegers.wp (l0 : List (Int)) (K : Bool → Prop) : Prop := impl_within.wp (l0.length : Int) (1 : Int) (128 : Int) fun y101 => ((y101 = true → impl_areWithin.wp l0 (1000000 : Int) fun y104 => K (y104)) ∧ (y101 = false → K (false)))
end Go.Proofs.Ytplfnchoooehgaa.G

namespace Go.Proofs.Ytplfnchoooehgaa.G
open Go Go.Ab
set_option maxRecDepth 100000
set_option linter.unusedVariables false
set_option linter.unusedSimpArgs false
set_option maxHeartbeats 1000000
def impl_far.wp (a0 : Int) (K : Int → Prop) : Prop := K (mxI a0 (IntKind.i64.wrap (0 - a0)))
end Go.Proofs.Ytplfnchoooehgaa.G

namespace Go.Proofs.Ytplfnchoooehgaa.G
open Go Go.Ab
set_option maxRecDepth 100000
set_option linter.unusedVariables false
set_option linter.unusedSimpArgs false
set_option maxHeartbeats 1000000
def impl_digit.wp (a0 : Int) (a1 : Int) (K : Bool → Prop) : Prop := impl_far.wp a0 fun y101 => (0 ≤ a1) ∧ K (decide ((ibits .and .i64 (Int.fdiv y101 (2 ^ (min (a1).toNat IntKind.i64.bits))) (1 : Int)) = (1 : Int)))
end Go.Proofs.Ytplfnchoooehgaa.G

namespace Go.Proofs.Ytplfnchoooehgaa.G
open Go Go.Ab
set_option maxRecDepth 100000
set_option linter.unusedVariables false
set_option linter.unusedSimpArgs false
set_option maxHeartbeats 1000000
def impl_PlaneOf.wp (l0 : List (Int)) (a1 : Int) (K : (List (Bool)) → Bool → Prop) : Prop := impl_AreIntegers.wp l0 fun y101 => ((y101 = true → impl_within.wp a1 (0 : Int) (23 : Int) fun y104 => ((y104 = true → ∀ X124 : List (Bool) → Int → Prop, (∀ (out125 : List (Bool)) (x127 : Int), ((x127 < (l0.length : Int) → (0 ≤ x127 ∧ x127 < (l0.length : Int)) ∧ impl_digit.wp (l0.getD (x127).toNat (0 : Int)) a1 fun y130 => ((out125.length + ([y130] : List (Bool)).length) * 1 ≤ 2 ^ 40) ∧ X124 (out125 ++ ([y130] : List (Bool))) (IntKind.i64.wrap (x127 + (1 : Int)))) ∧ (¬(x127 < (l0.length : Int)) → K (out125) (true))) → X124 out125 x127) → X124 ([] : List (Bool)) (0 : Int)) ∧ (y104 = false → K ([] : List (Bool)) (false)))) ∧ (y101 = false → K ([] : List (Bool)) (false)))
end Go.Proofs.Ytplfnchoooehgaa.G

namespace Go.Proofs.Ytplfnchoooehgaa.G
open Go Go.Ab
set_option maxRecDepth 100000
set_option linter.unusedVariables false
set_option linter.unusedSimpArgs false
set_option maxHeartbeats 1000000
def laws_r8Abs.wp (a0 : Int) (K : Int → Prop) : Prop := K (mxI a0 (IntKind.i64.wrap (0 - a0)))
end Go.Proofs.Ytplfnchoooehgaa.G

namespace Go.Proofs.Ytplfnchoooehgaa.G
open Go Go.Ab
set_option maxRecDepth 100000
set_option linter.unusedVariables false
set_option linter.unusedSimpArgs false
set_option maxHeartbeats 1000000
def impl_ParentOf.wp (a0 : Int) (a1 : Int) (a2 : Int) (K : Int → Bool → Prop) : Prop := impl_parentsOf.wp a0 a1 fun y101 y104 => ((y104 = true → impl_within.wp a2 (0 : Int) (IntKind.i64.wrap (a0 - (1 : Int))) fun y107 => ((y107 = true → (0 ≤ a2 ∧ a2 < (y101.length : Int)) ∧ K (y101.getD (a2).toNat (0 : Int)) (true)) ∧ (y107 = false → K (0 : Int) (false)))) ∧ (y104 = false → K (0 : Int) (false)))
end Go.Proofs.Ytplfnchoooehgaa.G

namespace Go.Proofs.Ytplfnchoooehgaa.G
open Go Go.Ab
set_option maxRecDepth 100000
set_option linter.unusedVariables false
set_option linter.unusedSimpArgs false
set_option maxHeartbeats 1000000
def impl_ZeroTrees.wp (l0 : List (Int)) (a1 : Int) (a2 : Int) (K : (List (Int)) → Bool → Prop) : Prop := impl_parentsOf.wp (l0.length : Int) a1 fun y101 y104 => ((y104 = true → impl_AreIntegers.wp l0 fun y107 => ((y107 = true → impl_within.wp a2 (0 : Int) (24 : Int) fun y110 => ((y110 = true → (0 ≤ (l0.length : Int) ∧ (l0.length : Int) ≤ (l0.length : Int) ∧ (l0.length : Int) ≤ 2 ^ 40 ∧ (l0.length : Int) * 1 ≤ 2 ^ 40) ∧ ∀ X249 : List (Bool) → Int → Prop, (∀ (zero250 : List (Bool)) (x251 : Int), ((x251 < (l0.length : Int) → (0 ≤ x251 ∧ x251 < (l0.length : Int)) ∧ impl_far.wp (l0.getD (x251).toNat (0 : Int)) fun y254 => (0 ≤ a2) ∧ (0 ≤ x251 ∧ x251 < (zero250.length : Int)) ∧ X249 (zero250.set (x251).toNat (decide ((Int.fdiv y254 (2 ^ (min (a2).toNat IntKind.i64.bits))) = (0 : Int)))) (IntKind.i64.wrap (x251 + (1 : Int)))) ∧ (¬(x251 < (l0.length : Int)) → ∀ X319 : List (Bool) → Int → Prop, (∀ (zero320 : List (Bool)) (i321 : Int), (((0 : Int) ≤ i321 → (0 ≤ i321 ∧ i321 < (y101.length : Int)) ∧ (((0 : Int) ≤ (y101.getD (i321).toNat (0 : Int)) → (0 ≤ i321 ∧ i321 < (zero320.length : Int)) ∧ (((zero320.getD (i321).toNat false) = true → X319 (zero320) (IntKind.i64.wrap (i321 - (1 : Int)))) ∧ ((zero320.getD (i321).toNat false) = false → (0 ≤ (y101.getD (i321).toNat (0 : Int)) ∧ (y101.getD (i321).toNat (0 : Int)) < (zero320.length : Int)) ∧ X319 (zero320.set ((y101.getD (i321).toNat (0 : Int))).toNat false) (IntKind.i64.wrap (i321 - (1 : Int)))))) ∧ (¬((0 : Int) ≤ (y101.getD (i321).toNat (0 : Int))) → X319 (zero320) (IntKind.i64.wrap (i321 - (1 : Int)))))) ∧ (¬((0 : Int) ≤ i321) → ∀ X355 : List (Int) → Int → Prop, (∀ (out356 : List (Int)) (x358 : Int), ((x358 < (zero320.length : Int) → (0 ≤ x358 ∧ x358 < (zero320.length : Int)) ∧ (((zero320.getD (x358).toNat false) = true → (0 ≤ x358 ∧ x358 < (y101.length : Int)) ∧ (((y101.getD (x358).toNat (0 : Int)) < (0 : Int) → ((out356.length + ([x358] : List (Int)).length) * 8 ≤ 2 ^ 40) ∧ X355 (out356 ++ ([x358] : List (Int))) (IntKind.i64.wrap (x358 + (1 : Int)))) ∧ (¬((y101.getD (x358).toNat (0 : Int)) < (0 : Int)) → (0 ≤ (y101.getD (x358).toNat (0 : Int)) ∧ (y101.getD (x358).toNat (0 : Int)) < (zero320.length : Int)) ∧ (((zero320.getD ((y101.getD (x358).toNat (0 : Int))).toNat false) = true → X355 (out356) (IntKind.i64.wrap (x358 + (1 : Int)))) ∧ ((zero320.getD ((y101.getD (x358).toNat (0 : Int))).toNat false) = false → ((out356.length + ([x358] : List (Int)).length) * 8 ≤ 2 ^ 40) ∧ X355 (out356 ++ ([x358] : List (Int))) (IntKind.i64.wrap (x358 + (1 : Int)))))))) ∧ ((zero320.getD (x358).toNat false) = false → X355 (out356) (IntKind.i64.wrap (x358 + (1 : Int)))))) ∧ (¬(x358 < (zero320.length : Int)) → K (out356) (true))) → X355 out356 x358) → X355 ([] : List (Int)) (0 : Int))) → X319 zero320 i321) → X319 (zero250) (IntKind.i64.wrap ((l0.length : Int) - (1 : Int))))) → X249 zero250 x251) → X249 (List.replicate ((l0.length : Int)).toNat false) (0 : Int)) ∧ (y110 = false → K ([] : List (Int)) (false)))) ∧ (y107 = false → K ([] : List (Int)) (false)))) ∧ (y104 = false → K ([] : List (Int)) (false)))
end Go.Proofs.Ytplfnchoooehgaa.G

namespace Go.Proofs.Ytplfnchoooehgaa.G
open Go Go.Ab
set_option maxRecDepth 100000
set_option linter.unusedVariables false
set_option linter.unusedSimpArgs false
set_option maxHeartbeats 1000000
def laws_FnTrees.wp (l0 : List (Int)) (l1 : List (Int)) (K : Bool → Prop) : Prop := laws_r8Long.wp l0 l1 fun y101 => ((y101 = true → K (true)) ∧ (y101 = false → spec_R8Integers.wp l0 fun y104 => laws_r8At.wp l1 (0 : Int) (4 : Int) fun y108 => laws_r8At.wp l1 (1 : Int) (8 : Int) fun y110 => laws_r8At.wp l1 (2 : Int) (y104.length : Int) fun y112 => impl_TreeOf.wp (y104.length : Int) (IntKind.i64.wrap ((1 : Int) + y108)) y112 fun y114 y117 => impl_ZeroTrees.wp y104 (IntKind.i64.wrap ((1 : Int) + y108)) y110 fun y119 y122 => impl_PlaneOf.wp y104 y110 fun y124 y127 => ((y117 = true → ((y122 = true → ((y127 = true → (((y124.length : Int) = (y104.length : Int) → (((y114.length : Int) < (1 : Int) → K (false)) ∧ (¬((y114.length : Int) < (1 : Int)) → (0 ≤ (y104.length : Int) ∧ (y104.length : Int) ≤ (y104.length : Int) ∧ (y104.length : Int) ≤ 2 ^ 40 ∧ (y104.length : Int) * 1 ≤ 2 ^ 40) ∧ ∀ X415 : List (Bool) → Int → Prop, (∀ (in416 : List (Bool)) (k417 : Int), ((k417 < (y114.length : Int) → (0 ≤ k417 ∧ k417 < (y114.length : Int)) ∧ (((y114.getD (k417).toNat (0 : Int)) < (0 : Int) → K (false)) ∧ (¬((y114.getD (k417).toNat (0 : Int)) < (0 : Int)) → (((y104.length : Int) ≤ (y114.getD (k417).toNat (0 : Int)) → K (false)) ∧ (¬((y104.length : Int) ≤ (y114.getD (k417).toNat (0 : Int))) → (((0 : Int) < k417 → (0 ≤ (IntKind.i64.wrap (k417 - (1 : Int))) ∧ (IntKind.i64.wrap (k417 - (1 : Int))) < (y114.length : Int)) ∧ (((y114.getD (k417).toNat (0 : Int)) ≤ (y114.getD ((IntKind.i64.wrap (k417 - (1 : Int)))).toNat (0 : Int)) → K (false)) ∧ (¬((y114.getD (k417).toNat (0 : Int)) ≤ (y114.getD ((IntKind.i64.wrap (k417 - (1 : Int)))).toNat (0 : Int))) → (0 ≤ (y114.getD (k417).toNat (0 : Int)) ∧ (y114.getD (k417).toNat (0 : Int)) < (in416.length : Int)) ∧ X415 (in416.set ((y114.getD (k417).toNat (0 : Int))).toNat true) (IntKind.i64.wrap (k417 + (1 : Int)))))) ∧ (¬((0 : Int) < k417) → (0 ≤ (y114.getD (k417).toNat (0 : Int)) ∧ (y114.getD (k417).toNat (0 : Int)) < (in416.length : Int)) ∧ X415 (in416.set ((y114.getD (k417).toNat (0 : Int))).toNat true) (IntKind.i64.wrap (k417 + (1 : Int)))))))))) ∧ (¬(k417 < (y114.length : Int)) → (0 ≤ y112 ∧ y112 < (in416.length : Int)) ∧ (((in416.getD (y112).toNat false) = true → ∀ X563 : List (Bool) → Int → Prop, (∀ (covered564 : List (Bool)) (k565 : Int), ((k565 < (y119.length : Int) → (0 ≤ k565 ∧ k565 < (y119.length : Int)) ∧ impl_TreeOf.wp (y104.length : Int) (IntKind.i64.wrap ((1 : Int) + y108)) (y119.getD (k565).toNat (0 : Int)) fun y568 y571 => ((y571 = true → ∀ X586 : List (Bool) → Int → Prop, (∀ (covered587 : List (Bool)) (j588 : Int), ((j588 < (y568.length : Int) → (0 ≤ j588 ∧ j588 < (y568.length : Int)) ∧ (0 ≤ (y568.getD (j588).toNat (0 : Int)) ∧ (y568.getD (j588).toNat (0 : Int)) < (covered587.length : Int)) ∧ (((covered587.getD ((y568.getD (j588).toNat (0 : Int))).toNat false) = true → K (false)) ∧ ((covered587.getD ((y568.getD (j588).toNat (0 : Int))).toNat false) = false → (0 ≤ (y568.getD (j588).toNat (0 : Int)) ∧ (y568.getD (j588).toNat (0 : Int)) < (y104.length : Int)) ∧ laws_r8Abs.wp (y104.getD ((y568.getD (j588).toNat (0 : Int))).toNat (0 : Int)) fun y594 => (0 ≤ (IntKind.u64.wrap y110)) ∧ (((Int.fdiv y594 (2 ^ (min ((IntKind.u64.wrap y110)).toNat IntKind.i64.bits))) = (0 : Int) → X586 (covered587.set ((y568.getD (j588).toNat (0 : Int))).toNat true) (IntKind.i64.wrap (j588 + (1 : Int)))) ∧ (¬((Int.fdiv y594 (2 ^ (min ((IntKind.u64.wrap y110)).toNat IntKind.i64.bits))) = (0 : Int)) → K (false)))))) ∧ (¬(j588 < (y568.length : Int)) → X563 (covered587) (IntKind.i64.wrap (k565 + (1 : Int))))) → X586 covered587 j588) → X586 (covered564) (0 : Int)) ∧ (y571 = false → K (false)))) ∧ (¬(k565 < (y119.length : Int)) → ∀ X601 : Int → Prop, (∀ (i602 : Int), ((i602 < (y104.length : Int) → impl_ParentOf.wp (y104.length : Int) (IntKind.i64.wrap ((1 : Int) + y108)) i602 fun y604 y605 => ((y605 = true → ((y604 < (-1 : Int) → K (false)) ∧ (¬(y604 < (-1 : Int)) → ((i602 ≤ y604 → K (false)) ∧ (¬(i602 ≤ y604) → ((i602 = y112 → (0 ≤ i602 ∧ i602 < (y124.length : Int)) ∧ (0 ≤ i602 ∧ i602 < (y104.length : Int)) ∧ laws_r8Abs.wp (y104.getD (i602).toNat (0 : Int)) fun y613 => (0 ≤ (IntKind.u64.wrap y110)) ∧ ((((y124.getD (i602).toNat false) == (decide ((ibits .and .i64 (Int.fdiv y613 (2 ^ (min ((IntKind.u64.wrap y110)).toNat IntKind.i64.bits))) (1 : Int)) = (1 : Int)))) = true → impl_TreeOf.wp (y104.length : Int) (IntKind.i64.wrap ((1 : Int) + y108)) i602 fun y617 y620 => ((y620 = true → ∀ X623 : Bool → Int → Prop, (∀ (empty624 : Bool) (j625 : Int), ((j625 < (y617.length : Int) → ((empty624 = true → (0 ≤ j625 ∧ j625 < (y617.length : Int)) ∧ (0 ≤ (y617.getD (j625).toNat (0 : Int)) ∧ (y617.getD (j625).toNat (0 : Int)) < (y104.length : Int)) ∧ laws_r8Abs.wp (y104.getD ((y617.getD (j625).toNat (0 : Int))).toNat (0 : Int)) fun y630 => X623 (decide ((Int.fdiv y630 (2 ^ (min ((IntKind.u64.wrap y110)).toNat IntKind.i64.bits))) = (0 : Int))) (IntKind.i64.wrap (j625 + (1 : Int)))) ∧ (empty624 = false → X623 (false) (IntKind.i64.wrap (j625 + (1 : Int)))))) ∧ (¬(j625 < (y617.length : Int)) → (0 ≤ i602 ∧ i602 < (covered564.length : Int)) ∧ (((empty624 == (covered564.getD (i602).toNat false)) = true → X601 (IntKind.i64.wrap (i602 + (1 : Int)))) ∧ ((empty624 == (covered564.getD (i602).toNat false)) = false → K (false))))) → X623 empty624 j625) → X623 (true) (0 : Int)) ∧ (y620 = false → K (false)))) ∧ (((y124.getD (i602).toNat false) == (decide ((ibits .and .i64 (Int.fdiv y613 (2 ^ (min ((IntKind.u64.wrap y110)).toNat IntKind.i64.bits))) (1 : Int)) = (1 : Int)))) = false → K (false)))) ∧ (¬(i602 = y112) → (0 ≤ i602 ∧ i602 < (in416.length : Int)) ∧ (((0 : Int) ≤ y604 → (0 ≤ y604 ∧ y604 < (in416.length : Int)) ∧ ((((in416.getD (i602).toNat false) == (in416.getD (y604).toNat false)) = true → (0 ≤ i602 ∧ i602 < (y124.length : Int)) ∧ (0 ≤ i602 ∧ i602 < (y104.length : Int)) ∧ laws_r8Abs.wp (y104.getD (i602).toNat (0 : Int)) fun y642 => (0 ≤ (IntKind.u64.wrap y110)) ∧ ((((y124.getD (i602).toNat false) == (decide ((ibits .and .i64 (Int.fdiv y642 (2 ^ (min ((IntKind.u64.wrap y110)).toNat IntKind.i64.bits))) (1 : Int)) = (1 : Int)))) = true → impl_TreeOf.wp (y104.length : Int) (IntKind.i64.wrap ((1 : Int) + y108)) i602 fun y646 y649 => ((y649 = true → ∀ X652 : Bool → Int → Prop, (∀ (empty653 : Bool) (j654 : Int), ((j654 < (y646.length : Int) → ((empty653 = true → (0 ≤ j654 ∧ j654 < (y646.length : Int)) ∧ (0 ≤ (y646.getD (j654).toNat (0 : Int)) ∧ (y646.getD (j654).toNat (0 : Int)) < (y104.length : Int)) ∧ laws_r8Abs.wp (y104.getD ((y646.getD (j654).toNat (0 : Int))).toNat (0 : Int)) fun y659 => X652 (decide ((Int.fdiv y659 (2 ^ (min ((IntKind.u64.wrap y110)).toNat IntKind.i64.bits))) = (0 : Int))) (IntKind.i64.wrap (j654 + (1 : Int)))) ∧ (empty653 = false → X652 (false) (IntKind.i64.wrap (j654 + (1 : Int)))))) ∧ (¬(j654 < (y646.length : Int)) → (0 ≤ i602 ∧ i602 < (covered564.length : Int)) ∧ (((empty653 == (covered564.getD (i602).toNat false)) = true → X601 (IntKind.i64.wrap (i602 + (1 : Int)))) ∧ ((empty653 == (covered564.getD (i602).toNat false)) = false → K (false))))) → X652 empty653 j654) → X652 (true) (0 : Int)) ∧ (y649 = false → K (false)))) ∧ (((y124.getD (i602).toNat false) == (decide ((ibits .and .i64 (Int.fdiv y642 (2 ^ (min ((IntKind.u64.wrap y110)).toNat IntKind.i64.bits))) (1 : Int)) = (1 : Int)))) = false → K (false)))) ∧ (((in416.getD (i602).toNat false) == (in416.getD (y604).toNat false)) = false → K (false)))) ∧ (¬((0 : Int) ≤ y604) → ((((in416.getD (i602).toNat false) == false) = true → (0 ≤ i602 ∧ i602 < (y124.length : Int)) ∧ (0 ≤ i602 ∧ i602 < (y104.length : Int)) ∧ laws_r8Abs.wp (y104.getD (i602).toNat (0 : Int)) fun y668 => (0 ≤ (IntKind.u64.wrap y110)) ∧ ((((y124.getD (i602).toNat false) == (decide ((ibits .and .i64 (Int.fdiv y668 (2 ^ (min ((IntKind.u64.wrap y110)).toNat IntKind.i64.bits))) (1 : Int)) = (1 : Int)))) = true → impl_TreeOf.wp (y104.length : Int) (IntKind.i64.wrap ((1 : Int) + y108)) i602 fun y672 y675 => ((y675 = true → ∀ X678 : Bool → Int → Prop, (∀ (empty679 : Bool) (j680 : Int), ((j680 < (y672.length : Int) → ((empty679 = true → (0 ≤ j680 ∧ j680 < (y672.length : Int)) ∧ (0 ≤ (y672.getD (j680).toNat (0 : Int)) ∧ (y672.getD (j680).toNat (0 : Int)) < (y104.length : Int)) ∧ laws_r8Abs.wp (y104.getD ((y672.getD (j680).toNat (0 : Int))).toNat (0 : Int)) fun y685 => X678 (decide ((Int.fdiv y685 (2 ^ (min ((IntKind.u64.wrap y110)).toNat IntKind.i64.bits))) = (0 : Int))) (IntKind.i64.wrap (j680 + (1 : Int)))) ∧ (empty679 = false → X678 (false) (IntKind.i64.wrap (j680 + (1 : Int)))))) ∧ (¬(j680 < (y672.length : Int)) → (0 ≤ i602 ∧ i602 < (covered564.length : Int)) ∧ (((empty679 == (covered564.getD (i602).toNat false)) = true → X601 (IntKind.i64.wrap (i602 + (1 : Int)))) ∧ ((empty679 == (covered564.getD (i602).toNat false)) = false → K (false))))) → X678 empty679 j680) → X678 (true) (0 : Int)) ∧ (y675 = false → K (false)))) ∧ (((y124.getD (i602).toNat false) == (decide ((ibits .and .i64 (Int.fdiv y668 (2 ^ (min ((IntKind.u64.wrap y110)).toNat IntKind.i64.bits))) (1 : Int)) = (1 : Int)))) = false → K (false)))) ∧ (((in416.getD (i602).toNat false) == false) = false → K (false)))))))))))) ∧ (y605 = false → K (false)))) ∧ (¬(i602 < (y104.length : Int)) → K (true))) → X601 i602) → X601 (0 : Int))) → X563 covered564 k565) → X563 (List.replicate ((y104.length : Int)).toNat false) (0 : Int)) ∧ ((in416.getD (y112).toNat false) = false → K (false))))) → X415 in416 k417) → X415 (List.replicate ((y104.length : Int)).toNat false) (0 : Int)))) ∧ (¬((y124.length : Int) = (y104.length : Int)) → K (false)))) ∧ (y127 = false → K (false)))) ∧ (y122 = false → K (false)))) ∧ (y117 = false → K (false)))))
end Go.Proofs.Ytplfnchoooehgaa.G

namespace Go.Proofs.Ytplfnchoooehgaa.G
open Go Go.Ab
set_option maxRecDepth 100000
set_option linter.unusedVariables false
set_option linter.unusedSimpArgs false
set_option maxHeartbeats 1000000
def laws_eqInt64S.wp (l0 : List (Int)) (l1 : List (Int)) (K : Bool → Prop) : Prop := (((l0.length : Int) = (l1.length : Int) → ∀ X102 : Int → Prop, (∀ (i103 : Int), ((i103 < (l0.length : Int) → (0 ≤ i103 ∧ i103 < (l0.length : Int)) ∧ (0 ≤ i103 ∧ i103 < (l1.length : Int)) ∧ (((l0.getD (i103).toNat (0 : Int)) = (l1.getD (i103).toNat (0 : Int)) → X102 (IntKind.i64.wrap (i103 + (1 : Int)))) ∧ (¬((l0.getD (i103).toNat (0 : Int)) = (l1.getD (i103).toNat (0 : Int))) → K (false)))) ∧ (¬(i103 < (l0.length : Int)) → K (true))) → X102 i103) → X102 (0 : Int)) ∧ (¬((l0.length : Int) = (l1.length : Int)) → K (false)))
end Go.Proofs.Ytplfnchoooehgaa.G

namespace Go.Proofs.Ytplfnchoooehgaa.G
open Go Go.Ab
set_option maxRecDepth 100000
set_option linter.unusedVariables false
set_option linter.unusedSimpArgs false
set_option maxHeartbeats 1000000
def laws_markInt64S.wp (l0 : List (Int)) (a1 : Int) (K : Int → (List (Int)) → Prop) : Prop := ∀ X108 : List (Int) → Int → Int → Prop, (∀ (a109 : List (Int)) (k110 : Int) (i111 : Int), ((i111 < (a109.length : Int) → (0 ≤ i111 ∧ i111 < (a109.length : Int)) ∧ X108 (a109.set (i111).toNat k110) (IntKind.i64.wrap (k110 + (1 : Int))) (IntKind.i64.wrap (i111 + (1 : Int)))) ∧ (¬(i111 < (a109.length : Int)) → K (k110) (a109))) → X108 a109 k110 i111) → X108 (l0) (a1) (0 : Int)
end Go.Proofs.Ytplfnchoooehgaa.G

namespace Go.Proofs.Ytplfnchoooehgaa.G
open Go Go.Ab
set_option maxRecDepth 100000
set_option linter.unusedVariables false
set_option linter.unusedSimpArgs false
set_option maxHeartbeats 1000000
def laws_heldInt64S.wp (l0 : List (Int)) (a1 : Int) (K : Int → Prop) : Prop := ∀ X101 : Int → Int → Prop, (∀ (k102 : Int) (i103 : Int), ((i103 < (l0.length : Int) → (0 ≤ i103 ∧ i103 < (l0.length : Int)) ∧ (((l0.getD (i103).toNat (0 : Int)) = k102 → X101 (IntKind.i64.wrap (k102 + (1 : Int))) (IntKind.i64.wrap (i103 + (1 : Int)))) ∧ (¬((l0.getD (i103).toNat (0 : Int)) = k102) → K (-1 : Int)))) ∧ (¬(i103 < (l0.length : Int)) → K (k102))) → X101 k102 i103) → X101 (a1) (0 : Int)
end Go.Proofs.Ytplfnchoooehgaa.G

namespace Go.Proofs.Ytplfnchoooehgaa.G
open Go Go.Ab
set_option maxRecDepth 100000
set_option linter.unusedVariables false
set_option linter.unusedSimpArgs false
set_option maxHeartbeats 1000000
def laws_eqBoolS.wp (l0 : List (Bool)) (l1 : List (Bool)) (K : Bool → Prop) : Prop := (((l0.length : Int) = (l1.length : Int) → ∀ X102 : Int → Prop, (∀ (i103 : Int), ((i103 < (l0.length : Int) → (0 ≤ i103 ∧ i103 < (l0.length : Int)) ∧ (0 ≤ i103 ∧ i103 < (l1.length : Int)) ∧ ((((l0.getD (i103).toNat false) == (l1.getD (i103).toNat false)) = true → X102 (IntKind.i64.wrap (i103 + (1 : Int)))) ∧ (((l0.getD (i103).toNat false) == (l1.getD (i103).toNat false)) = false → K (false)))) ∧ (¬(i103 < (l0.length : Int)) → K (true))) → X102 i103) → X102 (0 : Int)) ∧ (¬((l0.length : Int) = (l1.length : Int)) → K (false)))
end Go.Proofs.Ytplfnchoooehgaa.G

namespace Go.Proofs.Ytplfnchoooehgaa.G
open Go Go.Ab
set_option maxRecDepth 100000
set_option linter.unusedVariables false
set_option linter.unusedSimpArgs false
set_option maxHeartbeats 1000000
def laws_toBoolS.wp (l0 : List (Bool)) (K : (List (Bool)) → Prop) : Prop := (0 ≤ (l0.length : Int) ∧ (l0.length : Int) ≤ (l0.length : Int) ∧ (l0.length : Int) ≤ 2 ^ 40 ∧ (l0.length : Int) * 1 ≤ 2 ^ 40) ∧ ∀ X111 : List (Bool) → Int → Prop, (∀ (out112 : List (Bool)) (i113 : Int), ((i113 < (l0.length : Int) → (0 ≤ i113 ∧ i113 < (l0.length : Int)) ∧ (0 ≤ i113 ∧ i113 < (out112.length : Int)) ∧ X111 (out112.set (i113).toNat (l0.getD (i113).toNat false)) (IntKind.i64.wrap (i113 + (1 : Int)))) ∧ (¬(i113 < (l0.length : Int)) → K (out112))) → X111 out112 i113) → X111 (List.replicate ((l0.length : Int)).toNat false) (0 : Int)
end Go.Proofs.Ytplfnchoooehgaa.G

namespace Go.Proofs.Ytplfnchoooehgaa.G
open Go Go.Ab
set_option maxRecDepth 100000
set_option linter.unusedVariables false
set_option linter.unusedSimpArgs false
set_option maxHeartbeats 1000000
def laws_toInt64S.wp (l0 : List (Int)) (K : (List (Int)) → Prop) : Prop := (0 ≤ (l0.length : Int) ∧ (l0.length : Int) ≤ (l0.length : Int) ∧ (l0.length : Int) ≤ 2 ^ 40 ∧ (l0.length : Int) * 8 ≤ 2 ^ 40) ∧ ∀ X111 : List (Int) → Int → Prop, (∀ (out112 : List (Int)) (i113 : Int), ((i113 < (l0.length : Int) → (0 ≤ i113 ∧ i113 < (l0.length : Int)) ∧ (0 ≤ i113 ∧ i113 < (out112.length : Int)) ∧ X111 (out112.set (i113).toNat (l0.getD (i113).toNat (0 : Int))) (IntKind.i64.wrap (i113 + (1 : Int)))) ∧ (¬(i113 < (l0.length : Int)) → K (out112))) → X111 out112 i113) → X111 (List.replicate ((l0.length : Int)).toNat (0 : Int)) (0 : Int)
end Go.Proofs.Ytplfnchoooehgaa.G

namespace Go.Proofs.Ytplfnchoooehgaa.G
open Go Go.Ab
set_option maxRecDepth 100000
set_option linter.unusedVariables false
set_option linter.unusedSimpArgs false
set_option maxHeartbeats 1000000
def spec_l00In.wp (a0 : Int) (a1 : Int) (a2 : Int) (K : Bool → Prop) : Prop := ((a1 ≤ a0 → K (decide (a0 ≤ a2))) ∧ (¬(a1 ≤ a0) → K (false)))
end Go.Proofs.Ytplfnchoooehgaa.G

namespace Go.Proofs.Ytplfnchoooehgaa.G
open Go Go.Ab
set_option maxRecDepth 100000
set_option linter.unusedVariables false
set_option linter.unusedSimpArgs false
set_option maxHeartbeats 1000000
def spec_l02Bound.wp (l0 : List (Int)) (a1 : Int) (K : Bool → Prop) : Prop := ∀ X101 : Int → Prop, (∀ (i102 : Int), ((i102 < (l0.length : Int) → (0 ≤ i102 ∧ i102 < (l0.length : Int)) ∧ spec_l00In.wp (l0.getD (i102).toNat (0 : Int)) (IntKind.i64.wrap (0 - a1)) a1 fun y105 => ((y105 = true → X101 (IntKind.i64.wrap (i102 + (1 : Int)))) ∧ (y105 = false → K (false)))) ∧ (¬(i102 < (l0.length : Int)) → K (true))) → X101 i102) → X101 (0 : Int)
end Go.Proofs.Ytplfnchoooehgaa.G

namespace Go.Proofs.Ytplfnchoooehgaa.G
open Go Go.Ab
set_option maxRecDepth 100000
set_option linter.unusedVariables false
set_option linter.unusedSimpArgs false
set_option maxHeartbeats 1000000
def spec_l02Integers.wp (l0 : List (Int)) (K : Bool → Prop) : Prop := (((1 : Int) ≤ (l0.length : Int) → (((l0.length : Int) ≤ (128 : Int) → spec_l02Bound.wp l0 (1000000 : Int) fun y103 => K (y103)) ∧ (¬((l0.length : Int) ≤ (128 : Int)) → K (false)))) ∧ (¬((1 : Int) ≤ (l0.length : Int)) → K (false)))
end Go.Proofs.Ytplfnchoooehgaa.G

namespace Go.Proofs.Ytplfnchoooehgaa.G
open Go Go.Ab
set_option maxRecDepth 100000
set_option linter.unusedVariables false
set_option linter.unusedSimpArgs false
set_option maxHeartbeats 1000000
def spec_l02BandSizes.wp (a0 : Int) (a1 : Int) (K : (List (Int)) → Prop) : Prop := ∀ X129 : List (Int) → Int → Int → Prop, (∀ (out130 : List (Int)) (n132 : Int) (k133 : Int), ((k133 < a1 → (((2 : Int) ≤ n132 → ((out130.length + ([(IntKind.i64.wrap (Int.tdiv n132 (2 : Int)))] : List (Int)).length) * 8 ≤ 2 ^ 40) ∧ X129 (out130 ++ ([(IntKind.i64.wrap (Int.tdiv n132 (2 : Int)))] : List (Int))) (IntKind.i64.wrap (Int.tdiv (IntKind.i64.wrap (n132 + (1 : Int))) (2 : Int))) (IntKind.i64.wrap (k133 + (1 : Int)))) ∧ (¬((2 : Int) ≤ n132) → ((out130.length + ([n132] : List (Int)).length) * 8 ≤ 2 ^ 40) ∧ K (out130 ++ ([n132] : List (Int)))))) ∧ (¬(k133 < a1) → ((out130.length + ([n132] : List (Int)).length) * 8 ≤ 2 ^ 40) ∧ K (out130 ++ ([n132] : List (Int))))) → X129 out130 n132 k133) → X129 ([] : List (Int)) (a0) (0 : Int)
end Go.Proofs.Ytplfnchoooehgaa.G

namespace Go.Proofs.Ytplfnchoooehgaa.G
open Go Go.Ab
set_option maxRecDepth 100000
set_option linter.unusedVariables false
set_option linter.unusedSimpArgs false
set_option maxHeartbeats 1000000
def spec_l00Min.wp (a0 : Int) (a1 : Int) (K : Int → Prop) : Prop := ((a0 < a1 → K (a0)) ∧ (¬(a0 < a1) → K (a1)))
end Go.Proofs.Ytplfnchoooehgaa.G

namespace Go.Proofs.Ytplfnchoooehgaa.G
open Go Go.Ab
set_option maxRecDepth 100000
set_option linter.unusedVariables false
set_option linter.unusedSimpArgs false
set_option maxHeartbeats 1000000
def spec_l06Parent.wp (a0 : Int) (a1 : Int) (a2 : Int) (K : Int → Prop) : Prop := spec_l02BandSizes.wp a0 a1 fun y101 => ∀ X105 : Int → Int → Prop, (∀ (fromq106 : Int) (k107 : Int), (((0 : Int) ≤ k107 → (0 ≤ k107 ∧ k107 < (y101.length : Int)) ∧ ((a2 < (IntKind.i64.wrap (fromq106 + (y101.getD (k107).toNat (0 : Int)))) → (((y101.length : Int) ≤ (IntKind.i64.wrap (k107 + (2 : Int))) → K (-1 : Int)) ∧ (¬((y101.length : Int) ≤ (IntKind.i64.wrap (k107 + (2 : Int)))) → (0 ≤ (IntKind.i64.wrap (k107 + (1 : Int))) ∧ (IntKind.i64.wrap (k107 + (1 : Int))) < (y101.length : Int)) ∧ spec_l00Min.wp (IntKind.i64.wrap (Int.tdiv (IntKind.i64.wrap (a2 - fromq106)) (2 : Int))) (IntKind.i64.wrap ((y101.getD ((IntKind.i64.wrap (k107 + (1 : Int)))).toNat (0 : Int)) - (1 : Int))) fun y113 => K (IntKind.i64.wrap ((IntKind.i64.wrap (fromq106 - (y101.getD ((IntKind.i64.wrap (k107 + (1 : Int)))).toNat (0 : Int)))) + y113))))) ∧ (¬(a2 < (IntKind.i64.wrap (fromq106 + (y101.getD (k107).toNat (0 : Int))))) → X105 (IntKind.i64.wrap (fromq106 + (y101.getD (k107).toNat (0 : Int)))) (IntKind.i64.wrap (k107 - (1 : Int)))))) ∧ (¬((0 : Int) ≤ k107) → K (-1 : Int))) → X105 fromq106 k107) → X105 (0 : Int) (IntKind.i64.wrap ((y101.length : Int) - (1 : Int)))
end Go.Proofs.Ytplfnchoooehgaa.G

namespace Go.Proofs.Ytplfnchoooehgaa.G
open Go Go.Ab
set_option maxRecDepth 100000
set_option linter.unusedVariables false
set_option linter.unusedSimpArgs false
set_option maxHeartbeats 1000000
def spec_l02Levels.wp (a0 : Int) (K : Bool → Prop) : Prop := spec_l00In.wp a0 (1 : Int) (6 : Int) fun y101 => K (y101)
end Go.Proofs.Ytplfnchoooehgaa.G

namespace Go.Proofs.Ytplfnchoooehgaa.G
open Go Go.Ab
set_option maxRecDepth 100000
set_option linter.unusedVariables false
set_option linter.unusedSimpArgs false
set_option maxHeartbeats 1000000
def spec_l06Plane.wp (a0 : Int) (K : Bool → Prop) : Prop := spec_l00In.wp a0 (0 : Int) (24 : Int) fun y101 => K (y101)
end Go.Proofs.Ytplfnchoooehgaa.G

namespace Go.Proofs.Ytplfnchoooehgaa.G
open Go Go.Ab
set_option maxRecDepth 100000
set_option linter.unusedVariables false
set_option linter.unusedSimpArgs false
set_option maxHeartbeats 1000000
def spec_l06Abs.wp (a0 : Int) (K : Int → Prop) : Prop := ((a0 < (0 : Int) → K (IntKind.i64.wrap (0 - a0))) ∧ (¬(a0 < (0 : Int)) → K (a0)))
end Go.Proofs.Ytplfnchoooehgaa.G

namespace Go.Proofs.Ytplfnchoooehgaa.G
open Go Go.Ab
set_option maxRecDepth 100000
set_option linter.unusedVariables false
set_option linter.unusedSimpArgs false
set_option maxHeartbeats 1000000
def spec_ZeroTrees.wp (l0 : List (Int)) (a1 : Int) (a2 : Int) (K : (List (Int)) → Bool → Prop) : Prop := spec_l02Integers.wp l0 fun y101 => ((y101 = true → spec_l02Levels.wp a1 fun y104 => ((y104 = true → spec_l06Plane.wp a2 fun y107 => ((y107 = true → ∀ X288 : List (Bool) → List (Int) → Int → Prop, (∀ (empty289 : List (Bool)) (parents291 : List (Int)) (i293 : Int), ((i293 < (l0.length : Int) → spec_l06Parent.wp (l0.length : Int) a1 i293 fun y295 => ((parents291.length + ([y295] : List (Int)).length) * 8 ≤ 2 ^ 40) ∧ ((empty289.length + ([true] : List (Bool)).length) * 1 ≤ 2 ^ 40) ∧ X288 (empty289 ++ ([true] : List (Bool))) (parents291 ++ ([y295] : List (Int))) (IntKind.i64.wrap (i293 + (1 : Int)))) ∧ (¬(i293 < (l0.length : Int)) → ∀ X383 : List (Bool) → Int → Prop, (∀ (empty384 : List (Bool)) (i385 : Int), ((i385 < (l0.length : Int) → (0 ≤ i385 ∧ i385 < (l0.length : Int)) ∧ spec_l06Abs.wp (l0.getD (i385).toNat (0 : Int)) fun y388 => (0 ≤ (IntKind.u64.wrap a2)) ∧ (((Int.fdiv y388 (2 ^ (min ((IntKind.u64.wrap a2)).toNat IntKind.i64.bits))) = (0 : Int) → X383 (empty384) (IntKind.i64.wrap (i385 + (1 : Int)))) ∧ (¬((Int.fdiv y388 (2 ^ (min ((IntKind.u64.wrap a2)).toNat IntKind.i64.bits))) = (0 : Int)) → ∀ X398 : List (Bool) → Int → Prop, (∀ (empty399 : List (Bool)) (atq400 : Int), (((0 : Int) ≤ atq400 → (0 ≤ atq400 ∧ atq400 < (empty399.length : Int)) ∧ (0 ≤ atq400 ∧ atq400 < (parents291.length : Int)) ∧ X398 (empty399.set (atq400).toNat false) (parents291.getD (atq400).toNat (0 : Int))) ∧ (¬((0 : Int) ≤ atq400) → X383 (empty399) (IntKind.i64.wrap (i385 + (1 : Int))))) → X398 empty399 atq400) → X398 (empty384) (i385)))) ∧ (¬(i385 < (l0.length : Int)) → ∀ X433 : List (Int) → Int → Prop, (∀ (out434 : List (Int)) (i436 : Int), ((i436 < (l0.length : Int) → (0 ≤ i436 ∧ i436 < (empty384.length : Int)) ∧ (((empty384.getD (i436).toNat false) = true → (0 ≤ i436 ∧ i436 < (parents291.length : Int)) ∧ (((parents291.getD (i436).toNat (0 : Int)) < (0 : Int) → ((out434.length + ([i436] : List (Int)).length) * 8 ≤ 2 ^ 40) ∧ X433 (out434 ++ ([i436] : List (Int))) (IntKind.i64.wrap (i436 + (1 : Int)))) ∧ (¬((parents291.getD (i436).toNat (0 : Int)) < (0 : Int)) → (0 ≤ (parents291.getD (i436).toNat (0 : Int)) ∧ (parents291.getD (i436).toNat (0 : Int)) < (empty384.length : Int)) ∧ (((empty384.getD ((parents291.getD (i436).toNat (0 : Int))).toNat false) = true → X433 (out434) (IntKind.i64.wrap (i436 + (1 : Int)))) ∧ ((empty384.getD ((parents291.getD (i436).toNat (0 : Int))).toNat false) = false → ((out434.length + ([i436] : List (Int)).length) * 8 ≤ 2 ^ 40) ∧ X433 (out434 ++ ([i436] : List (Int))) (IntKind.i64.wrap (i436 + (1 : Int)))))))) ∧ ((empty384.getD (i436).toNat false) = false → X433 (out434) (IntKind.i64.wrap (i436 + (1 : Int)))))) ∧ (¬(i436 < (l0.length : Int)) → K (out434) (true))) → X433 out434 i436) → X433 ([] : List (Int)) (0 : Int))) → X383 empty384 i385) → X383 (empty289) (0 : Int))) → X288 empty289 parents291 i293) → X288 ([] : List (Bool)) ([] : List (Int)) (0 : Int)) ∧ (y107 = false → K ([] : List (Int)) (false)))) ∧ (y104 = false → K ([] : List (Int)) (false)))) ∧ (y101 = false → K ([] : List (Int)) (false)))
end Go.Proofs.Ytplfnchoooehgaa.G

