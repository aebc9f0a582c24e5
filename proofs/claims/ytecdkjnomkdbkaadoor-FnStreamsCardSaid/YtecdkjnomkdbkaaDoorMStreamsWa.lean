/-
  What the functions compute, as formulas over numbers and lists. Printed by a program of the session; nothing here is trusted.
-/
import Derived.Test.YtecdkjnomkdbkaaDoorAbG
namespace Go.Proofs.YtecdkjnomkdbkaaDoor.G
open Go Go.Ab
set_option maxRecDepth 100000
set_option linter.unusedVariables false
set_option linter.unusedSimpArgs false
set_option maxHeartbeats 1000000

end Go.Proofs.YtecdkjnomkdbkaaDoor.G

namespace Go.Proofs.YtecdkjnomkdbkaaDoor.G
open Go Go.Ab
set_option maxRecDepth 100000
set_option linter.unusedVariables false
set_option linter.unusedSimpArgs false
set_option maxHeartbeats 1000000
def laws_r8Long.wp (l0 : List (Int)) (l1 : List (Int)) (K : Bool → Prop) : Prop := (((48 : Int) < (l0.length : Int) → K (true)) ∧ (¬((48 : Int) < (l0.length : Int)) → K (decide ((48 : Int) < (l1.length : Int)))))
end Go.Proofs.YtecdkjnomkdbkaaDoor.G

namespace Go.Proofs.YtecdkjnomkdbkaaDoor.G
open Go Go.Ab
set_option maxRecDepth 100000
set_option linter.unusedVariables false
set_option linter.unusedSimpArgs false
set_option maxHeartbeats 1000000
def spec_l00From.wp (l0 : List (Int)) (K : Bool → Int → Int → Prop) : Prop := K (true) (0 : Int) (0 : Int)
end Go.Proofs.YtecdkjnomkdbkaaDoor.G

namespace Go.Proofs.YtecdkjnomkdbkaaDoor.G
open Go Go.Ab
set_option maxRecDepth 100000
set_option linter.unusedVariables false
set_option linter.unusedSimpArgs false
set_option maxHeartbeats 1000000
def spec_l00Src_next.wp (l0 : List (Int)) (a1 : Int) (a2 : Int) (K : Int → Int → Int → Prop) : Prop := ((a1 < (l0.length : Int) → (0 ≤ a1 ∧ a1 < (l0.length : Int)) ∧ (((IntKind.i64.wrap (a1 + (1 : Int))) ≤ (l0.length : Int) → K (IntKind.i64.wrap (l0.getD (a1).toNat (0 : Int))) (IntKind.i64.wrap (a1 + (1 : Int))) (IntKind.u64.wrap ((IntKind.u64.wrap ((IntKind.u64.wrap (a2 * (6364136223846793005 : Int))) + (IntKind.u64.wrap (IntKind.i64.wrap (l0.getD (a1).toNat (0 : Int)))))) + (1442695040888963407 : Int)))) ∧ (¬((IntKind.i64.wrap (a1 + (1 : Int))) ≤ (l0.length : Int)) → K (IntKind.i64.wrap (ibits .and .u64 (Int.fdiv (IntKind.u64.wrap ((IntKind.u64.wrap ((IntKind.u64.wrap (a2 * (6364136223846793005 : Int))) + (IntKind.u64.wrap (IntKind.i64.wrap (l0.getD (a1).toNat (0 : Int)))))) + (1442695040888963407 : Int))) (2 ^ (min ((40 : Int)).toNat IntKind.u64.bits))) (255 : Int))) (IntKind.i64.wrap (a1 + (1 : Int))) (IntKind.u64.wrap ((IntKind.u64.wrap ((IntKind.u64.wrap (a2 * (6364136223846793005 : Int))) + (IntKind.u64.wrap (IntKind.i64.wrap (l0.getD (a1).toNat (0 : Int)))))) + (1442695040888963407 : Int)))))) ∧ (¬(a1 < (l0.length : Int)) → (((IntKind.i64.wrap (a1 + (1 : Int))) ≤ (l0.length : Int) → K (0 : Int) (IntKind.i64.wrap (a1 + (1 : Int))) (IntKind.u64.wrap ((IntKind.u64.wrap ((IntKind.u64.wrap (a2 * (6364136223846793005 : Int))) + (IntKind.u64.wrap (0 : Int)))) + (1442695040888963407 : Int)))) ∧ (¬((IntKind.i64.wrap (a1 + (1 : Int))) ≤ (l0.length : Int)) → K (IntKind.i64.wrap (ibits .and .u64 (Int.fdiv (IntKind.u64.wrap ((IntKind.u64.wrap ((IntKind.u64.wrap (a2 * (6364136223846793005 : Int))) + (IntKind.u64.wrap (0 : Int)))) + (1442695040888963407 : Int))) (2 ^ (min ((40 : Int)).toNat IntKind.u64.bits))) (255 : Int))) (IntKind.i64.wrap (a1 + (1 : Int))) (IntKind.u64.wrap ((IntKind.u64.wrap ((IntKind.u64.wrap (a2 * (6364136223846793005 : Int))) + (IntKind.u64.wrap (0 : Int)))) + (1442695040888963407 : Int)))))))
end Go.Proofs.YtecdkjnomkdbkaaDoor.G

namespace Go.Proofs.YtecdkjnomkdbkaaDoor.G
open Go Go.Ab
set_option maxRecDepth 100000
set_option linter.unusedVariables false
set_option linter.unusedSimpArgs false
set_option maxHeartbeats 1000000
def spec_l00Src_pick.wp (l0 : List (Int)) (a1 : Int) (a2 : Int) (a3 : Int) (K : Int → Int → Int → Prop) : Prop := ((a3 ≤ (1 : Int) → K (0 : Int) (a1) (a2)) ∧ (¬(a3 ≤ (1 : Int)) → spec_l00Src_next.wp l0 a1 a2 fun y103 y104 y105 => (((200 : Int) < a3 → spec_l00Src_next.wp l0 y104 y105 fun y108 y109 y110 => (a3 ≠ 0) ∧ K (Int.tmod (IntKind.i64.wrap ((IntKind.i64.wrap (y103 * (256 : Int))) + y108)) a3) (y109) (y110)) ∧ (¬((200 : Int) < a3) → (a3 ≠ 0) ∧ K (Int.tmod y103 a3) (y104) (y105)))))
end Go.Proofs.YtecdkjnomkdbkaaDoor.G

namespace Go.Proofs.YtecdkjnomkdbkaaDoor.G
open Go Go.Ab
set_option maxRecDepth 100000
set_option linter.unusedVariables false
set_option linter.unusedSimpArgs false
set_option maxHeartbeats 1000000
def spec_R8Integers.wp (l0 : List (Int)) (K : (List (Int)) → Prop) : Prop := spec_l00From.wp l0 fun y101 y102 y103 => ((y101 = true → spec_l00Src_pick.wp l0 y102 y103 (16 : Int) fun y111 y112 y113 => ∀ X130 : List (Int) → Int → Int → Int → Prop, (∀ (out131 : List (Int)) (b133 : Int) (b134 : Int) (n135 : Int), (((0 : Int) < n135 → spec_l00Src_pick.wp l0 b133 b134 (201 : Int) fun y137 y138 y139 => ((out131.length + ([(IntKind.i64.wrap (y137 - (100 : Int)))] : List (Int)).length) * 8 ≤ 2 ^ 40) ∧ X130 (out131 ++ ([(IntKind.i64.wrap (y137 - (100 : Int)))] : List (Int))) (y138) (y139) (IntKind.i64.wrap (n135 - (1 : Int)))) ∧ (¬((0 : Int) < n135) → K (out131))) → X130 out131 b133 b134 n135) → X130 ([] : List (Int)) (y112) (y113) (IntKind.i64.wrap ((1 : Int) + y111))) ∧ (y101 = false → spec_l00Src_pick.wp ([] : List (Int)) y102 y103 (16 : Int) fun y152 y153 y154 => ∀ X171 : List (Int) → List (Int) → Int → Int → Int → Prop, (∀ (out172 : List (Int)) (b175 : List (Int)) (b177 : Int) (b178 : Int) (n179 : Int), (((0 : Int) < n179 → spec_l00Src_pick.wp b175 b177 b178 (201 : Int) fun y181 y182 y183 => ((out172.length + ([(IntKind.i64.wrap (y181 - (100 : Int)))] : List (Int)).length) * 8 ≤ 2 ^ 40) ∧ X171 (out172 ++ ([(IntKind.i64.wrap (y181 - (100 : Int)))] : List (Int))) (b175) (y182) (y183) (IntKind.i64.wrap (n179 - (1 : Int)))) ∧ (¬((0 : Int) < n179) → K (out172))) → X171 out172 b175 b177 b178 n179) → X171 ([] : List (Int)) ([] : List (Int)) (y153) (y154) (IntKind.i64.wrap ((1 : Int) + y152))))
end Go.Proofs.YtecdkjnomkdbkaaDoor.G

namespace Go.Proofs.YtecdkjnomkdbkaaDoor.G
open Go Go.Ab
set_option maxRecDepth 100000
set_option linter.unusedVariables false
set_option linter.unusedSimpArgs false
set_option maxHeartbeats 1000000
def impl_within.wp (a0 : Int) (a1 : Int) (a2 : Int) (K : Bool → Prop) : Prop := ((a1 ≤ a0 → K (decide (a0 ≤ a2))) ∧ (¬(a1 ≤ a0) → K (false)))
end Go.Proofs.YtecdkjnomkdbkaaDoor.G

namespace Go.Proofs.YtecdkjnomkdbkaaDoor.G
open Go Go.Ab
set_option maxRecDepth 100000
set_option linter.unusedVariables false
set_option linter.unusedSimpArgs false
set_option maxHeartbeats 1000000
def impl_areWithin.wp (l0 : List (Int)) (a1 : Int) (K : Bool → Prop) : Prop := ∀ X101 : Int → Prop, (∀ (x102 : Int), ((x102 < (l0.length : Int) → (0 ≤ x102 ∧ x102 < (l0.length : Int)) ∧ impl_within.wp (l0.getD (x102).toNat (0 : Int)) (IntKind.i64.wrap (0 - a1)) a1 fun y105 => ((y105 = true → X101 (IntKind.i64.wrap (x102 + (1 : Int)))) ∧ (y105 = false → K (false)))) ∧ (¬(x102 < (l0.length : Int)) → K (true))) → X101 x102) → X101 (0 : Int)
end Go.Proofs.YtecdkjnomkdbkaaDoor.G

namespace Go.Proofs.YtecdkjnomkdbkaaDoor.G
open Go Go.Ab
set_option maxRecDepth 100000
set_option linter.unusedVariables false
set_option linter.unusedSimpArgs false
set_option maxHeartbeats 1000000
def impl_AreIntegers.wp (l0 : List (Int)) (K : Bool → Prop) : Prop := impl_within.wp (l0.length : Int) (1 : Int) (128 : Int) fun y101 => ((y101 = true → impl_areWithin.wp l0 (1000000 : Int) fun y104 => K (y104)) ∧ (y101 = false → K (false)))
end Go.Proofs.YtecdkjnomkdbkaaDoor.G

namespace Go.Proofs.YtecdkjnomkdbkaaDoor.G
open Go Go.Ab
set_option maxRecDepth 100000
set_option linter.unusedVariables false
set_option linter.unusedSimpArgs false
set_option maxHeartbeats 1000000
def impl_far.wp (a0 : Int) (K : Int → Prop) : Prop := K (mxI a0 (IntKind.i64.wrap (0 - a0)))
end Go.Proofs.YtecdkjnomkdbkaaDoor.G

namespace Go.Proofs.YtecdkjnomkdbkaaDoor.G
open Go Go.Ab
set_option maxRecDepth 100000
set_option linter.unusedVariables false
set_option linter.unusedSimpArgs false
set_option maxHeartbeats 1000000
def math_bits_Len64.wp (a0 : Int) (K : Int → Prop) : Prop := (((4294967296 : Int) ≤ a0 → (((65536 : Int) ≤ (Int.fdiv a0 (2 ^ (min ((32 : Int)).toNat IntKind.u64.bits))) → (((256 : Int) ≤ (Int.fdiv (Int.fdiv a0 (2 ^ (min ((32 : Int)).toNat IntKind.u64.bits))) (2 ^ (min ((16 : Int)).toNat IntKind.u64.bits))) → (0 ≤ (IntKind.u8.wrap (Int.fdiv (Int.fdiv (Int.fdiv a0 (2 ^ (min ((32 : Int)).toNat IntKind.u64.bits))) (2 ^ (min ((16 : Int)).toNat IntKind.u64.bits))) (2 ^ (min ((8 : Int)).toNat IntKind.u64.bits)))) ∧ (IntKind.u8.wrap (Int.fdiv (Int.fdiv (Int.fdiv a0 (2 ^ (min ((32 : Int)).toNat IntKind.u64.bits))) (2 ^ (min ((16 : Int)).toNat IntKind.u64.bits))) (2 ^ (min ((8 : Int)).toNat IntKind.u64.bits)))) < (([0, 1, 2, 2, 3, 3, 3, 3, 4, 4, 4, 4, 4, 4, 4, 4, 5, 5, 5, 5, 5, 5, 5, 5, 5, 5, 5, 5, 5, 5, 5, 5, 6, 6, 6, 6, 6, 6, 6, 6, 6, 6, 6, 6, 6, 6, 6, 6, 6, 6, 6, 6, 6, 6, 6, 6, 6, 6, 6, 6, 6, 6, 6, 6, 7, 7, 7, 7, 7, 7, 7, 7, 7, 7, 7, 7, 7, 7, 7, 7, 7, 7, 7, 7, 7, 7, 7, 7, 7, 7, 7, 7, 7, 7, 7, 7, 7, 7, 7, 7, 7, 7, 7, 7, 7, 7, 7, 7, 7, 7, 7, 7, 7, 7, 7, 7, 7, 7, 7, 7, 7, 7, 7, 7, 7, 7, 7, 7, 8, 8, 8, 8, 8, 8, 8, 8, 8, 8, 8, 8, 8, 8, 8, 8, 8, 8, 8, 8, 8, 8, 8, 8, 8, 8, 8, 8, 8, 8, 8, 8, 8, 8, 8, 8, 8, 8, 8, 8, 8, 8, 8, 8, 8, 8, 8, 8, 8, 8, 8, 8, 8, 8, 8, 8, 8, 8, 8, 8, 8, 8, 8, 8, 8, 8, 8, 8, 8, 8, 8, 8, 8, 8, 8, 8, 8, 8, 8, 8, 8, 8, 8, 8, 8, 8, 8, 8, 8, 8, 8, 8, 8, 8, 8, 8, 8, 8, 8, 8, 8, 8, 8, 8, 8, 8, 8, 8, 8, 8, 8, 8, 8, 8, 8, 8, 8, 8, 8, 8, 8, 8, 8, 8, 8, 8, 8, 8] : List UInt8).length : Int)) ∧ K (IntKind.i64.wrap ((IntKind.i64.wrap ((IntKind.i64.wrap ((32 : Int) + (16 : Int))) + (8 : Int))) + (IntKind.i64.wrap (bt ([0, 1, 2, 2, 3, 3, 3, 3, 4, 4, 4, 4, 4, 4, 4, 4, 5, 5, 5, 5, 5, 5, 5, 5, 5, 5, 5, 5, 5, 5, 5, 5, 6, 6, 6, 6, 6, 6, 6, 6, 6, 6, 6, 6, 6, 6, 6, 6, 6, 6, 6, 6, 6, 6, 6, 6, 6, 6, 6, 6, 6, 6, 6, 6, 7, 7, 7, 7, 7, 7, 7, 7, 7, 7, 7, 7, 7, 7, 7, 7, 7, 7, 7, 7, 7, 7, 7, 7, 7, 7, 7, 7, 7, 7, 7, 7, 7, 7, 7, 7, 7, 7, 7, 7, 7, 7, 7, 7, 7, 7, 7, 7, 7, 7, 7, 7, 7, 7, 7, 7, 7, 7, 7, 7, 7, 7, 7, 7, 8, 8, 8, 8, 8, 8, 8, 8, 8, 8, 8, 8, 8, 8, 8, 8, 8, 8, 8, 8, 8, 8, 8, 8, 8, 8, 8, 8, 8, 8, 8, 8, 8, 8, 8, 8, 8, 8, 8, 8, 8, 8, 8, 8, 8, 8, 8, 8, 8, 8, 8, 8, 8, 8, 8, 8, 8, 8, 8, 8, 8, 8, 8, 8, 8, 8, 8, 8, 8, 8, 8, 8, 8, 8, 8, 8, 8, 8, 8, 8, 8, 8, 8, 8, 8, 8, 8, 8, 8, 8, 8, 8, 8, 8, 8, 8, 8, 8, 8, 8, 8, 8, 8, 8, 8, 8, 8, 8, 8, 8, 8, 8, 8, 8, 8, 8, 8, 8, 8, 8, 8, 8, 8, 8, 8, 8, 8, 8] : List UInt8) (IntKind.u8.wrap (Int.fdiv (Int.fdiv (Int.fdiv a0 (2 ^ (min ((32 : Int)).toNat IntKind.u64.bits))) (2 ^ (min ((16 : Int)).toNat IntKind.u64.bits))) (2 ^ (min ((8 : Int)).toNat IntKind.u64.bits))))))))) ∧ (¬((256 : Int) ≤ (Int.fdiv (Int.fdiv a0 (2 ^ (min ((32 : Int)).toNat IntKind.u64.bits))) (2 ^ (min ((16 : Int)).toNat IntKind.u64.bits)))) → (0 ≤ (IntKind.u8.wrap (Int.fdiv (Int.fdiv a0 (2 ^ (min ((32 : Int)).toNat IntKind.u64.bits))) (2 ^ (min ((16 : Int)).toNat IntKind.u64.bits)))) ∧ (IntKind.u8.wrap (Int.fdiv (Int.fdiv a0 (2 ^ (min ((32 : Int)).toNat IntKind.u64.bits))) (2 ^ (min ((16 : Int)).toNat IntKind.u64.bits)))) < (([0, 1, 2, 2, 3, 3, 3, 3, 4, 4, 4, 4, 4, 4, 4, 4, 5, 5, 5, 5, 5, 5, 5, 5, 5, 5, 5, 5, 5, 5, 5, 5, 6, 6, 6, 6, 6, 6, 6, 6, 6, 6, 6, 6, 6, 6, 6, 6, 6, 6, 6, 6, 6, 6, 6, 6, 6, 6, 6, 6, 6, 6, 6, 6, 7, 7, 7, 7, 7, 7, 7, 7, 7, 7, 7, 7, 7, 7, 7, 7, 7, 7, 7, 7, 7, 7, 7, 7, 7, 7, 7, 7, 7, 7, 7, 7, 7, 7, 7, 7, 7, 7, 7, 7, 7, 7, 7, 7, 7, 7, 7, 7, 7, 7, 7, 7, 7, 7, 7, 7, 7, 7, 7, 7, 7, 7, 7, 7, 8, 8, 8, 8, 8, 8, 8, 8, 8, 8, 8, 8, 8, 8, 8, 8, 8, 8, 8, 8, 8, 8, 8, 8, 8, 8, 8, 8, 8, 8, 8, 8, 8, 8, 8, 8, 8, 8, 8, 8, 8, 8, 8, 8, 8, 8, 8, 8, 8, 8, 8, 8, 8, 8, 8, 8, 8, 8, 8, 8, 8, 8, 8, 8, 8, 8, 8, 8, 8, 8, 8, 8, 8, 8, 8, 8, 8, 8, 8, 8, 8, 8, 8, 8, 8, 8, 8, 8, 8, 8, 8, 8, 8, 8, 8, 8, 8, 8, 8, 8, 8, 8, 8, 8, 8, 8, 8, 8, 8, 8, 8, 8, 8, 8, 8, 8, 8, 8, 8, 8, 8, 8, 8, 8, 8, 8, 8, 8] : List UInt8).length : Int)) ∧ K (IntKind.i64.wrap ((IntKind.i64.wrap ((32 : Int) + (16 : Int))) + (IntKind.i64.wrap (bt ([0, 1, 2, 2, 3, 3, 3, 3, 4, 4, 4, 4, 4, 4, 4, 4, 5, 5, 5, 5, 5, 5, 5, 5, 5, 5, 5, 5, 5, 5, 5, 5, 6, 6, 6, 6, 6, 6, 6, 6, 6, 6, 6, 6, 6, 6, 6, 6, 6, 6, 6, 6, 6, 6, 6, 6, 6, 6, 6, 6, 6, 6, 6, 6, 7, 7, 7, 7, 7, 7, 7, 7, 7, 7, 7, 7, 7, 7, 7, 7, 7, 7, 7, 7, 7, 7, 7, 7, 7, 7, 7, 7, 7, 7, 7, 7, 7, 7, 7, 7, 7, 7, 7, 7, 7, 7, 7, 7, 7, 7, 7, 7, 7, 7, 7, 7, 7, 7, 7, 7, 7, 7, 7, 7, 7, 7, 7, 7, 8, 8, 8, 8, 8, 8, 8, 8, 8, 8, 8, 8, 8, 8, 8, 8, 8, 8, 8, 8, 8, 8, 8, 8, 8, 8, 8, 8, 8, 8, 8, 8, 8, 8, 8, 8, 8, 8, 8, 8, 8, 8, 8, 8, 8, 8, 8, 8, 8, 8, 8, 8, 8, 8, 8, 8, 8, 8, 8, 8, 8, 8, 8, 8, 8, 8, 8, 8, 8, 8, 8, 8, 8, 8, 8, 8, 8, 8, 8, 8, 8, 8, 8, 8, 8, 8, 8, 8, 8, 8, 8, 8, 8, 8, 8, 8, 8, 8, 8, 8, 8, 8, 8, 8, 8, 8, 8, 8, 8, 8, 8, 8, 8, 8, 8, 8, 8, 8, 8, 8, 8, 8, 8, 8, 8, 8, 8, 8] : List UInt8) (IntKind.u8.wrap (Int.fdiv (Int.fdiv a0 (2 ^ (min ((32 : Int)).toNat IntKind.u64.bits))) (2 ^ (min ((16 : Int)).toNat IntKind.u64.bits))))))))))) ∧ (¬((65536 : Int) ≤ (Int.fdiv a0 (2 ^ (min ((32 : Int)).toNat IntKind.u64.bits)))) → (((256 : Int) ≤ (Int.fdiv a0 (2 ^ (min ((32 : Int)).toNat IntKind.u64.bits))) → (0 ≤ (IntKind.u8.wrap (Int.fdiv (Int.fdiv a0 (2 ^ (min ((32 : Int)).toNat IntKind.u64.bits))) (2 ^ (min ((8 : Int)).toNat IntKind.u64.bits)))) ∧ (IntKind.u8.wrap (Int.fdiv (Int.fdiv a0 (2 ^ (min ((32 : Int)).toNat IntKind.u64.bits))) (2 ^ (min ((8 : Int)).toNat IntKind.u64.bits)))) < (([0, 1, 2, 2, 3, 3, 3, 3, 4, 4, 4, 4, 4, 4, 4, 4, 5, 5, 5, 5, 5, 5, 5, 5, 5, 5, 5, 5, 5, 5, 5, 5, 6, 6, 6, 6, 6, 6, 6, 6, 6, 6, 6, 6, 6, 6, 6, 6, 6, 6, 6, 6, 6, 6, 6, 6, 6, 6, 6, 6, 6, 6, 6, 6, 7, 7, 7, 7, 7, 7, 7, 7, 7, 7, 7, 7, 7, 7, 7, 7, 7, 7, 7, 7, 7, 7, 7, 7, 7, 7, 7, 7, 7, 7, 7, 7, 7, 7, 7, 7, 7, 7, 7, 7, 7, 7, 7, 7, 7, 7, 7, 7, 7, 7, 7, 7, 7, 7, 7, 7, 7, 7, 7, 7, 7, 7, 7, 7, 8, 8, 8, 8, 8, 8, 8, 8, 8, 8, 8, 8, 8, 8, 8, 8, 8, 8, 8, 8, 8, 8, 8, 8, 8, 8, 8, 8, 8, 8, 8, 8, 8, 8, 8, 8, 8, 8, 8, 8, 8, 8, 8, 8, 8, 8, 8, 8, 8, 8, 8, 8, 8, 8, 8, 8, 8, 8, 8, 8, 8, 8, 8, 8, 8, 8, 8, 8, 8, 8, 8, 8, 8, 8, 8, 8, 8, 8, 8, 8, 8, 8, 8, 8, 8, 8, 8, 8, 8, 8, 8, 8, 8, 8, 8, 8, 8, 8, 8, 8, 8, 8, 8, 8, 8, 8, 8, 8, 8, 8, 8, 8, 8, 8, 8, 8, 8, 8, 8, 8, 8, 8, 8, 8, 8, 8, 8, 8] : List UInt8).length : Int)) ∧ K (IntKind.i64.wrap ((IntKind.i64.wrap ((32 : Int) + (8 : Int))) + (IntKind.i64.wrap (bt ([0, 1, 2, 2, 3, 3, 3, 3, 4, 4, 4, 4, 4, 4, 4, 4, 5, 5, 5, 5, 5, 5, 5, 5, 5, 5, 5, 5, 5, 5, 5, 5, 6, 6, 6, 6, 6, 6, 6, 6, 6, 6, 6, 6, 6, 6, 6, 6, 6, 6, 6, 6, 6, 6, 6, 6, 6, 6, 6, 6, 6, 6, 6, 6, 7, 7, 7, 7, 7, 7, 7, 7, 7, 7, 7, 7, 7, 7, 7, 7, 7, 7, 7, 7, 7, 7, 7, 7, 7, 7, 7, 7, 7, 7, 7, 7, 7, 7, 7, 7, 7, 7, 7, 7, 7, 7, 7, 7, 7, 7, 7, 7, 7, 7, 7, 7, 7, 7, 7, 7, 7, 7, 7, 7, 7, 7, 7, 7, 8, 8, 8, 8, 8, 8, 8, 8, 8, 8, 8, 8, 8, 8, 8, 8, 8, 8, 8, 8, 8, 8, 8, 8, 8, 8, 8, 8, 8, 8, 8, 8, 8, 8, 8, 8, 8, 8, 8, 8, 8, 8, 8, 8, 8, 8, 8, 8, 8, 8, 8, 8, 8, 8, 8, 8, 8, 8, 8, 8, 8, 8, 8, 8, 8, 8, 8, 8, 8, 8, 8, 8, 8, 8, 8, 8, 8, 8, 8, 8, 8, 8, 8, 8, 8, 8, 8, 8, 8, 8, 8, 8, 8, 8, 8, 8, 8, 8, 8, 8, 8, 8, 8, 8, 8, 8, 8, 8, 8, 8, 8, 8, 8, 8, 8, 8, 8, 8, 8, 8, 8, 8, 8, 8, 8, 8, 8, 8] : List UInt8) (IntKind.u8.wrap (Int.fdiv (Int.fdiv a0 (2 ^ (min ((32 : Int)).toNat IntKind.u64.bits))) (2 ^ (min ((8 : Int)).toNat IntKind.u64.bits))))))))) ∧ (¬((256 : Int) ≤ (Int.fdiv a0 (2 ^ (min ((32 : Int)).toNat IntKind.u64.bits)))) → (0 ≤ (IntKind.u8.wrap (Int.fdiv a0 (2 ^ (min ((32 : Int)).toNat IntKind.u64.bits)))) ∧ (IntKind.u8.wrap (Int.fdiv a0 (2 ^ (min ((32 : Int)).toNat IntKind.u64.bits)))) < (([0, 1, 2, 2, 3, 3, 3, 3, 4, 4, 4, 4, 4, 4, 4, 4, 5, 5, 5, 5, 5, 5, 5, 5, 5, 5, 5, 5, 5, 5, 5, 5, 6, 6, 6, 6, 6, 6, 6, 6, 6, 6, 6, 6, 6, 6, 6, 6, 6, 6, 6, 6, 6, 6, 6, 6, 6, 6, 6, 6, 6, 6, 6, 6, 7, 7, 7, 7, 7, 7, 7, 7, 7, 7, 7, 7, 7, 7, 7, 7, 7, 7, 7, 7, 7, 7, 7, 7, 7, 7, 7, 7, 7, 7, 7, 7, 7, 7, 7, 7, 7, 7, 7, 7, 7, 7, 7, 7, 7, 7, 7, 7, 7, 7, 7, 7, 7, 7, 7, 7, 7, 7, 7, 7, 7, 7, 7, 7, 8, 8, 8, 8, 8, 8, 8, 8, 8, 8, 8, 8, 8, 8, 8, 8, 8, 8, 8, 8, 8, 8, 8, 8, 8, 8, 8, 8, 8, 8, 8, 8, 8, 8, 8, 8, 8, 8, 8, 8, 8, 8, 8, 8, 8, 8, 8, 8, 8, 8, 8, 8, 8, 8, 8, 8, 8, 8, 8, 8, 8, 8, 8, 8, 8, 8, 8, 8, 8, 8, 8, 8, 8, 8, 8, 8, 8, 8, 8, 8, 8, 8, 8, 8, 8, 8, 8, 8, 8, 8, 8, 8, 8, 8, 8, 8, 8, 8, 8, 8, 8, 8, 8, 8, 8, 8, 8, 8, 8, 8, 8, 8, 8, 8, 8, 8, 8, 8, 8, 8, 8, 8, 8, 8, 8, 8, 8, 8] : List UInt8).length : Int)) ∧ K (IntKind.i64.wrap ((32 : Int) + (IntKind.i64.wrap (bt ([0, 1, 2, 2, 3, 3, 3, 3, 4, 4, 4, 4, 4, 4, 4, 4, 5, 5, 5, 5, 5, 5, 5, 5, 5, 5, 5, 5, 5, 5, 5, 5, 6, 6, 6, 6, 6, 6, 6, 6, 6, 6, 6, 6, 6, 6, 6, 6, 6, 6, 6, 6, 6, 6, 6, 6, 6, 6, 6, 6, 6, 6, 6, 6, 7, 7, 7, 7, 7, 7, 7, 7, 7, 7, 7, 7, 7, 7, 7, 7, 7, 7, 7, 7, 7, 7, 7, 7, 7, 7, 7, 7, 7, 7, 7, 7, 7, 7, 7, 7, 7, 7, 7, 7, 7, 7, 7, 7, 7, 7, 7, 7, 7, 7, 7, 7, 7, 7, 7, 7, 7, 7, 7, 7, 7, 7, 7, 7, 8, 8, 8, 8, 8, 8, 8, 8, 8, 8, 8, 8, 8, 8, 8, 8, 8, 8, 8, 8, 8, 8, 8, 8, 8, 8, 8, 8, 8, 8, 8, 8, 8, 8, 8, 8, 8, 8, 8, 8, 8, 8, 8, 8, 8, 8, 8, 8, 8, 8, 8, 8, 8, 8, 8, 8, 8, 8, 8, 8, 8, 8, 8, 8, 8, 8, 8, 8, 8, 8, 8, 8, 8, 8, 8, 8, 8, 8, 8, 8, 8, 8, 8, 8, 8, 8, 8, 8, 8, 8, 8, 8, 8, 8, 8, 8, 8, 8, 8, 8, 8, 8, 8, 8, 8, 8, 8, 8, 8, 8, 8, 8, 8, 8, 8, 8, 8, 8, 8, 8, 8, 8, 8, 8, 8, 8, 8, 8] : List UInt8) (IntKind.u8.wrap (Int.fdiv a0 (2 ^ (min ((32 : Int)).toNat IntKind.u64.bits))))))))))))) ∧ (¬((4294967296 : Int) ≤ a0) → (((65536 : Int) ≤ a0 → (((256 : Int) ≤ (Int.fdiv a0 (2 ^ (min ((16 : Int)).toNat IntKind.u64.bits))) → (0 ≤ (IntKind.u8.wrap (Int.fdiv (Int.fdiv a0 (2 ^ (min ((16 : Int)).toNat IntKind.u64.bits))) (2 ^ (min ((8 : Int)).toNat IntKind.u64.bits)))) ∧ (IntKind.u8.wrap (Int.fdiv (Int.fdiv a0 (2 ^ (min ((16 : Int)).toNat IntKind.u64.bits))) (2 ^ (min ((8 : Int)).toNat IntKind.u64.bits)))) < (([0, 1, 2, 2, 3, 3, 3, 3, 4, 4, 4, 4, 4, 4, 4, 4, 5, 5, 5, 5, 5, 5, 5, 5, 5, 5, 5, 5, 5, 5, 5, 5, 6, 6, 6, 6, 6, 6, 6, 6, 6, 6, 6, 6, 6, 6, 6, 6, 6, 6, 6, 6, 6, 6, 6, 6, 6, 6, 6, 6, 6, 6, 6, 6, 7, 7, 7, 7, 7, 7, 7, 7, 7, 7, 7, 7, 7, 7, 7, 7, 7, 7, 7, 7, 7, 7, 7, 7, 7, 7, 7, 7, 7, 7, 7, 7, 7, 7, 7, 7, 7, 7, 7, 7, 7, 7, 7, 7, 7, 7, 7, 7, 7, 7, 7, 7, 7, 7, 7, 7, 7, 7, 7, 7, 7, 7, 7, 7, 8, 8, 8, 8, 8, 8, 8, 8, 8, 8, 8, 8, 8, 8, 8, 8, 8, 8, 8, 8, 8, 8, 8, 8, 8, 8, 8, 8, 8, 8, 8, 8, 8, 8, 8, 8, 8, 8, 8, 8, 8, 8, 8, 8, 8, 8, 8, 8, 8, 8, 8, 8, 8, 8, 8, 8, 8, 8, 8, 8, 8, 8, 8, 8, 8, 8, 8, 8, 8, 8, 8, 8, 8, 8, 8, 8, 8, 8, 8, 8, 8, 8, 8, 8, 8, 8, 8, 8, 8, 8, 8, 8, 8, 8, 8, 8, 8, 8, 8, 8, 8, 8, 8, 8, 8, 8, 8, 8, 8, 8, 8, 8, 8, 8, 8, 8, 8, 8, 8, 8, 8, 8, 8, 8, 8, 8, 8, 8] : List UInt8).length : Int)) ∧ K (IntKind.i64.wrap ((IntKind.i64.wrap ((IntKind.i64.wrap ((0 : Int) + (16 : Int))) + (8 : Int))) + (IntKind.i64.wrap (bt ([0, 1, 2, 2, 3, 3, 3, 3, 4, 4, 4, 4, 4, 4, 4, 4, 5, 5, 5, 5, 5, 5, 5, 5, 5, 5, 5, 5, 5, 5, 5, 5, 6, 6, 6, 6, 6, 6, 6, 6, 6, 6, 6, 6, 6, 6, 6, 6, 6, 6, 6, 6, 6, 6, 6, 6, 6, 6, 6, 6, 6, 6, 6, 6, 7, 7, 7, 7, 7, 7, 7, 7, 7, 7, 7, 7, 7, 7, 7, 7, 7, 7, 7, 7, 7, 7, 7, 7, 7, 7, 7, 7, 7, 7, 7, 7, 7, 7, 7, 7, 7, 7, 7, 7, 7, 7, 7, 7, 7, 7, 7, 7, 7, 7, 7, 7, 7, 7, 7, 7, 7, 7, 7, 7, 7, 7, 7, 7, 8, 8, 8, 8, 8, 8, 8, 8, 8, 8, 8, 8, 8, 8, 8, 8, 8, 8, 8, 8, 8, 8, 8, 8, 8, 8, 8, 8, 8, 8, 8, 8, 8, 8, 8, 8, 8, 8, 8, 8, 8, 8, 8, 8, 8, 8, 8, 8, 8, 8, 8, 8, 8, 8, 8, 8, 8, 8, 8, 8, 8, 8, 8, 8, 8, 8, 8, 8, 8, 8, 8, 8, 8, 8, 8, 8, 8, 8, 8, 8, 8, 8, 8, 8, 8, 8, 8, 8, 8, 8, 8, 8, 8, 8, 8, 8, 8, 8, 8, 8, 8, 8, 8, 8, 8, 8, 8, 8, 8, 8, 8, 8, 8, 8, 8, 8, 8, 8, 8, 8, 8, 8, 8, 8, 8, 8, 8, 8] : List UInt8) (IntKind.u8.wrap (Int.fdiv (Int.fdiv a0 (2 ^ (min ((16 : Int)).toNat IntKind.u64.bits))) (2 ^ (min ((8 : Int)).toNat IntKind.u64.bits))))))))) ∧ (¬((256 : Int) ≤ (Int.fdiv a0 (2 ^ (min ((16 : Int)).toNat IntKind.u64.bits)))) → (0 ≤ (IntKind.u8.wrap (Int.fdiv a0 (2 ^ (min ((16 : Int)).toNat IntKind.u64.bits)))) ∧ (IntKind.u8.wrap (Int.fdiv a0 (2 ^ (min ((16 : Int)).toNat IntKind.u64.bits)))) < (([0, 1, 2, 2, 3, 3, 3, 3, 4, 4, 4, 4, 4, 4, 4, 4, 5, 5, 5, 5, 5, 5, 5, 5, 5, 5, 5, 5, 5, 5, 5, 5, 6, 6, 6, 6, 6, 6, 6, 6, 6, 6, 6, 6, 6, 6, 6, 6, 6, 6, 6, 6, 6, 6, 6, 6, 6, 6, 6, 6, 6, 6, 6, 6, 7, 7, 7, 7, 7, 7, 7, 7, 7, 7, 7, 7, 7, 7, 7, 7, 7, 7, 7, 7, 7, 7, 7, 7, 7, 7, 7, 7, 7, 7, 7, 7, 7, 7, 7, 7, 7, 7, 7, 7, 7, 7, 7, 7, 7, 7, 7, 7, 7, 7, 7, 7, 7, 7, 7, 7, 7, 7, 7, 7, 7, 7, 7, 7, 8, 8, 8, 8, 8, 8, 8, 8, 8, 8, 8, 8, 8, 8, 8, 8, 8, 8, 8, 8, 8, 8, 8, 8, 8, 8, 8, 8, 8, 8, 8, 8, 8, 8, 8, 8, 8, 8, 8, 8, 8, 8, 8, 8, 8, 8, 8, 8, 8, 8, 8, 8, 8, 8, 8, 8, 8, 8, 8, 8, 8, 8, 8, 8, 8, 8, 8, 8, 8, 8, 8, 8, 8, 8, 8, 8, 8, 8, 8, 8, 8, 8, 8, 8, 8, 8, 8, 8, 8, 8, 8, 8, 8, 8, 8, 8, 8, 8, 8, 8, 8, 8, 8, 8, 8, 8, 8, 8, 8, 8, 8, 8, 8, 8, 8, 8, 8, 8, 8, 8, 8, 8, 8, 8, 8, 8, 8, 8] : List UInt8).length : Int)) ∧ K (IntKind.i64.wrap ((IntKind.i64.wrap ((0 : Int) + (16 : Int))) + (IntKind.i64.wrap (bt ([0, 1, 2, 2, 3, 3, 3, 3, 4, 4, 4, 4, 4, 4, 4, 4, 5, 5, 5, 5, 5, 5, 5, 5, 5, 5, 5, 5, 5, 5, 5, 5, 6, 6, 6, 6, 6, 6, 6, 6, 6, 6, 6, 6, 6, 6, 6, 6, 6, 6, 6, 6, 6, 6, 6, 6, 6, 6, 6, 6, 6, 6, 6, 6, 7, 7, 7, 7, 7, 7, 7, 7, 7, 7, 7, 7, 7, 7, 7, 7, 7, 7, 7, 7, 7, 7, 7, 7, 7, 7, 7, 7, 7, 7, 7, 7, 7, 7, 7, 7, 7, 7, 7, 7, 7, 7, 7, 7, 7, 7, 7, 7, 7, 7, 7, 7, 7, 7, 7, 7, 7, 7, 7, 7, 7, 7, 7, 7, 8, 8, 8, 8, 8, 8, 8, 8, 8, 8, 8, 8, 8, 8, 8, 8, 8, 8, 8, 8, 8, 8, 8, 8, 8, 8, 8, 8, 8, 8, 8, 8, 8, 8, 8, 8, 8, 8, 8, 8, 8, 8, 8, 8, 8, 8, 8, 8, 8, 8, 8, 8, 8, 8, 8, 8, 8, 8, 8, 8, 8, 8, 8, 8, 8, 8, 8, 8, 8, 8, 8, 8, 8, 8, 8, 8, 8, 8, 8, 8, 8, 8, 8, 8, 8, 8, 8, 8, 8, 8, 8, 8, 8, 8, 8, 8, 8, 8, 8, 8, 8, 8, 8, 8, 8, 8, 8, 8, 8, 8, 8, 8, 8, 8, 8, 8, 8, 8, 8, 8, 8, 8, 8, 8, 8, 8, 8, 8] : List UInt8) (IntKind.u8.wrap (Int.fdiv a0 (2 ^ (min ((16 : Int)).toNat IntKind.u64.bits))))))))))) ∧ (¬((65536 : Int) ≤ a0) → (((256 : Int) ≤ a0 → (0 ≤ (IntKind.u8.wrap (Int.fdiv a0 (2 ^ (min ((8 : Int)).toNat IntKind.u64.bits)))) ∧ (IntKind.u8.wrap (Int.fdiv a0 (2 ^ (min ((8 : Int)).toNat IntKind.u64.bits)))) < (([0, 1, 2, 2, 3, 3, 3, 3, 4, 4, 4, 4, 4, 4, 4, 4, 5, 5, 5, 5, 5, 5, 5, 5, 5, 5, 5, 5, 5, 5, 5, 5, 6, 6, 6, 6, 6, 6, 6, 6, 6, 6, 6, 6, 6, 6, 6, 6, 6, 6, 6, 6, 6, 6, 6, 6, 6, 6, 6, 6, 6, 6, 6, 6, 7, 7, 7, 7, 7, 7, 7, 7, 7, 7, 7, 7, 7, 7, 7, 7, 7, 7, 7, 7, 7, 7, 7, 7, 7, 7, 7, 7, 7, 7, 7, 7, 7, 7, 7, 7, 7, 7, 7, 7, 7, 7, 7, 7, 7, 7, 7, 7, 7, 7, 7, 7, 7, 7, 7, 7, 7, 7, 7, 7, 7, 7, 7, 7, 8, 8, 8, 8, 8, 8, 8, 8, 8, 8, 8, 8, 8, 8, 8, 8, 8, 8, 8, 8, 8, 8, 8, 8, 8, 8, 8, 8, 8, 8, 8, 8, 8, 8, 8, 8, 8, 8, 8, 8, 8, 8, 8, 8, 8, 8, 8, 8, 8, 8, 8, 8, 8, 8, 8, 8, 8, 8, 8, 8, 8, 8, 8, 8, 8, 8, 8, 8, 8, 8, 8, 8, 8, 8, 8, 8, 8, 8, 8, 8, 8, 8, 8, 8, 8, 8, 8, 8, 8, 8, 8, 8, 8, 8, 8, 8, 8, 8, 8, 8, 8, 8, 8, 8, 8, 8, 8, 8, 8, 8, 8, 8, 8, 8, 8, 8, 8, 8, 8, 8, 8, 8, 8, 8, 8, 8, 8, 8] : List UInt8).length : Int)) ∧ K (IntKind.i64.wrap ((IntKind.i64.wrap ((0 : Int) + (8 : Int))) + (IntKind.i64.wrap (bt ([0, 1, 2, 2, 3, 3, 3, 3, 4, 4, 4, 4, 4, 4, 4, 4, 5, 5, 5, 5, 5, 5, 5, 5, 5, 5, 5, 5, 5, 5, 5, 5, 6, 6, 6, 6, 6, 6, 6, 6, 6, 6, 6, 6, 6, 6, 6, 6, 6, 6, 6, 6, 6, 6, 6, 6, 6, 6, 6, 6, 6, 6, 6, 6, 7, 7, 7, 7, 7, 7, 7, 7, 7, 7, 7, 7, 7, 7, 7, 7, 7, 7, 7, 7, 7, 7, 7, 7, 7, 7, 7, 7, 7, 7, 7, 7, 7, 7, 7, 7, 7, 7, 7, 7, 7, 7, 7, 7, 7, 7, 7, 7, 7, 7, 7, 7, 7, 7, 7, 7, 7, 7, 7, 7, 7, 7, 7, 7, 8, 8, 8, 8, 8, 8, 8, 8, 8, 8, 8, 8, 8, 8, 8, 8, 8, 8, 8, 8, 8, 8, 8, 8, 8, 8, 8, 8, 8, 8, 8, 8, 8, 8, 8, 8, 8, 8, 8, 8, 8, 8, 8, 8, 8, 8, 8, 8, 8, 8, 8, 8, 8, 8, 8, 8, 8, 8, 8, 8, 8, 8, 8, 8, 8, 8, 8, 8, 8, 8, 8, 8, 8, 8, 8, 8, 8, 8, 8, 8, 8, 8, 8, 8, 8, 8, 8, 8, 8, 8, 8, 8, 8, 8, 8, 8, 8, 8, 8, 8, 8, 8, 8, 8, 8, 8, 8, 8, 8, 8, 8, 8, 8, 8, 8, 8, 8, 8, 8, 8, 8, 8, 8, 8, 8, 8, 8, 8] : List UInt8) (IntKind.u8.wrap (Int.fdiv a0 (2 ^ (min ((8 : Int)).toNat IntKind.u64.bits))))))))) ∧ (¬((256 : Int) ≤ a0) → (0 ≤ (IntKind.u8.wrap a0) ∧ (IntKind.u8.wrap a0) < (([0, 1, 2, 2, 3, 3, 3, 3, 4, 4, 4, 4, 4, 4, 4, 4, 5, 5, 5, 5, 5, 5, 5, 5, 5, 5, 5, 5, 5, 5, 5, 5, 6, 6, 6, 6, 6, 6, 6, 6, 6, 6, 6, 6, 6, 6, 6, 6, 6, 6, 6, 6, 6, 6, 6, 6, 6, 6, 6, 6, 6, 6, 6, 6, 7, 7, 7, 7, 7, 7, 7, 7, 7, 7, 7, 7, 7, 7, 7, 7, 7, 7, 7, 7, 7, 7, 7, 7, 7, 7, 7, 7, 7, 7, 7, 7, 7, 7, 7, 7, 7, 7, 7, 7, 7, 7, 7, 7, 7, 7, 7, 7, 7, 7, 7, 7, 7, 7, 7, 7, 7, 7, 7, 7, 7, 7, 7, 7, 8, 8, 8, 8, 8, 8, 8, 8, 8, 8, 8, 8, 8, 8, 8, 8, 8, 8, 8, 8, 8, 8, 8, 8, 8, 8, 8, 8, 8, 8, 8, 8, 8, 8, 8, 8, 8, 8, 8, 8, 8, 8, 8, 8, 8, 8, 8, 8, 8, 8, 8, 8, 8, 8, 8, 8, 8, 8, 8, 8, 8, 8, 8, 8, 8, 8, 8, 8, 8, 8, 8, 8, 8, 8, 8, 8, 8, 8, 8, 8, 8, 8, 8, 8, 8, 8, 8, 8, 8, 8, 8, 8, 8, 8, 8, 8, 8, 8, 8, 8, 8, 8, 8, 8, 8, 8, 8, 8, 8, 8, 8, 8, 8, 8, 8, 8, 8, 8, 8, 8, 8, 8, 8, 8, 8, 8, 8, 8] : List UInt8).length : Int)) ∧ K (IntKind.i64.wrap ((0 : Int) + (IntKind.i64.wrap (bt ([0, 1, 2, 2, 3, 3, 3, 3, 4, 4, 4, 4, 4, 4, 4, 4, 5, 5, 5, 5, 5, 5, 5, 5, 5, 5, 5, 5, 5, 5, 5, 5, 6, 6, 6, 6, 6, 6, 6, 6, 6, 6, 6, 6, 6, 6, 6, 6, 6, 6, 6, 6, 6, 6, 6, 6, 6, 6, 6, 6, 6, 6, 6, 6, 7, 7, 7, 7, 7, 7, 7, 7, 7, 7, 7, 7, 7, 7, 7, 7, 7, 7, 7, 7, 7, 7, 7, 7, 7, 7, 7, 7, 7, 7, 7, 7, 7, 7, 7, 7, 7, 7, 7, 7, 7, 7, 7, 7, 7, 7, 7, 7, 7, 7, 7, 7, 7, 7, 7, 7, 7, 7, 7, 7, 7, 7, 7, 7, 8, 8, 8, 8, 8, 8, 8, 8, 8, 8, 8, 8, 8, 8, 8, 8, 8, 8, 8, 8, 8, 8, 8, 8, 8, 8, 8, 8, 8, 8, 8, 8, 8, 8, 8, 8, 8, 8, 8, 8, 8, 8, 8, 8, 8, 8, 8, 8, 8, 8, 8, 8, 8, 8, 8, 8, 8, 8, 8, 8, 8, 8, 8, 8, 8, 8, 8, 8, 8, 8, 8, 8, 8, 8, 8, 8, 8, 8, 8, 8, 8, 8, 8, 8, 8, 8, 8, 8, 8, 8, 8, 8, 8, 8, 8, 8, 8, 8, 8, 8, 8, 8, 8, 8, 8, 8, 8, 8, 8, 8, 8, 8, 8, 8, 8, 8, 8, 8, 8, 8, 8, 8, 8, 8, 8, 8, 8, 8] : List UInt8) (IntKind.u8.wrap a0)))))))))))
end Go.Proofs.YtecdkjnomkdbkaaDoor.G

namespace Go.Proofs.YtecdkjnomkdbkaaDoor.G
open Go Go.Ab
set_option maxRecDepth 100000
set_option linter.unusedVariables false
set_option linter.unusedSimpArgs false
set_option maxHeartbeats 1000000
def impl_planesFor.wp (l0 : List (Int)) (K : Int → Prop) : Prop := ∀ X101 : Int → Int → Prop, (∀ (most102 : Int) (x103 : Int), ((x103 < (l0.length : Int) → (0 ≤ x103 ∧ x103 < (l0.length : Int)) ∧ impl_far.wp (l0.getD (x103).toNat (0 : Int)) fun y106 => X101 (mxI most102 y106) (IntKind.i64.wrap (x103 + (1 : Int)))) ∧ (¬(x103 < (l0.length : Int)) → math_bits_Len64.wp (IntKind.u64.wrap most102) fun y108 => K (y108))) → X101 most102 x103) → X101 (0 : Int) (0 : Int)
end Go.Proofs.YtecdkjnomkdbkaaDoor.G

namespace Go.Proofs.YtecdkjnomkdbkaaDoor.G
open Go Go.Ab
set_option maxRecDepth 100000
set_option linter.unusedVariables false
set_option linter.unusedSimpArgs false
set_option maxHeartbeats 1000000
def impl_digit.wp (a0 : Int) (a1 : Int) (K : Bool → Prop) : Prop := impl_far.wp a0 fun y101 => (0 ≤ a1) ∧ K (decide ((ibits .and .i64 (Int.fdiv y101 (2 ^ (min (a1).toNat IntKind.i64.bits))) (1 : Int)) = (1 : Int)))
end Go.Proofs.YtecdkjnomkdbkaaDoor.G

namespace Go.Proofs.YtecdkjnomkdbkaaDoor.G
open Go Go.Ab
set_option maxRecDepth 100000
set_option linter.unusedVariables false
set_option linter.unusedSimpArgs false
set_option maxHeartbeats 1000000
def impl_codeUntil.wp (l0 : List (Int)) (a1 : Int) (a2 : Int) (K : (List (Bool)) → Prop) : Prop := ∀ X161 : List (Bool) → Int → Prop, (∀ (out162 : List (Bool)) (plane164 : Int), ((a2 ≤ plane164 → ∀ X191 : List (Bool) → Int → Prop, (∀ (out192 : List (Bool)) (x194 : Int), ((x194 < (l0.length : Int) → (0 ≤ x194 ∧ x194 < (l0.length : Int)) ∧ impl_digit.wp (l0.getD (x194).toNat (0 : Int)) plane164 fun y197 => ((out192.length + ([y197] : List (Bool)).length) * 1 ≤ 2 ^ 40) ∧ ((y197 = true → impl_far.wp (l0.getD (x194).toNat (0 : Int)) fun y206 => (0 ≤ (IntKind.i64.wrap (plane164 + (1 : Int)))) ∧ (((Int.fdiv y206 (2 ^ (min ((IntKind.i64.wrap (plane164 + (1 : Int)))).toNat IntKind.i64.bits))) = (0 : Int) → (((out192 ++ ([y197] : List (Bool))).length + ([(decide ((l0.getD (x194).toNat (0 : Int)) < (0 : Int)))] : List (Bool)).length) * 1 ≤ 2 ^ 40) ∧ X191 ((out192 ++ ([y197] : List (Bool))) ++ ([(decide ((l0.getD (x194).toNat (0 : Int)) < (0 : Int)))] : List (Bool))) (IntKind.i64.wrap (x194 + (1 : Int)))) ∧ (¬((Int.fdiv y206 (2 ^ (min ((IntKind.i64.wrap (plane164 + (1 : Int)))).toNat IntKind.i64.bits))) = (0 : Int)) → X191 (out192 ++ ([y197] : List (Bool))) (IntKind.i64.wrap (x194 + (1 : Int)))))) ∧ (y197 = false → X191 (out192 ++ ([y197] : List (Bool))) (IntKind.i64.wrap (x194 + (1 : Int)))))) ∧ (¬(x194 < (l0.length : Int)) → X161 (out192) (IntKind.i64.wrap (plane164 - (1 : Int))))) → X191 out192 x194) → X191 (out162) (0 : Int)) ∧ (¬(a2 ≤ plane164) → K (out162))) → X161 out162 plane164) → X161 ([] : List (Bool)) (IntKind.i64.wrap (a1 - (1 : Int)))
end Go.Proofs.YtecdkjnomkdbkaaDoor.G

namespace Go.Proofs.YtecdkjnomkdbkaaDoor.G
open Go Go.Ab
set_option maxRecDepth 100000
set_option linter.unusedVariables false
set_option linter.unusedSimpArgs false
set_option maxHeartbeats 1000000
def impl_CodeList.wp (l0 : List (Int)) (K : Int → Int → (List (Bool)) → Bool → Prop) : Prop := impl_AreIntegers.wp l0 fun y104 => ((y104 = true → impl_planesFor.wp l0 fun y107 => impl_codeUntil.wp l0 y107 (0 : Int) fun y109 => K (l0.length : Int) (y107) (y109) (true)) ∧ (y104 = false → K (0 : Int) (0 : Int) ([] : List (Bool)) (false)))
end Go.Proofs.YtecdkjnomkdbkaaDoor.G

namespace Go.Proofs.YtecdkjnomkdbkaaDoor.G
open Go Go.Ab
set_option maxRecDepth 100000
set_option linter.unusedVariables false
set_option linter.unusedSimpArgs false
set_option maxHeartbeats 1000000
def impl_ValidCoded.wp (a0 : Int) (a1 : Int) (l2 : List (Bool)) (K : Bool → Prop) : Prop := impl_within.wp a0 (1 : Int) (128 : Int) fun y104 => ((y104 = true → impl_within.wp a1 (0 : Int) (24 : Int) fun y107 => ((y107 = true → K (decide ((l2.length : Int) ≤ (32768 : Int)))) ∧ (y107 = false → K (false)))) ∧ (y104 = false → K (false)))
end Go.Proofs.YtecdkjnomkdbkaaDoor.G

namespace Go.Proofs.YtecdkjnomkdbkaaDoor.G
open Go Go.Ab
set_option maxRecDepth 100000
set_option linter.unusedVariables false
set_option linter.unusedSimpArgs false
set_option maxHeartbeats 1000000
def impl_ListFrom.wp (a0 : Int) (a1 : Int) (l2 : List (Bool)) (K : (List (Int)) → Bool → Prop) : Prop := impl_ValidCoded.wp a0 a1 l2 fun y104 => ((y104 = true → (0 ≤ a0 ∧ a0 ≤ a0 ∧ a0 ≤ 2 ^ 40 ∧ a0 * 8 ≤ 2 ^ 40) ∧ ∀ X205 : List (Int) → List (Int) → Int → Int → Prop, (∀ (signs206 : List (Int)) (sizes207 : List (Int)) (atq208 : Int) (plane209 : Int), (((0 : Int) ≤ plane209 → ∀ X229 : List (Int) → List (Int) → Int → Int → Prop, (∀ (signs230 : List (Int)) (sizes231 : List (Int)) (atq232 : Int) (x233 : Int), ((x233 < (sizes207.length : Int) → ((atq232 = (l2.length : Int) → X205 (signs230) (sizes231) (atq232) (IntKind.i64.wrap (plane209 - (1 : Int)))) ∧ (¬(atq232 = (l2.length : Int)) → (0 ≤ atq232 ∧ atq232 < (l2.length : Int)) ∧ (((l2.getD (atq232).toNat false) = true → (0 ≤ x233 ∧ x233 < (sizes231.length : Int)) ∧ (0 ≤ plane209) ∧ (0 ≤ x233 ∧ x233 < (signs230.length : Int)) ∧ (((signs230.getD (x233).toNat (0 : Int)) = (0 : Int) → (((IntKind.i64.wrap (atq232 + (1 : Int))) < (l2.length : Int) → (0 ≤ (IntKind.i64.wrap (atq232 + (1 : Int))) ∧ (IntKind.i64.wrap (atq232 + (1 : Int))) < (l2.length : Int)) ∧ (((l2.getD ((IntKind.i64.wrap (atq232 + (1 : Int)))).toNat false) = true → (0 ≤ x233 ∧ x233 < ((signs230.set (x233).toNat (1 : Int)).length : Int)) ∧ X229 ((signs230.set (x233).toNat (1 : Int)).set (x233).toNat (-1 : Int)) (sizes231.set (x233).toNat (ibits .or .i64 (sizes231.getD (x233).toNat (0 : Int)) (IntKind.i64.wrap ((1 : Int) * (2 ^ (min (plane209).toNat IntKind.i64.bits)))))) (IntKind.i64.wrap ((IntKind.i64.wrap (atq232 + (1 : Int))) + (1 : Int))) (IntKind.i64.wrap (x233 + (1 : Int)))) ∧ ((l2.getD ((IntKind.i64.wrap (atq232 + (1 : Int)))).toNat false) = false → X229 (signs230.set (x233).toNat (1 : Int)) (sizes231.set (x233).toNat (ibits .or .i64 (sizes231.getD (x233).toNat (0 : Int)) (IntKind.i64.wrap ((1 : Int) * (2 ^ (min (plane209).toNat IntKind.i64.bits)))))) (IntKind.i64.wrap ((IntKind.i64.wrap (atq232 + (1 : Int))) + (1 : Int))) (IntKind.i64.wrap (x233 + (1 : Int)))))) ∧ (¬((IntKind.i64.wrap (atq232 + (1 : Int))) < (l2.length : Int)) → X229 (signs230) (sizes231.set (x233).toNat (ibits .or .i64 (sizes231.getD (x233).toNat (0 : Int)) (IntKind.i64.wrap ((1 : Int) * (2 ^ (min (plane209).toNat IntKind.i64.bits)))))) (IntKind.i64.wrap (atq232 + (1 : Int))) (IntKind.i64.wrap (x233 + (1 : Int)))))) ∧ (¬((signs230.getD (x233).toNat (0 : Int)) = (0 : Int)) → X229 (signs230) (sizes231.set (x233).toNat (ibits .or .i64 (sizes231.getD (x233).toNat (0 : Int)) (IntKind.i64.wrap ((1 : Int) * (2 ^ (min (plane209).toNat IntKind.i64.bits)))))) (IntKind.i64.wrap (atq232 + (1 : Int))) (IntKind.i64.wrap (x233 + (1 : Int)))))) ∧ ((l2.getD (atq232).toNat false) = false → X229 (signs230) (sizes231) (IntKind.i64.wrap (atq232 + (1 : Int))) (IntKind.i64.wrap (x233 + (1 : Int)))))))) ∧ (¬(x233 < (sizes207.length : Int)) → X205 (signs230) (sizes231) (atq232) (IntKind.i64.wrap (plane209 - (1 : Int))))) → X229 signs230 sizes231 atq232 x233) → X229 (signs206) (sizes207) (atq208) (0 : Int)) ∧ (¬((0 : Int) ≤ plane209) → ((atq208 < (l2.length : Int) → K ([] : List (Int)) (false)) ∧ (¬(atq208 < (l2.length : Int)) → ∀ X271 : List (Int) → Int → Prop, (∀ (out272 : List (Int)) (x274 : Int), ((x274 < (sizes207.length : Int) → (0 ≤ x274 ∧ x274 < (sizes207.length : Int)) ∧ (0 ≤ x274 ∧ x274 < (signs206.length : Int)) ∧ ((out272.length + ([(IntKind.i64.wrap ((sizes207.getD (x274).toNat (0 : Int)) * (signs206.getD (x274).toNat (0 : Int))))] : List (Int)).length) * 8 ≤ 2 ^ 40) ∧ X271 (out272 ++ ([(IntKind.i64.wrap ((sizes207.getD (x274).toNat (0 : Int)) * (signs206.getD (x274).toNat (0 : Int))))] : List (Int))) (IntKind.i64.wrap (x274 + (1 : Int)))) ∧ (¬(x274 < (sizes207.length : Int)) → impl_AreIntegers.wp out272 fun y284 => ((y284 = true → K (out272) (true)) ∧ (y284 = false → K ([] : List (Int)) (false))))) → X271 out272 x274) → X271 ([] : List (Int)) (0 : Int))))) → X205 signs206 sizes207 atq208 plane209) → X205 (List.replicate (a0).toNat (0 : Int)) (List.replicate (a0).toNat (0 : Int)) (0 : Int) (IntKind.i64.wrap (a1 - (1 : Int)))) ∧ (y104 = false → K ([] : List (Int)) (false)))
end Go.Proofs.YtecdkjnomkdbkaaDoor.G

namespace Go.Proofs.YtecdkjnomkdbkaaDoor.G
open Go Go.Ab
set_option maxRecDepth 100000
set_option linter.unusedVariables false
set_option linter.unusedSimpArgs false
set_option maxHeartbeats 1000000
def impl_PlanesFor.wp (l0 : List (Int)) (K : Int → Bool → Prop) : Prop := impl_AreIntegers.wp l0 fun y101 => ((y101 = true → impl_planesFor.wp l0 fun y104 => K (y104) (true)) ∧ (y101 = false → K (0 : Int) (false)))
end Go.Proofs.YtecdkjnomkdbkaaDoor.G

namespace Go.Proofs.YtecdkjnomkdbkaaDoor.G
open Go Go.Ab
set_option maxRecDepth 100000
set_option linter.unusedVariables false
set_option linter.unusedSimpArgs false
set_option maxHeartbeats 1000000
def impl_zigZag.wp (a0 : Int) (K : Int → Prop) : Prop := (((0 : Int) ≤ a0 → K (IntKind.i64.wrap ((2 : Int) * a0))) ∧ (¬((0 : Int) ≤ a0) → K (IntKind.i64.wrap ((IntKind.i64.wrap ((-2 : Int) * a0)) - (1 : Int)))))
end Go.Proofs.YtecdkjnomkdbkaaDoor.G

namespace Go.Proofs.YtecdkjnomkdbkaaDoor.G
open Go Go.Ab
set_option maxRecDepth 100000
set_option linter.unusedVariables false
set_option linter.unusedSimpArgs false
set_option maxHeartbeats 1000000
def impl_ZigZag.wp (a0 : Int) (K : Int → Bool → Prop) : Prop := impl_within.wp a0 (-1000000 : Int) (1000000 : Int) fun y101 => ((y101 = true → impl_zigZag.wp a0 fun y104 => K (y104) (true)) ∧ (y101 = false → K (0 : Int) (false)))
end Go.Proofs.YtecdkjnomkdbkaaDoor.G

namespace Go.Proofs.YtecdkjnomkdbkaaDoor.G
open Go Go.Ab
set_option maxRecDepth 100000
set_option linter.unusedVariables false
set_option linter.unusedSimpArgs false
set_option maxHeartbeats 1000000
def impl_fromZigZag.wp (a0 : Int) (K : Int → Prop) : Prop := (((Int.tmod a0 (2 : Int)) = (0 : Int) → K (IntKind.i64.wrap (Int.tdiv a0 (2 : Int)))) ∧ (¬((Int.tmod a0 (2 : Int)) = (0 : Int)) → K (IntKind.i64.wrap (Int.tdiv (IntKind.i64.wrap (0 - (IntKind.i64.wrap (a0 + (1 : Int))))) (2 : Int)))))
end Go.Proofs.YtecdkjnomkdbkaaDoor.G

namespace Go.Proofs.YtecdkjnomkdbkaaDoor.G
open Go Go.Ab
set_option maxRecDepth 100000
set_option linter.unusedVariables false
set_option linter.unusedSimpArgs false
set_option maxHeartbeats 1000000
def impl_FromZigZag.wp (a0 : Int) (K : Int → Bool → Prop) : Prop := impl_within.wp a0 (0 : Int) (2000000 : Int) fun y101 => ((y101 = true → impl_fromZigZag.wp a0 fun y104 => K (y104) (true)) ∧ (y101 = false → K (0 : Int) (false)))
end Go.Proofs.YtecdkjnomkdbkaaDoor.G

namespace Go.Proofs.YtecdkjnomkdbkaaDoor.G
open Go Go.Ab
set_option maxRecDepth 100000
set_option linter.unusedVariables false
set_option linter.unusedSimpArgs false
set_option maxHeartbeats 1000000
def laws_r8At.wp (l0 : List (Int)) (a1 : Int) (a2 : Int) (K : Int → Prop) : Prop := ((a2 ≤ (1 : Int) → K (0 : Int)) ∧ (¬(a2 ≤ (1 : Int)) → (((l0.length : Int) ≤ a1 → K (0 : Int)) ∧ (¬((l0.length : Int) ≤ a1) → (0 ≤ a1 ∧ a1 < (l0.length : Int)) ∧ (a2 ≠ 0) ∧ K (Int.tmod (IntKind.i64.wrap (l0.getD (a1).toNat (0 : Int))) a2)))))
end Go.Proofs.YtecdkjnomkdbkaaDoor.G

namespace Go.Proofs.YtecdkjnomkdbkaaDoor.G
open Go Go.Ab
set_option maxRecDepth 100000
set_option linter.unusedVariables false
set_option linter.unusedSimpArgs false
set_option maxHeartbeats 1000000
def impl_CutCoded.wp (a0 : Int) (a1 : Int) (l2 : List (Bool)) (a3 : Int) (K : Int → Int → (List (Bool)) → Bool → Prop) : Prop := impl_ValidCoded.wp a0 a1 l2 fun y107 => ((y107 = true → impl_within.wp a3 (0 : Int) (l2.length : Int) fun y110 => ((y110 = true → (0 ≤ (0 : Int) ∧ (0 : Int) ≤ a3 ∧ a3 ≤ (l2.length : Int)) ∧ ((([] : List (Bool)).length + ((l2.drop ((0 : Int)).toNat).take ((a3).toNat - ((0 : Int)).toNat)).length) * 1 ≤ 2 ^ 40) ∧ K (a0) (a1) (([] : List (Bool)) ++ ((l2.drop ((0 : Int)).toNat).take ((a3).toNat - ((0 : Int)).toNat))) (true)) ∧ (y110 = false → K (0 : Int) (0 : Int) ([] : List (Bool)) (false)))) ∧ (y107 = false → K (0 : Int) (0 : Int) ([] : List (Bool)) (false)))
end Go.Proofs.YtecdkjnomkdbkaaDoor.G

namespace Go.Proofs.YtecdkjnomkdbkaaDoor.G
open Go Go.Ab
set_option maxRecDepth 100000
set_option linter.unusedVariables false
set_option linter.unusedSimpArgs false
set_option maxHeartbeats 1000000
def laws_r8Abs.wp (a0 : Int) (K : Int → Prop) : Prop := K (mxI a0 (IntKind.i64.wrap (0 - a0)))
end Go.Proofs.YtecdkjnomkdbkaaDoor.G

namespace Go.Proofs.YtecdkjnomkdbkaaDoor.G
open Go Go.Ab
set_option maxRecDepth 100000
set_option linter.unusedVariables false
set_option linter.unusedSimpArgs false
set_option maxHeartbeats 1000000
def impl_BitsUntil.wp (l0 : List (Int)) (a1 : Int) (K : Int → Bool → Prop) : Prop := impl_AreIntegers.wp l0 fun y101 => ((y101 = true → impl_within.wp a1 (0 : Int) (24 : Int) fun y104 => ((y104 = true → impl_planesFor.wp l0 fun y107 => impl_codeUntil.wp l0 y107 a1 fun y109 => K (y109.length : Int) (true)) ∧ (y104 = false → K (0 : Int) (false)))) ∧ (y101 = false → K (0 : Int) (false)))
end Go.Proofs.YtecdkjnomkdbkaaDoor.G

namespace Go.Proofs.YtecdkjnomkdbkaaDoor.G
open Go Go.Ab
set_option maxRecDepth 100000
set_option linter.unusedVariables false
set_option linter.unusedSimpArgs false
set_option maxHeartbeats 1000000
def impl_riceLong.wp (l0 : List (Int)) (a1 : Int) (K : Int → Prop) : Prop := ∀ X101 : Int → Int → Prop, (∀ (sum102 : Int) (x103 : Int), ((x103 < (l0.length : Int) → (0 ≤ x103 ∧ x103 < (l0.length : Int)) ∧ impl_zigZag.wp (l0.getD (x103).toNat (0 : Int)) fun y106 => (0 ≤ a1) ∧ X101 (IntKind.i64.wrap (sum102 + (IntKind.i64.wrap ((IntKind.i64.wrap ((Int.fdiv y106 (2 ^ (min (a1).toNat IntKind.i64.bits))) + (1 : Int))) + a1)))) (IntKind.i64.wrap (x103 + (1 : Int)))) ∧ (¬(x103 < (l0.length : Int)) → K (sum102))) → X101 sum102 x103) → X101 (0 : Int) (0 : Int)
end Go.Proofs.YtecdkjnomkdbkaaDoor.G

namespace Go.Proofs.YtecdkjnomkdbkaaDoor.G
open Go Go.Ab
set_option maxRecDepth 100000
set_option linter.unusedVariables false
set_option linter.unusedSimpArgs false
set_option maxHeartbeats 1000000
def impl_RiceLong.wp (l0 : List (Int)) (a1 : Int) (K : Int → Bool → Prop) : Prop := impl_AreIntegers.wp l0 fun y101 => ((y101 = true → impl_within.wp a1 (0 : Int) (20 : Int) fun y104 => ((y104 = true → impl_riceLong.wp l0 a1 fun y107 => K (y107) (true)) ∧ (y104 = false → K (0 : Int) (false)))) ∧ (y101 = false → K (0 : Int) (false)))
end Go.Proofs.YtecdkjnomkdbkaaDoor.G

namespace Go.Proofs.YtecdkjnomkdbkaaDoor.G
open Go Go.Ab
set_option maxRecDepth 100000
set_option linter.unusedVariables false
set_option linter.unusedSimpArgs false
set_option maxHeartbeats 1000000
def impl_RiceCode.wp (l0 : List (Int)) (a1 : Int) (K : (List (Bool)) → Bool → Prop) : Prop := impl_RiceLong.wp l0 a1 fun y101 y102 => ((y102 = true → (((32768 : Int) < y101 → K ([] : List (Bool)) (false)) ∧ (¬((32768 : Int) < y101) → ∀ X206 : List (Bool) → Int → Prop, (∀ (out207 : List (Bool)) (x209 : Int), ((x209 < (l0.length : Int) → (0 ≤ x209 ∧ x209 < (l0.length : Int)) ∧ impl_zigZag.wp (l0.getD (x209).toNat (0 : Int)) fun y212 => (0 ≤ a1) ∧ ∀ X258 : List (Bool) → Int → Prop, (∀ (out259 : List (Bool)) (x261 : Int), ((x261 < (Int.fdiv y212 (2 ^ (min (a1).toNat IntKind.i64.bits))) → ((out259.length + ([true] : List (Bool)).length) * 1 ≤ 2 ^ 40) ∧ X258 (out259 ++ ([true] : List (Bool))) (IntKind.i64.wrap (x261 + (1 : Int)))) ∧ (¬(x261 < (Int.fdiv y212 (2 ^ (min (a1).toNat IntKind.i64.bits)))) → ((out259.length + ([false] : List (Bool)).length) * 1 ≤ 2 ^ 40) ∧ ∀ X287 : List (Bool) → Int → Prop, (∀ (out288 : List (Bool)) (b290 : Int), (((0 : Int) ≤ b290 → (0 ≤ b290) ∧ ((out288.length + ([(decide ((ibits .and .i64 (Int.fdiv y212 (2 ^ (min (b290).toNat IntKind.i64.bits))) (1 : Int)) = (1 : Int)))] : List (Bool)).length) * 1 ≤ 2 ^ 40) ∧ X287 (out288 ++ ([(decide ((ibits .and .i64 (Int.fdiv y212 (2 ^ (min (b290).toNat IntKind.i64.bits))) (1 : Int)) = (1 : Int)))] : List (Bool))) (IntKind.i64.wrap (b290 - (1 : Int)))) ∧ (¬((0 : Int) ≤ b290) → X206 (out288) (IntKind.i64.wrap (x209 + (1 : Int))))) → X287 out288 b290) → X287 (out259 ++ ([false] : List (Bool))) (IntKind.i64.wrap (a1 - (1 : Int))))) → X258 out259 x261) → X258 (out207) (0 : Int)) ∧ (¬(x209 < (l0.length : Int)) → K (out207) (true))) → X206 out207 x209) → X206 ([] : List (Bool)) (0 : Int)))) ∧ (y102 = false → K ([] : List (Bool)) (false)))
end Go.Proofs.YtecdkjnomkdbkaaDoor.G

namespace Go.Proofs.YtecdkjnomkdbkaaDoor.G
open Go Go.Ab
set_option maxRecDepth 100000
set_option linter.unusedVariables false
set_option linter.unusedSimpArgs false
set_option maxHeartbeats 1000000
def impl_FromRice.wp (l0 : List (Bool)) (a1 : Int) (a2 : Int) (K : (List (Int)) → Bool → Prop) : Prop := (((32768 : Int) < (l0.length : Int) → K ([] : List (Int)) (false)) ∧ (¬((32768 : Int) < (l0.length : Int)) → impl_within.wp a1 (1 : Int) (128 : Int) fun y102 => ((y102 = true → impl_within.wp a2 (0 : Int) (20 : Int) fun y105 => ((y105 = true → ∀ X166 : List (Int) → Int → Int → Prop, (∀ (out167 : List (Int)) (atq169 : Int) (x170 : Int), ((x170 < a1 → ∀ X172 : Int → Int → Prop, (∀ (atq173 : Int) (z174 : Int), ((atq173 < (l0.length : Int) → (0 ≤ atq173 ∧ atq173 < (l0.length : Int)) ∧ (((l0.getD (atq173).toNat false) = true → X172 (IntKind.i64.wrap (atq173 + (1 : Int))) (IntKind.i64.wrap (z174 + (1 : Int)))) ∧ ((l0.getD (atq173).toNat false) = false → ∀ X178 : Int → Int → Int → Prop, (∀ (atq179 : Int) (z180 : Int) (x181 : Int), ((x181 < a2 → ((atq179 < (l0.length : Int) → (0 ≤ atq179 ∧ atq179 < (l0.length : Int)) ∧ (((l0.getD (atq179).toNat false) = true → X178 (IntKind.i64.wrap (atq179 + (1 : Int))) (IntKind.i64.wrap ((IntKind.i64.wrap (z180 * (2 ^ (min ((1 : Int)).toNat IntKind.i64.bits)))) + (1 : Int))) (IntKind.i64.wrap (x181 + (1 : Int)))) ∧ ((l0.getD (atq179).toNat false) = false → X178 (IntKind.i64.wrap (atq179 + (1 : Int))) (IntKind.i64.wrap (z180 * (2 ^ (min ((1 : Int)).toNat IntKind.i64.bits)))) (IntKind.i64.wrap (x181 + (1 : Int)))))) ∧ (¬(atq179 < (l0.length : Int)) → X178 (IntKind.i64.wrap (atq179 + (1 : Int))) (IntKind.i64.wrap (z180 * (2 ^ (min ((1 : Int)).toNat IntKind.i64.bits)))) (IntKind.i64.wrap (x181 + (1 : Int)))))) ∧ (¬(x181 < a2) → (((l0.length : Int) < atq179 → K ([] : List (Int)) (false)) ∧ (¬((l0.length : Int) < atq179) → (((2000000 : Int) < z180 → K ([] : List (Int)) (false)) ∧ (¬((2000000 : Int) < z180) → impl_fromZigZag.wp z180 fun y188 => ((out167.length + ([y188] : List (Int)).length) * 8 ≤ 2 ^ 40) ∧ X166 (out167 ++ ([y188] : List (Int))) (atq179) (IntKind.i64.wrap (x170 + (1 : Int))))))))) → X178 atq179 z180 x181) → X178 (IntKind.i64.wrap (atq173 + (1 : Int))) (z174) (0 : Int)))) ∧ (¬(atq173 < (l0.length : Int)) → ∀ X198 : Int → Int → Int → Prop, (∀ (atq199 : Int) (z200 : Int) (x201 : Int), ((x201 < a2 → ((atq199 < (l0.length : Int) → (0 ≤ atq199 ∧ atq199 < (l0.length : Int)) ∧ (((l0.getD (atq199).toNat false) = true → X198 (IntKind.i64.wrap (atq199 + (1 : Int))) (IntKind.i64.wrap ((IntKind.i64.wrap (z200 * (2 ^ (min ((1 : Int)).toNat IntKind.i64.bits)))) + (1 : Int))) (IntKind.i64.wrap (x201 + (1 : Int)))) ∧ ((l0.getD (atq199).toNat false) = false → X198 (IntKind.i64.wrap (atq199 + (1 : Int))) (IntKind.i64.wrap (z200 * (2 ^ (min ((1 : Int)).toNat IntKind.i64.bits)))) (IntKind.i64.wrap (x201 + (1 : Int)))))) ∧ (¬(atq199 < (l0.length : Int)) → X198 (IntKind.i64.wrap (atq199 + (1 : Int))) (IntKind.i64.wrap (z200 * (2 ^ (min ((1 : Int)).toNat IntKind.i64.bits)))) (IntKind.i64.wrap (x201 + (1 : Int)))))) ∧ (¬(x201 < a2) → (((l0.length : Int) < atq199 → K ([] : List (Int)) (false)) ∧ (¬((l0.length : Int) < atq199) → (((2000000 : Int) < z200 → K ([] : List (Int)) (false)) ∧ (¬((2000000 : Int) < z200) → impl_fromZigZag.wp z200 fun y208 => ((out167.length + ([y208] : List (Int)).length) * 8 ≤ 2 ^ 40) ∧ X166 (out167 ++ ([y208] : List (Int))) (atq199) (IntKind.i64.wrap (x170 + (1 : Int))))))))) → X198 atq199 z200 x201) → X198 (IntKind.i64.wrap (atq173 + (1 : Int))) (z174) (0 : Int))) → X172 atq173 z174) → X172 (atq169) (0 : Int)) ∧ (¬(x170 < a1) → ((atq169 = (l0.length : Int) → K (out167) (true)) ∧ (¬(atq169 = (l0.length : Int)) → K ([] : List (Int)) (false))))) → X166 out167 atq169 x170) → X166 ([] : List (Int)) (0 : Int) (0 : Int)) ∧ (y105 = false → K ([] : List (Int)) (false)))) ∧ (y102 = false → K ([] : List (Int)) (false)))))
end Go.Proofs.YtecdkjnomkdbkaaDoor.G

namespace Go.Proofs.YtecdkjnomkdbkaaDoor.G
open Go Go.Ab
set_option maxRecDepth 100000
set_option linter.unusedVariables false
set_option linter.unusedSimpArgs false
set_option maxHeartbeats 1000000
def impl_BestRice.wp (l0 : List (Int)) (K : Int → Int → Bool → Prop) : Prop := impl_AreIntegers.wp l0 fun y101 => ((y101 = true → ∀ X104 : Int → Int → Prop, (∀ (best105 : Int) (k106 : Int), ((k106 ≤ (20 : Int) → impl_riceLong.wp l0 k106 fun y108 => impl_riceLong.wp l0 best105 fun y110 => ((y108 < y110 → X104 (k106) (IntKind.i64.wrap (k106 + (1 : Int)))) ∧ (¬(y108 < y110) → X104 (best105) (IntKind.i64.wrap (k106 + (1 : Int)))))) ∧ (¬(k106 ≤ (20 : Int)) → impl_riceLong.wp l0 best105 fun y113 => K (best105) (y113) (true))) → X104 best105 k106) → X104 (0 : Int) (1 : Int)) ∧ (y101 = false → K (0 : Int) (0 : Int) (false)))
end Go.Proofs.YtecdkjnomkdbkaaDoor.G

namespace Go.Proofs.YtecdkjnomkdbkaaDoor.G
open Go Go.Ab
set_option maxRecDepth 100000
set_option linter.unusedVariables false
set_option linter.unusedSimpArgs false
set_option maxHeartbeats 1000000
def impl_BitText.wp (l0 : List (Bool)) (K : (List UInt8) → Bool → Prop) : Prop := (((32768 : Int) < (l0.length : Int) → K ([] : List UInt8) (false)) ∧ (¬((32768 : Int) < (l0.length : Int)) → ∀ X124 : List (Int) → Int → Prop, (∀ (out125 : List (Int)) (x127 : Int), ((x127 < (l0.length : Int) → (0 ≤ x127 ∧ x127 < (l0.length : Int)) ∧ (((l0.getD (x127).toNat false) = true → ((out125.length + ([(49 : Int)] : List (Int)).length) * 1 ≤ 2 ^ 40) ∧ X124 (out125 ++ ([(49 : Int)] : List (Int))) (IntKind.i64.wrap (x127 + (1 : Int)))) ∧ ((l0.getD (x127).toNat false) = false → ((out125.length + ([(48 : Int)] : List (Int)).length) * 1 ≤ 2 ^ 40) ∧ X124 (out125 ++ ([(48 : Int)] : List (Int))) (IntKind.i64.wrap (x127 + (1 : Int)))))) ∧ (¬(x127 < (l0.length : Int)) → K (byts out125) (true))) → X124 out125 x127) → X124 ([] : List (Int)) (0 : Int)))
end Go.Proofs.YtecdkjnomkdbkaaDoor.G

namespace Go.Proofs.YtecdkjnomkdbkaaDoor.G
open Go Go.Ab
set_option maxRecDepth 100000
set_option linter.unusedVariables false
set_option linter.unusedSimpArgs false
set_option maxHeartbeats 1000000
def strings_Trim.wp (a0 : List UInt8) (a1 : List UInt8) (K : List UInt8 → Prop) : Prop := (a0.length ≤ 2 ^ 40 ∧ a1.length ≤ 2 ^ 30 ∧ a1.all (fun b => decide (b.toNat < 128)) = true) ∧ K (Lib.trimS a0 a1)
end Go.Proofs.YtecdkjnomkdbkaaDoor.G

namespace Go.Proofs.YtecdkjnomkdbkaaDoor.G
open Go Go.Ab
set_option maxRecDepth 100000
set_option linter.unusedVariables false
set_option linter.unusedSimpArgs false
set_option maxHeartbeats 1000000
def impl_ReadBits.wp (a0 : List UInt8) (K : (List (Bool)) → Bool → Prop) : Prop := (((32768 : Int) < (a0.length : Int) → K ([] : List (Bool)) (false)) ∧ (¬((32768 : Int) < (a0.length : Int)) → strings_Trim.wp a0 ([48, 49] : List UInt8) fun y102 => ((y102 = ([] : List UInt8) → ∀ X120 : List (Bool) → Int → Prop, (∀ (out121 : List (Bool)) (x123 : Int), ((x123 < (a0.length : Int) → (0 ≤ x123 ∧ x123 < (a0.length : Int)) ∧ ((out121.length + ([(decide ((bt a0 x123) = (49 : Int)))] : List (Bool)).length) * 1 ≤ 2 ^ 40) ∧ X120 (out121 ++ ([(decide ((bt a0 x123) = (49 : Int)))] : List (Bool))) (IntKind.i64.wrap (x123 + (1 : Int)))) ∧ (¬(x123 < (a0.length : Int)) → K (out121) (true))) → X120 out121 x123) → X120 ([] : List (Bool)) (0 : Int)) ∧ (¬(y102 = ([] : List UInt8)) → K ([] : List (Bool)) (false)))))
end Go.Proofs.YtecdkjnomkdbkaaDoor.G

namespace Go.Proofs.YtecdkjnomkdbkaaDoor.G
open Go Go.Ab
set_option maxRecDepth 100000
set_option linter.unusedVariables false
set_option linter.unusedSimpArgs false
set_option maxHeartbeats 1000000
def math_Float64frombits.wp (x : Int) (K : Nat → Prop) : Prop := K (cz .f64 x.toNat)
end Go.Proofs.YtecdkjnomkdbkaaDoor.G

namespace Go.Proofs.YtecdkjnomkdbkaaDoor.G
open Go Go.Ab
set_option maxRecDepth 100000
set_option linter.unusedVariables false
set_option linter.unusedSimpArgs false
set_option maxHeartbeats 1000000
def math_Inf.wp (a0 : Int) (K : Nat → Prop) : Prop := (((0 : Int) ≤ a0 → math_Float64frombits.wp (9218868437227405312 : Int) fun y102 => K (y102)) ∧ (¬((0 : Int) ≤ a0) → math_Float64frombits.wp (18442240474082181120 : Int) fun y104 => K (y104)))
end Go.Proofs.YtecdkjnomkdbkaaDoor.G

namespace Go.Proofs.YtecdkjnomkdbkaaDoor.G
open Go Go.Ab
set_option maxRecDepth 100000
set_option linter.unusedVariables false
set_option linter.unusedSimpArgs false
set_option maxHeartbeats 1000000
def math_NaN.wp  (K : Nat → Prop) : Prop := math_Float64frombits.wp (9221120237041090561 : Int) fun y101 => K (y101)
end Go.Proofs.YtecdkjnomkdbkaaDoor.G

namespace Go.Proofs.YtecdkjnomkdbkaaDoor.G
open Go Go.Ab
set_option maxRecDepth 100000
set_option linter.unusedVariables false
set_option linter.unusedSimpArgs false
set_option maxHeartbeats 1000000
def impl_IsFinite.wp (a0 : Nat) (K : Bool → Prop) : Prop := K (fcmp .eql .f32 (fop .sub .f32 a0 a0) (cz .f32 0))
end Go.Proofs.YtecdkjnomkdbkaaDoor.G

namespace Go.Proofs.YtecdkjnomkdbkaaDoor.G
open Go Go.Ab
set_option maxRecDepth 100000
set_option linter.unusedVariables false
set_option linter.unusedSimpArgs false
set_option maxHeartbeats 1000000
def impl_naturalLog.wp (a0 : Nat) (K : Nat → Prop) : Prop := ∀ X101 : Nat → Nat → Prop, (∀ (x102 : Nat) (e103 : Nat), (((fcmp .geq .f64 x102 (cz .f64 4609434218613702656)) = true → X101 (fop .quo .f64 x102 (cz .f64 4611686018427387904)) (fop .add .f64 e103 (cz .f64 4607182418800017408))) ∧ ((fcmp .geq .f64 x102 (cz .f64 4609434218613702656)) = false → ∀ X105 : Nat → Nat → Prop, (∀ (x106 : Nat) (e107 : Nat), (((fcmp .lss .f64 x106 (cz .f64 4604930618986332160)) = true → X105 (fop .mul .f64 x106 (cz .f64 4611686018427387904)) (fop .sub .f64 e107 (cz .f64 4607182418800017408))) ∧ ((fcmp .lss .f64 x106 (cz .f64 4604930618986332160)) = false → ∀ X109 : Nat → Nat → Prop, (∀ (q110 : Nat) (k111 : Nat), (((fcmp .geq .f64 k111 (cz .f64 4607182418800017408)) = true → X109 (fop .add .f64 (fop .quo .f64 (cz .f64 4607182418800017408) k111) (fop .mul .f64 (fop .mul .f64 (fop .quo .f64 (fop .sub .f64 x106 (cz .f64 4607182418800017408)) (fop .add .f64 x106 (cz .f64 4607182418800017408))) (fop .quo .f64 (fop .sub .f64 x106 (cz .f64 4607182418800017408)) (fop .add .f64 x106 (cz .f64 4607182418800017408)))) q110)) (fop .sub .f64 k111 (cz .f64 4611686018427387904))) ∧ ((fcmp .geq .f64 k111 (cz .f64 4607182418800017408)) = false → K (fop .add .f64 (fop .mul .f64 (cz .f64 4611686018427387904) (fop .mul .f64 (fop .quo .f64 (fop .sub .f64 x106 (cz .f64 4607182418800017408)) (fop .add .f64 x106 (cz .f64 4607182418800017408))) q110)) (fop .mul .f64 e107 (cz .f64 4604418534313441775))))) → X109 q110 k111) → X109 (cz .f64 0) (cz .f64 4627730092099895296))) → X105 x106 e107) → X105 (x102) (e103))) → X101 x102 e103) → X101 (a0) (cz .f64 0)
end Go.Proofs.YtecdkjnomkdbkaaDoor.G

namespace Go.Proofs.YtecdkjnomkdbkaaDoor.G
open Go Go.Ab
set_option maxRecDepth 100000
set_option linter.unusedVariables false
set_option linter.unusedSimpArgs false
set_option maxHeartbeats 1000000
def impl_LogNumber.wp (a0 : Nat) (K : Nat → Prop) : Prop := (((fcmp .eql .f32 a0 (cz .f32 0)) = true → math_Inf.wp (-1 : Int) fun y102 => ((fconv .f64 y102 .f32).isSome = true) ∧ K (narrow y102)) ∧ ((fcmp .eql .f32 a0 (cz .f32 0)) = false → (((fcmp .lss .f32 a0 (cz .f32 0)) = true → math_NaN.wp  fun y106 => ((fconv .f64 y106 .f32).isSome = true) ∧ K (narrow y106)) ∧ ((fcmp .lss .f32 a0 (cz .f32 0)) = false → (((fcmp .neq .f32 a0 a0) = true → math_NaN.wp  fun y110 => ((fconv .f64 y110 .f32).isSome = true) ∧ K (narrow y110)) ∧ ((fcmp .neq .f32 a0 a0) = false → impl_IsFinite.wp a0 fun y113 => ((y113 = true → impl_naturalLog.wp (widen a0) fun y116 => ((fconv .f64 y116 .f32).isSome = true) ∧ K (narrow y116)) ∧ (y113 = false → K (a0)))))))))
end Go.Proofs.YtecdkjnomkdbkaaDoor.G

namespace Go.Proofs.YtecdkjnomkdbkaaDoor.G
open Go Go.Ab
set_option maxRecDepth 100000
set_option linter.unusedVariables false
set_option linter.unusedSimpArgs false
set_option maxHeartbeats 1000000
def impl_finite.wp (a0 : Nat) (K : Nat → Bool → Prop) : Prop := impl_IsFinite.wp a0 fun y101 => ((y101 = true → K (a0) (true)) ∧ (y101 = false → K (cz .f32 0) (false)))
end Go.Proofs.YtecdkjnomkdbkaaDoor.G

namespace Go.Proofs.YtecdkjnomkdbkaaDoor.G
open Go Go.Ab
set_option maxRecDepth 100000
set_option linter.unusedVariables false
set_option linter.unusedSimpArgs false
set_option maxHeartbeats 1000000
def impl_EntropyOf.wp (l0 : List (Int)) (K : Nat → Bool → Prop) : Prop := impl_AreIntegers.wp l0 fun y101 => ((y101 = true → ∀ X143 : List (Int) → List (Int × Int) → Int → Prop, (∀ (order144 : List (Int)) (m146 : List (Int × Int)) (x147 : Int), ((x147 < (l0.length : Int) → (0 ≤ x147 ∧ x147 < (l0.length : Int)) ∧ (-9223372036854775808 ≤ (l0.getD (x147).toNat (0 : Int)) ∧ (l0.getD (x147).toNat (0 : Int)) ≤ 9223372036854775807) ∧ (((mpGet m146 (l0.getD (x147).toNat (0 : Int))) = (0 : Int) → ((order144.length + ([(l0.getD (x147).toNat (0 : Int))] : List (Int)).length) * 8 ≤ 2 ^ 40) ∧ (-9223372036854775808 ≤ (IntKind.i64.wrap ((mpGet m146 (l0.getD (x147).toNat (0 : Int))) + (1 : Int))) ∧ (IntKind.i64.wrap ((mpGet m146 (l0.getD (x147).toNat (0 : Int))) + (1 : Int))) ≤ 9223372036854775807) ∧ ((m146).length < 2 ^ 40) ∧ X143 (order144 ++ ([(l0.getD (x147).toNat (0 : Int))] : List (Int))) (((l0.getD (x147).toNat (0 : Int)), (IntKind.i64.wrap ((mpGet m146 (l0.getD (x147).toNat (0 : Int))) + (1 : Int)))) :: m146) (IntKind.i64.wrap (x147 + (1 : Int)))) ∧ (¬((mpGet m146 (l0.getD (x147).toNat (0 : Int))) = (0 : Int)) → (-9223372036854775808 ≤ (IntKind.i64.wrap ((mpGet m146 (l0.getD (x147).toNat (0 : Int))) + (1 : Int))) ∧ (IntKind.i64.wrap ((mpGet m146 (l0.getD (x147).toNat (0 : Int))) + (1 : Int))) ≤ 9223372036854775807) ∧ ((m146).length < 2 ^ 40) ∧ X143 (order144) (((l0.getD (x147).toNat (0 : Int)), (IntKind.i64.wrap ((mpGet m146 (l0.getD (x147).toNat (0 : Int))) + (1 : Int)))) :: m146) (IntKind.i64.wrap (x147 + (1 : Int)))))) ∧ (¬(x147 < (l0.length : Int)) → ∀ X164 : Nat → Int → Prop, (∀ (sum165 : Nat) (x166 : Int), ((x166 < (order144.length : Int) → (0 ≤ x166 ∧ x166 < (order144.length : Int)) ∧ (-9223372036854775808 ≤ (order144.getD (x166).toNat (0 : Int)) ∧ (order144.getD (x166).toNat (0 : Int)) ≤ 9223372036854775807) ∧ impl_LogNumber.wp (fop .quo .f32 (itof .f32 (mpGet m146 (order144.getD (x166).toNat (0 : Int)))) (itof .f32 (l0.length : Int))) fun y170 => X164 (fop .add .f32 sum165 (fop .mul .f32 (fop .quo .f32 (itof .f32 (mpGet m146 (order144.getD (x166).toNat (0 : Int)))) (itof .f32 (l0.length : Int))) y170)) (IntKind.i64.wrap (x166 + (1 : Int)))) ∧ (¬(x166 < (order144.length : Int)) → impl_finite.wp (fop .quo .f32 (fneg .f32 sum165) (cz .f32 1060205080)) fun y172 y173 => K (y172) (y173))) → X164 sum165 x166) → X164 (cz .f32 0) (0 : Int))) → X143 order144 m146 x147) → X143 ([] : List (Int)) ([] : List (Int × Int)) (0 : Int)) ∧ (y101 = false → K (cz .f32 0) (false)))
end Go.Proofs.YtecdkjnomkdbkaaDoor.G

namespace Go.Proofs.YtecdkjnomkdbkaaDoor.G
open Go Go.Ab
set_option maxRecDepth 100000
set_option linter.unusedVariables false
set_option linter.unusedSimpArgs false
set_option maxHeartbeats 1000000
def laws_FnStreams.wp (l0 : List (Int)) (l1 : List (Int)) (K : Bool → Prop) : Prop := laws_r8Long.wp l0 l1 fun y101 => ((y101 = true → K (true)) ∧ (y101 = false → spec_R8Integers.wp l0 fun y104 => impl_CodeList.wp y104 fun y108 y109 y110 y113 => impl_ListFrom.wp y108 y109 y110 fun y119 y122 => impl_PlanesFor.wp y104 fun y124 y125 => ((y113 = true → ((y122 = true → ((y125 = true → (((y119.length : Int) = (y104.length : Int) → ((y109 = y124 → ((y108 = (y104.length : Int) → ∀ X133 : Int → Prop, (∀ (i134 : Int), ((i134 < (y104.length : Int) → (0 ≤ i134 ∧ i134 < (y104.length : Int)) ∧ impl_ZigZag.wp (y104.getD (i134).toNat (0 : Int)) fun y137 y138 => impl_FromZigZag.wp y137 fun y140 y141 => (0 ≤ i134 ∧ i134 < (y119.length : Int)) ∧ (((y119.getD (i134).toNat (0 : Int)) = (y104.getD (i134).toNat (0 : Int)) → ((y138 = true → ((y141 = true → ((y140 = (y104.getD (i134).toNat (0 : Int)) → ((y137 < (0 : Int) → K (false)) ∧ (¬(y137 < (0 : Int)) → X133 (IntKind.i64.wrap (i134 + (1 : Int)))))) ∧ (¬(y140 = (y104.getD (i134).toNat (0 : Int))) → K (false)))) ∧ (y141 = false → K (false)))) ∧ (y138 = false → K (false)))) ∧ (¬((y119.getD (i134).toNat (0 : Int)) = (y104.getD (i134).toNat (0 : Int))) → K (false)))) ∧ (¬(i134 < (y104.length : Int)) → laws_r8At.wp l1 (0 : Int) (IntKind.i64.wrap ((y110.length : Int) + (1 : Int))) fun y149 => impl_CutCoded.wp y108 y109 y110 y149 fun y151 y152 y153 y156 => impl_ListFrom.wp y151 y152 y153 fun y162 y165 => ((y156 = true → ((y165 = true → (((y162.length : Int) = (y104.length : Int) → (((y153.length : Int) = y149 → ∀ X171 : Int → Prop, (∀ (i172 : Int), ((i172 < (y104.length : Int) → (0 ≤ i172 ∧ i172 < (y162.length : Int)) ∧ (((y162.getD (i172).toNat (0 : Int)) = (0 : Int) → laws_r8Abs.wp (y162.getD (i172).toNat (0 : Int)) fun y176 => (0 ≤ i172 ∧ i172 < (y104.length : Int)) ∧ laws_r8Abs.wp (y104.getD (i172).toNat (0 : Int)) fun y179 => ((y179 < y176 → K (false)) ∧ (¬(y179 < y176) → X171 (IntKind.i64.wrap (i172 + (1 : Int)))))) ∧ (¬((y162.getD (i172).toNat (0 : Int)) = (0 : Int)) → (0 ≤ i172 ∧ i172 < (y104.length : Int)) ∧ ((((decide ((y162.getD (i172).toNat (0 : Int)) < (0 : Int))) == (decide ((y104.getD (i172).toNat (0 : Int)) < (0 : Int)))) = true → laws_r8Abs.wp (y162.getD (i172).toNat (0 : Int)) fun y184 => laws_r8Abs.wp (y104.getD (i172).toNat (0 : Int)) fun y186 => ((y186 < y184 → K (false)) ∧ (¬(y186 < y184) → X171 (IntKind.i64.wrap (i172 + (1 : Int)))))) ∧ (((decide ((y162.getD (i172).toNat (0 : Int)) < (0 : Int))) == (decide ((y104.getD (i172).toNat (0 : Int)) < (0 : Int)))) = false → K (false)))))) ∧ (¬(i172 < (y104.length : Int)) → laws_r8At.wp l1 (1 : Int) (IntKind.i64.wrap (y124 + (1 : Int))) fun y189 => impl_BitsUntil.wp y104 y189 fun y191 y192 => impl_CutCoded.wp y108 y109 y110 y191 fun y194 y195 y196 y199 => impl_ListFrom.wp y194 y195 y196 fun y205 y208 => ((y192 = true → ((y199 = true → ((y208 = true → (((y205.length : Int) = (y104.length : Int) → ∀ X214 : Int → Prop, (∀ (i215 : Int), ((i215 < (y104.length : Int) → (0 ≤ i215 ∧ i215 < (y205.length : Int)) ∧ laws_r8Abs.wp (y205.getD (i215).toNat (0 : Int)) fun y218 => (0 ≤ i215 ∧ i215 < (y104.length : Int)) ∧ laws_r8Abs.wp (y104.getD (i215).toNat (0 : Int)) fun y221 => (0 ≤ (IntKind.u64.wrap y189)) ∧ ((y218 = (IntKind.i64.wrap ((Int.fdiv y221 (2 ^ (min ((IntKind.u64.wrap y189)).toNat IntKind.i64.bits))) * (2 ^ (min ((IntKind.u64.wrap y189)).toNat IntKind.i64.bits)))) → X214 (IntKind.i64.wrap (i215 + (1 : Int)))) ∧ (¬(y218 = (IntKind.i64.wrap ((Int.fdiv y221 (2 ^ (min ((IntKind.u64.wrap y189)).toNat IntKind.i64.bits))) * (2 ^ (min ((IntKind.u64.wrap y189)).toNat IntKind.i64.bits))))) → K (false)))) ∧ (¬(i215 < (y104.length : Int)) → laws_r8At.wp l1 (2 : Int) (8 : Int) fun y225 => impl_RiceLong.wp y104 y225 fun y227 y228 => impl_RiceCode.wp y104 y225 fun y230 y233 => impl_FromRice.wp y230 (y104.length : Int) y225 fun y235 y238 => impl_BestRice.wp y104 fun y240 y241 y242 => impl_RiceLong.wp y104 y240 fun y244 y245 => ((y228 = true → ((y233 = true → ((y238 = true → ((y242 = true → ((y245 = true → (((y230.length : Int) = y227 → (((y235.length : Int) = (y104.length : Int) → ((y241 = y244 → ((y227 < y241 → K (false)) ∧ (¬(y227 < y241) → ∀ X256 : Int → Prop, (∀ (i257 : Int), ((i257 < (y104.length : Int) → (0 ≤ i257 ∧ i257 < (y235.length : Int)) ∧ (0 ≤ i257 ∧ i257 < (y104.length : Int)) ∧ (((y235.getD (i257).toNat (0 : Int)) = (y104.getD (i257).toNat (0 : Int)) → X256 (IntKind.i64.wrap (i257 + (1 : Int)))) ∧ (¬((y235.getD (i257).toNat (0 : Int)) = (y104.getD (i257).toNat (0 : Int))) → K (false)))) ∧ (¬(i257 < (y104.length : Int)) → impl_BitText.wp y230 fun y262 y263 => impl_ReadBits.wp y262 fun y265 y268 => impl_EntropyOf.wp y104 fun y270 y271 => ((y263 = true → ((y268 = true → ((y271 = true → (((y265.length : Int) = (y230.length : Int) → (((fcmp .lss .f64 (widen y270) (cz .f64 13785626545772145148)) = true → K (false)) ∧ ((fcmp .lss .f64 (widen y270) (cz .f64 13785626545772145148)) = false → (((fcmp .gtr .f64 (widen y270) (cz .f64 4616414798036126925)) = true → K (false)) ∧ ((fcmp .gtr .f64 (widen y270) (cz .f64 4616414798036126925)) = false → ∀ X279 : Int → Prop, (∀ (i280 : Int), ((i280 < (y230.length : Int) → (0 ≤ i280 ∧ i280 < (y265.length : Int)) ∧ (0 ≤ i280 ∧ i280 < (y230.length : Int)) ∧ ((((y265.getD (i280).toNat false) == (y230.getD (i280).toNat false)) = true → X279 (IntKind.i64.wrap (i280 + (1 : Int)))) ∧ (((y265.getD (i280).toNat false) == (y230.getD (i280).toNat false)) = false → K (false)))) ∧ (¬(i280 < (y230.length : Int)) → K (true))) → X279 i280) → X279 (0 : Int)))))) ∧ (¬((y265.length : Int) = (y230.length : Int)) → K (false)))) ∧ (y271 = false → K (false)))) ∧ (y268 = false → K (false)))) ∧ (y263 = false → K (false))))) → X256 i257) → X256 (0 : Int)))) ∧ (¬(y241 = y244) → K (false)))) ∧ (¬((y235.length : Int) = (y104.length : Int)) → K (false)))) ∧ (¬((y230.length : Int) = y227) → K (false)))) ∧ (y245 = false → K (false)))) ∧ (y242 = false → K (false)))) ∧ (y238 = false → K (false)))) ∧ (y233 = false → K (false)))) ∧ (y228 = false → K (false))))) → X214 i215) → X214 (0 : Int)) ∧ (¬((y205.length : Int) = (y104.length : Int)) → K (false)))) ∧ (y208 = false → K (false)))) ∧ (y199 = false → K (false)))) ∧ (y192 = false → K (false))))) → X171 i172) → X171 (0 : Int)) ∧ (¬((y153.length : Int) = y149) → K (false)))) ∧ (¬((y162.length : Int) = (y104.length : Int)) → K (false)))) ∧ (y165 = false → K (false)))) ∧ (y156 = false → K (false))))) → X133 i134) → X133 (0 : Int)) ∧ (¬(y108 = (y104.length : Int)) → K (false)))) ∧ (¬(y109 = y124) → K (false)))) ∧ (¬((y119.length : Int) = (y104.length : Int)) → K (false)))) ∧ (y125 = false → K (false)))) ∧ (y122 = false → K (false)))) ∧ (y113 = false → K (false)))))
end Go.Proofs.YtecdkjnomkdbkaaDoor.G

namespace Go.Proofs.YtecdkjnomkdbkaaDoor.G
open Go Go.Ab
set_option maxRecDepth 100000
set_option linter.unusedVariables false
set_option linter.unusedSimpArgs false
set_option maxHeartbeats 1000000
def spec_l01Dec.wp (a0 : Int) (K : (List UInt8) → Prop) : Prop := ∀ X104 : List (Int) → Int → Prop, (∀ (out105 : List (Int)) (rest107 : Int), (((out105.length : Int) = (0 : Int) → (((Int.tmod rest107 (10 : Int)) < (0 : Int) → ((([(IntKind.u8.wrap (IntKind.i64.wrap ((48 : Int) + (IntKind.i64.wrap (0 - (Int.tmod rest107 (10 : Int)))))))] : List (Int)).length + out105.length) * 1 ≤ 2 ^ 40) ∧ X104 (([(IntKind.u8.wrap (IntKind.i64.wrap ((48 : Int) + (IntKind.i64.wrap (0 - (Int.tmod rest107 (10 : Int)))))))] : List (Int)) ++ out105) (IntKind.i64.wrap (Int.tdiv rest107 (10 : Int)))) ∧ (¬((Int.tmod rest107 (10 : Int)) < (0 : Int)) → ((([(IntKind.u8.wrap (IntKind.i64.wrap ((48 : Int) + (Int.tmod rest107 (10 : Int)))))] : List (Int)).length + out105.length) * 1 ≤ 2 ^ 40) ∧ X104 (([(IntKind.u8.wrap (IntKind.i64.wrap ((48 : Int) + (Int.tmod rest107 (10 : Int)))))] : List (Int)) ++ out105) (IntKind.i64.wrap (Int.tdiv rest107 (10 : Int)))))) ∧ (¬((out105.length : Int) = (0 : Int)) → ((rest107 = (0 : Int) → ((a0 < (0 : Int) → ((([(45 : Int)] : List (Int)).length + out105.length) * 1 ≤ 2 ^ 40) ∧ K (byts (([(45 : Int)] : List (Int)) ++ out105))) ∧ (¬(a0 < (0 : Int)) → K (byts out105)))) ∧ (¬(rest107 = (0 : Int)) → (((Int.tmod rest107 (10 : Int)) < (0 : Int) → ((([(IntKind.u8.wrap (IntKind.i64.wrap ((48 : Int) + (IntKind.i64.wrap (0 - (Int.tmod rest107 (10 : Int)))))))] : List (Int)).length + out105.length) * 1 ≤ 2 ^ 40) ∧ X104 (([(IntKind.u8.wrap (IntKind.i64.wrap ((48 : Int) + (IntKind.i64.wrap (0 - (Int.tmod rest107 (10 : Int)))))))] : List (Int)) ++ out105) (IntKind.i64.wrap (Int.tdiv rest107 (10 : Int)))) ∧ (¬((Int.tmod rest107 (10 : Int)) < (0 : Int)) → ((([(IntKind.u8.wrap (IntKind.i64.wrap ((48 : Int) + (Int.tmod rest107 (10 : Int)))))] : List (Int)).length + out105.length) * 1 ≤ 2 ^ 40) ∧ X104 (([(IntKind.u8.wrap (IntKind.i64.wrap ((48 : Int) + (Int.tmod rest107 (10 : Int)))))] : List (Int)) ++ out105) (IntKind.i64.wrap (Int.tdiv rest107 (10 : Int))))))))) → X104 out105 rest107) → X104 ([] : List (Int)) (a0)
end Go.Proofs.YtecdkjnomkdbkaaDoor.G

