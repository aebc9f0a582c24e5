/-
  What the functions compute, as formulas over numbers and lists. Printed by a program of the session; nothing here is trusted.
-/
import Derived.Test.YtplfnchoooehgaaAbK
namespace Go.Proofs.Ytplfnchoooehgaa.G
open Go Go.Ab
set_option maxRecDepth 100000
set_option linter.unusedVariables false
set_option linter.unusedSimpArgs false
set_option maxHeartbeats 1000000

end Go.Proofs.Ytplfnchoooehgaa.G

namespace Go.Proofs.Ytplfnchoooehgaa.G
open Go Go.Ab
set_option maxRecDepth 100000
set_option linter.unusedVariables false
set_option linter.unusedSimpArgs false
set_option maxHeartbeats 1000000
def laws_eqInt64S.wp (l0 : List (Int)) (l1 : List (Int)) (K : Bool → Prop) : Prop := (((l0.length : Int) = (l1.length : Int) → ∀ X102 : Int → Prop, (∀ (i103 : Int), ((i103 < (l0.length : Int) → (0 ≤ i103 ∧ i103 < (l0.length : Int)) ∧ (0 ≤ i103 ∧ i103 < (l1.length : Int)) ∧ (((l0.getD (i103).toNat (0 : Int)) = (l1.getD (i103).toNat (0 : Int)) → X102 (IntKind.i64.wrap (i103 + (1 : Int)))) ∧ (¬((l0.getD (i103).toNat (0 : Int)) = (l1.getD (i103).toNat (0 : Int))) → K (false)))) ∧ (¬(i103 < (l0.length : Int)) → K (true))) → X102 i103) → X102 (0 : Int)) ∧ (¬((l0.length : Int) = (l1.length : Int)) → K (false)))
end Go.Proofs.Ytplfnchoooehgaa.G

namespace Go.Proofs.Ytplfnchoooehgaa.G
open Go Go.Ab
set_option maxRecDepth 100000
set_option linter.unusedVariables false
set_option linter.unusedSimpArgs false
set_option maxHeartbeats 1000000
def laws_markInt64S.wp (l0 : List (Int)) (a1 : Int) (K : Int → (List (Int)) → Prop) : Prop := ∀ X108 : List (Int) → Int → Int → Prop, (∀ (a109 : List (Int)) (k110 : Int) (i111 : Int), ((i111 < (a109.length : Int) → (0 ≤ i111 ∧ i111 < (a109.length : Int)) ∧ X108 (a109.set (i111).toNat k110) (IntKind.i64.wrap (k110 + (1 : Int))) (IntKind.i64.wrap (i111 + (1 : Int)))) ∧ (¬(i111 < (a109.length : Int)) → K (k110) (a109))) → X108 a109 k110 i111) → X108 (l0) (a1) (0 : Int)
end Go.Proofs.Ytplfnchoooehgaa.G

namespace Go.Proofs.Ytplfnchoooehgaa.G
open Go Go.Ab
set_option maxRecDepth 100000
set_option linter.unusedVariables false
set_option linter.unusedSimpArgs false
set_option maxHeartbeats 1000000
def spec_l00In.wp (a0 : Int) (a1 : Int) (a2 : Int) (K : Bool → Prop) : Prop := ((a1 ≤ a0 → K (decide (a0 ≤ a2))) ∧ (¬(a1 ≤ a0) → K (false)))
end Go.Proofs.Ytplfnchoooehgaa.G

namespace Go.Proofs.Ytplfnchoooehgaa.G
open Go Go.Ab
set_option maxRecDepth 100000
set_option linter.unusedVariables false
set_option linter.unusedSimpArgs false
set_option maxHeartbeats 1000000
def spec_l02Bound.wp (l0 : List (Int)) (a1 : Int) (K : Bool → Prop) : Prop := ∀ X101 : Int → Prop, (∀ (i102 : Int), ((i102 < (l0.length : Int) → (0 ≤ i102 ∧ i102 < (l0.length : Int)) ∧ spec_l00In.wp (l0.getD (i102).toNat (0 : Int)) (IntKind.i64.wrap (0 - a1)) a1 fun y105 => ((y105 = true → X101 (IntKind.i64.wrap (i102 + (1 : Int)))) ∧ (y105 = false → K (false)))) ∧ (¬(i102 < (l0.length : Int)) → K (true))) → X101 i102) → X101 (0 : Int)
end Go.Proofs.Ytplfnchoooehgaa.G

namespace Go.Proofs.Ytplfnchoooehgaa.G
open Go Go.Ab
set_option maxRecDepth 100000
set_option linter.unusedVariables false
set_option linter.unusedSimpArgs false
set_option maxHeartbeats 1000000
def spec_l02Integers.wp (l0 : List (Int)) (K : Bool → Prop) : Prop := (((1 : Int) ≤ (l0.length : Int) → (((l0.length : Int) ≤ (128 : Int) → spec_l02Bound.wp l0 (1000000 : Int) fun y103 => K (y103)) ∧ (¬((l0.length : Int) ≤ (128 : Int)) → K (false)))) ∧ (¬((1 : Int) ≤ (l0.length : Int)) → K (false)))
end Go.Proofs.Ytplfnchoooehgaa.G

namespace Go.Proofs.Ytplfnchoooehgaa.G
open Go Go.Ab
set_option maxRecDepth 100000
set_option linter.unusedVariables false
set_option linter.unusedSimpArgs false
set_option maxHeartbeats 1000000
def spec_l06Abs.wp (a0 : Int) (K : Int → Prop) : Prop := ((a0 < (0 : Int) → K (IntKind.i64.wrap (0 - a0))) ∧ (¬(a0 < (0 : Int)) → K (a0)))
end Go.Proofs.Ytplfnchoooehgaa.G

namespace Go.Proofs.Ytplfnchoooehgaa.G
open Go Go.Ab
set_option maxRecDepth 100000
set_option linter.unusedVariables false
set_option linter.unusedSimpArgs false
set_option maxHeartbeats 1000000
def spec_l06Planes.wp (l0 : List (Int)) (K : Int → Prop) : Prop := ∀ X101 : Int → Int → Prop, (∀ (n102 : Int) (i103 : Int), ((i103 < (l0.length : Int) → ∀ X105 : Int → Prop, (∀ (n106 : Int), ((0 ≤ i103 ∧ i103 < (l0.length : Int)) ∧ spec_l06Abs.wp (l0.getD (i103).toNat (0 : Int)) fun y108 => (0 ≤ (IntKind.u64.wrap n106)) ∧ (((Int.fdiv y108 (2 ^ (min ((IntKind.u64.wrap n106)).toNat IntKind.i64.bits))) = (0 : Int) → X101 (n106) (IntKind.i64.wrap (i103 + (1 : Int)))) ∧ (¬((Int.fdiv y108 (2 ^ (min ((IntKind.u64.wrap n106)).toNat IntKind.i64.bits))) = (0 : Int)) → X105 (IntKind.i64.wrap (n106 + (1 : Int)))))) → X105 n106) → X105 (n102)) ∧ (¬(i103 < (l0.length : Int)) → K (n102))) → X101 n102 i103) → X101 (0 : Int) (0 : Int)
end Go.Proofs.Ytplfnchoooehgaa.G

namespace Go.Proofs.Ytplfnchoooehgaa.G
open Go Go.Ab
set_option maxRecDepth 100000
set_option linter.unusedVariables false
set_option linter.unusedSimpArgs false
set_option maxHeartbeats 1000000
def spec_l06Digit.wp (a0 : Int) (a1 : Int) (K : Bool → Prop) : Prop := spec_l06Abs.wp a0 fun y101 => (0 ≤ (IntKind.u64.wrap a1)) ∧ K (decide ((ibits .and .i64 (Int.fdiv y101 (2 ^ (min ((IntKind.u64.wrap a1)).toNat IntKind.i64.bits))) (1 : Int)) = (1 : Int)))
end Go.Proofs.Ytplfnchoooehgaa.G

namespace Go.Proofs.Ytplfnchoooehgaa.G
open Go Go.Ab
set_option maxRecDepth 100000
set_option linter.unusedVariables false
set_option linter.unusedSimpArgs false
set_option maxHeartbeats 1000000
def spec_l06Code.wp (l0 : List (Int)) (a1 : Int) (K : Int → Int → (List (Bool)) → Prop) : Prop := spec_l06Planes.wp l0 fun y104 => ∀ X173 : List (Bool) → Int → Int → Int → Prop, (∀ (l174 : List (Bool)) (b176 : Int) (b177 : Int) (k178 : Int), ((a1 ≤ k178 → ∀ X207 : List (Bool) → Int → Int → Int → Prop, (∀ (l208 : List (Bool)) (b210 : Int) (b211 : Int) (i212 : Int), ((i212 < (l0.length : Int) → (0 ≤ i212 ∧ i212 < (l0.length : Int)) ∧ spec_l06Digit.wp (l0.getD (i212).toNat (0 : Int)) k178 fun y215 => ((l208.length + ([y215] : List (Bool)).length) * 1 ≤ 2 ^ 40) ∧ ((y215 = true → spec_l06Abs.wp (l0.getD (i212).toNat (0 : Int)) fun y225 => (0 ≤ (IntKind.u64.wrap (IntKind.i64.wrap (k178 + (1 : Int))))) ∧ (((Int.fdiv y225 (2 ^ (min ((IntKind.u64.wrap (IntKind.i64.wrap (k178 + (1 : Int))))).toNat IntKind.i64.bits))) = (0 : Int) → (((l208 ++ ([y215] : List (Bool))).length + ([(decide ((l0.getD (i212).toNat (0 : Int)) < (0 : Int)))] : List (Bool)).length) * 1 ≤ 2 ^ 40) ∧ X207 ((l208 ++ ([y215] : List (Bool))) ++ ([(decide ((l0.getD (i212).toNat (0 : Int)) < (0 : Int)))] : List (Bool))) (b210) (b211) (IntKind.i64.wrap (i212 + (1 : Int)))) ∧ (¬((Int.fdiv y225 (2 ^ (min ((IntKind.u64.wrap (IntKind.i64.wrap (k178 + (1 : Int))))).toNat IntKind.i64.bits))) = (0 : Int)) → X207 (l208 ++ ([y215] : List (Bool))) (b210) (b211) (IntKind.i64.wrap (i212 + (1 : Int)))))) ∧ (y215 = false → X207 (l208 ++ ([y215] : List (Bool))) (b210) (b211) (IntKind.i64.wrap (i212 + (1 : Int)))))) ∧ (¬(i212 < (l0.length : Int)) → X173 (l208) (b210) (b211) (IntKind.i64.wrap (k178 - (1 : Int))))) → X207 l208 b210 b211 i212) → X207 (l174) (b176) (b177) (0 : Int)) ∧ (¬(a1 ≤ k178) → K (b176) (b177) (l174))) → X173 l174 b176 b177 k178) → X173 ([] : List (Bool)) (l0.length : Int) (y104) (IntKind.i64.wrap (y104 - (1 : Int)))
end Go.Proofs.Ytplfnchoooehgaa.G

namespace Go.Proofs.Ytplfnchoooehgaa.G
open Go Go.Ab
set_option maxRecDepth 100000
set_option linter.unusedVariables false
set_option linter.unusedSimpArgs false
set_option maxHeartbeats 1000000
def spec_CodeList.wp (l0 : List (Int)) (K : Int → Int → (List (Bool)) → Bool → Prop) : Prop := spec_l02Integers.wp l0 fun y104 => ((y104 = true → spec_l06Code.wp l0 (0 : Int) fun y107 y108 y109 => K (y107) (y108) (y109) (true)) ∧ (y104 = false → K (0 : Int) (0 : Int) ([] : List (Bool)) (false)))
end Go.Proofs.Ytplfnchoooehgaa.G

namespace Go.Proofs.Ytplfnchoooehgaa.G
open Go Go.Ab
set_option maxRecDepth 100000
set_option linter.unusedVariables false
set_option linter.unusedSimpArgs false
set_option maxHeartbeats 1000000
def impl_within.wp (a0 : Int) (a1 : Int) (a2 : Int) (K : Bool → Prop) : Prop := ((a1 ≤ a0 → K (decide (a0 ≤ a2))) ∧ (¬(a1 ≤ a0) → K (false)))
end Go.Proofs.Ytplfnchoooehgaa.G

namespace Go.Proofs.Ytplfnchoooehgaa.G
open Go Go.Ab
set_option maxRecDepth 100000
set_option linter.unusedVariables false
set_option linter.unusedSimpArgs false
set_option maxHeartbeats 1000000
def impl_areWithin.wp (l0 : List (Int)) (a1 : Int) (K : Bool → Prop) : Prop := ∀ X101 : Int → Prop, (∀ (x102 : Int), ((x102 < (l0.length : Int) → (0 ≤ x102 ∧ x102 < (l0.length : Int)) ∧ impl_within.wp (l0.getD (x102).toNat (0 : Int)) (IntKind.i64.wrap (0 - a1)) a1 fun y105 => ((y105 = true → X101 (IntKind.i64.wrap (x102 + (1 : Int)))) ∧ (y105 = false → K (false)))) ∧ (¬(x102 < (l0.length : Int)) → K (true))) → X101 x102) → X101 (0 : Int)
end Go.Proofs.Ytplfnchoooehgaa.G

namespace Go.Proofs.Ytplfnchoooehgaa.G
open Go Go.Ab
set_option maxRecDepth 100000
set_option linter.unusedVariables false
set_option linter.unusedSimpArgs false
set_option maxHeartbeats 1000000
def impl_AreIntegers.wp (l0 : List (Int)) (K : Bool → Prop) : Prop := impl_within.wp (l0.length : Int) (1 : Int) (128 : Int) fun y101 => ((y101 = true → impl_areWithin.wp l0 (1000000 : Int) fun y104 => K (y104)) ∧ (y101 = false → K (false)))
end Go.Proofs.Ytplfnchoooehgaa.G

namespace Go.Proofs.Ytplfnchoooehgaa.G
open Go Go.Ab
set_option maxRecDepth 100000
set_option linter.unusedVariables false
set_option linter.unusedSimpArgs false
set_option maxHeartbeats 1000000
def impl_far.wp (a0 : Int) (K : Int → Prop) : Prop := K (mxI a0 (IntKind.i64.wrap (0 - a0)))
end Go.Proofs.Ytplfnchoooehgaa.G

namespace Go.Proofs.Ytplfnchoooehgaa.G
open Go Go.Ab
set_option maxRecDepth 100000
set_option linter.unusedVariables false
set_option linter.unusedSimpArgs false
set_option maxHeartbeats 1000000
def math_bits_Len64.wp (a0 : Int) (K : Int → Prop) : Prop := (((4294967296 : Int) ≤ a0 → (((65536 : Int) ≤ (Int.fdiv a0 (2 ^ (min ((32 : Int)).toNat IntKind.u64.bits))) → (((256 : Int) ≤ (Int.fdiv (Int.fdiv a0 (2 ^ (min ((32 : Int)).toNat IntKind.u64.bits))) (2 ^ (min ((16 : Int)).toNat IntKind.u64.bits))) → (0 ≤ (IntKind.u8.wrap (Int.fdiv (Int.fdiv (Int.fdiv a0 (2 ^ (min ((32 : Int)).toNat IntKind.u64.bits))) (2 ^ (min ((16 : Int)).toNat IntKind.u64.bits))) (2 ^ (min ((8 : Int)).toNat IntKind.u64.bits)))) ∧ (IntKind.u8.wrap (Int.fdiv (Int.fdiv (Int.fdiv a0 (2 ^ (min ((32 : Int)).toNat IntKind.u64.bits))) (2 ^ (min ((16 : Int)).toNat IntKind.u64.bits))) (2 ^ (min ((8 : Int)).toNat IntKind.u64.bits)))) < (([0, 1, 2, 2, 3, 3, 3, 3, 4, 4, 4, 4, 4, 4, 4, 4, 5, 5, 5, 5, 5, 5, 5, 5, 5, 5, 5, 5, 5, 5, 5, 5, 6, 6, 6, 6, 6, 6, 6, 6, 6, 6, 6, 6, 6, 6, 6, 6, 6, 6, 6, 6, 6, 6, 6, 6, 6, 6, 6, 6, 6, 6, 6, 6, 7, 7, 7, 7, 7, 7, 7, 7, 7, 7, 7, 7, 7, 7, 7, 7, 7, 7, 7, 7, 7, 7, 7, 7, 7, 7, 7, 7, 7, 7, 7, 7, 7, 7, 7, 7, 7, 7, 7, 7, 7, 7, 7, 7, 7, 7, 7, 7, 7, 7, 7, 7, 7, 7, 7, 7, 7, 7, 7, 7, 7, 7, 7, 7, 8, 8, 8, 8, 8, 8, 8, 8, 8, 8, 8, 8, 8, 8, 8, 8, 8, 8, 8, 8, 8, 8, 8, 8, 8, 8, 8, 8, 8, 8, 8, 8, 8, 8, 8, 8, 8, 8, 8, 8, 8, 8, 8, 8, 8, 8, 8, 8, 8, 8, 8, 8, 8, 8, 8, 8, 8, 8, 8, 8, 8, 8, 8, 8, 8, 8, 8, 8, 8, 8, 8, 8, 8, 8, 8, 8, 8, 8, 8, 8, 8, 8, 8, 8, 8, 8, 8, 8, 8, 8, 8, 8, 8, 8, 8, 8, 8, 8, 8, 8, 8, 8, 8, 8, 8, 8, 8, 8, 8, 8, 8, 8, 8, 8, 8, 8, 8, 8, 8, 8, 8, 8, 8, 8, 8, 8, 8, 8] : List UInt8).length : Int)) ∧ K (IntKind.i64.wrap ((IntKind.i64.wrap ((IntKind.i64.wrap ((32 : Int) + (16 : Int))) + (8 : Int))) + (IntKind.i64.wrap (bt ([0, 1, 2, 2, 3, 3, 3, 3, 4, 4, 4, 4, 4, 4, 4, 4, 5, 5, 5, 5, 5, 5, 5, 5, 5, 5, 5, 5, 5, 5, 5, 5, 6, 6, 6, 6, 6, 6, 6, 6, 6, 6, 6, 6, 6, 6, 6, 6, 6, 6, 6, 6, 6, 6, 6, 6, 6, 6, 6, 6, 6, 6, 6, 6, 7, 7, 7, 7, 7, 7, 7, 7, 7, 7, 7, 7, 7, 7, 7, 7, 7, 7, 7, 7, 7, 7, 7, 7, 7, 7, 7, 7, 7, 7, 7, 7, 7, 7, 7, 7, 7, 7, 7, 7, 7, 7, 7, 7, 7, 7, 7, 7, 7, 7, 7, 7, 7, 7, 7, 7, 7, 7, 7, 7, 7, 7, 7, 7, 8, 8, 8, 8, 8, 8, 8, 8, 8, 8, 8, 8, 8, 8, 8, 8, 8, 8, 8, 8, 8, 8, 8, 8, 8, 8, 8, 8, 8, 8, 8, 8, 8, 8, 8, 8, 8, 8, 8, 8, 8, 8, 8, 8, 8, 8, 8, 8, 8, 8, 8, 8, 8, 8, 8, 8, 8, 8, 8, 8, 8, 8, 8, 8, 8, 8, 8, 8, 8, 8, 8, 8, 8, 8, 8, 8, 8, 8, 8, 8, 8, 8, 8, 8, 8, 8, 8, 8, 8, 8, 8, 8, 8, 8, 8, 8, 8, 8, 8, 8, 8, 8, 8, 8, 8, 8, 8, 8, 8, 8, 8, 8, 8, 8, 8, 8, 8, 8, 8, 8, 8, 8, 8, 8, 8, 8, 8, 8] : List UInt8) (IntKind.u8.wrap (Int.fdiv (Int.fdiv (Int.fdiv a0 (2 ^ (min ((32 : Int)).toNat IntKind.u64.bits))) (2 ^ (min ((16 : Int)).toNat IntKind.u64.bits))) (2 ^ (min ((8 : Int)).toNat IntKind.u64.bits))))))))) ∧ (¬((256 : Int) ≤ (Int.fdiv (Int.fdiv a0 (2 ^ (min ((32 : Int)).toNat IntKind.u64.bits))) (2 ^ (min ((16 : Int)).toNat IntKind.u64.bits)))) → (0 ≤ (IntKind.u8.wrap (Int.fdiv (Int.fdiv a0 (2 ^ (min ((32 : Int)).toNat IntKind.u64.bits))) (2 ^ (min ((16 : Int)).toNat IntKind.u64.bits)))) ∧ (IntKind.u8.wrap (Int.fdiv (Int.fdiv a0 (2 ^ (min ((32 : Int)).toNat IntKind.u64.bits))) (2 ^ (min ((16 : Int)).toNat IntKind.u64.bits)))) < (([0, 1, 2, 2, 3, 3, 3, 3, 4, 4, 4, 4, 4, 4, 4, 4, 5, 5, 5, 5, 5, 5, 5, 5, 5, 5, 5, 5, 5, 5, 5, 5, 6, 6, 6, 6, 6, 6, 6, 6, 6, 6, 6, 6, 6, 6, 6, 6, 6, 6, 6, 6, 6, 6, 6, 6, 6, 6, 6, 6, 6, 6, 6, 6, 7, 7, 7, 7, 7, 7, 7, 7, 7, 7, 7, 7, 7, 7, 7, 7, 7, 7, 7, 7, 7, 7, 7, 7, 7, 7, 7, 7, 7, 7, 7, 7, 7, 7, 7, 7, 7, 7, 7, 7, 7, 7, 7, 7, 7, 7, 7, 7, 7, 7, 7, 7, 7, 7, 7, 7, 7, 7, 7, 7, 7, 7, 7, 7, 8, 8, 8, 8, 8, 8, 8, 8, 8, 8, 8, 8, 8, 8, 8, 8, 8, 8, 8, 8, 8, 8, 8, 8, 8, 8, 8, 8, 8, 8, 8, 8, 8, 8, 8, 8, 8, 8, 8, 8, 8, 8, 8, 8, 8, 8, 8, 8, 8, 8, 8, 8, 8, 8, 8, 8, 8, 8, 8, 8, 8, 8, 8, 8, 8, 8, 8, 8, 8, 8, 8, 8, 8, 8, 8, 8, 8, 8, 8, 8, 8, 8, 8, 8, 8, 8, 8, 8, 8, 8, 8, 8, 8, 8, 8, 8, 8, 8, 8, 8, 8, 8, 8, 8, 8, 8, 8, 8, 8, 8, 8, 8, 8, 8, 8, 8, 8, 8, 8, 8, 8, 8, 8, 8, 8, 8, 8, 8] : List UInt8).length : Int)) ∧ K (IntKind.i64.wrap ((IntKind.i64.wrap ((32 : Int) + (16 : Int))) + (IntKind.i64.wrap (bt ([0, 1, 2, 2, 3, 3, 3, 3, 4, 4, 4, 4, 4, 4, 4, 4, 5, 5, 5, 5, 5, 5, 5, 5, 5, 5, 5, 5, 5, 5, 5, 5, 6, 6, 6, 6, 6, 6, 6, 6, 6, 6, 6, 6, 6, 6, 6, 6, 6, 6, 6, 6, 6, 6, 6, 6, 6, 6, 6, 6, 6, 6, 6, 6, 7, 7, 7, 7, 7, 7, 7, 7, 7, 7, 7, 7, 7, 7, 7, 7, 7, 7, 7, 7, 7, 7, 7, 7, 7, 7, 7, 7, 7, 7, 7, 7, 7, 7, 7, 7, 7, 7, 7, 7, 7, 7, 7, 7, 7, 7, 7, 7, 7, 7, 7, 7, 7, 7, 7, 7, 7, 7, 7, 7, 7, 7, 7, 7, 8, 8, 8, 8, 8, 8, 8, 8, 8, 8, 8, 8, 8, 8, 8, 8, 8, 8, 8, 8, 8, 8, 8, 8, 8, 8, 8, 8, 8, 8, 8, 8, 8, 8, 8, 8, 8, 8, 8, 8, 8, 8, 8, 8, 8, 8, 8, 8, 8, 8, 8, 8, 8, 8, 8, 8, 8, 8, 8, 8, 8, 8, 8, 8, 8, 8, 8, 8, 8, 8, 8, 8, 8, 8, 8, 8, 8, 8, 8, 8, 8, 8, 8, 8, 8, 8, 8, 8, 8, 8, 8, 8, 8, 8, 8, 8, 8, 8, 8, 8, 8, 8, 8, 8, 8, 8, 8, 8, 8, 8, 8, 8, 8, 8, 8, 8, 8, 8, 8, 8, 8, 8, 8, 8, 8, 8, 8, 8] : List UInt8) (IntKind.u8.wrap (Int.fdiv (Int.fdiv a0 (2 ^ (min ((32 : Int)).toNat IntKind.u64.bits))) (2 ^ (min ((16 : Int)).toNat IntKind.u64.bits))))))))))) ∧ (¬((65536 : Int) ≤ (Int.fdiv a0 (2 ^ (min ((32 : Int)).toNat IntKind.u64.bits)))) → (((256 : Int) ≤ (Int.fdiv a0 (2 ^ (min ((32 : Int)).toNat IntKind.u64.bits))) → (0 ≤ (IntKind.u8.wrap (Int.fdiv (Int.fdiv a0 (2 ^ (min ((32 : Int)).toNat IntKind.u64.bits))) (2 ^ (min ((8 : Int)).toNat IntKind.u64.bits)))) ∧ (IntKind.u8.wrap (Int.fdiv (Int.fdiv a0 (2 ^ (min ((32 : Int)).toNat IntKind.u64.bits))) (2 ^ (min ((8 : Int)).toNat IntKind.u64.bits)))) < (([0, 1, 2, 2, 3, 3, 3, 3, 4, 4, 4, 4, 4, 4, 4, 4, 5, 5, 5, 5, 5, 5, 5, 5, 5, 5, 5, 5, 5, 5, 5, 5, 6, 6, 6, 6, 6, 6, 6, 6, 6, 6, 6, 6, 6, 6, 6, 6, 6, 6, 6, 6, 6, 6, 6, 6, 6, 6, 6, 6, 6, 6, 6, 6, 7, 7, 7, 7, 7, 7, 7, 7, 7, 7, 7, 7, 7, 7, 7, 7, 7, 7, 7, 7, 7, 7, 7, 7, 7, 7, 7, 7, 7, 7, 7, 7, 7, 7, 7, 7, 7, 7, 7, 7, 7, 7, 7, 7, 7, 7, 7, 7, 7, 7, 7, 7, 7, 7, 7, 7, 7, 7, 7, 7, 7, 7, 7, 7, 8, 8, 8, 8, 8, 8, 8, 8, 8, 8, 8, 8, 8, 8, 8, 8, 8, 8, 8, 8, 8, 8, 8, 8, 8, 8, 8, 8, 8, 8, 8, 8, 8, 8, 8, 8, 8, 8, 8, 8, 8, 8, 8, 8, 8, 8, 8, 8, 8, 8, 8, 8, 8, 8, 8, 8, 8, 8, 8, 8, 8, 8, 8, 8, 8, 8, 8, 8, 8, 8, 8, 8, 8, 8, 8, 8, 8, 8, 8, 8, 8, 8, 8, 8, 8, 8, 8, 8, 8, 8, 8, 8, 8, 8, 8, 8, 8, 8, 8, 8, 8, 8, 8, 8, 8, 8, 8, 8, 8, 8, 8, 8, 8, 8, 8, 8, 8, 8, 8, 8, 8, 8, 8, 8, 8, 8, 8, 8] : List UInt8).length : Int)) ∧ K (IntKind.i64.wrap ((IntKind.i64.wrap ((32 : Int) + (8 : Int))) + (IntKind.i64.wrap (bt ([0, 1, 2, 2, 3, 3, 3, 3, 4, 4, 4, 4, 4, 4, 4, 4, 5, 5, 5, 5, 5, 5, 5, 5, 5, 5, 5, 5, 5, 5, 5, 5, 6, 6, 6, 6, 6, 6, 6, 6, 6, 6, 6, 6, 6, 6, 6, 6, 6, 6, 6, 6, 6, 6, 6, 6, 6, 6, 6, 6, 6, 6, 6, 6, 7, 7, 7, 7, 7, 7, 7, 7, 7, 7, 7, 7, 7, 7, 7, 7, 7, 7, 7, 7, 7, 7, 7, 7, 7, 7, 7, 7, 7, 7, 7, 7, 7, 7, 7, 7, 7, 7, 7, 7, 7, 7, 7, 7, 7, 7, 7, 7, 7, 7, 7, 7, 7, 7, 7, 7, 7, 7, 7, 7, 7, 7, 7, 7, 8, 8, 8, 8, 8, 8, 8, 8, 8, 8, 8, 8, 8, 8, 8, 8, 8, 8, 8, 8, 8, 8, 8, 8, 8, 8, 8, 8, 8, 8, 8, 8, 8, 8, 8, 8, 8, 8, 8, 8, 8, 8, 8, 8, 8, 8, 8, 8, 8, 8, 8, 8, 8, 8, 8, 8, 8, 8, 8, 8, 8, 8, 8, 8, 8, 8, 8, 8, 8, 8, 8, 8, 8, 8, 8, 8, 8, 8, 8, 8, 8, 8, 8, 8, 8, 8, 8, 8, 8, 8, 8, 8, 8, 8, 8, 8, 8, 8, 8, 8, 8, 8, 8, 8, 8, 8, 8, 8, 8, 8, 8, 8, 8, 8, 8, 8, 8, 8, 8, 8, 8, 8, 8, 8, 8, 8, 8, 8] : List UInt8) (IntKind.u8.wrap (Int.fdiv (Int.fdiv a0 (2 ^ (min ((32 : Int)).toNat IntKind.u64.bits))) (2 ^ (min ((8 : Int)).toNat IntKind.u64.bits))))))))) ∧ (¬((256 : Int) ≤ (Int.fdiv a0 (2 ^ (min ((32 : Int)).toNat IntKind.u64.bits)))) → (0 ≤ (IntKind.u8.wrap (Int.fdiv a0 (2 ^ (min ((32 : Int)).toNat IntKind.u64.bits)))) ∧ (IntKind.u8.wrap (Int.fdiv a0 (2 ^ (min ((32 : Int)).toNat IntKind.u64.bits)))) < (([0, 1, 2, 2, 3, 3, 3, 3, 4, 4, 4, 4, 4, 4, 4, 4, 5, 5, 5, 5, 5, 5, 5, 5, 5, 5, 5, 5, 5, 5, 5, 5, 6, 6, 6, 6, 6, 6, 6, 6, 6, 6, 6, 6, 6, 6, 6, 6, 6, 6, 6, 6, 6, 6, 6, 6, 6, 6, 6, 6, 6, 6, 6, 6, 7, 7, 7, 7, 7, 7, 7, 7, 7, 7, 7, 7, 7, 7, 7, 7, 7, 7, 7, 7, 7, 7, 7, 7, 7, 7, 7, 7, 7, 7, 7, 7, 7, 7, 7, 7, 7, 7, 7, 7, 7, 7, 7, 7, 7, 7, 7, 7, 7, 7, 7, 7, 7, 7, 7, 7, 7, 7, 7, 7, 7, 7, 7, 7, 8, 8, 8, 8, 8, 8, 8, 8, 8, 8, 8, 8, 8, 8, 8, 8, 8, 8, 8, 8, 8, 8, 8, 8, 8, 8, 8, 8, 8, 8, 8, 8, 8, 8, 8, 8, 8, 8, 8, 8, 8, 8, 8, 8, 8, 8, 8, 8, 8, 8, 8, 8, 8, 8, 8, 8, 8, 8, 8, 8, 8, 8, 8, 8, 8, 8, 8, 8, 8, 8, 8, 8, 8, 8, 8, 8, 8, 8, 8, 8, 8, 8, 8, 8, 8, 8, 8, 8, 8, 8, 8, 8, 8, 8, 8, 8, 8, 8, 8, 8, 8, 8, 8, 8, 8, 8, 8, 8, 8, 8, 8, 8, 8, 8, 8, 8, 8, 8, 8, 8, 8, 8, 8, 8, 8, 8, 8, 8] : List UInt8).length : Int)) ∧ K (IntKind.i64.wrap ((32 : Int) + (IntKind.i64.wrap (bt ([0, 1, 2, 2, 3, 3, 3, 3, 4, 4, 4, 4, 4, 4, 4, 4, 5, 5, 5, 5, 5, 5, 5, 5, 5, 5, 5, 5, 5, 5, 5, 5, 6, 6, 6, 6, 6, 6, 6, 6, 6, 6, 6, 6, 6, 6, 6, 6, 6, 6, 6, 6, 6, 6, 6, 6, 6, 6, 6, 6, 6, 6, 6, 6, 7, 7, 7, 7, 7, 7, 7, 7, 7, 7, 7, 7, 7, 7, 7, 7, 7, 7, 7, 7, 7, 7, 7, 7, 7, 7, 7, 7, 7, 7, 7, 7, 7, 7, 7, 7, 7, 7, 7, 7, 7, 7, 7, 7, 7, 7, 7, 7, 7, 7, 7, 7, 7, 7, 7, 7, 7, 7, 7, 7, 7, 7, 7, 7, 8, 8, 8, 8, 8, 8, 8, 8, 8, 8, 8, 8, 8, 8, 8, 8, 8, 8, 8, 8, 8, 8, 8, 8, 8, 8, 8, 8, 8, 8, 8, 8, 8, 8, 8, 8, 8, 8, 8, 8, 8, 8, 8, 8, 8, 8, 8, 8, 8, 8, 8, 8, 8, 8, 8, 8, 8, 8, 8, 8, 8, 8, 8, 8, 8, 8, 8, 8, 8, 8, 8, 8, 8, 8, 8, 8, 8, 8, 8, 8, 8, 8, 8, 8, 8, 8, 8, 8, 8, 8, 8, 8, 8, 8, 8, 8, 8, 8, 8, 8, 8, 8, 8, 8, 8, 8, 8, 8, 8, 8, 8, 8, 8, 8, 8, 8, 8, 8, 8, 8, 8, 8, 8, 8, 8, 8, 8, 8] : List UInt8) (IntKind.u8.wrap (Int.fdiv a0 (2 ^ (min ((32 : Int)).toNat IntKind.u64.bits))))))))))))) ∧ (¬((4294967296 : Int) ≤ a0) → (((65536 : Int) ≤ a0 → (((256 : Int) ≤ (Int.fdiv a0 (2 ^ (min ((16 : Int)).toNat IntKind.u64.bits))) → (0 ≤ (IntKind.u8.wrap (Int.fdiv (Int.fdiv a0 (2 ^ (min ((16 : Int)).toNat IntKind.u64.bits))) (2 ^ (min ((8 : Int)).toNat IntKind.u64.bits)))) ∧ (IntKind.u8.wrap (Int.fdiv (Int.fdiv a0 (2 ^ (min ((16 : Int)).toNat IntKind.u64.bits))) (2 ^ (min ((8 : Int)).toNat IntKind.u64.bits)))) < (([0, 1, 2, 2, 3, 3, 3, 3, 4, 4, 4, 4, 4, 4, 4, 4, 5, 5, 5, 5, 5, 5, 5, 5, 5, 5, 5, 5, 5, 5, 5, 5, 6, 6, 6, 6, 6, 6, 6, 6, 6, 6, 6, 6, 6, 6, 6, 6, 6, 6, 6, 6, 6, 6, 6, 6, 6, 6, 6, 6, 6, 6, 6, 6, 7, 7, 7, 7, 7, 7, 7, 7, 7, 7, 7, 7, 7, 7, 7, 7, 7, 7, 7, 7, 7, 7, 7, 7, 7, 7, 7, 7, 7, 7, 7, 7, 7, 7, 7, 7, 7, 7, 7, 7, 7, 7, 7, 7, 7, 7, 7, 7, 7, 7, 7, 7, 7, 7, 7, 7, 7, 7, 7, 7, 7, 7, 7, 7, 8, 8, 8, 8, 8, 8, 8, 8, 8, 8, 8, 8, 8, 8, 8, 8, 8, 8, 8, 8, 8, 8, 8, 8, 8, 8, 8, 8, 8, 8, 8, 8, 8, 8, 8, 8, 8, 8, 8, 8, 8, 8, 8, 8, 8, 8, 8, 8, 8, 8, 8, 8, 8, 8, 8, 8, 8, 8, 8, 8, 8, 8, 8, 8, 8, 8, 8, 8, 8, 8, 8, 8, 8, 8, 8, 8, 8, 8, 8, 8, 8, 8, 8, 8, 8, 8, 8, 8, 8, 8, 8, 8, 8, 8, 8, 8, 8, 8, 8, 8, 8, 8, 8, 8, 8, 8, 8, 8, 8, 8, 8, 8, 8, 8, 8, 8, 8, 8, 8, 8, 8, 8, 8, 8, 8, 8, 8, 8] : List UInt8).length : Int)) ∧ K (IntKind.i64.wrap ((IntKind.i64.wrap ((IntKind.i64.wrap ((0 : Int) + (16 : Int))) + (8 : Int))) + (IntKind.i64.wrap (bt ([0, 1, 2, 2, 3, 3, 3, 3, 4, 4, 4, 4, 4, 4, 4, 4, 5, 5, 5, 5, 5, 5, 5, 5, 5, 5, 5, 5, 5, 5, 5, 5, 6, 6, 6, 6, 6, 6, 6, 6, 6, 6, 6, 6, 6, 6, 6, 6, 6, 6, 6, 6, 6, 6, 6, 6, 6, 6, 6, 6, 6, 6, 6, 6, 7, 7, 7, 7, 7, 7, 7, 7, 7, 7, 7, 7, 7, 7, 7, 7, 7, 7, 7, 7, 7, 7, 7, 7, 7, 7, 7, 7, 7, 7, 7, 7, 7, 7, 7, 7, 7, 7, 7, 7, 7, 7, 7, 7, 7, 7, 7, 7, 7, 7, 7, 7, 7, 7, 7, 7, 7, 7, 7, 7, 7, 7, 7, 7, 8, 8, 8, 8, 8, 8, 8, 8, 8, 8, 8, 8, 8, 8, 8, 8, 8, 8, 8, 8, 8, 8, 8, 8, 8, 8, 8, 8, 8, 8, 8, 8, 8, 8, 8, 8, 8, 8, 8, 8, 8, 8, 8, 8, 8, 8, 8, 8, 8, 8, 8, 8, 8, 8, 8, 8, 8, 8, 8, 8, 8, 8, 8, 8, 8, 8, 8, 8, 8, 8, 8, 8, 8, 8, 8, 8, 8, 8, 8, 8, 8, 8, 8, 8, 8, 8, 8, 8, 8, 8, 8, 8, 8, 8, 8, 8, 8, 8, 8, 8, 8, 8, 8, 8, 8, 8, 8, 8, 8, 8, 8, 8, 8, 8, 8, 8, 8, 8, 8, 8, 8, 8, 8, 8, 8, 8, 8, 8] : List UInt8) (IntKind.u8.wrap (Int.fdiv (Int.fdiv a0 (2 ^ (min ((16 : Int)).toNat IntKind.u64.bits))) (2 ^ (min ((8 : Int)).toNat IntKind.u64.bits))))))))) ∧ (¬((256 : Int) ≤ (Int.fdiv a0 (2 ^ (min ((16 : Int)).toNat IntKind.u64.bits)))) → (0 ≤ (IntKind.u8.wrap (Int.fdiv a0 (2 ^ (min ((16 : Int)).toNat IntKind.u64.bits)))) ∧ (IntKind.u8.wrap (Int.fdiv a0 (2 ^ (min ((16 : Int)).toNat IntKind.u64.bits)))) < (([0, 1, 2, 2, 3, 3, 3, 3, 4, 4, 4, 4, 4, 4, 4, 4, 5, 5, 5, 5, 5, 5, 5, 5, 5, 5, 5, 5, 5, 5, 5, 5, 6, 6, 6, 6, 6, 6, 6, 6, 6, 6, 6, 6, 6, 6, 6, 6, 6, 6, 6, 6, 6, 6, 6, 6, 6, 6, 6, 6, 6, 6, 6, 6, 7, 7, 7, 7, 7, 7, 7, 7, 7, 7, 7, 7, 7, 7, 7, 7, 7, 7, 7, 7, 7, 7, 7, 7, 7, 7, 7, 7, 7, 7, 7, 7, 7, 7, 7, 7, 7, 7, 7, 7, 7, 7, 7, 7, 7, 7, 7, 7, 7, 7, 7, 7, 7, 7, 7, 7, 7, 7, 7, 7, 7, 7, 7, 7, 8, 8, 8, 8, 8, 8, 8, 8, 8, 8, 8, 8, 8, 8, 8, 8, 8, 8, 8, 8, 8, 8, 8, 8, 8, 8, 8, 8, 8, 8, 8, 8, 8, 8, 8, 8, 8, 8, 8, 8, 8, 8, 8, 8, 8, 8, 8, 8, 8, 8, 8, 8, 8, 8, 8, 8, 8, 8, 8, 8, 8, 8, 8, 8, 8, 8, 8, 8, 8, 8, 8, 8, 8, 8, 8, 8, 8, 8, 8, 8, 8, 8, 8, 8, 8, 8, 8, 8, 8, 8, 8, 8, 8, 8, 8, 8, 8, 8, 8, 8, 8, 8, 8, 8, 8, 8, 8, 8, 8, 8, 8, 8, 8, 8, 8, 8, 8, 8, 8, 8, 8, 8, 8, 8, 8, 8, 8, 8] : List UInt8).length : Int)) ∧ K (IntKind.i64.wrap ((IntKind.i64.wrap ((0 : Int) + (16 : Int))) + (IntKind.i64.wrap (bt ([0, 1, 2, 2, 3, 3, 3, 3, 4, 4, 4, 4, 4, 4, 4, 4, 5, 5, 5, 5, 5, 5, 5, 5, 5, 5, 5, 5, 5, 5, 5, 5, 6, 6, 6, 6, 6, 6, 6, 6, 6, 6, 6, 6, 6, 6, 6, 6, 6, 6, 6, 6, 6, 6, 6, 6, 6, 6, 6, 6, 6, 6, 6, 6, 7, 7, 7, 7, 7, 7, 7, 7, 7, 7, 7, 7, 7, 7, 7, 7, 7, 7, 7, 7, 7, 7, 7, 7, 7, 7, 7, 7, 7, 7, 7, 7, 7, 7, 7, 7, 7, 7, 7, 7, 7, 7, 7, 7, 7, 7, 7, 7, 7, 7, 7, 7, 7, 7, 7, 7, 7, 7, 7, 7, 7, 7, 7, 7, 8, 8, 8, 8, 8, 8, 8, 8, 8, 8, 8, 8, 8, 8, 8, 8, 8, 8, 8, 8, 8, 8, 8, 8, 8, 8, 8, 8, 8, 8, 8, 8, 8, 8, 8, 8, 8, 8, 8, 8, 8, 8, 8, 8, 8, 8, 8, 8, 8, 8, 8, 8, 8, 8, 8, 8, 8, 8, 8, 8, 8, 8, 8, 8, 8, 8, 8, 8, 8, 8, 8, 8, 8, 8, 8, 8, 8, 8, 8, 8, 8, 8, 8, 8, 8, 8, 8, 8, 8, 8, 8, 8, 8, 8, 8, 8, 8, 8, 8, 8, 8, 8, 8, 8, 8, 8, 8, 8, 8, 8, 8, 8, 8, 8, 8, 8, 8, 8, 8, 8, 8, 8, 8, 8, 8, 8, 8, 8] : List UInt8) (IntKind.u8.wrap (Int.fdiv a0 (2 ^ (min ((16 : Int)).toNat IntKind.u64.bits))))))))))) ∧ (¬((65536 : Int) ≤ a0) → (((256 : Int) ≤ a0 → (0 ≤ (IntKind.u8.wrap (Int.fdiv a0 (2 ^ (min ((8 : Int)).toNat IntKind.u64.bits)))) ∧ (IntKind.u8.wrap (Int.fdiv a0 (2 ^ (min ((8 : Int)).toNat IntKind.u64.bits)))) < (([0, 1, 2, 2, 3, 3, 3, 3, 4, 4, 4, 4, 4, 4, 4, 4, 5, 5, 5, 5, 5, 5, 5, 5, 5, 5, 5, 5, 5, 5, 5, 5, 6, 6, 6, 6, 6, 6, 6, 6, 6, 6, 6, 6, 6, 6, 6, 6, 6, 6, 6, 6, 6, 6, 6, 6, 6, 6, 6, 6, 6, 6, 6, 6, 7, 7, 7, 7, 7, 7, 7, 7, 7, 7, 7, 7, 7, 7, 7, 7, 7, 7, 7, 7, 7, 7, 7, 7, 7, 7, 7, 7, 7, 7, 7, 7, 7, 7, 7, 7, 7, 7, 7, 7, 7, 7, 7, 7, 7, 7, 7, 7, 7, 7, 7, 7, 7, 7, 7, 7, 7, 7, 7, 7, 7, 7, 7, 7, 8, 8, 8, 8, 8, 8, 8, 8, 8, 8, 8, 8, 8, 8, 8, 8, 8, 8, 8, 8, 8, 8, 8, 8, 8, 8, 8, 8, 8, 8, 8, 8, 8, 8, 8, 8, 8, 8, 8, 8, 8, 8, 8, 8, 8, 8, 8, 8, 8, 8, 8, 8, 8, 8, 8, 8, 8, 8, 8, 8, 8, 8, 8, 8, 8, 8, 8, 8, 8, 8, 8, 8, 8, 8, 8, 8, 8, 8, 8, 8, 8, 8, 8, 8, 8, 8, 8, 8, 8, 8, 8, 8, 8, 8, 8, 8, 8, 8, 8, 8, 8, 8, 8, 8, 8, 8, 8, 8, 8, 8, 8, 8, 8, 8, 8, 8, 8, 8, 8, 8, 8, 8, 8, 8, 8, 8, 8, 8] : List UInt8).length : Int)) ∧ K (IntKind.i64.wrap ((IntKind.i64.wrap ((0 : Int) + (8 : Int))) + (IntKind.i64.wrap (bt ([0, 1, 2, 2, 3, 3, 3, 3, 4, 4, 4, 4, 4, 4, 4, 4, 5, 5, 5, 5, 5, 5, 5, 5, 5, 5, 5, 5, 5, 5, 5, 5, 6, 6, 6, 6, 6, 6, 6, 6, 6, 6, 6, 6, 6, 6, 6, 6, 6, 6, 6, 6, 6, 6, 6, 6, 6, 6, 6, 6, 6, 6, 6, 6, 7, 7, 7, 7, 7, 7, 7, 7, 7, 7, 7, 7, 7, 7, 7, 7, 7, 7, 7, 7, 7, 7, 7, 7, 7, 7, 7, 7, 7, 7, 7, 7, 7, 7, 7, 7, 7, 7, 7, 7, 7, 7, 7, 7, 7, 7, 7, 7, 7, 7, 7, 7, 7, 7, 7, 7, 7, 7, 7, 7, 7, 7, 7, 7, 8, 8, 8, 8, 8, 8, 8, 8, 8, 8, 8, 8, 8, 8, 8, 8, 8, 8, 8, 8, 8, 8, 8, 8, 8, 8, 8, 8, 8, 8, 8, 8, 8, 8, 8, 8, 8, 8, 8, 8, 8, 8, 8, 8, 8, 8, 8, 8, 8, 8, 8, 8, 8, 8, 8, 8, 8, 8, 8, 8, 8, 8, 8, 8, 8, 8, 8, 8, 8, 8, 8, 8, 8, 8, 8, 8, 8, 8, 8, 8, 8, 8, 8, 8, 8, 8, 8, 8, 8, 8, 8, 8, 8, 8, 8, 8, 8, 8, 8, 8, 8, 8, 8, 8, 8, 8, 8, 8, 8, 8, 8, 8, 8, 8, 8, 8, 8, 8, 8, 8, 8, 8, 8, 8, 8, 8, 8, 8] : List UInt8) (IntKind.u8.wrap (Int.fdiv a0 (2 ^ (min ((8 : Int)).toNat IntKind.u64.bits))))))))) ∧ (¬((256 : Int) ≤ a0) → (0 ≤ (IntKind.u8.wrap a0) ∧ (IntKind.u8.wrap a0) < (([0, 1, 2, 2, 3, 3, 3, 3, 4, 4, 4, 4, 4, 4, 4, 4, 5, 5, 5, 5, 5, 5, 5, 5, 5, 5, 5, 5, 5, 5, 5, 5, 6, 6, 6, 6, 6, 6, 6, 6, 6, 6, 6, 6, 6, 6, 6, 6, 6, 6, 6, 6, 6, 6, 6, 6, 6, 6, 6, 6, 6, 6, 6, 6, 7, 7, 7, 7, 7, 7, 7, 7, 7, 7, 7, 7, 7, 7, 7, 7, 7, 7, 7, 7, 7, 7, 7, 7, 7, 7, 7, 7, 7, 7, 7, 7, 7, 7, 7, 7, 7, 7, 7, 7, 7, 7, 7, 7, 7, 7, 7, 7, 7, 7, 7, 7, 7, 7, 7, 7, 7, 7, 7, 7, 7, 7, 7, 7, 8, 8, 8, 8, 8, 8, 8, 8, 8, 8, 8, 8, 8, 8, 8, 8, 8, 8, 8, 8, 8, 8, 8, 8, 8, 8, 8, 8, 8, 8, 8, 8, 8, 8, 8, 8, 8, 8, 8, 8, 8, 8, 8, 8, 8, 8, 8, 8, 8, 8, 8, 8, 8, 8, 8, 8, 8, 8, 8, 8, 8, 8, 8, 8, 8, 8, 8, 8, 8, 8, 8, 8, 8, 8, 8, 8, 8, 8, 8, 8, 8, 8, 8, 8, 8, 8, 8, 8, 8, 8, 8, 8, 8, 8, 8, 8, 8, 8, 8, 8, 8, 8, 8, 8, 8, 8, 8, 8, 8, 8, 8, 8, 8, 8, 8, 8, 8, 8, 8, 8, 8, 8, 8, 8, 8, 8, 8, 8] : List UInt8).length : Int)) ∧ K (IntKind.i64.wrap ((0 : Int) + (IntKind.i64.wrap (bt ([0, 1, 2, 2, 3, 3, 3, 3, 4, 4, 4, 4, 4, 4, 4, 4, 5, 5, 5, 5, 5, 5, 5, 5, 5, 5, 5, 5, 5, 5, 5, 5, 6, 6, 6, 6, 6, 6, 6, 6, 6, 6, 6, 6, 6, 6, 6, 6, 6, 6, 6, 6, 6, 6, 6, 6, 6, 6, 6, 6, 6, 6, 6, 6, 7, 7, 7, 7, 7, 7, 7, 7, 7, 7, 7, 7, 7, 7, 7, 7, 7, 7, 7, 7, 7, 7, 7, 7, 7, 7, 7, 7, 7, 7, 7, 7, 7, 7, 7, 7, 7, 7, 7, 7, 7, 7, 7, 7, 7, 7, 7, 7, 7, 7, 7, 7, 7, 7, 7, 7, 7, 7, 7, 7, 7, 7, 7, 7, 8, 8, 8, 8, 8, 8, 8, 8, 8, 8, 8, 8, 8, 8, 8, 8, 8, 8, 8, 8, 8, 8, 8, 8, 8, 8, 8, 8, 8, 8, 8, 8, 8, 8, 8, 8, 8, 8, 8, 8, 8, 8, 8, 8, 8, 8, 8, 8, 8, 8, 8, 8, 8, 8, 8, 8, 8, 8, 8, 8, 8, 8, 8, 8, 8, 8, 8, 8, 8, 8, 8, 8, 8, 8, 8, 8, 8, 8, 8, 8, 8, 8, 8, 8, 8, 8, 8, 8, 8, 8, 8, 8, 8, 8, 8, 8, 8, 8, 8, 8, 8, 8, 8, 8, 8, 8, 8, 8, 8, 8, 8, 8, 8, 8, 8, 8, 8, 8, 8, 8, 8, 8, 8, 8, 8, 8, 8, 8] : List UInt8) (IntKind.u8.wrap a0)))))))))))
end Go.Proofs.Ytplfnchoooehgaa.G

namespace Go.Proofs.Ytplfnchoooehgaa.G
open Go Go.Ab
set_option maxRecDepth 100000
set_option linter.unusedVariables false
set_option linter.unusedSimpArgs false
set_option maxHeartbeats 1000000
def impl_planesFor.wp (l0 : List (Int)) (K : Int → Prop) : Prop := ∀ X101 : Int → Int → Prop, (∀ (most102 : Int) (x103 : Int), ((x103 < (l0.length : Int) → (0 ≤ x103 ∧ x103 < (l0.length : Int)) ∧ impl_far.wp (l0.getD (x103).toNat (0 : Int)) fun y106 => X101 (mxI most102 y106) (IntKind.i64.wrap (x103 + (1 : Int)))) ∧ (¬(x103 < (l0.length : Int)) → math_bits_Len64.wp (IntKind.u64.wrap most102) fun y108 => K (y108))) → X101 most102 x103) → X101 (0 : Int) (0 : Int)
end Go.Proofs.Ytplfnchoooehgaa.G

namespace Go.Proofs.Ytplfnchoooehgaa.G
open Go Go.Ab
set_option maxRecDepth 100000
set_option linter.unusedVariables false
set_option linter.unusedSimpArgs false
set_option maxHeartbeats 1000000
def impl_digit.wp (a0 : Int) (a1 : Int) (K : Bool → Prop) : Prop := impl_far.wp a0 fun y101 => (0 ≤ a1) ∧ K (decide ((ibits .and .i64 (Int.fdiv y101 (2 ^ (min (a1).toNat IntKind.i64.bits))) (1 : Int)) = (1 : Int)))
end Go.Proofs.Ytplfnchoooehgaa.G

namespace Go.Proofs.Ytplfnchoooehgaa.G
open Go Go.Ab
set_option maxRecDepth 100000
set_option linter.unusedVariables false
set_option linter.unusedSimpArgs false
set_option maxHeartbeats 1000000
def impl_codeUntil.wp (l0 : List (Int)) (a1 : Int) (a2 : Int) (K : (List (Bool)) → Prop) : Prop := ∀ X161 : List (Bool) → Int → Prop, (∀ (out162 : List (Bool)) (plane164 : Int), ((a2 ≤ plane164 → ∀ X191 : List (Bool) → Int → Prop, (∀ (out192 : List (Bool)) (x194 : Int), ((x194 < (l0.length : Int) → (0 ≤ x194 ∧ x194 < (l0.length : Int)) ∧ impl_digit.wp (l0.getD (x194).toNat (0 : Int)) plane164 fun y197 => ((out192.length + ([y197] : List (Bool)).length) * 1 ≤ 2 ^ 40) ∧ ((y197 = true → impl_far.wp (l0.getD (x194).toNat (0 : Int)) fun y206 => (0 ≤ (IntKind.i64.wrap (plane164 + (1 : Int)))) ∧ (((Int.fdiv y206 (2 ^ (min ((IntKind.i64.wrap (plane164 + (1 : Int)))).toNat IntKind.i64.bits))) = (0 : Int) → (((out192 ++ ([y197] : List (Bool))).length + ([(decide ((l0.getD (x194).toNat (0 : Int)) < (0 : Int)))] : List (Bool)).length) * 1 ≤ 2 ^ 40) ∧ X191 ((out192 ++ ([y197] : List (Bool))) ++ ([(decide ((l0.getD (x194).toNat (0 : Int)) < (0 : Int)))] : List (Bool))) (IntKind.i64.wrap (x194 + (1 : Int)))) ∧ (¬((Int.fdiv y206 (2 ^ (min ((IntKind.i64.wrap (plane164 + (1 : Int)))).toNat IntKind.i64.bits))) = (0 : Int)) → X191 (out192 ++ ([y197] : List (Bool))) (IntKind.i64.wrap (x194 + (1 : Int)))))) ∧ (y197 = false → X191 (out192 ++ ([y197] : List (Bool))) (IntKind.i64.wrap (x194 + (1 : Int)))))) ∧ (¬(x194 < (l0.length : Int)) → X161 (out192) (IntKind.i64.wrap (plane164 - (1 : Int))))) → X191 out192 x194) → X191 (out162) (0 : Int)) ∧ (¬(a2 ≤ plane164) → K (out162))) → X161 out162 plane164) → X161 ([] : List (Bool)) (IntKind.i64.wrap (a1 - (1 : Int)))
end Go.Proofs.Ytplfnchoooehgaa.G

namespace Go.Proofs.Ytplfnchoooehgaa.G
open Go Go.Ab
set_option maxRecDepth 100000
set_option linter.unusedVariables false
set_option linter.unusedSimpArgs false
set_option maxHeartbeats 1000000
def impl_CodeList.wp (l0 : List (Int)) (K : Int → Int → (List (Bool)) → Bool → Prop) : Prop := impl_AreIntegers.wp l0 fun y104 => ((y104 = true → impl_planesFor.wp l0 fun y107 => impl_codeUntil.wp l0 y107 (0 : Int) fun y109 => K (l0.length : Int) (y107) (y109) (true)) ∧ (y104 = false → K (0 : Int) (0 : Int) ([] : List (Bool)) (false)))
end Go.Proofs.Ytplfnchoooehgaa.G

namespace Go.Proofs.Ytplfnchoooehgaa.G
open Go Go.Ab
set_option maxRecDepth 100000
set_option linter.unusedVariables false
set_option linter.unusedSimpArgs false
set_option maxHeartbeats 1000000
def laws_eqBoolS.wp (l0 : List (Bool)) (l1 : List (Bool)) (K : Bool → Prop) : Prop := (((l0.length : Int) = (l1.length : Int) → ∀ X102 : Int → Prop, (∀ (i103 : Int), ((i103 < (l0.length : Int) → (0 ≤ i103 ∧ i103 < (l0.length : Int)) ∧ (0 ≤ i103 ∧ i103 < (l1.length : Int)) ∧ ((((l0.getD (i103).toNat false) == (l1.getD (i103).toNat false)) = true → X102 (IntKind.i64.wrap (i103 + (1 : Int)))) ∧ (((l0.getD (i103).toNat false) == (l1.getD (i103).toNat false)) = false → K (false)))) ∧ (¬(i103 < (l0.length : Int)) → K (true))) → X102 i103) → X102 (0 : Int)) ∧ (¬((l0.length : Int) = (l1.length : Int)) → K (false)))
end Go.Proofs.Ytplfnchoooehgaa.G

namespace Go.Proofs.Ytplfnchoooehgaa.G
open Go Go.Ab
set_option maxRecDepth 100000
set_option linter.unusedVariables false
set_option linter.unusedSimpArgs false
set_option maxHeartbeats 1000000
def laws_eqCoded.wp (a0 : Int) (a1 : Int) (l2 : List (Bool)) (a3 : Int) (a4 : Int) (l5 : List (Bool)) (K : Bool → Prop) : Prop := ((a0 = a3 → ((a1 = a4 → laws_eqBoolS.wp l2 l5 fun y109 => ((y109 = true → K (true)) ∧ (y109 = false → K (false)))) ∧ (¬(a1 = a4) → K (false)))) ∧ (¬(a0 = a3) → K (false)))
end Go.Proofs.Ytplfnchoooehgaa.G

namespace Go.Proofs.Ytplfnchoooehgaa.G
open Go Go.Ab
set_option maxRecDepth 100000
set_option linter.unusedVariables false
set_option linter.unusedSimpArgs false
set_option maxHeartbeats 1000000
def laws_markBoolS.wp (l0 : List (Bool)) (a1 : Int) (K : Int → (List (Bool)) → Prop) : Prop := ∀ X108 : List (Bool) → Int → Int → Prop, (∀ (a109 : List (Bool)) (k110 : Int) (i111 : Int), ((i111 < (a109.length : Int) → (0 ≤ i111 ∧ i111 < (a109.length : Int)) ∧ X108 (a109.set (i111).toNat (decide ((Int.tmod k110 (3 : Int)) = (0 : Int)))) (IntKind.i64.wrap (k110 + (1 : Int))) (IntKind.i64.wrap (i111 + (1 : Int)))) ∧ (¬(i111 < (a109.length : Int)) → K (k110) (a109))) → X108 a109 k110 i111) → X108 (l0) (a1) (0 : Int)
end Go.Proofs.Ytplfnchoooehgaa.G

namespace Go.Proofs.Ytplfnchoooehgaa.G
open Go Go.Ab
set_option maxRecDepth 100000
set_option linter.unusedVariables false
set_option linter.unusedSimpArgs false
set_option maxHeartbeats 1000000
def laws_markCoded.wp (a0 : Int) (a1 : Int) (l2 : List (Bool)) (a3 : Int) (K : Int → (List (Bool)) → Prop) : Prop := laws_markBoolS.wp l2 a3 fun y105 y106 => K (y105) (y106)
end Go.Proofs.Ytplfnchoooehgaa.G

namespace Go.Proofs.Ytplfnchoooehgaa.G
open Go Go.Ab
set_option maxRecDepth 100000
set_option linter.unusedVariables false
set_option linter.unusedSimpArgs false
set_option maxHeartbeats 1000000
def laws_heldBoolS.wp (l0 : List (Bool)) (a1 : Int) (K : Int → Prop) : Prop := ∀ X101 : Int → Int → Prop, (∀ (k102 : Int) (i103 : Int), ((i103 < (l0.length : Int) → (0 ≤ i103 ∧ i103 < (l0.length : Int)) ∧ ((((l0.getD (i103).toNat false) == (decide ((Int.tmod k102 (3 : Int)) = (0 : Int)))) = true → X101 (IntKind.i64.wrap (k102 + (1 : Int))) (IntKind.i64.wrap (i103 + (1 : Int)))) ∧ (((l0.getD (i103).toNat false) == (decide ((Int.tmod k102 (3 : Int)) = (0 : Int)))) = false → K (-1 : Int)))) ∧ (¬(i103 < (l0.length : Int)) → K (k102))) → X101 k102 i103) → X101 (a1) (0 : Int)
end Go.Proofs.Ytplfnchoooehgaa.G

namespace Go.Proofs.Ytplfnchoooehgaa.G
open Go Go.Ab
set_option maxRecDepth 100000
set_option linter.unusedVariables false
set_option linter.unusedSimpArgs false
set_option maxHeartbeats 1000000
def laws_heldCoded.wp (a0 : Int) (a1 : Int) (l2 : List (Bool)) (a3 : Int) (K : Int → Prop) : Prop := laws_heldBoolS.wp l2 a3 fun y104 => ((y104 < (0 : Int) → K (-1 : Int)) ∧ (¬(y104 < (0 : Int)) → K (y104)))
end Go.Proofs.Ytplfnchoooehgaa.G

namespace Go.Proofs.Ytplfnchoooehgaa.G
open Go Go.Ab
set_option maxRecDepth 100000
set_option linter.unusedVariables false
set_option linter.unusedSimpArgs false
set_option maxHeartbeats 1000000
def laws_toInt64S.wp (l0 : List (Int)) (K : (List (Int)) → Prop) : Prop := (0 ≤ (l0.length : Int) ∧ (l0.length : Int) ≤ (l0.length : Int) ∧ (l0.length : Int) ≤ 2 ^ 40 ∧ (l0.length : Int) * 8 ≤ 2 ^ 40) ∧ ∀ X111 : List (Int) → Int → Prop, (∀ (out112 : List (Int)) (i113 : Int), ((i113 < (l0.length : Int) → (0 ≤ i113 ∧ i113 < (l0.length : Int)) ∧ (0 ≤ i113 ∧ i113 < (out112.length : Int)) ∧ X111 (out112.set (i113).toNat (l0.getD (i113).toNat (0 : Int))) (IntKind.i64.wrap (i113 + (1 : Int)))) ∧ (¬(i113 < (l0.length : Int)) → K (out112))) → X111 out112 i113) → X111 (List.replicate ((l0.length : Int)).toNat (0 : Int)) (0 : Int)
end Go.Proofs.Ytplfnchoooehgaa.G

namespace Go.Proofs.Ytplfnchoooehgaa.G
open Go Go.Ab
set_option maxRecDepth 100000
set_option linter.unusedVariables false
set_option linter.unusedSimpArgs false
set_option maxHeartbeats 1000000
def laws_FnExactCodeList.wp (l0 : List (Int)) (K : Bool → Prop) : Prop := (((1048576 : Int) < (l0.length : Int) → K (true)) ∧ (¬((1048576 : Int) < (l0.length : Int)) → laws_toInt64S.wp l0 fun y102 => spec_CodeList.wp y102 fun y106 y107 y108 y111 => laws_toInt64S.wp l0 fun y117 => impl_CodeList.wp y117 fun y121 y122 y123 y126 => laws_eqCoded.wp y121 y122 y123 y106 y107 y108 fun y132 => ((y132 = true → (((y126 == y111) = true → laws_toInt64S.wp l0 fun y136 => laws_eqInt64S.wp y117 y136 fun y140 => ((y140 = true → laws_markInt64S.wp y117 (1 : Int) fun y143 y144 => ((y143 < (0 : Int) → K (false)) ∧ (¬(y143 < (0 : Int)) → laws_eqCoded.wp y121 y122 y123 y106 y107 y108 fun y147 => ((y147 = true → laws_markCoded.wp y121 y122 y123 (1 : Int) fun y150 y151 => laws_heldCoded.wp y121 y122 y151 (1 : Int) fun y153 => ((y153 < (0 : Int) → K (false)) ∧ (¬(y153 < (0 : Int)) → ((y153 = y150 → laws_toInt64S.wp l0 fun y157 => impl_CodeList.wp y157 fun y161 y162 y163 y166 => laws_eqCoded.wp y161 y162 y163 y106 y107 y108 fun y172 => ((y172 = true → (((y166 == y111) = true → laws_heldCoded.wp y121 y122 y151 (1 : Int) fun y176 => ((y176 < (0 : Int) → K (false)) ∧ (¬(y176 < (0 : Int)) → ((y176 = y150 → K (true)) ∧ (¬(y176 = y150) → K (false)))))) ∧ ((y166 == y111) = false → K (false)))) ∧ (y172 = false → K (false)))) ∧ (¬(y153 = y150) → K (false)))))) ∧ (y147 = false → K (false)))))) ∧ (y140 = false → K (false)))) ∧ ((y126 == y111) = false → K (false)))) ∧ (y132 = false → K (false)))))
end Go.Proofs.Ytplfnchoooehgaa.G

namespace Go.Proofs.Ytplfnchoooehgaa.G
open Go Go.Ab
set_option maxRecDepth 100000
set_option linter.unusedVariables false
set_option linter.unusedSimpArgs false
set_option maxHeartbeats 1000000
def laws_heldInt64S.wp (l0 : List (Int)) (a1 : Int) (K : Int → Prop) : Prop := ∀ X101 : Int → Int → Prop, (∀ (k102 : Int) (i103 : Int), ((i103 < (l0.length : Int) → (0 ≤ i103 ∧ i103 < (l0.length : Int)) ∧ (((l0.getD (i103).toNat (0 : Int)) = k102 → X101 (IntKind.i64.wrap (k102 + (1 : Int))) (IntKind.i64.wrap (i103 + (1 : Int)))) ∧ (¬((l0.getD (i103).toNat (0 : Int)) = k102) → K (-1 : Int)))) ∧ (¬(i103 < (l0.length : Int)) → K (k102))) → X101 k102 i103) → X101 (a1) (0 : Int)
end Go.Proofs.Ytplfnchoooehgaa.G

namespace Go.Proofs.Ytplfnchoooehgaa.G
open Go Go.Ab
set_option maxRecDepth 100000
set_option linter.unusedVariables false
set_option linter.unusedSimpArgs false
set_option maxHeartbeats 1000000
def laws_toBoolS.wp (l0 : List (Bool)) (K : (List (Bool)) → Prop) : Prop := (0 ≤ (l0.length : Int) ∧ (l0.length : Int) ≤ (l0.length : Int) ∧ (l0.length : Int) ≤ 2 ^ 40 ∧ (l0.length : Int) * 1 ≤ 2 ^ 40) ∧ ∀ X111 : List (Bool) → Int → Prop, (∀ (out112 : List (Bool)) (i113 : Int), ((i113 < (l0.length : Int) → (0 ≤ i113 ∧ i113 < (l0.length : Int)) ∧ (0 ≤ i113 ∧ i113 < (out112.length : Int)) ∧ X111 (out112.set (i113).toNat (l0.getD (i113).toNat false)) (IntKind.i64.wrap (i113 + (1 : Int)))) ∧ (¬(i113 < (l0.length : Int)) → K (out112))) → X111 out112 i113) → X111 (List.replicate ((l0.length : Int)).toNat false) (0 : Int)
end Go.Proofs.Ytplfnchoooehgaa.G

