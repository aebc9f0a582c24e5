/-
  What the functions compute, as formulas over numbers and lists. Printed by a program of the session; nothing here is trusted.
-/
import Derived.Test.YtecdkjnomkdbkaaDoorAbG
namespace Go.Proofs.YtecdkjnomkdbkaaDoor.G
open Go Go.Ab
set_option maxRecDepth 100000
set_option linter.unusedVariables false
set_option linter.unusedSimpArgs false
set_option maxHeartbeats 1000000

end Go.Proofs.YtecdkjnomkdbkaaDoor.G

namespace Go.Proofs.YtecdkjnomkdbkaaDoor.G
open Go Go.Ab
set_option maxRecDepth 100000
set_option linter.unusedVariables false
set_option linter.unusedSimpArgs false
set_option maxHeartbeats 1000000
def laws_szStringS.wp (l0 : List (List UInt8)) (a1 : Int) (K : Int → Prop) : Prop := (((IntKind.i64.wrap (a1 - (l0.length : Int))) < (0 : Int) → K (-1 : Int)) ∧ (¬((IntKind.i64.wrap (a1 - (l0.length : Int))) < (0 : Int)) → ∀ X102 : Int → Int → Prop, (∀ (left103 : Int) (i104 : Int), ((i104 < (l0.length : Int) → (0 ≤ i104 ∧ i104 < (l0.length : Int)) ∧ (((IntKind.i64.wrap (left103 - ((l0.getD (i104).toNat ([] : List UInt8)).length : Int))) < (0 : Int) → K (-1 : Int)) ∧ (¬((IntKind.i64.wrap (left103 - ((l0.getD (i104).toNat ([] : List UInt8)).length : Int))) < (0 : Int)) → X102 (IntKind.i64.wrap (left103 - ((l0.getD (i104).toNat ([] : List UInt8)).length : Int))) (IntKind.i64.wrap (i104 + (1 : Int)))))) ∧ (¬(i104 < (l0.length : Int)) → K (left103))) → X102 left103 i104) → X102 (IntKind.i64.wrap (a1 - (l0.length : Int))) (0 : Int)))
end Go.Proofs.YtecdkjnomkdbkaaDoor.G

namespace Go.Proofs.YtecdkjnomkdbkaaDoor.G
open Go Go.Ab
set_option maxRecDepth 100000
set_option linter.unusedVariables false
set_option linter.unusedSimpArgs false
set_option maxHeartbeats 1000000
def spec_l01Check.wp (a0 : Int) (a1 : List UInt8) (K : Int → Prop) : Prop := ∀ X101 : Int → Int → Prop, (∀ (n102 : Int) (i103 : Int), ((i103 < (a1.length : Int) → (0 ≤ i103 ∧ i103 < (a1.length : Int)) ∧ X101 (Int.tmod (IntKind.i64.wrap ((IntKind.i64.wrap ((IntKind.i64.wrap ((853 : Int) * n102)) + (IntKind.i64.wrap (bt a1 i103)))) + (139 : Int))) (65003 : Int)) (IntKind.i64.wrap (i103 + (1 : Int)))) ∧ (¬(i103 < (a1.length : Int)) → K (n102))) → X101 n102 i103) → X101 (a0) (0 : Int)
end Go.Proofs.YtecdkjnomkdbkaaDoor.G

namespace Go.Proofs.YtecdkjnomkdbkaaDoor.G
open Go Go.Ab
set_option maxRecDepth 100000
set_option linter.unusedVariables false
set_option linter.unusedSimpArgs false
set_option maxHeartbeats 1000000
def spec_l01Dec.wp (a0 : Int) (K : (List UInt8) → Prop) : Prop := ∀ X104 : List (Int) → Int → Prop, (∀ (out105 : List (Int)) (rest107 : Int), (((out105.length : Int) = (0 : Int) → (((Int.tmod rest107 (10 : Int)) < (0 : Int) → ((([(IntKind.u8.wrap (IntKind.i64.wrap ((48 : Int) + (IntKind.i64.wrap (0 - (Int.tmod rest107 (10 : Int)))))))] : List (Int)).length + out105.length) * 1 ≤ 2 ^ 40) ∧ X104 (([(IntKind.u8.wrap (IntKind.i64.wrap ((48 : Int) + (IntKind.i64.wrap (0 - (Int.tmod rest107 (10 : Int)))))))] : List (Int)) ++ out105) (IntKind.i64.wrap (Int.tdiv rest107 (10 : Int)))) ∧ (¬((Int.tmod rest107 (10 : Int)) < (0 : Int)) → ((([(IntKind.u8.wrap (IntKind.i64.wrap ((48 : Int) + (Int.tmod rest107 (10 : Int)))))] : List (Int)).length + out105.length) * 1 ≤ 2 ^ 40) ∧ X104 (([(IntKind.u8.wrap (IntKind.i64.wrap ((48 : Int) + (Int.tmod rest107 (10 : Int)))))] : List (Int)) ++ out105) (IntKind.i64.wrap (Int.tdiv rest107 (10 : Int)))))) ∧ (¬((out105.length : Int) = (0 : Int)) → ((rest107 = (0 : Int) → ((a0 < (0 : Int) → ((([(45 : Int)] : List (Int)).length + out105.length) * 1 ≤ 2 ^ 40) ∧ K (byts (([(45 : Int)] : List (Int)) ++ out105))) ∧ (¬(a0 < (0 : Int)) → K (byts out105)))) ∧ (¬(rest107 = (0 : Int)) → (((Int.tmod rest107 (10 : Int)) < (0 : Int) → ((([(IntKind.u8.wrap (IntKind.i64.wrap ((48 : Int) + (IntKind.i64.wrap (0 - (Int.tmod rest107 (10 : Int)))))))] : List (Int)).length + out105.length) * 1 ≤ 2 ^ 40) ∧ X104 (([(IntKind.u8.wrap (IntKind.i64.wrap ((48 : Int) + (IntKind.i64.wrap (0 - (Int.tmod rest107 (10 : Int)))))))] : List (Int)) ++ out105) (IntKind.i64.wrap (Int.tdiv rest107 (10 : Int)))) ∧ (¬((Int.tmod rest107 (10 : Int)) < (0 : Int)) → ((([(IntKind.u8.wrap (IntKind.i64.wrap ((48 : Int) + (Int.tmod rest107 (10 : Int)))))] : List (Int)).length + out105.length) * 1 ≤ 2 ^ 40) ∧ X104 (([(IntKind.u8.wrap (IntKind.i64.wrap ((48 : Int) + (Int.tmod rest107 (10 : Int)))))] : List (Int)) ++ out105) (IntKind.i64.wrap (Int.tdiv rest107 (10 : Int))))))))) → X104 out105 rest107) → X104 ([] : List (Int)) (a0)
end Go.Proofs.YtecdkjnomkdbkaaDoor.G

namespace Go.Proofs.YtecdkjnomkdbkaaDoor.G
open Go Go.Ab
set_option maxRecDepth 100000
set_option linter.unusedVariables false
set_option linter.unusedSimpArgs false
set_option maxHeartbeats 1000000
def spec_l08Journal.wp (l0 : List (List UInt8)) (K : (List UInt8) → Prop) : Prop := ∀ X101 : List UInt8 → Int → Int → Prop, (∀ (out102 : List UInt8) (n103 : Int) (i104 : Int), ((i104 < (l0.length : Int) → (0 ≤ i104 ∧ i104 < (l0.length : Int)) ∧ spec_l01Check.wp n103 (l0.getD (i104).toNat ([] : List UInt8)) fun y107 => spec_l01Dec.wp y107 fun y109 => ((y109.length : Int) + (([32] : List UInt8).length : Int) ≤ 9223372036854775807) ∧ (((y109 ++ ([32] : List UInt8)).length : Int) + ((l0.getD (i104).toNat ([] : List UInt8)).length : Int) ≤ 9223372036854775807) ∧ ((((y109 ++ ([32] : List UInt8)) ++ (l0.getD (i104).toNat ([] : List UInt8))).length : Int) + (([10] : List UInt8).length : Int) ≤ 9223372036854775807) ∧ ((out102.length : Int) + ((((y109 ++ ([32] : List UInt8)) ++ (l0.getD (i104).toNat ([] : List UInt8))) ++ ([10] : List UInt8)).length : Int) ≤ 9223372036854775807) ∧ X101 (out102 ++ (((y109 ++ ([32] : List UInt8)) ++ (l0.getD (i104).toNat ([] : List UInt8))) ++ ([10] : List UInt8))) (y107) (IntKind.i64.wrap (i104 + (1 : Int)))) ∧ (¬(i104 < (l0.length : Int)) → K (out102))) → X101 out102 n103 i104) → X101 ([] : List UInt8) (0 : Int) (0 : Int)
end Go.Proofs.YtecdkjnomkdbkaaDoor.G

namespace Go.Proofs.YtecdkjnomkdbkaaDoor.G
open Go Go.Ab
set_option maxRecDepth 100000
set_option linter.unusedVariables false
set_option linter.unusedSimpArgs false
set_option maxHeartbeats 1000000
def spec_JournalOf.wp (l0 : List (List UInt8)) (K : (List UInt8) → Bool → Prop) : Prop := ∀ X101 : Int → Int → Prop, (∀ (total102 : Int) (i103 : Int), ((i103 < (l0.length : Int) → (0 ≤ i103 ∧ i103 < (l0.length : Int)) ∧ (((16000 : Int) < (IntKind.i64.wrap (total102 + (IntKind.i64.wrap (((l0.getD (i103).toNat ([] : List UInt8)).length : Int) + (3 : Int))))) → K ([] : List UInt8) (false)) ∧ (¬((16000 : Int) < (IntKind.i64.wrap (total102 + (IntKind.i64.wrap (((l0.getD (i103).toNat ([] : List UInt8)).length : Int) + (3 : Int)))))) → ∀ X107 : Int → Prop, (∀ (k108 : Int), ((k108 < ((l0.getD (i103).toNat ([] : List UInt8)).length : Int) → (0 ≤ k108 ∧ k108 < ((l0.getD (i103).toNat ([] : List UInt8)).length : Int)) ∧ (((bt (l0.getD (i103).toNat ([] : List UInt8)) k108) = (10 : Int) → K ([] : List UInt8) (false)) ∧ (¬((bt (l0.getD (i103).toNat ([] : List UInt8)) k108) = (10 : Int)) → X107 (IntKind.i64.wrap (k108 + (1 : Int)))))) ∧ (¬(k108 < ((l0.getD (i103).toNat ([] : List UInt8)).length : Int)) → X101 (IntKind.i64.wrap (total102 + (IntKind.i64.wrap (((l0.getD (i103).toNat ([] : List UInt8)).length : Int) + (3 : Int))))) (IntKind.i64.wrap (i103 + (1 : Int))))) → X107 k108) → X107 (0 : Int)))) ∧ (¬(i103 < (l0.length : Int)) → spec_l08Journal.wp l0 fun y114 => (((16000 : Int) < (y114.length : Int) → K ([] : List UInt8) (false)) ∧ (¬((16000 : Int) < (y114.length : Int)) → K (y114) (true))))) → X101 total102 i103) → X101 (0 : Int) (0 : Int)
end Go.Proofs.YtecdkjnomkdbkaaDoor.G

namespace Go.Proofs.YtecdkjnomkdbkaaDoor.G
open Go Go.Ab
set_option maxRecDepth 100000
set_option linter.unusedVariables false
set_option linter.unusedSimpArgs false
set_option maxHeartbeats 1000000
def laws_toStringS.wp (l0 : List (List UInt8)) (K : (List (List UInt8)) → Prop) : Prop := (0 ≤ (l0.length : Int) ∧ (l0.length : Int) ≤ (l0.length : Int) ∧ (l0.length : Int) ≤ 2 ^ 40 ∧ (l0.length : Int) * 16 ≤ 2 ^ 40) ∧ ∀ X111 : List (List UInt8) → Int → Prop, (∀ (out112 : List (List UInt8)) (i113 : Int), ((i113 < (l0.length : Int) → (0 ≤ i113 ∧ i113 < (l0.length : Int)) ∧ (0 ≤ i113 ∧ i113 < (out112.length : Int)) ∧ X111 (out112.set (i113).toNat (l0.getD (i113).toNat ([] : List UInt8))) (IntKind.i64.wrap (i113 + (1 : Int)))) ∧ (¬(i113 < (l0.length : Int)) → K (out112))) → X111 out112 i113) → X111 (List.replicate ((l0.length : Int)).toNat ([] : List UInt8)) (0 : Int)
end Go.Proofs.YtecdkjnomkdbkaaDoor.G

namespace Go.Proofs.YtecdkjnomkdbkaaDoor.G
open Go Go.Ab
set_option maxRecDepth 100000
set_option linter.unusedVariables false
set_option linter.unusedSimpArgs false
set_option maxHeartbeats 1000000
def strings_Contains.wp (a0 : List UInt8) (a1 : List UInt8) (K : Bool → Prop) : Prop := ∃ c, a1 = [c] ∧ K (decide (0 ≤ Lib.indexByte a0 c))
end Go.Proofs.YtecdkjnomkdbkaaDoor.G

namespace Go.Proofs.YtecdkjnomkdbkaaDoor.G
open Go Go.Ab
set_option maxRecDepth 100000
set_option linter.unusedVariables false
set_option linter.unusedSimpArgs false
set_option maxHeartbeats 1000000
def impl_within.wp (a0 : Int) (a1 : Int) (a2 : Int) (K : Bool → Prop) : Prop := ((a1 ≤ a0 → K (decide (a0 ≤ a2))) ∧ (¬(a1 ≤ a0) → K (false)))
end Go.Proofs.YtecdkjnomkdbkaaDoor.G

namespace Go.Proofs.YtecdkjnomkdbkaaDoor.G
open Go Go.Ab
set_option maxRecDepth 100000
set_option linter.unusedVariables false
set_option linter.unusedSimpArgs false
set_option maxHeartbeats 1000000
def impl_CheckOf.wp (a0 : Int) (a1 : List UInt8) (K : Int → Bool → Prop) : Prop := impl_within.wp a0 (0 : Int) (65002 : Int) fun y101 => ((y101 = true → ∀ X104 : Int → Int → Prop, (∀ (start105 : Int) (x106 : Int), ((x106 < (a1.length : Int) → (0 ≤ x106 ∧ x106 < (a1.length : Int)) ∧ X104 (Int.tmod (IntKind.i64.wrap ((IntKind.i64.wrap ((IntKind.i64.wrap ((853 : Int) * start105)) + (IntKind.i64.wrap (bt a1 x106)))) + (139 : Int))) (65003 : Int)) (IntKind.i64.wrap (x106 + (1 : Int)))) ∧ (¬(x106 < (a1.length : Int)) → K (start105) (true))) → X104 start105 x106) → X104 (a0) (0 : Int)) ∧ (y101 = false → K (0 : Int) (false)))
end Go.Proofs.YtecdkjnomkdbkaaDoor.G

namespace Go.Proofs.YtecdkjnomkdbkaaDoor.G
open Go Go.Ab
set_option maxRecDepth 100000
set_option linter.unusedVariables false
set_option linter.unusedSimpArgs false
set_option maxHeartbeats 1000000
def internal_strconv_small.wp (a0 : Int) (K : (List UInt8) → Prop) : Prop := ((a0 < (10 : Int) → (0 ≤ a0 ∧ a0 ≤ (IntKind.i64.wrap (a0 + (1 : Int))) ∧ (IntKind.i64.wrap (a0 + (1 : Int))) ≤ (([48, 49, 50, 51, 52, 53, 54, 55, 56, 57, 97, 98, 99, 100, 101, 102, 103, 104, 105, 106, 107, 108, 109, 110, 111, 112, 113, 114, 115, 116, 117, 118, 119, 120, 121, 122] : List UInt8).length : Int)) ∧ K ((([48, 49, 50, 51, 52, 53, 54, 55, 56, 57, 97, 98, 99, 100, 101, 102, 103, 104, 105, 106, 107, 108, 109, 110, 111, 112, 113, 114, 115, 116, 117, 118, 119, 120, 121, 122] : List UInt8).drop (a0).toNat).take (((IntKind.i64.wrap (a0 + (1 : Int)))).toNat - (a0).toNat))) ∧ (¬(a0 < (10 : Int)) → (0 ≤ (IntKind.i64.wrap (a0 * (2 : Int))) ∧ (IntKind.i64.wrap (a0 * (2 : Int))) ≤ (IntKind.i64.wrap ((IntKind.i64.wrap (a0 * (2 : Int))) + (2 : Int))) ∧ (IntKind.i64.wrap ((IntKind.i64.wrap (a0 * (2 : Int))) + (2 : Int))) ≤ (([48, 48, 48, 49, 48, 50, 48, 51, 48, 52, 48, 53, 48, 54, 48, 55, 48, 56, 48, 57, 49, 48, 49, 49, 49, 50, 49, 51, 49, 52, 49, 53, 49, 54, 49, 55, 49, 56, 49, 57, 50, 48, 50, 49, 50, 50, 50, 51, 50, 52, 50, 53, 50, 54, 50, 55, 50, 56, 50, 57, 51, 48, 51, 49, 51, 50, 51, 51, 51, 52, 51, 53, 51, 54, 51, 55, 51, 56, 51, 57, 52, 48, 52, 49, 52, 50, 52, 51, 52, 52, 52, 53, 52, 54, 52, 55, 52, 56, 52, 57, 53, 48, 53, 49, 53, 50, 53, 51, 53, 52, 53, 53, 53, 54, 53, 55, 53, 56, 53, 57, 54, 48, 54, 49, 54, 50, 54, 51, 54, 52, 54, 53, 54, 54, 54, 55, 54, 56, 54, 57, 55, 48, 55, 49, 55, 50, 55, 51, 55, 52, 55, 53, 55, 54, 55, 55, 55, 56, 55, 57, 56, 48, 56, 49, 56, 50, 56, 51, 56, 52, 56, 53, 56, 54, 56, 55, 56, 56, 56, 57, 57, 48, 57, 49, 57, 50, 57, 51, 57, 52, 57, 53, 57, 54, 57, 55, 57, 56, 57, 57] : List UInt8).length : Int)) ∧ K ((([48, 48, 48, 49, 48, 50, 48, 51, 48, 52, 48, 53, 48, 54, 48, 55, 48, 56, 48, 57, 49, 48, 49, 49, 49, 50, 49, 51, 49, 52, 49, 53, 49, 54, 49, 55, 49, 56, 49, 57, 50, 48, 50, 49, 50, 50, 50, 51, 50, 52, 50, 53, 50, 54, 50, 55, 50, 56, 50, 57, 51, 48, 51, 49, 51, 50, 51, 51, 51, 52, 51, 53, 51, 54, 51, 55, 51, 56, 51, 57, 52, 48, 52, 49, 52, 50, 52, 51, 52, 52, 52, 53, 52, 54, 52, 55, 52, 56, 52, 57, 53, 48, 53, 49, 53, 50, 53, 51, 53, 52, 53, 53, 53, 54, 53, 55, 53, 56, 53, 57, 54, 48, 54, 49, 54, 50, 54, 51, 54, 52, 54, 53, 54, 54, 54, 55, 54, 56, 54, 57, 55, 48, 55, 49, 55, 50, 55, 51, 55, 52, 55, 53, 55, 54, 55, 55, 55, 56, 55, 57, 56, 48, 56, 49, 56, 50, 56, 51, 56, 52, 56, 53, 56, 54, 56, 55, 56, 56, 56, 57, 57, 48, 57, 49, 57, 50, 57, 51, 57, 52, 57, 53, 57, 54, 57, 55, 57, 56, 57, 57] : List UInt8).drop ((IntKind.i64.wrap (a0 * (2 : Int)))).toNat).take (((IntKind.i64.wrap ((IntKind.i64.wrap (a0 * (2 : Int))) + (2 : Int)))).toNat - ((IntKind.i64.wrap (a0 * (2 : Int)))).toNat))))
end Go.Proofs.YtecdkjnomkdbkaaDoor.G

namespace Go.Proofs.YtecdkjnomkdbkaaDoor.G
open Go Go.Ab
set_option maxRecDepth 100000
set_option linter.unusedVariables false
set_option linter.unusedSimpArgs false
set_option maxHeartbeats 1000000
def internal_strconv_isPowerOfTwo.wp (a0 : Int) (K : Bool → Prop) : Prop := K (decide ((ibits .and .i64 a0 (IntKind.i64.wrap (a0 - (1 : Int)))) = (0 : Int)))
end Go.Proofs.YtecdkjnomkdbkaaDoor.G

namespace Go.Proofs.YtecdkjnomkdbkaaDoor.G
open Go Go.Ab
set_option maxRecDepth 100000
set_option linter.unusedVariables false
set_option linter.unusedSimpArgs false
set_option maxHeartbeats 1000000
def math_bits_TrailingZeros.wp (a0 : Int) (K : Int → Prop) : Prop := (0 ≤ a0 ∧ a0 < 18446744073709551616) ∧ K ((Lib.ctz 64 a0.toNat : Nat) : Int)
end Go.Proofs.YtecdkjnomkdbkaaDoor.G

namespace Go.Proofs.YtecdkjnomkdbkaaDoor.G
open Go Go.Ab
set_option maxRecDepth 100000
set_option linter.unusedVariables false
set_option linter.unusedSimpArgs false
set_option maxHeartbeats 1000000
def internal_strconv_formatBits.wp (l0 : List (Int)) (a1 : Int) (a2 : Int) (a3 : Bool) (a4 : Bool) (K : (List (Int)) → (List UInt8) → Prop) : Prop := ((a2 < (2 : Int) → False) ∧ (¬(a2 < (2 : Int)) → ((a2 = (10 : Int) → False) ∧ (¬(a2 = (10 : Int)) → (((36 : Int) < a2 → False) ∧ (¬((36 : Int) < a2) → ((a3 = true → internal_strconv_isPowerOfTwo.wp a2 fun y108 => ((y108 = true → math_bits_TrailingZeros.wp (IntKind.u64.wrap a2) fun y111 => ∀ X129 : List (Int) → Int → Int → Prop, (∀ (l130 : List (Int)) (u131 : Int) (i132 : Int), (((IntKind.u64.wrap a2) ≤ u131 → (0 ≤ (ibits .and .u64 u131 (IntKind.u64.wrap ((IntKind.u64.wrap a2) - (1 : Int)))) ∧ (ibits .and .u64 u131 (IntKind.u64.wrap ((IntKind.u64.wrap a2) - (1 : Int)))) < (([48, 49, 50, 51, 52, 53, 54, 55, 56, 57, 97, 98, 99, 100, 101, 102, 103, 104, 105, 106, 107, 108, 109, 110, 111, 112, 113, 114, 115, 116, 117, 118, 119, 120, 121, 122] : List UInt8).length : Int)) ∧ (0 ≤ (IntKind.i64.wrap (i132 - (1 : Int))) ∧ (IntKind.i64.wrap (i132 - (1 : Int))) < (l130.length : Int)) ∧ (0 ≤ (IntKind.u64.wrap y111)) ∧ X129 (l130.set ((IntKind.i64.wrap (i132 - (1 : Int)))).toNat (bt ([48, 49, 50, 51, 52, 53, 54, 55, 56, 57, 97, 98, 99, 100, 101, 102, 103, 104, 105, 106, 107, 108, 109, 110, 111, 112, 113, 114, 115, 116, 117, 118, 119, 120, 121, 122] : List UInt8) (ibits .and .u64 u131 (IntKind.u64.wrap ((IntKind.u64.wrap a2) - (1 : Int)))))) (Int.fdiv u131 (2 ^ (min ((IntKind.u64.wrap y111)).toNat IntKind.u64.bits))) (IntKind.i64.wrap (i132 - (1 : Int)))) ∧ (¬((IntKind.u64.wrap a2) ≤ u131) → (0 ≤ u131 ∧ u131 < (([48, 49, 50, 51, 52, 53, 54, 55, 56, 57, 97, 98, 99, 100, 101, 102, 103, 104, 105, 106, 107, 108, 109, 110, 111, 112, 113, 114, 115, 116, 117, 118, 119, 120, 121, 122] : List UInt8).length : Int)) ∧ (0 ≤ (IntKind.i64.wrap (i132 - (1 : Int))) ∧ (IntKind.i64.wrap (i132 - (1 : Int))) < (l130.length : Int)) ∧ (0 ≤ (IntKind.i64.wrap ((IntKind.i64.wrap (i132 - (1 : Int))) - (1 : Int))) ∧ (IntKind.i64.wrap ((IntKind.i64.wrap (i132 - (1 : Int))) - (1 : Int))) < ((l130.set ((IntKind.i64.wrap (i132 - (1 : Int)))).toNat (bt ([48, 49, 50, 51, 52, 53, 54, 55, 56, 57, 97, 98, 99, 100, 101, 102, 103, 104, 105, 106, 107, 108, 109, 110, 111, 112, 113, 114, 115, 116, 117, 118, 119, 120, 121, 122] : List UInt8) u131)).length : Int)) ∧ ((a4 = true → False) ∧ (a4 = false → (0 ≤ (IntKind.i64.wrap ((IntKind.i64.wrap (i132 - (1 : Int))) - (1 : Int))) ∧ (IntKind.i64.wrap ((IntKind.i64.wrap (i132 - (1 : Int))) - (1 : Int))) ≤ (((l130.set ((IntKind.i64.wrap (i132 - (1 : Int)))).toNat (bt ([48, 49, 50, 51, 52, 53, 54, 55, 56, 57, 97, 98, 99, 100, 101, 102, 103, 104, 105, 106, 107, 108, 109, 110, 111, 112, 113, 114, 115, 116, 117, 118, 119, 120, 121, 122] : List UInt8) u131)).set ((IntKind.i64.wrap ((IntKind.i64.wrap (i132 - (1 : Int))) - (1 : Int)))).toNat (45 : Int)).length : Int) ∧ (((l130.set ((IntKind.i64.wrap (i132 - (1 : Int)))).toNat (bt ([48, 49, 50, 51, 52, 53, 54, 55, 56, 57, 97, 98, 99, 100, 101, 102, 103, 104, 105, 106, 107, 108, 109, 110, 111, 112, 113, 114, 115, 116, 117, 118, 119, 120, 121, 122] : List UInt8) u131)).set ((IntKind.i64.wrap ((IntKind.i64.wrap (i132 - (1 : Int))) - (1 : Int)))).toNat (45 : Int)).length : Int) ≤ (((l130.set ((IntKind.i64.wrap (i132 - (1 : Int)))).toNat (bt ([48, 49, 50, 51, 52, 53, 54, 55, 56, 57, 97, 98, 99, 100, 101, 102, 103, 104, 105, 106, 107, 108, 109, 110, 111, 112, 113, 114, 115, 116, 117, 118, 119, 120, 121, 122] : List UInt8) u131)).set ((IntKind.i64.wrap ((IntKind.i64.wrap (i132 - (1 : Int))) - (1 : Int)))).toNat (45 : Int)).length : Int)) ∧ K ([] : List (Int)) (byts ((((l130.set ((IntKind.i64.wrap (i132 - (1 : Int)))).toNat (bt ([48, 49, 50, 51, 52, 53, 54, 55, 56, 57, 97, 98, 99, 100, 101, 102, 103, 104, 105, 106, 107, 108, 109, 110, 111, 112, 113, 114, 115, 116, 117, 118, 119, 120, 121, 122] : List UInt8) u131)).set ((IntKind.i64.wrap ((IntKind.i64.wrap (i132 - (1 : Int))) - (1 : Int)))).toNat (45 : Int)).drop ((IntKind.i64.wrap ((IntKind.i64.wrap (i132 - (1 : Int))) - (1 : Int)))).toNat).take (((((l130.set ((IntKind.i64.wrap (i132 - (1 : Int)))).toNat (bt ([48, 49, 50, 51, 52, 53, 54, 55, 56, 57, 97, 98, 99, 100, 101, 102, 103, 104, 105, 106, 107, 108, 109, 110, 111, 112, 113, 114, 115, 116, 117, 118, 119, 120, 121, 122] : List UInt8) u131)).set ((IntKind.i64.wrap ((IntKind.i64.wrap (i132 - (1 : Int))) - (1 : Int)))).toNat (45 : Int)).length : Int)).toNat - ((IntKind.i64.wrap ((IntKind.i64.wrap (i132 - (1 : Int))) - (1 : Int)))).toNat))))))) → X129 l130 u131 i132) → X129 (List.replicate 65 (0 : Int)) (IntKind.u64.wrap (0 - a1)) (65 : Int)) ∧ (y108 = false → ∀ X164 : List (Int) → Int → Int → Prop, (∀ (l165 : List (Int)) (u166 : Int) (i167 : Int), (((IntKind.u64.wrap a2) ≤ u166 → ((IntKind.u64.wrap a2) ≠ 0) ∧ (0 ≤ (IntKind.u64.wrap (u166 - (IntKind.u64.wrap ((IntKind.u64.wrap (Int.tdiv u166 (IntKind.u64.wrap a2))) * (IntKind.u64.wrap a2))))) ∧ (IntKind.u64.wrap (u166 - (IntKind.u64.wrap ((IntKind.u64.wrap (Int.tdiv u166 (IntKind.u64.wrap a2))) * (IntKind.u64.wrap a2))))) < (([48, 49, 50, 51, 52, 53, 54, 55, 56, 57, 97, 98, 99, 100, 101, 102, 103, 104, 105, 106, 107, 108, 109, 110, 111, 112, 113, 114, 115, 116, 117, 118, 119, 120, 121, 122] : List UInt8).length : Int)) ∧ (0 ≤ (IntKind.i64.wrap (i167 - (1 : Int))) ∧ (IntKind.i64.wrap (i167 - (1 : Int))) < (l165.length : Int)) ∧ X164 (l165.set ((IntKind.i64.wrap (i167 - (1 : Int)))).toNat (bt ([48, 49, 50, 51, 52, 53, 54, 55, 56, 57, 97, 98, 99, 100, 101, 102, 103, 104, 105, 106, 107, 108, 109, 110, 111, 112, 113, 114, 115, 116, 117, 118, 119, 120, 121, 122] : List UInt8) (IntKind.u64.wrap (u166 - (IntKind.u64.wrap ((IntKind.u64.wrap (Int.tdiv u166 (IntKind.u64.wrap a2))) * (IntKind.u64.wrap a2))))))) (IntKind.u64.wrap (Int.tdiv u166 (IntKind.u64.wrap a2))) (IntKind.i64.wrap (i167 - (1 : Int)))) ∧ (¬((IntKind.u64.wrap a2) ≤ u166) → (0 ≤ u166 ∧ u166 < (([48, 49, 50, 51, 52, 53, 54, 55, 56, 57, 97, 98, 99, 100, 101, 102, 103, 104, 105, 106, 107, 108, 109, 110, 111, 112, 113, 114, 115, 116, 117, 118, 119, 120, 121, 122] : List UInt8).length : Int)) ∧ (0 ≤ (IntKind.i64.wrap (i167 - (1 : Int))) ∧ (IntKind.i64.wrap (i167 - (1 : Int))) < (l165.length : Int)) ∧ (0 ≤ (IntKind.i64.wrap ((IntKind.i64.wrap (i167 - (1 : Int))) - (1 : Int))) ∧ (IntKind.i64.wrap ((IntKind.i64.wrap (i167 - (1 : Int))) - (1 : Int))) < ((l165.set ((IntKind.i64.wrap (i167 - (1 : Int)))).toNat (bt ([48, 49, 50, 51, 52, 53, 54, 55, 56, 57, 97, 98, 99, 100, 101, 102, 103, 104, 105, 106, 107, 108, 109, 110, 111, 112, 113, 114, 115, 116, 117, 118, 119, 120, 121, 122] : List UInt8) u166)).length : Int)) ∧ ((a4 = true → False) ∧ (a4 = false → (0 ≤ (IntKind.i64.wrap ((IntKind.i64.wrap (i167 - (1 : Int))) - (1 : Int))) ∧ (IntKind.i64.wrap ((IntKind.i64.wrap (i167 - (1 : Int))) - (1 : Int))) ≤ (((l165.set ((IntKind.i64.wrap (i167 - (1 : Int)))).toNat (bt ([48, 49, 50, 51, 52, 53, 54, 55, 56, 57, 97, 98, 99, 100, 101, 102, 103, 104, 105, 106, 107, 108, 109, 110, 111, 112, 113, 114, 115, 116, 117, 118, 119, 120, 121, 122] : List UInt8) u166)).set ((IntKind.i64.wrap ((IntKind.i64.wrap (i167 - (1 : Int))) - (1 : Int)))).toNat (45 : Int)).length : Int) ∧ (((l165.set ((IntKind.i64.wrap (i167 - (1 : Int)))).toNat (bt ([48, 49, 50, 51, 52, 53, 54, 55, 56, 57, 97, 98, 99, 100, 101, 102, 103, 104, 105, 106, 107, 108, 109, 110, 111, 112, 113, 114, 115, 116, 117, 118, 119, 120, 121, 122] : List UInt8) u166)).set ((IntKind.i64.wrap ((IntKind.i64.wrap (i167 - (1 : Int))) - (1 : Int)))).toNat (45 : Int)).length : Int) ≤ (((l165.set ((IntKind.i64.wrap (i167 - (1 : Int)))).toNat (bt ([48, 49, 50, 51, 52, 53, 54, 55, 56, 57, 97, 98, 99, 100, 101, 102, 103, 104, 105, 106, 107, 108, 109, 110, 111, 112, 113, 114, 115, 116, 117, 118, 119, 120, 121, 122] : List UInt8) u166)).set ((IntKind.i64.wrap ((IntKind.i64.wrap (i167 - (1 : Int))) - (1 : Int)))).toNat (45 : Int)).length : Int)) ∧ K ([] : List (Int)) (byts ((((l165.set ((IntKind.i64.wrap (i167 - (1 : Int)))).toNat (bt ([48, 49, 50, 51, 52, 53, 54, 55, 56, 57, 97, 98, 99, 100, 101, 102, 103, 104, 105, 106, 107, 108, 109, 110, 111, 112, 113, 114, 115, 116, 117, 118, 119, 120, 121, 122] : List UInt8) u166)).set ((IntKind.i64.wrap ((IntKind.i64.wrap (i167 - (1 : Int))) - (1 : Int)))).toNat (45 : Int)).drop ((IntKind.i64.wrap ((IntKind.i64.wrap (i167 - (1 : Int))) - (1 : Int)))).toNat).take (((((l165.set ((IntKind.i64.wrap (i167 - (1 : Int)))).toNat (bt ([48, 49, 50, 51, 52, 53, 54, 55, 56, 57, 97, 98, 99, 100, 101, 102, 103, 104, 105, 106, 107, 108, 109, 110, 111, 112, 113, 114, 115, 116, 117, 118, 119, 120, 121, 122] : List UInt8) u166)).set ((IntKind.i64.wrap ((IntKind.i64.wrap (i167 - (1 : Int))) - (1 : Int)))).toNat (45 : Int)).length : Int)).toNat - ((IntKind.i64.wrap ((IntKind.i64.wrap (i167 - (1 : Int))) - (1 : Int)))).toNat))))))) → X164 l165 u166 i167) → X164 (List.replicate 65 (0 : Int)) (IntKind.u64.wrap (0 - a1)) (65 : Int)))) ∧ (a3 = false → internal_strconv_isPowerOfTwo.wp a2 fun y183 => ((y183 = true → math_bits_TrailingZeros.wp (IntKind.u64.wrap a2) fun y186 => ∀ X202 : List (Int) → Int → Int → Prop, (∀ (l203 : List (Int)) (u204 : Int) (i205 : Int), (((IntKind.u64.wrap a2) ≤ u204 → (0 ≤ (ibits .and .u64 u204 (IntKind.u64.wrap ((IntKind.u64.wrap a2) - (1 : Int)))) ∧ (ibits .and .u64 u204 (IntKind.u64.wrap ((IntKind.u64.wrap a2) - (1 : Int)))) < (([48, 49, 50, 51, 52, 53, 54, 55, 56, 57, 97, 98, 99, 100, 101, 102, 103, 104, 105, 106, 107, 108, 109, 110, 111, 112, 113, 114, 115, 116, 117, 118, 119, 120, 121, 122] : List UInt8).length : Int)) ∧ (0 ≤ (IntKind.i64.wrap (i205 - (1 : Int))) ∧ (IntKind.i64.wrap (i205 - (1 : Int))) < (l203.length : Int)) ∧ (0 ≤ (IntKind.u64.wrap y186)) ∧ X202 (l203.set ((IntKind.i64.wrap (i205 - (1 : Int)))).toNat (bt ([48, 49, 50, 51, 52, 53, 54, 55, 56, 57, 97, 98, 99, 100, 101, 102, 103, 104, 105, 106, 107, 108, 109, 110, 111, 112, 113, 114, 115, 116, 117, 118, 119, 120, 121, 122] : List UInt8) (ibits .and .u64 u204 (IntKind.u64.wrap ((IntKind.u64.wrap a2) - (1 : Int)))))) (Int.fdiv u204 (2 ^ (min ((IntKind.u64.wrap y186)).toNat IntKind.u64.bits))) (IntKind.i64.wrap (i205 - (1 : Int)))) ∧ (¬((IntKind.u64.wrap a2) ≤ u204) → (0 ≤ u204 ∧ u204 < (([48, 49, 50, 51, 52, 53, 54, 55, 56, 57, 97, 98, 99, 100, 101, 102, 103, 104, 105, 106, 107, 108, 109, 110, 111, 112, 113, 114, 115, 116, 117, 118, 119, 120, 121, 122] : List UInt8).length : Int)) ∧ (0 ≤ (IntKind.i64.wrap (i205 - (1 : Int))) ∧ (IntKind.i64.wrap (i205 - (1 : Int))) < (l203.length : Int)) ∧ ((a4 = true → False) ∧ (a4 = false → (0 ≤ (IntKind.i64.wrap (i205 - (1 : Int))) ∧ (IntKind.i64.wrap (i205 - (1 : Int))) ≤ ((l203.set ((IntKind.i64.wrap (i205 - (1 : Int)))).toNat (bt ([48, 49, 50, 51, 52, 53, 54, 55, 56, 57, 97, 98, 99, 100, 101, 102, 103, 104, 105, 106, 107, 108, 109, 110, 111, 112, 113, 114, 115, 116, 117, 118, 119, 120, 121, 122] : List UInt8) u204)).length : Int) ∧ ((l203.set ((IntKind.i64.wrap (i205 - (1 : Int)))).toNat (bt ([48, 49, 50, 51, 52, 53, 54, 55, 56, 57, 97, 98, 99, 100, 101, 102, 103, 104, 105, 106, 107, 108, 109, 110, 111, 112, 113, 114, 115, 116, 117, 118, 119, 120, 121, 122] : List UInt8) u204)).length : Int) ≤ ((l203.set ((IntKind.i64.wrap (i205 - (1 : Int)))).toNat (bt ([48, 49, 50, 51, 52, 53, 54, 55, 56, 57, 97, 98, 99, 100, 101, 102, 103, 104, 105, 106, 107, 108, 109, 110, 111, 112, 113, 114, 115, 116, 117, 118, 119, 120, 121, 122] : List UInt8) u204)).length : Int)) ∧ K ([] : List (Int)) (byts (((l203.set ((IntKind.i64.wrap (i205 - (1 : Int)))).toNat (bt ([48, 49, 50, 51, 52, 53, 54, 55, 56, 57, 97, 98, 99, 100, 101, 102, 103, 104, 105, 106, 107, 108, 109, 110, 111, 112, 113, 114, 115, 116, 117, 118, 119, 120, 121, 122] : List UInt8) u204)).drop ((IntKind.i64.wrap (i205 - (1 : Int)))).toNat).take ((((l203.set ((IntKind.i64.wrap (i205 - (1 : Int)))).toNat (bt ([48, 49, 50, 51, 52, 53, 54, 55, 56, 57, 97, 98, 99, 100, 101, 102, 103, 104, 105, 106, 107, 108, 109, 110, 111, 112, 113, 114, 115, 116, 117, 118, 119, 120, 121, 122] : List UInt8) u204)).length : Int)).toNat - ((IntKind.i64.wrap (i205 - (1 : Int)))).toNat))))))) → X202 l203 u204 i205) → X202 (List.replicate 65 (0 : Int)) (a1) (65 : Int)) ∧ (y183 = false → ∀ X233 : List (Int) → Int → Int → Prop, (∀ (l234 : List (Int)) (u235 : Int) (i236 : Int), (((IntKind.u64.wrap a2) ≤ u235 → ((IntKind.u64.wrap a2) ≠ 0) ∧ (0 ≤ (IntKind.u64.wrap (u235 - (IntKind.u64.wrap ((IntKind.u64.wrap (Int.tdiv u235 (IntKind.u64.wrap a2))) * (IntKind.u64.wrap a2))))) ∧ (IntKind.u64.wrap (u235 - (IntKind.u64.wrap ((IntKind.u64.wrap (Int.tdiv u235 (IntKind.u64.wrap a2))) * (IntKind.u64.wrap a2))))) < (([48, 49, 50, 51, 52, 53, 54, 55, 56, 57, 97, 98, 99, 100, 101, 102, 103, 104, 105, 106, 107, 108, 109, 110, 111, 112, 113, 114, 115, 116, 117, 118, 119, 120, 121, 122] : List UInt8).length : Int)) ∧ (0 ≤ (IntKind.i64.wrap (i236 - (1 : Int))) ∧ (IntKind.i64.wrap (i236 - (1 : Int))) < (l234.length : Int)) ∧ X233 (l234.set ((IntKind.i64.wrap (i236 - (1 : Int)))).toNat (bt ([48, 49, 50, 51, 52, 53, 54, 55, 56, 57, 97, 98, 99, 100, 101, 102, 103, 104, 105, 106, 107, 108, 109, 110, 111, 112, 113, 114, 115, 116, 117, 118, 119, 120, 121, 122] : List UInt8) (IntKind.u64.wrap (u235 - (IntKind.u64.wrap ((IntKind.u64.wrap (Int.tdiv u235 (IntKind.u64.wrap a2))) * (IntKind.u64.wrap a2))))))) (IntKind.u64.wrap (Int.tdiv u235 (IntKind.u64.wrap a2))) (IntKind.i64.wrap (i236 - (1 : Int)))) ∧ (¬((IntKind.u64.wrap a2) ≤ u235) → (0 ≤ u235 ∧ u235 < (([48, 49, 50, 51, 52, 53, 54, 55, 56, 57, 97, 98, 99, 100, 101, 102, 103, 104, 105, 106, 107, 108, 109, 110, 111, 112, 113, 114, 115, 116, 117, 118, 119, 120, 121, 122] : List UInt8).length : Int)) ∧ (0 ≤ (IntKind.i64.wrap (i236 - (1 : Int))) ∧ (IntKind.i64.wrap (i236 - (1 : Int))) < (l234.length : Int)) ∧ ((a4 = true → False) ∧ (a4 = false → (0 ≤ (IntKind.i64.wrap (i236 - (1 : Int))) ∧ (IntKind.i64.wrap (i236 - (1 : Int))) ≤ ((l234.set ((IntKind.i64.wrap (i236 - (1 : Int)))).toNat (bt ([48, 49, 50, 51, 52, 53, 54, 55, 56, 57, 97, 98, 99, 100, 101, 102, 103, 104, 105, 106, 107, 108, 109, 110, 111, 112, 113, 114, 115, 116, 117, 118, 119, 120, 121, 122] : List UInt8) u235)).length : Int) ∧ ((l234.set ((IntKind.i64.wrap (i236 - (1 : Int)))).toNat (bt ([48, 49, 50, 51, 52, 53, 54, 55, 56, 57, 97, 98, 99, 100, 101, 102, 103, 104, 105, 106, 107, 108, 109, 110, 111, 112, 113, 114, 115, 116, 117, 118, 119, 120, 121, 122] : List UInt8) u235)).length : Int) ≤ ((l234.set ((IntKind.i64.wrap (i236 - (1 : Int)))).toNat (bt ([48, 49, 50, 51, 52, 53, 54, 55, 56, 57, 97, 98, 99, 100, 101, 102, 103, 104, 105, 106, 107, 108, 109, 110, 111, 112, 113, 114, 115, 116, 117, 118, 119, 120, 121, 122] : List UInt8) u235)).length : Int)) ∧ K ([] : List (Int)) (byts (((l234.set ((IntKind.i64.wrap (i236 - (1 : Int)))).toNat (bt ([48, 49, 50, 51, 52, 53, 54, 55, 56, 57, 97, 98, 99, 100, 101, 102, 103, 104, 105, 106, 107, 108, 109, 110, 111, 112, 113, 114, 115, 116, 117, 118, 119, 120, 121, 122] : List UInt8) u235)).drop ((IntKind.i64.wrap (i236 - (1 : Int)))).toNat).take ((((l234.set ((IntKind.i64.wrap (i236 - (1 : Int)))).toNat (bt ([48, 49, 50, 51, 52, 53, 54, 55, 56, 57, 97, 98, 99, 100, 101, 102, 103, 104, 105, 106, 107, 108, 109, 110, 111, 112, 113, 114, 115, 116, 117, 118, 119, 120, 121, 122] : List UInt8) u235)).length : Int)).toNat - ((IntKind.i64.wrap (i236 - (1 : Int)))).toNat))))))) → X233 l234 u235 i236) → X233 (List.replicate 65 (0 : Int)) (a1) (65 : Int)))))))))))
end Go.Proofs.YtecdkjnomkdbkaaDoor.G

namespace Go.Proofs.YtecdkjnomkdbkaaDoor.G
open Go Go.Ab
set_option maxRecDepth 100000
set_option linter.unusedVariables false
set_option linter.unusedSimpArgs false
set_option maxHeartbeats 1000000
def internal_strconv_FormatIntW.wp (a0 : Int) (a1 : Int) (K : (List UInt8) → Prop) : Prop := ((a1 = (10 : Int) → (((0 : Int) ≤ a0 → ((a0 < (100 : Int) → internal_strconv_small.wp a0 fun y104 => K (y104)) ∧ (¬(a0 < (100 : Int)) → ((a0 < (0 : Int) → False) ∧ (¬(a0 < (0 : Int)) → False))))) ∧ (¬((0 : Int) ≤ a0) → ((a0 < (0 : Int) → False) ∧ (¬(a0 < (0 : Int)) → False))))) ∧ (¬(a1 = (10 : Int)) → internal_strconv_formatBits.wp ([] : List (Int)) (IntKind.u64.wrap a0) a1 (decide (a0 < (0 : Int))) false fun y114 y117 => K (y117)))
def internal_strconv_FormatIntH.wp (a0 : Int) (a1 : Int) (K : List UInt8 → Prop) : Prop := a1 = 10 ∧ (-9223372036854775808 ≤ a0 ∧ a0 ≤ 9223372036854775807) ∧ K (Lib.itoa a0)
def internal_strconv_FormatInt.wp (a0 : Int) (a1 : Int) (K : List UInt8 → Prop) : Prop := internal_strconv_FormatIntH.wp a0 a1 K ∨ internal_strconv_FormatIntW.wp a0 a1 K
end Go.Proofs.YtecdkjnomkdbkaaDoor.G

namespace Go.Proofs.YtecdkjnomkdbkaaDoor.G
open Go Go.Ab
set_option maxRecDepth 100000
set_option linter.unusedVariables false
set_option linter.unusedSimpArgs false
set_option maxHeartbeats 1000000
def strconv_FormatInt.wp (a0 : Int) (a1 : Int) (K : (List UInt8) → Prop) : Prop := internal_strconv_FormatInt.wp a0 a1 fun y101 => K (y101)
end Go.Proofs.YtecdkjnomkdbkaaDoor.G

namespace Go.Proofs.YtecdkjnomkdbkaaDoor.G
open Go Go.Ab
set_option maxRecDepth 100000
set_option linter.unusedVariables false
set_option linter.unusedSimpArgs false
set_option maxHeartbeats 1000000
def impl_Decimal.wp (a0 : Int) (K : (List UInt8) → Prop) : Prop := strconv_FormatInt.wp a0 (10 : Int) fun y101 => K (y101)
end Go.Proofs.YtecdkjnomkdbkaaDoor.G

namespace Go.Proofs.YtecdkjnomkdbkaaDoor.G
open Go Go.Ab
set_option maxRecDepth 100000
set_option linter.unusedVariables false
set_option linter.unusedSimpArgs false
set_option maxHeartbeats 1000000
def impl_JournalOf.wp (l0 : List (List UInt8)) (K : List UInt8 → Bool → Prop) : Prop := l0.length ≤ 2 ^ 40 ∧ ∀ X : List UInt8 → Int → Nat → Prop, (∀ (b : List UInt8) (c : Int) (i : Nat), ((i < l0.length → (b.length ≤ 16000 ∧ (l0.getD i []).length ≤ 2 ^ 40) ∧ strings_Contains.wp (l0.getD i []) [10] fun y1 => ((y1 = true → K [] false) ∧ (y1 = false → impl_CheckOf.wp c (l0.getD i []) fun c2 _ => impl_Decimal.wp c2 fun d => d.length ≤ 2 ^ 40 ∧ (((16000 : Int) < ((b ++ (d ++ [32] ++ l0.getD i [] ++ [10])).length : Int) → K [] false) ∧ (¬ (16000 : Int) < ((b ++ (d ++ [32] ++ l0.getD i [] ++ [10])).length : Int) → X (b ++ (d ++ [32] ++ l0.getD i [] ++ [10])) c2 (i + 1)))))) ∧ (¬ i < l0.length → K b true)) → X b c i) → X [] 0 0
end Go.Proofs.YtecdkjnomkdbkaaDoor.G

namespace Go.Proofs.YtecdkjnomkdbkaaDoor.G
open Go Go.Ab
set_option maxRecDepth 100000
set_option linter.unusedVariables false
set_option linter.unusedSimpArgs false
set_option maxHeartbeats 1000000
def laws_eqStringS.wp (l0 : List (List UInt8)) (l1 : List (List UInt8)) (K : Bool → Prop) : Prop := (((l0.length : Int) = (l1.length : Int) → ∀ X102 : Int → Prop, (∀ (i103 : Int), ((i103 < (l0.length : Int) → (0 ≤ i103 ∧ i103 < (l0.length : Int)) ∧ (0 ≤ i103 ∧ i103 < (l1.length : Int)) ∧ (((l0.getD (i103).toNat ([] : List UInt8)) = (l1.getD (i103).toNat ([] : List UInt8)) → X102 (IntKind.i64.wrap (i103 + (1 : Int)))) ∧ (¬((l0.getD (i103).toNat ([] : List UInt8)) = (l1.getD (i103).toNat ([] : List UInt8))) → K (false)))) ∧ (¬(i103 < (l0.length : Int)) → K (true))) → X102 i103) → X102 (0 : Int)) ∧ (¬((l0.length : Int) = (l1.length : Int)) → K (false)))
end Go.Proofs.YtecdkjnomkdbkaaDoor.G

namespace Go.Proofs.YtecdkjnomkdbkaaDoor.G
open Go Go.Ab
set_option maxRecDepth 100000
set_option linter.unusedVariables false
set_option linter.unusedSimpArgs false
set_option maxHeartbeats 1000000
def laws_FnExactJournalOf.wp (l0 : List (List UInt8)) (K : Bool → Prop) : Prop := laws_szStringS.wp l0 (1048576 : Int) fun y101 => ((y101 < (0 : Int) → K (true)) ∧ (¬(y101 < (0 : Int)) → laws_toStringS.wp l0 fun y104 => spec_JournalOf.wp y104 fun y108 y109 => laws_toStringS.wp l0 fun y111 => impl_JournalOf.wp y111 fun y115 y116 => ((y115 = y108 → (((y116 == y109) = true → laws_toStringS.wp l0 fun y120 => laws_eqStringS.wp y111 y120 fun y124 => ((y124 = true → K (true)) ∧ (y124 = false → K (false)))) ∧ ((y116 == y109) = false → K (false)))) ∧ (¬(y115 = y108) → K (false)))))
end Go.Proofs.YtecdkjnomkdbkaaDoor.G

