/-
  What the functions compute, as formulas over numbers and lists. Printed by a program of the session; nothing here is trusted.
-/
import Derived.Test.YtcgiboeilcdonaaDoorAbG
namespace Go.Proofs.YtcgiboeilcdonaaDoor.G
open Go Go.Ab
set_option maxRecDepth 100000
set_option linter.unusedVariables false
set_option linter.unusedSimpArgs false
set_option maxHeartbeats 1000000
def R_LeFlt_f32_o (H : Heap) (x : List (Nat)) (c : List AV) : Prop := c = [(c.getD 0 .und)] ∧ Shows H (c.getD 0 .und) 1 (enc (eFlt .f32) x)
end Go.Proofs.YtcgiboeilcdonaaDoor.G

namespace Go.Proofs.YtcgiboeilcdonaaDoor.G
open Go Go.Ab
set_option maxRecDepth 100000
set_option linter.unusedVariables false
set_option linter.unusedSimpArgs false
set_option maxHeartbeats 1000000
def laws_eqStringS.wp (l0 : List (List UInt8)) (l1 : List (List UInt8)) (K : Bool → Prop) : Prop := (((l0.length : Int) = (l1.length : Int) → ∀ X102 : Int → Prop, (∀ (i103 : Int), ((i103 < (l0.length : Int) → (0 ≤ i103 ∧ i103 < (l0.length : Int)) ∧ (0 ≤ i103 ∧ i103 < (l1.length : Int)) ∧ (((l0.getD (i103).toNat ([] : List UInt8)) = (l1.getD (i103).toNat ([] : List UInt8)) → X102 (IntKind.i64.wrap (i103 + (1 : Int)))) ∧ (¬((l0.getD (i103).toNat ([] : List UInt8)) = (l1.getD (i103).toNat ([] : List UInt8))) → K (false)))) ∧ (¬(i103 < (l0.length : Int)) → K (true))) → X102 i103) → X102 (0 : Int)) ∧ (¬((l0.length : Int) = (l1.length : Int)) → K (false)))
end Go.Proofs.YtcgiboeilcdonaaDoor.G

namespace Go.Proofs.YtcgiboeilcdonaaDoor.G
open Go Go.Ab
set_option maxRecDepth 100000
set_option linter.unusedVariables false
set_option linter.unusedSimpArgs false
set_option maxHeartbeats 1000000
def spec_l01Check.wp (a0 : Int) (a1 : List UInt8) (K : Int → Prop) : Prop := ∀ X101 : Int → Int → Prop, (∀ (n102 : Int) (i103 : Int), ((i103 < (a1.length : Int) → (0 ≤ i103 ∧ i103 < (a1.length : Int)) ∧ X101 (Int.tmod (IntKind.i64.wrap ((IntKind.i64.wrap ((IntKind.i64.wrap ((853 : Int) * n102)) + (IntKind.i64.wrap (bt a1 i103)))) + (139 : Int))) (65003 : Int)) (IntKind.i64.wrap (i103 + (1 : Int)))) ∧ (¬(i103 < (a1.length : Int)) → K (n102))) → X101 n102 i103) → X101 (a0) (0 : Int)
end Go.Proofs.YtcgiboeilcdonaaDoor.G

namespace Go.Proofs.YtcgiboeilcdonaaDoor.G
open Go Go.Ab
set_option maxRecDepth 100000
set_option linter.unusedVariables false
set_option linter.unusedSimpArgs false
set_option maxHeartbeats 1000000
def spec_l01Dec.wp (a0 : Int) (K : (List UInt8) → Prop) : Prop := ∀ X104 : List (Int) → Int → Prop, (∀ (out105 : List (Int)) (rest107 : Int), (((out105.length : Int) = (0 : Int) → (((Int.tmod rest107 (10 : Int)) < (0 : Int) → ((([(IntKind.u8.wrap (IntKind.i64.wrap ((48 : Int) + (IntKind.i64.wrap (0 - (Int.tmod rest107 (10 : Int)))))))] : List (Int)).length + out105.length) * 1 ≤ 2 ^ 40) ∧ X104 (([(IntKind.u8.wrap (IntKind.i64.wrap ((48 : Int) + (IntKind.i64.wrap (0 - (Int.tmod rest107 (10 : Int)))))))] : List (Int)) ++ out105) (IntKind.i64.wrap (Int.tdiv rest107 (10 : Int)))) ∧ (¬((Int.tmod rest107 (10 : Int)) < (0 : Int)) → ((([(IntKind.u8.wrap (IntKind.i64.wrap ((48 : Int) + (Int.tmod rest107 (10 : Int)))))] : List (Int)).length + out105.length) * 1 ≤ 2 ^ 40) ∧ X104 (([(IntKind.u8.wrap (IntKind.i64.wrap ((48 : Int) + (Int.tmod rest107 (10 : Int)))))] : List (Int)) ++ out105) (IntKind.i64.wrap (Int.tdiv rest107 (10 : Int)))))) ∧ (¬((out105.length : Int) = (0 : Int)) → ((rest107 = (0 : Int) → ((a0 < (0 : Int) → ((([(45 : Int)] : List (Int)).length + out105.length) * 1 ≤ 2 ^ 40) ∧ K (byts (([(45 : Int)] : List (Int)) ++ out105))) ∧ (¬(a0 < (0 : Int)) → K (byts out105)))) ∧ (¬(rest107 = (0 : Int)) → (((Int.tmod rest107 (10 : Int)) < (0 : Int) → ((([(IntKind.u8.wrap (IntKind.i64.wrap ((48 : Int) + (IntKind.i64.wrap (0 - (Int.tmod rest107 (10 : Int)))))))] : List (Int)).length + out105.length) * 1 ≤ 2 ^ 40) ∧ X104 (([(IntKind.u8.wrap (IntKind.i64.wrap ((48 : Int) + (IntKind.i64.wrap (0 - (Int.tmod rest107 (10 : Int)))))))] : List (Int)) ++ out105) (IntKind.i64.wrap (Int.tdiv rest107 (10 : Int)))) ∧ (¬((Int.tmod rest107 (10 : Int)) < (0 : Int)) → ((([(IntKind.u8.wrap (IntKind.i64.wrap ((48 : Int) + (Int.tmod rest107 (10 : Int)))))] : List (Int)).length + out105.length) * 1 ≤ 2 ^ 40) ∧ X104 (([(IntKind.u8.wrap (IntKind.i64.wrap ((48 : Int) + (Int.tmod rest107 (10 : Int)))))] : List (Int)) ++ out105) (IntKind.i64.wrap (Int.tdiv rest107 (10 : Int))))))))) → X104 out105 rest107) → X104 ([] : List (Int)) (a0)
end Go.Proofs.YtcgiboeilcdonaaDoor.G

namespace Go.Proofs.YtcgiboeilcdonaaDoor.G
open Go Go.Ab
set_option maxRecDepth 100000
set_option linter.unusedVariables false
set_option linter.unusedSimpArgs false
set_option maxHeartbeats 1000000
def spec_l01Cut.wp (a0 : List UInt8) (a1 : Int) (K : (List (List UInt8)) → Prop) : Prop := ∀ X127 : List (List UInt8) → Int → Int → Prop, (∀ (out128 : List (List UInt8)) (fromq130 : Int) (i131 : Int), ((i131 ≤ (a0.length : Int) → ((i131 = (a0.length : Int) → (0 ≤ fromq130 ∧ fromq130 ≤ i131 ∧ i131 ≤ (a0.length : Int)) ∧ ((out128.length + ([((a0.drop (fromq130).toNat).take ((i131).toNat - (fromq130).toNat))] : List (List UInt8)).length) * 16 ≤ 2 ^ 40) ∧ X127 (out128 ++ ([((a0.drop (fromq130).toNat).take ((i131).toNat - (fromq130).toNat))] : List (List UInt8))) (IntKind.i64.wrap (i131 + (1 : Int))) (IntKind.i64.wrap (i131 + (1 : Int)))) ∧ (¬(i131 = (a0.length : Int)) → (0 ≤ i131 ∧ i131 < (a0.length : Int)) ∧ (((bt a0 i131) = a1 → (0 ≤ fromq130 ∧ fromq130 ≤ i131 ∧ i131 ≤ (a0.length : Int)) ∧ ((out128.length + ([((a0.drop (fromq130).toNat).take ((i131).toNat - (fromq130).toNat))] : List (List UInt8)).length) * 16 ≤ 2 ^ 40) ∧ X127 (out128 ++ ([((a0.drop (fromq130).toNat).take ((i131).toNat - (fromq130).toNat))] : List (List UInt8))) (IntKind.i64.wrap (i131 + (1 : Int))) (IntKind.i64.wrap (i131 + (1 : Int)))) ∧ (¬((bt a0 i131) = a1) → X127 (out128) (fromq130) (IntKind.i64.wrap (i131 + (1 : Int)))))))) ∧ (¬(i131 ≤ (a0.length : Int)) → K (out128))) → X127 out128 fromq130 i131) → X127 ([] : List (List UInt8)) (0 : Int) (0 : Int)
end Go.Proofs.YtcgiboeilcdonaaDoor.G

namespace Go.Proofs.YtcgiboeilcdonaaDoor.G
open Go Go.Ab
set_option maxRecDepth 100000
set_option linter.unusedVariables false
set_option linter.unusedSimpArgs false
set_option maxHeartbeats 1000000
def spec_l08Lines.wp (a0 : List UInt8) (K : (List (List UInt8)) → (List UInt8) → Prop) : Prop := spec_l01Cut.wp a0 (10 : Int) fun y101 => (0 ≤ (0 : Int) ∧ (0 : Int) ≤ (IntKind.i64.wrap ((y101.length : Int) - (1 : Int))) ∧ (IntKind.i64.wrap ((y101.length : Int) - (1 : Int))) ≤ (y101.length : Int)) ∧ (0 ≤ (IntKind.i64.wrap ((y101.length : Int) - (1 : Int))) ∧ (IntKind.i64.wrap ((y101.length : Int) - (1 : Int))) < (y101.length : Int)) ∧ K ((y101.drop ((0 : Int)).toNat).take (((IntKind.i64.wrap ((y101.length : Int) - (1 : Int)))).toNat - ((0 : Int)).toNat)) (y101.getD ((IntKind.i64.wrap ((y101.length : Int) - (1 : Int)))).toNat ([] : List UInt8))
end Go.Proofs.YtcgiboeilcdonaaDoor.G

namespace Go.Proofs.YtcgiboeilcdonaaDoor.G
open Go Go.Ab
set_option maxRecDepth 100000
set_option linter.unusedVariables false
set_option linter.unusedSimpArgs false
set_option maxHeartbeats 1000000
def spec_l08Recover.wp (a0 : List UInt8) (K : (List (List UInt8)) → Int → Prop) : Prop := spec_l08Lines.wp a0 fun y101 y104 => ∀ X152 : List (List UInt8) → Int → Int → Int → Prop, (∀ (out153 : List (List UInt8)) (check155 : Int) (n156 : Int) (i157 : Int), ((i157 < (y101.length : Int) → ∀ X159 : Int → Prop, (∀ (cut160 : Int), (0 ≤ i157 ∧ i157 < (y101.length : Int)) ∧ ((cut160 < ((y101.getD (i157).toNat ([] : List UInt8)).length : Int) → (0 ≤ cut160 ∧ cut160 < ((y101.getD (i157).toNat ([] : List UInt8)).length : Int)) ∧ (((bt (y101.getD (i157).toNat ([] : List UInt8)) cut160) = (32 : Int) → ((cut160 = ((y101.getD (i157).toNat ([] : List UInt8)).length : Int) → K (out153) (n156)) ∧ (¬(cut160 = ((y101.getD (i157).toNat ([] : List UInt8)).length : Int)) → (0 ≤ (IntKind.i64.wrap (cut160 + (1 : Int))) ∧ (IntKind.i64.wrap (cut160 + (1 : Int))) ≤ ((y101.getD (i157).toNat ([] : List UInt8)).length : Int) ∧ ((y101.getD (i157).toNat ([] : List UInt8)).length : Int) ≤ ((y101.getD (i157).toNat ([] : List UInt8)).length : Int)) ∧ spec_l01Check.wp check155 (((y101.getD (i157).toNat ([] : List UInt8)).drop ((IntKind.i64.wrap (cut160 + (1 : Int)))).toNat).take ((((y101.getD (i157).toNat ([] : List UInt8)).length : Int)).toNat - ((IntKind.i64.wrap (cut160 + (1 : Int)))).toNat)) fun y167 => (0 ≤ (0 : Int) ∧ (0 : Int) ≤ cut160 ∧ cut160 ≤ ((y101.getD (i157).toNat ([] : List UInt8)).length : Int)) ∧ spec_l01Dec.wp y167 fun y170 => (((((y101.getD (i157).toNat ([] : List UInt8)).drop ((0 : Int)).toNat).take ((cut160).toNat - ((0 : Int)).toNat)) = y170 → ((out153.length + ([(((y101.getD (i157).toNat ([] : List UInt8)).drop ((IntKind.i64.wrap (cut160 + (1 : Int)))).toNat).take ((((y101.getD (i157).toNat ([] : List UInt8)).length : Int)).toNat - ((IntKind.i64.wrap (cut160 + (1 : Int)))).toNat))] : List (List UInt8)).length) * 16 ≤ 2 ^ 40) ∧ X152 (out153 ++ ([(((y101.getD (i157).toNat ([] : List UInt8)).drop ((IntKind.i64.wrap (cut160 + (1 : Int)))).toNat).take ((((y101.getD (i157).toNat ([] : List UInt8)).length : Int)).toNat - ((IntKind.i64.wrap (cut160 + (1 : Int)))).toNat))] : List (List UInt8))) (y167) (IntKind.i64.wrap (n156 + (IntKind.i64.wrap (((y101.getD (i157).toNat ([] : List UInt8)).length : Int) + (1 : Int))))) (IntKind.i64.wrap (i157 + (1 : Int)))) ∧ (¬((((y101.getD (i157).toNat ([] : List UInt8)).drop ((0 : Int)).toNat).take ((cut160).toNat - ((0 : Int)).toNat)) = y170) → K (out153) (n156)))))) ∧ (¬((bt (y101.getD (i157).toNat ([] : List UInt8)) cut160) = (32 : Int)) → X159 (IntKind.i64.wrap (cut160 + (1 : Int)))))) ∧ (¬(cut160 < ((y101.getD (i157).toNat ([] : List UInt8)).length : Int)) → ((cut160 = ((y101.getD (i157).toNat ([] : List UInt8)).length : Int) → K (out153) (n156)) ∧ (¬(cut160 = ((y101.getD (i157).toNat ([] : List UInt8)).length : Int)) → (0 ≤ (IntKind.i64.wrap (cut160 + (1 : Int))) ∧ (IntKind.i64.wrap (cut160 + (1 : Int))) ≤ ((y101.getD (i157).toNat ([] : List UInt8)).length : Int) ∧ ((y101.getD (i157).toNat ([] : List UInt8)).length : Int) ≤ ((y101.getD (i157).toNat ([] : List UInt8)).length : Int)) ∧ spec_l01Check.wp check155 (((y101.getD (i157).toNat ([] : List UInt8)).drop ((IntKind.i64.wrap (cut160 + (1 : Int)))).toNat).take ((((y101.getD (i157).toNat ([] : List UInt8)).length : Int)).toNat - ((IntKind.i64.wrap (cut160 + (1 : Int)))).toNat)) fun y181 => (0 ≤ (0 : Int) ∧ (0 : Int) ≤ cut160 ∧ cut160 ≤ ((y101.getD (i157).toNat ([] : List UInt8)).length : Int)) ∧ spec_l01Dec.wp y181 fun y184 => (((((y101.getD (i157).toNat ([] : List UInt8)).drop ((0 : Int)).toNat).take ((cut160).toNat - ((0 : Int)).toNat)) = y184 → ((out153.length + ([(((y101.getD (i157).toNat ([] : List UInt8)).drop ((IntKind.i64.wrap (cut160 + (1 : Int)))).toNat).take ((((y101.getD (i157).toNat ([] : List UInt8)).length : Int)).toNat - ((IntKind.i64.wrap (cut160 + (1 : Int)))).toNat))] : List (List UInt8)).length) * 16 ≤ 2 ^ 40) ∧ X152 (out153 ++ ([(((y101.getD (i157).toNat ([] : List UInt8)).drop ((IntKind.i64.wrap (cut160 + (1 : Int)))).toNat).take ((((y101.getD (i157).toNat ([] : List UInt8)).length : Int)).toNat - ((IntKind.i64.wrap (cut160 + (1 : Int)))).toNat))] : List (List UInt8))) (y181) (IntKind.i64.wrap (n156 + (IntKind.i64.wrap (((y101.getD (i157).toNat ([] : List UInt8)).length : Int) + (1 : Int))))) (IntKind.i64.wrap (i157 + (1 : Int)))) ∧ (¬((((y101.getD (i157).toNat ([] : List UInt8)).drop ((0 : Int)).toNat).take ((cut160).toNat - ((0 : Int)).toNat)) = y184) → K (out153) (n156))))))) → X159 cut160) → X159 (0 : Int)) ∧ (¬(i157 < (y101.length : Int)) → K (out153) (n156))) → X152 out153 check155 n156 i157) → X152 ([] : List (List UInt8)) (0 : Int) (0 : Int) (0 : Int)
end Go.Proofs.YtcgiboeilcdonaaDoor.G

namespace Go.Proofs.YtcgiboeilcdonaaDoor.G
open Go Go.Ab
set_option maxRecDepth 100000
set_option linter.unusedVariables false
set_option linter.unusedSimpArgs false
set_option maxHeartbeats 1000000
def spec_RecoverJournal.wp (a0 : List UInt8) (K : (List (List UInt8)) → Int → Bool → Prop) : Prop := (((16000 : Int) < (a0.length : Int) → K ([] : List (List UInt8)) (0 : Int) (false)) ∧ (¬((16000 : Int) < (a0.length : Int)) → spec_l08Recover.wp a0 fun y102 y105 => K (y102) (y105) (true)))
end Go.Proofs.YtcgiboeilcdonaaDoor.G

namespace Go.Proofs.YtcgiboeilcdonaaDoor.G
open Go Go.Ab
set_option maxRecDepth 100000
set_option linter.unusedVariables false
set_option linter.unusedSimpArgs false
set_option maxHeartbeats 1000000
def strings_IndexByte.wp (a0 : List UInt8) (a1 : Int) (K : Int → Prop) : Prop := K (Lib.indexByte a0 a1.toNat.toUInt8)
end Go.Proofs.YtcgiboeilcdonaaDoor.G

namespace Go.Proofs.YtcgiboeilcdonaaDoor.G
open Go Go.Ab
set_option maxRecDepth 100000
set_option linter.unusedVariables false
set_option linter.unusedSimpArgs false
set_option maxHeartbeats 1000000
def impl_within.wp (a0 : Int) (a1 : Int) (a2 : Int) (K : Bool → Prop) : Prop := ((a1 ≤ a0 → K (decide (a0 ≤ a2))) ∧ (¬(a1 ≤ a0) → K (false)))
end Go.Proofs.YtcgiboeilcdonaaDoor.G

namespace Go.Proofs.YtcgiboeilcdonaaDoor.G
open Go Go.Ab
set_option maxRecDepth 100000
set_option linter.unusedVariables false
set_option linter.unusedSimpArgs false
set_option maxHeartbeats 1000000
def impl_CheckOf.wp (a0 : Int) (a1 : List UInt8) (K : Int → Bool → Prop) : Prop := impl_within.wp a0 (0 : Int) (65002 : Int) fun y101 => ((y101 = true → ∀ X104 : Int → Int → Prop, (∀ (start105 : Int) (x106 : Int), ((x106 < (a1.length : Int) → (0 ≤ x106 ∧ x106 < (a1.length : Int)) ∧ X104 (Int.tmod (IntKind.i64.wrap ((IntKind.i64.wrap ((IntKind.i64.wrap ((853 : Int) * start105)) + (IntKind.i64.wrap (bt a1 x106)))) + (139 : Int))) (65003 : Int)) (IntKind.i64.wrap (x106 + (1 : Int)))) ∧ (¬(x106 < (a1.length : Int)) → K (start105) (true))) → X104 start105 x106) → X104 (a0) (0 : Int)) ∧ (y101 = false → K (0 : Int) (false)))
end Go.Proofs.YtcgiboeilcdonaaDoor.G

namespace Go.Proofs.YtcgiboeilcdonaaDoor.G
open Go Go.Ab
set_option maxRecDepth 100000
set_option linter.unusedVariables false
set_option linter.unusedSimpArgs false
set_option maxHeartbeats 1000000
def internal_strconv_FormatInt.wp (a0 : Int) (a1 : Int) (K : List UInt8 → Prop) : Prop := a1 = 10 ∧ (-9223372036854775808 ≤ a0 ∧ a0 ≤ 9223372036854775807) ∧ K (Lib.itoa a0)
end Go.Proofs.YtcgiboeilcdonaaDoor.G

namespace Go.Proofs.YtcgiboeilcdonaaDoor.G
open Go Go.Ab
set_option maxRecDepth 100000
set_option linter.unusedVariables false
set_option linter.unusedSimpArgs false
set_option maxHeartbeats 1000000
def strconv_FormatInt.wp (a0 : Int) (a1 : Int) (K : (List UInt8) → Prop) : Prop := internal_strconv_FormatInt.wp a0 a1 fun y101 => K (y101)
end Go.Proofs.YtcgiboeilcdonaaDoor.G

namespace Go.Proofs.YtcgiboeilcdonaaDoor.G
open Go Go.Ab
set_option maxRecDepth 100000
set_option linter.unusedVariables false
set_option linter.unusedSimpArgs false
set_option maxHeartbeats 1000000
def impl_Decimal.wp (a0 : Int) (K : (List UInt8) → Prop) : Prop := strconv_FormatInt.wp a0 (10 : Int) fun y101 => K (y101)
end Go.Proofs.YtcgiboeilcdonaaDoor.G

namespace Go.Proofs.YtcgiboeilcdonaaDoor.G
open Go Go.Ab
set_option maxRecDepth 100000
set_option linter.unusedVariables false
set_option linter.unusedSimpArgs false
set_option maxHeartbeats 1000000
def internal_stringslite_Index.wp (a0 : List UInt8) (a1 : List UInt8) (K : Int → Prop) : Prop := ∃ c, a1 = [c] ∧ K (Lib.indexByte a0 c)
end Go.Proofs.YtcgiboeilcdonaaDoor.G

namespace Go.Proofs.YtcgiboeilcdonaaDoor.G
open Go Go.Ab
set_option maxRecDepth 100000
set_option linter.unusedVariables false
set_option linter.unusedSimpArgs false
set_option maxHeartbeats 1000000
def internal_stringslite_Cut.wp (a0 : List UInt8) (a1 : List UInt8) (K : (List UInt8) → (List UInt8) → Bool → Prop) : Prop := internal_stringslite_Index.wp a0 a1 fun y101 => (((0 : Int) ≤ y101 → (0 ≤ (0 : Int) ∧ (0 : Int) ≤ y101 ∧ y101 ≤ (a0.length : Int)) ∧ (0 ≤ (IntKind.i64.wrap (y101 + (a1.length : Int))) ∧ (IntKind.i64.wrap (y101 + (a1.length : Int))) ≤ (a0.length : Int) ∧ (a0.length : Int) ≤ (a0.length : Int)) ∧ K ((a0.drop ((0 : Int)).toNat).take ((y101).toNat - ((0 : Int)).toNat)) ((a0.drop ((IntKind.i64.wrap (y101 + (a1.length : Int)))).toNat).take (((a0.length : Int)).toNat - ((IntKind.i64.wrap (y101 + (a1.length : Int)))).toNat)) (true)) ∧ (¬((0 : Int) ≤ y101) → K (a0) ([] : List UInt8) (false)))
end Go.Proofs.YtcgiboeilcdonaaDoor.G

namespace Go.Proofs.YtcgiboeilcdonaaDoor.G
open Go Go.Ab
set_option maxRecDepth 100000
set_option linter.unusedVariables false
set_option linter.unusedSimpArgs false
set_option maxHeartbeats 1000000
def strings_Cut.wp (a0 : List UInt8) (a1 : List UInt8) (K : (List UInt8) → (List UInt8) → Bool → Prop) : Prop := internal_stringslite_Cut.wp a0 a1 fun y101 y102 y103 => K (y101) (y102) (y103)
end Go.Proofs.YtcgiboeilcdonaaDoor.G

namespace Go.Proofs.YtcgiboeilcdonaaDoor.G
open Go Go.Ab
set_option maxRecDepth 100000
set_option linter.unusedVariables false
set_option linter.unusedSimpArgs false
set_option maxHeartbeats 1000000
def impl_recovered.wp (a0 : List UInt8) (K : (List (List UInt8)) → Int → Prop) : Prop := ∀ X131 : List (List UInt8) → Int → Int → Prop, (∀ (out132 : List (List UInt8)) (check134 : Int) (atq135 : Int), ((0 ≤ atq135 ∧ atq135 ≤ (a0.length : Int) ∧ (a0.length : Int) ≤ (a0.length : Int)) ∧ strings_IndexByte.wp ((a0.drop (atq135).toNat).take (((a0.length : Int)).toNat - (atq135).toNat)) (10 : Int) fun y137 => ((y137 < (0 : Int) → K (out132) (atq135)) ∧ (¬(y137 < (0 : Int)) → (0 ≤ atq135 ∧ atq135 ≤ (IntKind.i64.wrap (atq135 + y137)) ∧ (IntKind.i64.wrap (atq135 + y137)) ≤ (a0.length : Int)) ∧ strings_Cut.wp ((a0.drop (atq135).toNat).take (((IntKind.i64.wrap (atq135 + y137))).toNat - (atq135).toNat)) ([32] : List UInt8) fun y141 y142 y143 => impl_CheckOf.wp check134 y142 fun y145 y146 => ((y143 = true → impl_Decimal.wp y145 fun y149 => ((y141 = y149 → ((out132.length + ([y142] : List (List UInt8)).length) * 16 ≤ 2 ^ 40) ∧ X131 (out132 ++ ([y142] : List (List UInt8))) (y145) (IntKind.i64.wrap (atq135 + (IntKind.i64.wrap (y137 + (1 : Int)))))) ∧ (¬(y141 = y149) → K (out132) (atq135)))) ∧ (y143 = false → K (out132) (atq135)))))) → X131 out132 check134 atq135) → X131 ([] : List (List UInt8)) (0 : Int) (0 : Int)
end Go.Proofs.YtcgiboeilcdonaaDoor.G

namespace Go.Proofs.YtcgiboeilcdonaaDoor.G
open Go Go.Ab
set_option maxRecDepth 100000
set_option linter.unusedVariables false
set_option linter.unusedSimpArgs false
set_option maxHeartbeats 1000000
def impl_RecoverJournal.wp (a0 : List UInt8) (K : (List (List UInt8)) → Int → Bool → Prop) : Prop := (((16000 : Int) < (a0.length : Int) → K ([] : List (List UInt8)) (0 : Int) (false)) ∧ (¬((16000 : Int) < (a0.length : Int)) → impl_recovered.wp a0 fun y102 y105 => K (y102) (y105) (true)))
end Go.Proofs.YtcgiboeilcdonaaDoor.G

namespace Go.Proofs.YtcgiboeilcdonaaDoor.G
open Go Go.Ab
set_option maxRecDepth 100000
set_option linter.unusedVariables false
set_option linter.unusedSimpArgs false
set_option maxHeartbeats 1000000
def laws_markText.wp (a0 : Int) (K : (List UInt8) → Prop) : Prop := ((a0 ≤ (0 : Int) → K ([109, 48] : List UInt8)) ∧ (¬(a0 ≤ (0 : Int)) → ∀ X102 : Int → List UInt8 → Prop, (∀ (k103 : Int) (out104 : List UInt8), (((0 : Int) < k103 → (((byts ([(IntKind.u8.wrap (IntKind.i64.wrap ((48 : Int) + (Int.tmod k103 (10 : Int)))))] : List (Int))).length : Int) + (out104.length : Int) ≤ 9223372036854775807) ∧ X102 (IntKind.i64.wrap (Int.tdiv k103 (10 : Int))) ((byts ([(IntKind.u8.wrap (IntKind.i64.wrap ((48 : Int) + (Int.tmod k103 (10 : Int)))))] : List (Int))) ++ out104)) ∧ (¬((0 : Int) < k103) → ((([109] : List UInt8).length : Int) + (out104.length : Int) ≤ 9223372036854775807) ∧ K (([109] : List UInt8) ++ out104))) → X102 k103 out104) → X102 (a0) ([] : List UInt8)))
end Go.Proofs.YtcgiboeilcdonaaDoor.G

namespace Go.Proofs.YtcgiboeilcdonaaDoor.G
open Go Go.Ab
set_option maxRecDepth 100000
set_option linter.unusedVariables false
set_option linter.unusedSimpArgs false
set_option maxHeartbeats 1000000
def laws_markStringS.wp (l0 : List (List UInt8)) (a1 : Int) (K : Int → (List (List UInt8)) → Prop) : Prop := ∀ X110 : List (List UInt8) → Int → Int → Prop, (∀ (a111 : List (List UInt8)) (k112 : Int) (i113 : Int), ((i113 < (a111.length : Int) → laws_markText.wp k112 fun y115 => (0 ≤ i113 ∧ i113 < (a111.length : Int)) ∧ X110 (a111.set (i113).toNat y115) (IntKind.i64.wrap (k112 + (1 : Int))) (IntKind.i64.wrap (i113 + (1 : Int)))) ∧ (¬(i113 < (a111.length : Int)) → K (k112) (a111))) → X110 a111 k112 i113) → X110 (l0) (a1) (0 : Int)
end Go.Proofs.YtcgiboeilcdonaaDoor.G

namespace Go.Proofs.YtcgiboeilcdonaaDoor.G
open Go Go.Ab
set_option maxRecDepth 100000
set_option linter.unusedVariables false
set_option linter.unusedSimpArgs false
set_option maxHeartbeats 1000000
def laws_heldStringS.wp (l0 : List (List UInt8)) (a1 : Int) (K : Int → Prop) : Prop := ∀ X101 : Int → Int → Prop, (∀ (k102 : Int) (i103 : Int), ((i103 < (l0.length : Int) → (0 ≤ i103 ∧ i103 < (l0.length : Int)) ∧ laws_markText.wp k102 fun y106 => (((l0.getD (i103).toNat ([] : List UInt8)) = y106 → X101 (IntKind.i64.wrap (k102 + (1 : Int))) (IntKind.i64.wrap (i103 + (1 : Int)))) ∧ (¬((l0.getD (i103).toNat ([] : List UInt8)) = y106) → K (-1 : Int)))) ∧ (¬(i103 < (l0.length : Int)) → K (k102))) → X101 k102 i103) → X101 (a1) (0 : Int)
end Go.Proofs.YtcgiboeilcdonaaDoor.G

namespace Go.Proofs.YtcgiboeilcdonaaDoor.G
open Go Go.Ab
set_option maxRecDepth 100000
set_option linter.unusedVariables false
set_option linter.unusedSimpArgs false
set_option maxHeartbeats 1000000
def laws_FnExactRecoverJournal.wp (a0 : List UInt8) (K : Bool → Prop) : Prop := (((1048576 : Int) < (a0.length : Int) → K (true)) ∧ (¬((1048576 : Int) < (a0.length : Int)) → spec_RecoverJournal.wp a0 fun y102 y105 y106 => impl_RecoverJournal.wp a0 fun y108 y111 y112 => laws_eqStringS.wp y108 y102 fun y114 => ((y114 = true → ((y111 = y105 → (((y112 == y106) = true → laws_markStringS.wp y108 (1 : Int) fun y119 y120 => laws_heldStringS.wp y120 (1 : Int) fun y122 => ((y122 < (0 : Int) → K (false)) ∧ (¬(y122 < (0 : Int)) → ((y122 = y119 → impl_RecoverJournal.wp a0 fun y126 y129 y130 => laws_eqStringS.wp y126 y102 fun y132 => ((y132 = true → ((y129 = y105 → (((y130 == y106) = true → laws_heldStringS.wp y120 (1 : Int) fun y137 => ((y137 < (0 : Int) → K (false)) ∧ (¬(y137 < (0 : Int)) → ((y137 = y119 → K (true)) ∧ (¬(y137 = y119) → K (false)))))) ∧ ((y130 == y106) = false → K (false)))) ∧ (¬(y129 = y105) → K (false)))) ∧ (y132 = false → K (false)))) ∧ (¬(y122 = y119) → K (false)))))) ∧ ((y112 == y106) = false → K (false)))) ∧ (¬(y111 = y105) → K (false)))) ∧ (y114 = false → K (false)))))
end Go.Proofs.YtcgiboeilcdonaaDoor.G

namespace Go.Proofs.YtcgiboeilcdonaaDoor.G
open Go Go.Ab
set_option maxRecDepth 100000
set_option linter.unusedVariables false
set_option linter.unusedSimpArgs false
set_option maxHeartbeats 1000000
def laws_eqBoolS.wp (l0 : List (Bool)) (l1 : List (Bool)) (K : Bool → Prop) : Prop := (((l0.length : Int) = (l1.length : Int) → ∀ X102 : Int → Prop, (∀ (i103 : Int), ((i103 < (l0.length : Int) → (0 ≤ i103 ∧ i103 < (l0.length : Int)) ∧ (0 ≤ i103 ∧ i103 < (l1.length : Int)) ∧ ((((l0.getD (i103).toNat false) == (l1.getD (i103).toNat false)) = true → X102 (IntKind.i64.wrap (i103 + (1 : Int)))) ∧ (((l0.getD (i103).toNat false) == (l1.getD (i103).toNat false)) = false → K (false)))) ∧ (¬(i103 < (l0.length : Int)) → K (true))) → X102 i103) → X102 (0 : Int)) ∧ (¬((l0.length : Int) = (l1.length : Int)) → K (false)))
end Go.Proofs.YtcgiboeilcdonaaDoor.G

namespace Go.Proofs.YtcgiboeilcdonaaDoor.G
open Go Go.Ab
set_option maxRecDepth 100000
set_option linter.unusedVariables false
set_option linter.unusedSimpArgs false
set_option maxHeartbeats 1000000
def laws_toBoolS.wp (l0 : List (Bool)) (K : (List (Bool)) → Prop) : Prop := (0 ≤ (l0.length : Int) ∧ (l0.length : Int) ≤ (l0.length : Int) ∧ (l0.length : Int) ≤ 2 ^ 40 ∧ (l0.length : Int) * 1 ≤ 2 ^ 40) ∧ ∀ X111 : List (Bool) → Int → Prop, (∀ (out112 : List (Bool)) (i113 : Int), ((i113 < (l0.length : Int) → (0 ≤ i113 ∧ i113 < (l0.length : Int)) ∧ (0 ≤ i113 ∧ i113 < (out112.length : Int)) ∧ X111 (out112.set (i113).toNat (l0.getD (i113).toNat false)) (IntKind.i64.wrap (i113 + (1 : Int)))) ∧ (¬(i113 < (l0.length : Int)) → K (out112))) → X111 out112 i113) → X111 (List.replicate ((l0.length : Int)).toNat false) (0 : Int)
end Go.Proofs.YtcgiboeilcdonaaDoor.G

namespace Go.Proofs.YtcgiboeilcdonaaDoor.G
open Go Go.Ab
set_option maxRecDepth 100000
set_option linter.unusedVariables false
set_option linter.unusedSimpArgs false
set_option maxHeartbeats 1000000
def laws_toFloat32S.wp (l0 : List (Nat)) (K : (List (Nat)) → Prop) : Prop := (0 ≤ (l0.length : Int) ∧ (l0.length : Int) ≤ (l0.length : Int) ∧ (l0.length : Int) ≤ 2 ^ 40 ∧ (l0.length : Int) * 4 ≤ 2 ^ 40) ∧ ∀ X111 : List (Nat) → Int → Prop, (∀ (out112 : List (Nat)) (i113 : Int), ((i113 < (l0.length : Int) → (0 ≤ i113 ∧ i113 < (l0.length : Int)) ∧ (0 ≤ i113 ∧ i113 < (out112.length : Int)) ∧ X111 (out112.set (i113).toNat (l0.getD (i113).toNat (0 : Nat))) (IntKind.i64.wrap (i113 + (1 : Int)))) ∧ (¬(i113 < (l0.length : Int)) → K (out112))) → X111 out112 i113) → X111 (List.replicate ((l0.length : Int)).toNat (0 : Nat)) (0 : Int)
end Go.Proofs.YtcgiboeilcdonaaDoor.G

namespace Go.Proofs.YtcgiboeilcdonaaDoor.G
open Go Go.Ab
set_option maxRecDepth 100000
set_option linter.unusedVariables false
set_option linter.unusedSimpArgs false
set_option maxHeartbeats 1000000
def laws_sameFloat.wp (a0 : Nat) (a1 : Nat) (K : Bool → Prop) : Prop := (((fcmp .neq .f64 a0 a0) = true → K (fcmp .neq .f64 a1 a1)) ∧ ((fcmp .neq .f64 a0 a0) = false → (((fcmp .neq .f64 a1 a1) = true → K (false)) ∧ ((fcmp .neq .f64 a1 a1) = false → (((fcmp .eql .f64 a0 (cz .f64 0)) = true → (((fcmp .eql .f64 a1 (cz .f64 0)) = true → K ((fcmp .gtr .f64 (fop .quo .f64 (cz .f64 4607182418800017408) a0) (cz .f64 0)) == (fcmp .gtr .f64 (fop .quo .f64 (cz .f64 4607182418800017408) a1) (cz .f64 0)))) ∧ ((fcmp .eql .f64 a1 (cz .f64 0)) = false → K (fcmp .eql .f64 a0 a1)))) ∧ ((fcmp .eql .f64 a0 (cz .f64 0)) = false → K (fcmp .eql .f64 a0 a1)))))))
end Go.Proofs.YtcgiboeilcdonaaDoor.G

namespace Go.Proofs.YtcgiboeilcdonaaDoor.G
open Go Go.Ab
set_option maxRecDepth 100000
set_option linter.unusedVariables false
set_option linter.unusedSimpArgs false
set_option maxHeartbeats 1000000
def laws_eqFloat32S.wp (l0 : List (Nat)) (l1 : List (Nat)) (K : Bool → Prop) : Prop := (((l0.length : Int) = (l1.length : Int) → ∀ X102 : Int → Prop, (∀ (i103 : Int), ((i103 < (l0.length : Int) → (0 ≤ i103 ∧ i103 < (l0.length : Int)) ∧ (0 ≤ i103 ∧ i103 < (l1.length : Int)) ∧ laws_sameFloat.wp (widen (l0.getD (i103).toNat (0 : Nat))) (widen (l1.getD (i103).toNat (0 : Nat))) fun y107 => ((y107 = true → X102 (IntKind.i64.wrap (i103 + (1 : Int)))) ∧ (y107 = false → K (false)))) ∧ (¬(i103 < (l0.length : Int)) → K (true))) → X102 i103) → X102 (0 : Int)) ∧ (¬((l0.length : Int) = (l1.length : Int)) → K (false)))
end Go.Proofs.YtcgiboeilcdonaaDoor.G

namespace Go.Proofs.YtcgiboeilcdonaaDoor.G
open Go Go.Ab
set_option maxRecDepth 100000
set_option linter.unusedVariables false
set_option linter.unusedSimpArgs false
set_option maxHeartbeats 1000000
def laws_markFloat32S.wp (l0 : List (Nat)) (a1 : Int) (K : Int → (List (Nat)) → Prop) : Prop := ∀ X108 : List (Nat) → Int → Int → Prop, (∀ (a109 : List (Nat)) (k110 : Int) (i111 : Int), ((i111 < (a109.length : Int) → (0 ≤ i111 ∧ i111 < (a109.length : Int)) ∧ X108 (a109.set (i111).toNat (itof .f32 k110)) (IntKind.i64.wrap (k110 + (1 : Int))) (IntKind.i64.wrap (i111 + (1 : Int)))) ∧ (¬(i111 < (a109.length : Int)) → K (k110) (a109))) → X108 a109 k110 i111) → X108 (l0) (a1) (0 : Int)
end Go.Proofs.YtcgiboeilcdonaaDoor.G

namespace Go.Proofs.YtcgiboeilcdonaaDoor.G
open Go Go.Ab
set_option maxRecDepth 100000
set_option linter.unusedVariables false
set_option linter.unusedSimpArgs false
set_option maxHeartbeats 1000000
def laws_heldFloat32S.wp (l0 : List (Nat)) (a1 : Int) (K : Int → Prop) : Prop := ∀ X101 : Int → Int → Prop, (∀ (k102 : Int) (i103 : Int), ((i103 < (l0.length : Int) → (0 ≤ i103 ∧ i103 < (l0.length : Int)) ∧ (((fcmp .neq .f32 (l0.getD (i103).toNat (0 : Nat)) (itof .f32 k102)) = true → K (-1 : Int)) ∧ ((fcmp .neq .f32 (l0.getD (i103).toNat (0 : Nat)) (itof .f32 k102)) = false → X101 (IntKind.i64.wrap (k102 + (1 : Int))) (IntKind.i64.wrap (i103 + (1 : Int)))))) ∧ (¬(i103 < (l0.length : Int)) → K (k102))) → X101 k102 i103) → X101 (a1) (0 : Int)
end Go.Proofs.YtcgiboeilcdonaaDoor.G

namespace Go.Proofs.YtcgiboeilcdonaaDoor.G
open Go Go.Ab
set_option maxRecDepth 100000
set_option linter.unusedVariables false
set_option linter.unusedSimpArgs false
set_option maxHeartbeats 1000000
def strings_explode.wp (a0 : List UInt8) (a1 : Int) (K : (List (List UInt8)) → Prop) : Prop := False
end Go.Proofs.YtcgiboeilcdonaaDoor.G

namespace Go.Proofs.YtcgiboeilcdonaaDoor.G
open Go Go.Ab
set_option maxRecDepth 100000
set_option linter.unusedVariables false
set_option linter.unusedSimpArgs false
set_option maxHeartbeats 1000000
def strings_Count.wp (a0 : List UInt8) (a1 : List UInt8) (K : Int → Prop) : Prop := ∃ c, a1 = [c] ∧ K ((Lib.countByte a0 c : Nat) : Int)
end Go.Proofs.YtcgiboeilcdonaaDoor.G

namespace Go.Proofs.YtcgiboeilcdonaaDoor.G
open Go Go.Ab
set_option maxRecDepth 100000
set_option linter.unusedVariables false
set_option linter.unusedSimpArgs false
set_option maxHeartbeats 1000000
def strings_Index.wp (a0 : List UInt8) (a1 : List UInt8) (K : Int → Prop) : Prop := ∃ c, a1 = [c] ∧ K (Lib.indexByte a0 c)
end Go.Proofs.YtcgiboeilcdonaaDoor.G

namespace Go.Proofs.YtcgiboeilcdonaaDoor.G
open Go Go.Ab
set_option maxRecDepth 100000
set_option linter.unusedVariables false
set_option linter.unusedSimpArgs false
set_option maxHeartbeats 1000000
def strings_genSplit.wp (a0 : List UInt8) (a1 : List UInt8) (a2 : Int) (a3 : Int) (K : (List (List UInt8)) → Prop) : Prop := ((a3 = (0 : Int) → K ([] : List (List UInt8))) ∧ (¬(a3 = (0 : Int)) → ((a1 = ([] : List UInt8) → strings_explode.wp a0 a3 fun y103 => K (y103)) ∧ (¬(a1 = ([] : List UInt8)) → ((a3 < (0 : Int) → strings_Count.wp a0 a1 fun y108 => (0 ≤ (mnI (IntKind.i64.wrap (y108 + (1 : Int))) (IntKind.i64.wrap ((a0.length : Int) + (1 : Int)))) ∧ (mnI (IntKind.i64.wrap (y108 + (1 : Int))) (IntKind.i64.wrap ((a0.length : Int) + (1 : Int)))) ≤ (mnI (IntKind.i64.wrap (y108 + (1 : Int))) (IntKind.i64.wrap ((a0.length : Int) + (1 : Int)))) ∧ (mnI (IntKind.i64.wrap (y108 + (1 : Int))) (IntKind.i64.wrap ((a0.length : Int) + (1 : Int)))) ≤ 2 ^ 40 ∧ (mnI (IntKind.i64.wrap (y108 + (1 : Int))) (IntKind.i64.wrap ((a0.length : Int) + (1 : Int)))) * 16 ≤ 2 ^ 40) ∧ ∀ X131 : List (List UInt8) → List UInt8 → Int → Prop, (∀ (a132 : List (List UInt8)) (sq133 : List UInt8) (i134 : Int), ((i134 < (IntKind.i64.wrap ((mnI (IntKind.i64.wrap (y108 + (1 : Int))) (IntKind.i64.wrap ((a0.length : Int) + (1 : Int)))) - (1 : Int))) → strings_Index.wp sq133 a1 fun y136 => ((y136 < (0 : Int) → (0 ≤ i134 ∧ i134 < (a132.length : Int)) ∧ (0 ≤ (0 : Int) ∧ (0 : Int) ≤ (IntKind.i64.wrap (i134 + (1 : Int))) ∧ (IntKind.i64.wrap (i134 + (1 : Int))) ≤ ((a132.set (i134).toNat sq133).length : Int)) ∧ K (((a132.set (i134).toNat sq133).drop ((0 : Int)).toNat).take (((IntKind.i64.wrap (i134 + (1 : Int)))).toNat - ((0 : Int)).toNat))) ∧ (¬(y136 < (0 : Int)) → (0 ≤ (0 : Int) ∧ (0 : Int) ≤ (IntKind.i64.wrap (y136 + a2)) ∧ (IntKind.i64.wrap (y136 + a2)) ≤ (sq133.length : Int)) ∧ (0 ≤ i134 ∧ i134 < (a132.length : Int)) ∧ (0 ≤ (IntKind.i64.wrap (y136 + (a1.length : Int))) ∧ (IntKind.i64.wrap (y136 + (a1.length : Int))) ≤ (sq133.length : Int) ∧ (sq133.length : Int) ≤ (sq133.length : Int)) ∧ X131 (a132.set (i134).toNat ((sq133.drop ((0 : Int)).toNat).take (((IntKind.i64.wrap (y136 + a2))).toNat - ((0 : Int)).toNat))) ((sq133.drop ((IntKind.i64.wrap (y136 + (a1.length : Int)))).toNat).take (((sq133.length : Int)).toNat - ((IntKind.i64.wrap (y136 + (a1.length : Int)))).toNat)) (IntKind.i64.wrap (i134 + (1 : Int)))))) ∧ (¬(i134 < (IntKind.i64.wrap ((mnI (IntKind.i64.wrap (y108 + (1 : Int))) (IntKind.i64.wrap ((a0.length : Int) + (1 : Int)))) - (1 : Int)))) → (0 ≤ i134 ∧ i134 < (a132.length : Int)) ∧ (0 ≤ (0 : Int) ∧ (0 : Int) ≤ (IntKind.i64.wrap (i134 + (1 : Int))) ∧ (IntKind.i64.wrap (i134 + (1 : Int))) ≤ ((a132.set (i134).toNat sq133).length : Int)) ∧ K (((a132.set (i134).toNat sq133).drop ((0 : Int)).toNat).take (((IntKind.i64.wrap (i134 + (1 : Int)))).toNat - ((0 : Int)).toNat)))) → X131 a132 sq133 i134) → X131 (List.replicate ((mnI (IntKind.i64.wrap (y108 + (1 : Int))) (IntKind.i64.wrap ((a0.length : Int) + (1 : Int))))).toNat ([] : List UInt8)) (a0) (0 : Int)) ∧ (¬(a3 < (0 : Int)) → (0 ≤ (mnI a3 (IntKind.i64.wrap ((a0.length : Int) + (1 : Int)))) ∧ (mnI a3 (IntKind.i64.wrap ((a0.length : Int) + (1 : Int)))) ≤ (mnI a3 (IntKind.i64.wrap ((a0.length : Int) + (1 : Int)))) ∧ (mnI a3 (IntKind.i64.wrap ((a0.length : Int) + (1 : Int)))) ≤ 2 ^ 40 ∧ (mnI a3 (IntKind.i64.wrap ((a0.length : Int) + (1 : Int)))) * 16 ≤ 2 ^ 40) ∧ ∀ X172 : List (List UInt8) → List UInt8 → Int → Prop, (∀ (a173 : List (List UInt8)) (sq174 : List UInt8) (i175 : Int), ((i175 < (IntKind.i64.wrap ((mnI a3 (IntKind.i64.wrap ((a0.length : Int) + (1 : Int)))) - (1 : Int))) → strings_Index.wp sq174 a1 fun y177 => ((y177 < (0 : Int) → (0 ≤ i175 ∧ i175 < (a173.length : Int)) ∧ (0 ≤ (0 : Int) ∧ (0 : Int) ≤ (IntKind.i64.wrap (i175 + (1 : Int))) ∧ (IntKind.i64.wrap (i175 + (1 : Int))) ≤ ((a173.set (i175).toNat sq174).length : Int)) ∧ K (((a173.set (i175).toNat sq174).drop ((0 : Int)).toNat).take (((IntKind.i64.wrap (i175 + (1 : Int)))).toNat - ((0 : Int)).toNat))) ∧ (¬(y177 < (0 : Int)) → (0 ≤ (0 : Int) ∧ (0 : Int) ≤ (IntKind.i64.wrap (y177 + a2)) ∧ (IntKind.i64.wrap (y177 + a2)) ≤ (sq174.length : Int)) ∧ (0 ≤ i175 ∧ i175 < (a173.length : Int)) ∧ (0 ≤ (IntKind.i64.wrap (y177 + (a1.length : Int))) ∧ (IntKind.i64.wrap (y177 + (a1.length : Int))) ≤ (sq174.length : Int) ∧ (sq174.length : Int) ≤ (sq174.length : Int)) ∧ X172 (a173.set (i175).toNat ((sq174.drop ((0 : Int)).toNat).take (((IntKind.i64.wrap (y177 + a2))).toNat - ((0 : Int)).toNat))) ((sq174.drop ((IntKind.i64.wrap (y177 + (a1.length : Int)))).toNat).take (((sq174.length : Int)).toNat - ((IntKind.i64.wrap (y177 + (a1.length : Int)))).toNat)) (IntKind.i64.wrap (i175 + (1 : Int)))))) ∧ (¬(i175 < (IntKind.i64.wrap ((mnI a3 (IntKind.i64.wrap ((a0.length : Int) + (1 : Int)))) - (1 : Int)))) → (0 ≤ i175 ∧ i175 < (a173.length : Int)) ∧ (0 ≤ (0 : Int) ∧ (0 : Int) ≤ (IntKind.i64.wrap (i175 + (1 : Int))) ∧ (IntKind.i64.wrap (i175 + (1 : Int))) ≤ ((a173.set (i175).toNat sq174).length : Int)) ∧ K (((a173.set (i175).toNat sq174).drop ((0 : Int)).toNat).take (((IntKind.i64.wrap (i175 + (1 : Int)))).toNat - ((0 : Int)).toNat)))) → X172 a173 sq174 i175) → X172 (List.replicate ((mnI a3 (IntKind.i64.wrap ((a0.length : Int) + (1 : Int))))).toNat ([] : List UInt8)) (a0) (0 : Int)))))))
end Go.Proofs.YtcgiboeilcdonaaDoor.G

namespace Go.Proofs.YtcgiboeilcdonaaDoor.G
open Go Go.Ab
set_option maxRecDepth 100000
set_option linter.unusedVariables false
set_option linter.unusedSimpArgs false
set_option maxHeartbeats 1000000
def strings_Split.wp (a0 : List UInt8) (a1 : List UInt8) (K : (List (List UInt8)) → Prop) : Prop := strings_genSplit.wp a0 a1 (0 : Int) (-1 : Int) fun y101 => K (y101)
end Go.Proofs.YtcgiboeilcdonaaDoor.G

