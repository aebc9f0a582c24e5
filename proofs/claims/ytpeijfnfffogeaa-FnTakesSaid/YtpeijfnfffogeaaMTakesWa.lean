/-
  What the functions compute, as formulas over numbers and lists. Printed by a program of the session; nothing here is trusted.
-/
import Derived.Test.YtpeijfnfffogeaaAbK
namespace Go.Proofs.Ytpeijfnfffogeaa.G
open Go Go.Ab
set_option maxRecDepth 100000
set_option linter.unusedVariables false
set_option linter.unusedSimpArgs false
set_option maxHeartbeats 1000000
def R_LeFlt_f32_o (H : Heap) (x : List (Nat)) (c : List AV) : Prop := c = [(c.getD 0 .und)] ∧ Shows H (c.getD 0 .und) 1 (enc (eFlt .f32) x)
def R_LeInt_i64_o (H : Heap) (x : List (Int)) (c : List AV) : Prop := c = [(c.getD 0 .und)] ∧ Shows H (c.getD 0 .und) 1 (enc (eInt .i64) x)
def R_LePair_eBool_ePair_eFlt_f32_eInt_i64_o (H : Heap) (x : List ((Bool) × (Nat) × (Int))) (c : List AV) : Prop := c = [(c.getD 0 .und)] ∧ Shows H (c.getD 0 .und) 3 (enc (ePair eBool (ePair (eFlt .f32) (eInt .i64))) x)
def R_LePair_eInt_i64_eFlt_f32_o (H : Heap) (x : List ((Int) × (Nat))) (c : List AV) : Prop := c = [(c.getD 0 .und)] ∧ Shows H (c.getD 0 .und) 2 (enc (ePair (eInt .i64) (eFlt .f32)) x)
def R_s_ii64_LeFlt_f32_poooq (H : Heap) (x : (List UInt8) × (Int) × (List (Nat))) (c : List AV) : Prop := c = [(.str (pk x.1)), (.int .i64 x.2.1), (c.getD 2 .und)] ∧ Shows H (c.getD 2 .und) 1 (enc (eFlt .f32) x.2.2)
end Go.Proofs.Ytpeijfnfffogeaa.G

namespace Go.Proofs.Ytpeijfnfffogeaa.G
open Go Go.Ab
set_option maxRecDepth 100000
set_option linter.unusedVariables false
set_option linter.unusedSimpArgs false
set_option maxHeartbeats 1000000
def impl_lowNumber.wp (a0 : List UInt8) (K : Int → Prop) : Prop := ∀ X101 : Int → Int → Prop, (∀ (n102 : Int) (i103 : Int), (((0 : Int) ≤ i103 → (0 ≤ i103 ∧ i103 < (a0.length : Int)) ∧ X101 (ibits .or .i64 (IntKind.i64.wrap (n102 * (2 ^ (min ((8 : Int)).toNat IntKind.i64.bits)))) (IntKind.i64.wrap (bt a0 i103))) (IntKind.i64.wrap (i103 - (1 : Int)))) ∧ (¬((0 : Int) ≤ i103) → K (n102))) → X101 n102 i103) → X101 (0 : Int) (IntKind.i64.wrap ((a0.length : Int) - (1 : Int)))
end Go.Proofs.Ytpeijfnfffogeaa.G

namespace Go.Proofs.Ytpeijfnfffogeaa.G
open Go Go.Ab
set_option maxRecDepth 100000
set_option linter.unusedVariables false
set_option linter.unusedSimpArgs false
set_option maxHeartbeats 1000000
def internal_stringslite_HasPrefix.wp (a0 : List UInt8) (a1 : List UInt8) (K : Bool → Prop) : Prop := (((a1.length : Int) ≤ (a0.length : Int) → (0 ≤ (0 : Int) ∧ (0 : Int) ≤ (a1.length : Int) ∧ (a1.length : Int) ≤ (a0.length : Int)) ∧ K (decide (((a0.drop ((0 : Int)).toNat).take (((a1.length : Int)).toNat - ((0 : Int)).toNat)) = a1))) ∧ (¬((a1.length : Int) ≤ (a0.length : Int)) → K (false)))
end Go.Proofs.Ytpeijfnfffogeaa.G

namespace Go.Proofs.Ytpeijfnfffogeaa.G
open Go Go.Ab
set_option maxRecDepth 100000
set_option linter.unusedVariables false
set_option linter.unusedSimpArgs false
set_option maxHeartbeats 1000000
def strings_HasPrefix.wp (a0 : List UInt8) (a1 : List UInt8) (K : Bool → Prop) : Prop := internal_stringslite_HasPrefix.wp a0 a1 fun y101 => K (y101)
end Go.Proofs.Ytpeijfnfffogeaa.G

namespace Go.Proofs.Ytpeijfnfffogeaa.G
open Go Go.Ab
set_option maxRecDepth 100000
set_option linter.unusedVariables false
set_option linter.unusedSimpArgs false
set_option maxHeartbeats 1000000
def math_Float32bits.wp (x : Nat) (K : Int → Prop) : Prop := (num .f32 x = true) ∧ K (x : Int)
end Go.Proofs.Ytpeijfnfffogeaa.G

namespace Go.Proofs.Ytpeijfnfffogeaa.G
open Go Go.Ab
set_option maxRecDepth 100000
set_option linter.unusedVariables false
set_option linter.unusedSimpArgs false
set_option maxHeartbeats 1000000
def impl_BitsOf.wp (a0 : Nat) (K : Int → Prop) : Prop := (((fcmp .neq .f32 a0 a0) = true → K (2143289344 : Int)) ∧ ((fcmp .neq .f32 a0 a0) = false → math_Float32bits.wp a0 fun y102 => K (IntKind.i64.wrap y102)))
end Go.Proofs.Ytpeijfnfffogeaa.G

namespace Go.Proofs.Ytpeijfnfffogeaa.G
open Go Go.Ab
set_option maxRecDepth 100000
set_option linter.unusedVariables false
set_option linter.unusedSimpArgs false
set_option maxHeartbeats 1000000
def impl_packed.wp (l0 : List (Nat)) (K : (List UInt8) → Prop) : Prop := ∀ X151 : List (Int) → Int → Int → Prop, (∀ (out152 : List (Int)) (last154 : Int) (x155 : Int), ((x155 < (l0.length : Int) → (0 ≤ x155 ∧ x155 < (l0.length : Int)) ∧ impl_BitsOf.wp (l0.getD (x155).toNat (0 : Nat)) fun y158 => ∀ X160 : Int → Int → Prop, (∀ (z161 : Int) (m162 : Int), (((0 : Int) < m162 → X160 (IntKind.i64.wrap (z161 - (1 : Int))) (Int.fdiv m162 (2 ^ (min ((8 : Int)).toNat IntKind.i64.bits)))) ∧ (¬((0 : Int) < m162) → ((out152.length + ([(IntKind.u8.wrap z161)] : List (Int)).length) * 1 ≤ 2 ^ 40) ∧ ∀ X182 : List (Int) → Int → Int → Prop, (∀ (out183 : List (Int)) (more185 : Int) (x186 : Int), ((x186 < (IntKind.i64.wrap ((4 : Int) - z161)) → ((out183.length + ([(IntKind.u8.wrap more185)] : List (Int)).length) * 1 ≤ 2 ^ 40) ∧ X182 (out183 ++ ([(IntKind.u8.wrap more185)] : List (Int))) (Int.fdiv more185 (2 ^ (min ((8 : Int)).toNat IntKind.i64.bits))) (IntKind.i64.wrap (x186 + (1 : Int)))) ∧ (¬(x186 < (IntKind.i64.wrap ((4 : Int) - z161))) → X151 (out183) (y158) (IntKind.i64.wrap (x155 + (1 : Int))))) → X182 out183 more185 x186) → X182 (out152 ++ ([(IntKind.u8.wrap z161)] : List (Int))) (ibits .xor .i64 y158 last154) (0 : Int))) → X160 z161 m162) → X160 (4 : Int) (ibits .xor .i64 y158 last154)) ∧ (¬(x155 < (l0.length : Int)) → K (byts out152))) → X151 out152 last154 x155) → X151 ([] : List (Int)) (0 : Int) (0 : Int)
end Go.Proofs.Ytpeijfnfffogeaa.G

namespace Go.Proofs.Ytpeijfnfffogeaa.G
open Go Go.Ab
set_option maxRecDepth 100000
set_option linter.unusedVariables false
set_option linter.unusedSimpArgs false
set_option maxHeartbeats 1000000
def impl_lowBytes.wp (a0 : Int) (K : (List (Int)) → Prop) : Prop := K ([(IntKind.u8.wrap a0), (IntKind.u8.wrap (Int.fdiv a0 (2 ^ (min ((8 : Int)).toNat IntKind.i64.bits))))] : List (Int))
end Go.Proofs.Ytpeijfnfffogeaa.G

namespace Go.Proofs.Ytpeijfnfffogeaa.G
open Go Go.Ab
set_option maxRecDepth 100000
set_option linter.unusedVariables false
set_option linter.unusedSimpArgs false
set_option maxHeartbeats 1000000
def impl_within.wp (a0 : Int) (a1 : Int) (a2 : Int) (K : Bool → Prop) : Prop := ((a1 ≤ a0 → K (decide (a0 ≤ a2))) ∧ (¬(a1 ≤ a0) → K (false)))
end Go.Proofs.Ytpeijfnfffogeaa.G

namespace Go.Proofs.Ytpeijfnfffogeaa.G
open Go Go.Ab
set_option maxRecDepth 100000
set_option linter.unusedVariables false
set_option linter.unusedSimpArgs false
set_option maxHeartbeats 1000000
def impl_CheckOf.wp (a0 : Int) (a1 : List UInt8) (K : Int → Bool → Prop) : Prop := impl_within.wp a0 (0 : Int) (65002 : Int) fun y101 => ((y101 = true → ∀ X104 : Int → Int → Prop, (∀ (start105 : Int) (x106 : Int), ((x106 < (a1.length : Int) → (0 ≤ x106 ∧ x106 < (a1.length : Int)) ∧ X104 (Int.tmod (IntKind.i64.wrap ((IntKind.i64.wrap ((IntKind.i64.wrap ((853 : Int) * start105)) + (IntKind.i64.wrap (bt a1 x106)))) + (139 : Int))) (65003 : Int)) (IntKind.i64.wrap (x106 + (1 : Int)))) ∧ (¬(x106 < (a1.length : Int)) → K (start105) (true))) → X104 start105 x106) → X104 (a0) (0 : Int)) ∧ (y101 = false → K (0 : Int) (false)))
end Go.Proofs.Ytpeijfnfffogeaa.G

namespace Go.Proofs.Ytpeijfnfffogeaa.G
open Go Go.Ab
set_option maxRecDepth 100000
set_option linter.unusedVariables false
set_option linter.unusedSimpArgs false
set_option maxHeartbeats 1000000
def impl_IsName.wp (a0 : List UInt8) (K : Bool → Prop) : Prop := ∀ X101 : Int → Prop, (∀ (x102 : Int), ((x102 < (a0.length : Int) → (0 ≤ x102 ∧ x102 < (a0.length : Int)) ∧ (((bt a0 x102) < (97 : Int) → K (false)) ∧ (¬((bt a0 x102) < (97 : Int)) → (((122 : Int) < (bt a0 x102) → K (false)) ∧ (¬((122 : Int) < (bt a0 x102)) → X101 (IntKind.i64.wrap (x102 + (1 : Int)))))))) ∧ (¬(x102 < (a0.length : Int)) → (((1 : Int) ≤ (a0.length : Int) → K (decide ((a0.length : Int) ≤ (8 : Int)))) ∧ (¬((1 : Int) ≤ (a0.length : Int)) → K (false))))) → X101 x102) → X101 (0 : Int)
end Go.Proofs.Ytpeijfnfffogeaa.G

namespace Go.Proofs.Ytpeijfnfffogeaa.G
open Go Go.Ab
set_option maxRecDepth 100000
set_option linter.unusedVariables false
set_option linter.unusedSimpArgs false
set_option maxHeartbeats 1000000
def impl_ValidTake.wp (a0 : List UInt8) (a1 : Int) (l2 : List (Nat)) (K : Bool → Prop) : Prop := impl_IsName.wp a0 fun y104 => ((y104 = true → impl_within.wp a1 (1 : Int) (65535 : Int) fun y107 => ((y107 = true → impl_within.wp (l2.length : Int) (1 : Int) (128 : Int) fun y110 => K (y110)) ∧ (y107 = false → K (false)))) ∧ (y104 = false → K (false)))
end Go.Proofs.Ytpeijfnfffogeaa.G

namespace Go.Proofs.Ytpeijfnfffogeaa.G
open Go Go.Ab
set_option maxRecDepth 100000
set_option linter.unusedVariables false
set_option linter.unusedSimpArgs false
set_option maxHeartbeats 1000000
def impl_StoreTake.wp (a0 : List UInt8) (a1 : Int) (l2 : List (Nat)) (K : (List UInt8) → Bool → Prop) : Prop := impl_ValidTake.wp a0 a1 l2 fun y104 => ((y104 = true → impl_packed.wp l2 fun y107 => (0 < ([(84 : Int), (65 : Int), (75 : Int), (49 : Int)] : List (Int)).length) ∧ ((([(84 : Int), (65 : Int), (75 : Int), (49 : Int)] : List (Int)).length + ([(IntKind.u8.wrap (a0.length : Int))] : List (Int)).length) * 1 ≤ 2 ^ 40) ∧ (((([(84 : Int), (65 : Int), (75 : Int), (49 : Int)] : List (Int)) ++ ([(IntKind.u8.wrap (a0.length : Int))] : List (Int))).length + a0.length) * 1 ≤ 2 ^ 40) ∧ impl_lowBytes.wp a1 fun y122 => ((((([(84 : Int), (65 : Int), (75 : Int), (49 : Int)] : List (Int)) ++ ([(IntKind.u8.wrap (a0.length : Int))] : List (Int))) ++ nums a0).length + y122.length) * 1 ≤ 2 ^ 40) ∧ impl_lowBytes.wp (y107.length : Int) fun y129 => (((((([(84 : Int), (65 : Int), (75 : Int), (49 : Int)] : List (Int)) ++ ([(IntKind.u8.wrap (a0.length : Int))] : List (Int))) ++ nums a0) ++ y122).length + y129.length) * 1 ≤ 2 ^ 40) ∧ ((((((([(84 : Int), (65 : Int), (75 : Int), (49 : Int)] : List (Int)) ++ ([(IntKind.u8.wrap (a0.length : Int))] : List (Int))) ++ nums a0) ++ y122) ++ y129).length + y107.length) * 1 ≤ 2 ^ 40) ∧ impl_CheckOf.wp (0 : Int) (byts (((((([(84 : Int), (65 : Int), (75 : Int), (49 : Int)] : List (Int)) ++ ([(IntKind.u8.wrap (a0.length : Int))] : List (Int))) ++ nums a0) ++ y122) ++ y129) ++ nums y107)) fun y139 y140 => impl_lowBytes.wp y139 fun y142 => (((((((([(84 : Int), (65 : Int), (75 : Int), (49 : Int)] : List (Int)) ++ ([(IntKind.u8.wrap (a0.length : Int))] : List (Int))) ++ nums a0) ++ y122) ++ y129) ++ nums y107).length + y142.length) * 1 ≤ 2 ^ 40) ∧ K (byts ((((((([(84 : Int), (65 : Int), (75 : Int), (49 : Int)] : List (Int)) ++ ([(IntKind.u8.wrap (a0.length : Int))] : List (Int))) ++ nums a0) ++ y122) ++ y129) ++ nums y107) ++ y142)) (true)) ∧ (y104 = false → K ([] : List UInt8) (false)))
end Go.Proofs.Ytpeijfnfffogeaa.G

namespace Go.Proofs.Ytpeijfnfffogeaa.G
open Go Go.Ab
set_option maxRecDepth 100000
set_option linter.unusedVariables false
set_option linter.unusedSimpArgs false
set_option maxHeartbeats 1000000
def math_Float32frombits.wp (x : Int) (K : Nat → Prop) : Prop := K (cz .f32 x.toNat)
end Go.Proofs.Ytpeijfnfffogeaa.G

namespace Go.Proofs.Ytpeijfnfffogeaa.G
open Go Go.Ab
set_option maxRecDepth 100000
set_option linter.unusedVariables false
set_option linter.unusedSimpArgs false
set_option maxHeartbeats 1000000
def impl_FromBits.wp (a0 : Int) (K : Nat → Bool → Prop) : Prop := impl_within.wp a0 (0 : Int) (4294967295 : Int) fun y101 => ((y101 = true → math_Float32frombits.wp (IntKind.u32.wrap a0) fun y104 => K (y104) (true)) ∧ (y101 = false → K (cz .f32 0) (false)))
end Go.Proofs.Ytpeijfnfffogeaa.G

namespace Go.Proofs.Ytpeijfnfffogeaa.G
open Go Go.Ab
set_option maxRecDepth 100000
set_option linter.unusedVariables false
set_option linter.unusedSimpArgs false
set_option maxHeartbeats 1000000
def impl_UnpackTake.wp (a0 : List UInt8) (K : (List (Nat)) → Bool → Prop) : Prop := ∀ X130 : List (Nat) → Int → Int → Prop, (∀ (out131 : List (Nat)) (last133 : Int) (atq134 : Int), ((atq134 < (a0.length : Int) → (0 ≤ atq134 ∧ atq134 < (a0.length : Int)) ∧ (((4 : Int) < (IntKind.i64.wrap (bt a0 atq134)) → K ([] : List (Nat)) (false)) ∧ (¬((4 : Int) < (IntKind.i64.wrap (bt a0 atq134))) → (((a0.length : Int) < (IntKind.i64.wrap ((IntKind.i64.wrap (atq134 + (5 : Int))) - (IntKind.i64.wrap (bt a0 atq134)))) → K ([] : List (Nat)) (false)) ∧ (¬((a0.length : Int) < (IntKind.i64.wrap ((IntKind.i64.wrap (atq134 + (5 : Int))) - (IntKind.i64.wrap (bt a0 atq134))))) → (((out131.length : Int) = (128 : Int) → K ([] : List (Nat)) (false)) ∧ (¬((out131.length : Int) = (128 : Int)) → (0 ≤ (IntKind.i64.wrap (atq134 + (1 : Int))) ∧ (IntKind.i64.wrap (atq134 + (1 : Int))) ≤ (IntKind.i64.wrap ((IntKind.i64.wrap (atq134 + (5 : Int))) - (IntKind.i64.wrap (bt a0 atq134)))) ∧ (IntKind.i64.wrap ((IntKind.i64.wrap (atq134 + (5 : Int))) - (IntKind.i64.wrap (bt a0 atq134)))) ≤ (a0.length : Int)) ∧ impl_lowNumber.wp ((a0.drop ((IntKind.i64.wrap (atq134 + (1 : Int)))).toNat).take (((IntKind.i64.wrap ((IntKind.i64.wrap (atq134 + (5 : Int))) - (IntKind.i64.wrap (bt a0 atq134))))).toNat - ((IntKind.i64.wrap (atq134 + (1 : Int)))).toNat)) fun y141 => impl_FromBits.wp (ibits .xor .i64 last133 y141) fun y143 y144 => ((out131.length + ([y143] : List (Nat)).length) * 4 ≤ 2 ^ 40) ∧ X130 (out131 ++ ([y143] : List (Nat))) (ibits .xor .i64 last133 y141) (IntKind.i64.wrap ((IntKind.i64.wrap (atq134 + (5 : Int))) - (IntKind.i64.wrap (bt a0 atq134))))))))))) ∧ (¬(atq134 < (a0.length : Int)) → (((out131.length : Int) = (0 : Int) → K ([] : List (Nat)) (false)) ∧ (¬((out131.length : Int) = (0 : Int)) → impl_packed.wp out131 fun y153 => ((y153 = a0 → K (out131) (true)) ∧ (¬(y153 = a0) → K ([] : List (Nat)) (false))))))) → X130 out131 last133 atq134) → X130 ([] : List (Nat)) (0 : Int) (0 : Int)
end Go.Proofs.Ytpeijfnfffogeaa.G

namespace Go.Proofs.Ytpeijfnfffogeaa.G
open Go Go.Ab
set_option maxRecDepth 100000
set_option linter.unusedVariables false
set_option linter.unusedSimpArgs false
set_option maxHeartbeats 1000000
def impl_takeAhead.wp (a0 : List UInt8) (K : (List UInt8) → Int → (List (Nat)) → Int → Bool → Prop) : Prop := (((a0.length : Int) < (5 : Int) → K ([] : List UInt8) (0 : Int) ([] : List (Nat)) (0 : Int) (false)) ∧ (¬((a0.length : Int) < (5 : Int)) → strings_HasPrefix.wp a0 ([84, 65, 75, 49] : List UInt8) fun y106 => ((y106 = true → (0 ≤ (4 : Int) ∧ (4 : Int) < (a0.length : Int)) ∧ (((a0.length : Int) < (IntKind.i64.wrap ((IntKind.i64.wrap ((5 : Int) + (IntKind.i64.wrap (bt a0 (4 : Int))))) + (4 : Int))) → K ([] : List UInt8) (0 : Int) ([] : List (Nat)) (0 : Int) (false)) ∧ (¬((a0.length : Int) < (IntKind.i64.wrap ((IntKind.i64.wrap ((5 : Int) + (IntKind.i64.wrap (bt a0 (4 : Int))))) + (4 : Int)))) → (0 ≤ (5 : Int) ∧ (5 : Int) ≤ (IntKind.i64.wrap ((5 : Int) + (IntKind.i64.wrap (bt a0 (4 : Int))))) ∧ (IntKind.i64.wrap ((5 : Int) + (IntKind.i64.wrap (bt a0 (4 : Int))))) ≤ (a0.length : Int)) ∧ (0 ≤ (IntKind.i64.wrap ((5 : Int) + (IntKind.i64.wrap (bt a0 (4 : Int))))) ∧ (IntKind.i64.wrap ((5 : Int) + (IntKind.i64.wrap (bt a0 (4 : Int))))) ≤ (IntKind.i64.wrap ((IntKind.i64.wrap ((5 : Int) + (IntKind.i64.wrap (bt a0 (4 : Int))))) + (2 : Int))) ∧ (IntKind.i64.wrap ((IntKind.i64.wrap ((5 : Int) + (IntKind.i64.wrap (bt a0 (4 : Int))))) + (2 : Int))) ≤ (a0.length : Int)) ∧ ∃ (y114 : Int), impl_lowNumber.wp ((a0.drop ((IntKind.i64.wrap ((5 : Int) + (IntKind.i64.wrap (bt a0 (4 : Int)))))).toNat).take (((IntKind.i64.wrap ((IntKind.i64.wrap ((5 : Int) + (IntKind.i64.wrap (bt a0 (4 : Int))))) + (2 : Int)))).toNat - ((IntKind.i64.wrap ((5 : Int) + (IntKind.i64.wrap (bt a0 (4 : Int)))))).toNat)) (fun zy114 => y114 = zy114) ∧ (0 ≤ (IntKind.i64.wrap ((IntKind.i64.wrap ((5 : Int) + (IntKind.i64.wrap (bt a0 (4 : Int))))) + (2 : Int))) ∧ (IntKind.i64.wrap ((IntKind.i64.wrap ((5 : Int) + (IntKind.i64.wrap (bt a0 (4 : Int))))) + (2 : Int))) ≤ (IntKind.i64.wrap ((IntKind.i64.wrap ((5 : Int) + (IntKind.i64.wrap (bt a0 (4 : Int))))) + (4 : Int))) ∧ (IntKind.i64.wrap ((IntKind.i64.wrap ((5 : Int) + (IntKind.i64.wrap (bt a0 (4 : Int))))) + (4 : Int))) ≤ (a0.length : Int)) ∧ impl_lowNumber.wp ((a0.drop ((IntKind.i64.wrap ((IntKind.i64.wrap ((5 : Int) + (IntKind.i64.wrap (bt a0 (4 : Int))))) + (2 : Int)))).toNat).take (((IntKind.i64.wrap ((IntKind.i64.wrap ((5 : Int) + (IntKind.i64.wrap (bt a0 (4 : Int))))) + (4 : Int)))).toNat - ((IntKind.i64.wrap ((IntKind.i64.wrap ((5 : Int) + (IntKind.i64.wrap (bt a0 (4 : Int))))) + (2 : Int)))).toNat)) fun y121 => (((a0.length : Int) < (IntKind.i64.wrap ((IntKind.i64.wrap ((IntKind.i64.wrap ((IntKind.i64.wrap ((5 : Int) + (IntKind.i64.wrap (bt a0 (4 : Int))))) + (4 : Int))) + y121)) + (2 : Int))) → K ([] : List UInt8) (0 : Int) ([] : List (Nat)) (0 : Int) (false)) ∧ (¬((a0.length : Int) < (IntKind.i64.wrap ((IntKind.i64.wrap ((IntKind.i64.wrap ((IntKind.i64.wrap ((5 : Int) + (IntKind.i64.wrap (bt a0 (4 : Int))))) + (4 : Int))) + y121)) + (2 : Int)))) → (0 ≤ (IntKind.i64.wrap ((IntKind.i64.wrap ((5 : Int) + (IntKind.i64.wrap (bt a0 (4 : Int))))) + (4 : Int))) ∧ (IntKind.i64.wrap ((IntKind.i64.wrap ((5 : Int) + (IntKind.i64.wrap (bt a0 (4 : Int))))) + (4 : Int))) ≤ (IntKind.i64.wrap ((IntKind.i64.wrap ((IntKind.i64.wrap ((5 : Int) + (IntKind.i64.wrap (bt a0 (4 : Int))))) + (4 : Int))) + y121)) ∧ (IntKind.i64.wrap ((IntKind.i64.wrap ((IntKind.i64.wrap ((5 : Int) + (IntKind.i64.wrap (bt a0 (4 : Int))))) + (4 : Int))) + y121)) ≤ (a0.length : Int)) ∧ impl_UnpackTake.wp ((a0.drop ((IntKind.i64.wrap ((IntKind.i64.wrap ((5 : Int) + (IntKind.i64.wrap (bt a0 (4 : Int))))) + (4 : Int)))).toNat).take (((IntKind.i64.wrap ((IntKind.i64.wrap ((IntKind.i64.wrap ((5 : Int) + (IntKind.i64.wrap (bt a0 (4 : Int))))) + (4 : Int))) + y121))).toNat - ((IntKind.i64.wrap ((IntKind.i64.wrap ((5 : Int) + (IntKind.i64.wrap (bt a0 (4 : Int))))) + (4 : Int)))).toNat)) fun y126 y129 => ((y129 = true → impl_StoreTake.wp ((a0.drop ((5 : Int)).toNat).take (((IntKind.i64.wrap ((5 : Int) + (IntKind.i64.wrap (bt a0 (4 : Int)))))).toNat - ((5 : Int)).toNat)) y114 y126 fun y133 y134 => ((y134 = true → (0 ≤ (0 : Int) ∧ (0 : Int) ≤ (IntKind.i64.wrap ((IntKind.i64.wrap ((IntKind.i64.wrap ((IntKind.i64.wrap ((5 : Int) + (IntKind.i64.wrap (bt a0 (4 : Int))))) + (4 : Int))) + y121)) + (2 : Int))) ∧ (IntKind.i64.wrap ((IntKind.i64.wrap ((IntKind.i64.wrap ((IntKind.i64.wrap ((5 : Int) + (IntKind.i64.wrap (bt a0 (4 : Int))))) + (4 : Int))) + y121)) + (2 : Int))) ≤ (a0.length : Int)) ∧ ((y133 = ((a0.drop ((0 : Int)).toNat).take (((IntKind.i64.wrap ((IntKind.i64.wrap ((IntKind.i64.wrap ((IntKind.i64.wrap ((5 : Int) + (IntKind.i64.wrap (bt a0 (4 : Int))))) + (4 : Int))) + y121)) + (2 : Int)))).toNat - ((0 : Int)).toNat)) → K ((a0.drop ((5 : Int)).toNat).take (((IntKind.i64.wrap ((5 : Int) + (IntKind.i64.wrap (bt a0 (4 : Int)))))).toNat - ((5 : Int)).toNat)) (y114) (y126) (IntKind.i64.wrap ((IntKind.i64.wrap ((IntKind.i64.wrap ((IntKind.i64.wrap ((5 : Int) + (IntKind.i64.wrap (bt a0 (4 : Int))))) + (4 : Int))) + y121)) + (2 : Int))) (true)) ∧ (¬(y133 = ((a0.drop ((0 : Int)).toNat).take (((IntKind.i64.wrap ((IntKind.i64.wrap ((IntKind.i64.wrap ((IntKind.i64.wrap ((5 : Int) + (IntKind.i64.wrap (bt a0 (4 : Int))))) + (4 : Int))) + y121)) + (2 : Int)))).toNat - ((0 : Int)).toNat))) → K ([] : List UInt8) (0 : Int) ([] : List (Nat)) (0 : Int) (false)))) ∧ (y134 = false → K ([] : List UInt8) (0 : Int) ([] : List (Nat)) (0 : Int) (false)))) ∧ (y129 = false → K ([] : List UInt8) (0 : Int) ([] : List (Nat)) (0 : Int) (false)))))))) ∧ (y106 = false → K ([] : List UInt8) (0 : Int) ([] : List (Nat)) (0 : Int) (false)))))
end Go.Proofs.Ytpeijfnfffogeaa.G

namespace Go.Proofs.Ytpeijfnfffogeaa.G
open Go Go.Ab
set_option maxRecDepth 100000
set_option linter.unusedVariables false
set_option linter.unusedSimpArgs false
set_option maxHeartbeats 1000000
def impl_LoadTake.wp (a0 : List UInt8) (K : (List UInt8) → Int → (List (Nat)) → Bool → Prop) : Prop := impl_takeAhead.wp a0 fun y104 y105 y106 y109 y110 => ((y110 = true → ((y109 = (a0.length : Int) → K (y104) (y105) (y106) (true)) ∧ (¬(y109 = (a0.length : Int)) → K ([] : List UInt8) (0 : Int) ([] : List (Nat)) (false)))) ∧ (y110 = false → K ([] : List UInt8) (0 : Int) ([] : List (Nat)) (false)))
end Go.Proofs.Ytpeijfnfffogeaa.G

namespace Go.Proofs.Ytpeijfnfffogeaa.G
open Go Go.Ab
set_option maxRecDepth 100000
set_option linter.unusedVariables false
set_option linter.unusedSimpArgs false
set_option maxHeartbeats 1000000
def impl_RecoverTakes.wp (a0 : List UInt8) (K : (List ((List UInt8) × (Int) × (List (Nat)))) → Int → Bool → Prop) : Prop := ∀ X135 : List ((List UInt8) × (Int) × (List (Nat))) → Int → Prop, (∀ (list136 : List ((List UInt8) × (Int) × (List (Nat)))) (atq140 : Int), (((list136.length : Int) < (8 : Int) → (0 ≤ atq140 ∧ atq140 ≤ (a0.length : Int) ∧ (a0.length : Int) ≤ (a0.length : Int)) ∧ impl_takeAhead.wp ((a0.drop (atq140).toNat).take (((a0.length : Int)).toNat - (atq140).toNat)) fun y143 y144 y145 y148 y149 => ((y149 = true → ((list136.length + ([(y143, y144, y145)] : List ((List UInt8) × (Int) × (List (Nat)))).length) * 48 ≤ 2 ^ 40) ∧ X135 (list136 ++ ([(y143, y144, y145)] : List ((List UInt8) × (Int) × (List (Nat))))) (IntKind.i64.wrap (atq140 + y148))) ∧ (y149 = false → K (list136) (atq140) (true)))) ∧ (¬((list136.length : Int) < (8 : Int)) → K (list136) (atq140) (true))) → X135 list136 atq140) → X135 ([] : List ((List UInt8) × (Int) × (List (Nat)))) (0 : Int)
end Go.Proofs.Ytpeijfnfffogeaa.G

namespace Go.Proofs.Ytpeijfnfffogeaa.G
open Go Go.Ab
set_option maxRecDepth 100000
set_option linter.unusedVariables false
set_option linter.unusedSimpArgs false
set_option maxHeartbeats 1000000
def laws_b10Long.wp (l0 : List (Int)) (l1 : List (Int)) (K : Bool → Prop) : Prop := (((1048576 : Int) < (l0.length : Int) → K (true)) ∧ (¬((1048576 : Int) < (l0.length : Int)) → K (decide ((1048576 : Int) < (l1.length : Int)))))
end Go.Proofs.Ytpeijfnfffogeaa.G

namespace Go.Proofs.Ytpeijfnfffogeaa.G
open Go Go.Ab
set_option maxRecDepth 100000
set_option linter.unusedVariables false
set_option linter.unusedSimpArgs false
set_option maxHeartbeats 1000000
def spec_l00From.wp (l0 : List (Int)) (K : Bool → Int → Int → Prop) : Prop := K (true) (0 : Int) (0 : Int)
end Go.Proofs.Ytpeijfnfffogeaa.G

namespace Go.Proofs.Ytpeijfnfffogeaa.G
open Go Go.Ab
set_option maxRecDepth 100000
set_option linter.unusedVariables false
set_option linter.unusedSimpArgs false
set_option maxHeartbeats 1000000
def spec_l00Src_next.wp (l0 : List (Int)) (a1 : Int) (a2 : Int) (K : Int → Int → Int → Prop) : Prop := ((a1 < (l0.length : Int) → (0 ≤ a1 ∧ a1 < (l0.length : Int)) ∧ (((IntKind.i64.wrap (a1 + (1 : Int))) ≤ (l0.length : Int) → K (IntKind.i64.wrap (l0.getD (a1).toNat (0 : Int))) (IntKind.i64.wrap (a1 + (1 : Int))) (IntKind.u64.wrap ((IntKind.u64.wrap ((IntKind.u64.wrap (a2 * (6364136223846793005 : Int))) + (IntKind.u64.wrap (IntKind.i64.wrap (l0.getD (a1).toNat (0 : Int)))))) + (1442695040888963407 : Int)))) ∧ (¬((IntKind.i64.wrap (a1 + (1 : Int))) ≤ (l0.length : Int)) → K (IntKind.i64.wrap (ibits .and .u64 (Int.fdiv (IntKind.u64.wrap ((IntKind.u64.wrap ((IntKind.u64.wrap (a2 * (6364136223846793005 : Int))) + (IntKind.u64.wrap (IntKind.i64.wrap (l0.getD (a1).toNat (0 : Int)))))) + (1442695040888963407 : Int))) (2 ^ (min ((40 : Int)).toNat IntKind.u64.bits))) (255 : Int))) (IntKind.i64.wrap (a1 + (1 : Int))) (IntKind.u64.wrap ((IntKind.u64.wrap ((IntKind.u64.wrap (a2 * (6364136223846793005 : Int))) + (IntKind.u64.wrap (IntKind.i64.wrap (l0.getD (a1).toNat (0 : Int)))))) + (1442695040888963407 : Int)))))) ∧ (¬(a1 < (l0.length : Int)) → (((IntKind.i64.wrap (a1 + (1 : Int))) ≤ (l0.length : Int) → K (0 : Int) (IntKind.i64.wrap (a1 + (1 : Int))) (IntKind.u64.wrap ((IntKind.u64.wrap ((IntKind.u64.wrap (a2 * (6364136223846793005 : Int))) + (IntKind.u64.wrap (0 : Int)))) + (1442695040888963407 : Int)))) ∧ (¬((IntKind.i64.wrap (a1 + (1 : Int))) ≤ (l0.length : Int)) → K (IntKind.i64.wrap (ibits .and .u64 (Int.fdiv (IntKind.u64.wrap ((IntKind.u64.wrap ((IntKind.u64.wrap (a2 * (6364136223846793005 : Int))) + (IntKind.u64.wrap (0 : Int)))) + (1442695040888963407 : Int))) (2 ^ (min ((40 : Int)).toNat IntKind.u64.bits))) (255 : Int))) (IntKind.i64.wrap (a1 + (1 : Int))) (IntKind.u64.wrap ((IntKind.u64.wrap ((IntKind.u64.wrap (a2 * (6364136223846793005 : Int))) + (IntKind.u64.wrap (0 : Int)))) + (1442695040888963407 : Int)))))))
end Go.Proofs.Ytpeijfnfffogeaa.G

namespace Go.Proofs.Ytpeijfnfffogeaa.G
open Go Go.Ab
set_option maxRecDepth 100000
set_option linter.unusedVariables false
set_option linter.unusedSimpArgs false
set_option maxHeartbeats 1000000
def spec_l00Src_pick.wp (l0 : List (Int)) (a1 : Int) (a2 : Int) (a3 : Int) (K : Int → Int → Int → Prop) : Prop := ((a3 ≤ (1 : Int) → K (0 : Int) (a1) (a2)) ∧ (¬(a3 ≤ (1 : Int)) → spec_l00Src_next.wp l0 a1 a2 fun y103 y104 y105 => (((200 : Int) < a3 → spec_l00Src_next.wp l0 y104 y105 fun y108 y109 y110 => (a3 ≠ 0) ∧ K (Int.tmod (IntKind.i64.wrap ((IntKind.i64.wrap (y103 * (256 : Int))) + y108)) a3) (y109) (y110)) ∧ (¬((200 : Int) < a3) → (a3 ≠ 0) ∧ K (Int.tmod y103 a3) (y104) (y105)))))
end Go.Proofs.Ytpeijfnfffogeaa.G

namespace Go.Proofs.Ytpeijfnfffogeaa.G
open Go Go.Ab
set_option maxRecDepth 100000
set_option linter.unusedVariables false
set_option linter.unusedSimpArgs false
set_option maxHeartbeats 1000000
def spec_l00Src_text.wp (l0 : List (Int)) (a1 : Int) (a2 : Int) (l3 : List (List UInt8)) (K : (List UInt8) → Int → Int → Prop) : Prop := spec_l00Src_pick.wp l0 a1 a2 (l3.length : Int) fun y102 y103 y104 => (0 ≤ y102 ∧ y102 < (l3.length : Int)) ∧ K (l3.getD (y102).toNat ([] : List UInt8)) (y103) (y104)
end Go.Proofs.Ytpeijfnfffogeaa.G

namespace Go.Proofs.Ytpeijfnfffogeaa.G
open Go Go.Ab
set_option maxRecDepth 100000
set_option linter.unusedVariables false
set_option linter.unusedSimpArgs false
set_option maxHeartbeats 1000000
def spec_l00Src_one.wp (l0 : List (Int)) (a1 : Int) (a2 : Int) (a3 : Int) (K : Bool → Int → Int → Prop) : Prop := spec_l00Src_pick.wp l0 a1 a2 a3 fun y102 y103 y104 => K (decide (y102 = (0 : Int))) (y103) (y104)
end Go.Proofs.Ytpeijfnfffogeaa.G

namespace Go.Proofs.Ytpeijfnfffogeaa.G
open Go Go.Ab
set_option maxRecDepth 100000
set_option linter.unusedVariables false
set_option linter.unusedSimpArgs false
set_option maxHeartbeats 1000000
def spec_l01DrawPlain.wp (l0 : List (Int)) (a1 : Int) (a2 : Int) (K : Nat → Int → Int → Prop) : Prop := spec_l00Src_pick.wp l0 a1 a2 (129 : Int) fun y102 y103 y104 => spec_l00Src_one.wp l0 y103 y104 (4 : Int) fun y106 y107 y108 => ((y106 = true → K (fop .quo .f32 (itof .f32 (IntKind.i64.wrap (y102 - (64 : Int)))) (cz .f32 1088421888)) (y107) (y108)) ∧ (y106 = false → K (fop .quo .f32 (itof .f32 (IntKind.i64.wrap (y102 - (64 : Int)))) (cz .f32 1098907648)) (y107) (y108)))
end Go.Proofs.Ytpeijfnfffogeaa.G

namespace Go.Proofs.Ytpeijfnfffogeaa.G
open Go Go.Ab
set_option maxRecDepth 100000
set_option linter.unusedVariables false
set_option linter.unusedSimpArgs false
set_option maxHeartbeats 1000000
def spec_l01From.wp (a0 : Int) (K : Nat → Prop) : Prop := math_Float32frombits.wp (IntKind.u32.wrap a0) fun y101 => K (y101)
end Go.Proofs.Ytpeijfnfffogeaa.G

namespace Go.Proofs.Ytpeijfnfffogeaa.G
open Go Go.Ab
set_option maxRecDepth 100000
set_option linter.unusedVariables false
set_option linter.unusedSimpArgs false
set_option maxHeartbeats 1000000
def spec_l00Src_among.wp (l0 : List (Int)) (a1 : Int) (a2 : Int) (l3 : List (Int)) (K : Int → Int → Int → Prop) : Prop := spec_l00Src_pick.wp l0 a1 a2 (l3.length : Int) fun y102 y103 y104 => (0 ≤ y102 ∧ y102 < (l3.length : Int)) ∧ K (l3.getD (y102).toNat (0 : Int)) (y103) (y104)
end Go.Proofs.Ytpeijfnfffogeaa.G

namespace Go.Proofs.Ytpeijfnfffogeaa.G
open Go Go.Ab
set_option maxRecDepth 100000
set_option linter.unusedVariables false
set_option linter.unusedSimpArgs false
set_option maxHeartbeats 1000000
def spec_l01DrawFloat.wp (l0 : List (Int)) (a1 : Int) (a2 : Int) (K : Nat → Int → Int → Prop) : Prop := spec_l00Src_one.wp l0 a1 a2 (12 : Int) fun y102 y103 y104 => ((y102 = true → spec_l00Src_pick.wp l0 y103 y104 (4 : Int) fun y107 y108 y109 => ((y107 = (0 : Int) → spec_l00Src_among.wp l0 y108 y109 ([(0 : Int), (2147483648 : Int), (2139095040 : Int), (4286578688 : Int), (2143289344 : Int), (1 : Int), (2139095039 : Int), (8388608 : Int), (8388607 : Int), (2147483649 : Int)] : List (Int)) fun y115 y116 y117 => spec_l01From.wp y115 fun y119 => K (y119) (y116) (y117)) ∧ (¬(y107 = (0 : Int)) → ((y107 = (1 : Int) → spec_l00Src_pick.wp l0 y108 y109 (65536 : Int) fun y122 y123 y124 => spec_l00Src_pick.wp l0 y123 y124 (65536 : Int) fun y126 y127 y128 => spec_l01From.wp (IntKind.i64.wrap ((IntKind.i64.wrap (y122 * (65536 : Int))) + y126)) fun y130 => K (y130) (y127) (y128)) ∧ (¬(y107 = (1 : Int)) → ((y107 = (2 : Int) → spec_l00Src_pick.wp l0 y108 y109 (65536 : Int) fun y133 y134 y135 => spec_l01From.wp (IntKind.i64.wrap (y133 * (65536 : Int))) fun y137 => K (y137) (y134) (y135)) ∧ (¬(y107 = (2 : Int)) → spec_l01DrawPlain.wp l0 y108 y109 fun y139 y140 y141 => spec_l00Src_among.wp l0 y140 y141 ([(8388608 : Int), (2130706432 : Int), (1610612736 : Int), (536870912 : Int)] : List (Int)) fun y146 y147 y148 => spec_l01From.wp y146 fun y150 => K (fop .mul .f32 y139 y150) (y147) (y148)))))))) ∧ (y102 = false → spec_l01DrawPlain.wp l0 y103 y104 fun y152 y153 y154 => K (y152) (y153) (y154)))
end Go.Proofs.Ytpeijfnfffogeaa.G

namespace Go.Proofs.Ytpeijfnfffogeaa.G
open Go Go.Ab
set_option maxRecDepth 100000
set_option linter.unusedVariables false
set_option linter.unusedSimpArgs false
set_option maxHeartbeats 1000000
def spec_B10Takes.wp (l0 : List (Int)) (K : (List ((List UInt8) × (Int) × (List (Nat)))) → Prop) : Prop := spec_l00From.wp l0 fun y101 y102 y103 => ((y101 = true → spec_l00Src_pick.wp l0 y102 y103 (5 : Int) fun y113 y114 y115 => ∀ X231 : List ((List UInt8) × (Int) × (List (Nat))) → Int → Int → Int → Prop, (∀ (out232 : List ((List UInt8) × (Int) × (List (Nat)))) (b236 : Int) (b237 : Int) (n238 : Int), (((0 : Int) < n238 → spec_l00Src_text.wp l0 b236 b237 ([([97] : List UInt8), ([104, 117, 109] : List UInt8), ([115, 101, 97] : List UInt8), ([122, 122] : List UInt8)] : List (List UInt8)) fun y243 y244 y245 => spec_l00Src_pick.wp l0 y244 y245 (900 : Int) fun y247 y248 y249 => spec_l00Src_pick.wp l0 y248 y249 (7 : Int) fun y255 y256 y257 => ∀ X302 : Int → Int → List UInt8 → Int → List (Nat) → Int → Prop, (∀ (b303 : Int) (b304 : Int) (b305 : List UInt8) (b306 : Int) (b308 : List (Nat)) (k310 : Int), (((0 : Int) < k310 → spec_l00Src_pick.wp l0 b303 b304 (17 : Int) fun y312 y313 y314 => spec_l00Src_one.wp l0 y313 y314 (20 : Int) fun y316 y317 y318 => ((y316 = true → spec_l01DrawFloat.wp l0 y317 y318 fun y321 y322 y323 => ((b308.length + ([y321] : List (Nat)).length) * 4 ≤ 2 ^ 40) ∧ X302 (y322) (y323) (b305) (b306) (b308 ++ ([y321] : List (Nat))) (IntKind.i64.wrap (k310 - (1 : Int)))) ∧ (y316 = false → ((b308.length + ([(fop .quo .f32 (itof .f32 y312) (cz .f32 1090519040))] : List (Nat)).length) * 4 ≤ 2 ^ 40) ∧ X302 (y317) (y318) (b305) (b306) (b308 ++ ([(fop .quo .f32 (itof .f32 y312) (cz .f32 1090519040))] : List (Nat))) (IntKind.i64.wrap (k310 - (1 : Int)))))) ∧ (¬((0 : Int) < k310) → ((out232.length + ([(b305, b306, b308)] : List ((List UInt8) × (Int) × (List (Nat)))).length) * 48 ≤ 2 ^ 40) ∧ X231 (out232 ++ ([(b305, b306, b308)] : List ((List UInt8) × (Int) × (List (Nat))))) (b303) (b304) (IntKind.i64.wrap (n238 - (1 : Int))))) → X302 b303 b304 b305 b306 b308 k310) → X302 (y256) (y257) (y243) (IntKind.i64.wrap ((1 : Int) + y247)) ([] : List (Nat)) (IntKind.i64.wrap ((1 : Int) + y255))) ∧ (¬((0 : Int) < n238) → K (out232))) → X231 out232 b236 b237 n238) → X231 ([] : List ((List UInt8) × (Int) × (List (Nat)))) (y114) (y115) (y113)) ∧ (y101 = false → spec_l00Src_pick.wp ([] : List (Int)) y102 y103 (5 : Int) fun y356 y357 y358 => ∀ X477 : List ((List UInt8) × (Int) × (List (Nat))) → List (Int) → Int → Int → Int → Prop, (∀ (out478 : List ((List UInt8) × (Int) × (List (Nat)))) (b483 : List (Int)) (b485 : Int) (b486 : Int) (n487 : Int), (((0 : Int) < n487 → spec_l00Src_text.wp b483 b485 b486 ([([97] : List UInt8), ([104, 117, 109] : List UInt8), ([115, 101, 97] : List UInt8), ([122, 122] : List UInt8)] : List (List UInt8)) fun y492 y493 y494 => spec_l00Src_pick.wp b483 y493 y494 (900 : Int) fun y496 y497 y498 => spec_l00Src_pick.wp b483 y497 y498 (7 : Int) fun y504 y505 y506 => ∀ X551 : Int → Int → List UInt8 → Int → List (Nat) → Int → Prop, (∀ (b552 : Int) (b553 : Int) (b554 : List UInt8) (b555 : Int) (b557 : List (Nat)) (k559 : Int), (((0 : Int) < k559 → spec_l00Src_pick.wp b483 b552 b553 (17 : Int) fun y561 y562 y563 => spec_l00Src_one.wp b483 y562 y563 (20 : Int) fun y565 y566 y567 => ((y565 = true → spec_l01DrawFloat.wp b483 y566 y567 fun y570 y571 y572 => ((b557.length + ([y570] : List (Nat)).length) * 4 ≤ 2 ^ 40) ∧ X551 (y571) (y572) (b554) (b555) (b557 ++ ([y570] : List (Nat))) (IntKind.i64.wrap (k559 - (1 : Int)))) ∧ (y565 = false → ((b557.length + ([(fop .quo .f32 (itof .f32 y561) (cz .f32 1090519040))] : List (Nat)).length) * 4 ≤ 2 ^ 40) ∧ X551 (y566) (y567) (b554) (b555) (b557 ++ ([(fop .quo .f32 (itof .f32 y561) (cz .f32 1090519040))] : List (Nat))) (IntKind.i64.wrap (k559 - (1 : Int)))))) ∧ (¬((0 : Int) < k559) → ((out478.length + ([(b554, b555, b557)] : List ((List UInt8) × (Int) × (List (Nat)))).length) * 48 ≤ 2 ^ 40) ∧ X477 (out478 ++ ([(b554, b555, b557)] : List ((List UInt8) × (Int) × (List (Nat))))) (b483) (b552) (b553) (IntKind.i64.wrap (n487 - (1 : Int))))) → X551 b552 b553 b554 b555 b557 k559) → X551 (y505) (y506) (y492) (IntKind.i64.wrap ((1 : Int) + y496)) ([] : List (Nat)) (IntKind.i64.wrap ((1 : Int) + y504))) ∧ (¬((0 : Int) < n487) → K (out478))) → X477 out478 b483 b485 b486 n487) → X477 ([] : List ((List UInt8) × (Int) × (List (Nat)))) ([] : List (Int)) (y357) (y358) (y356)))
end Go.Proofs.Ytpeijfnfffogeaa.G

namespace Go.Proofs.Ytpeijfnfffogeaa.G
open Go Go.Ab
set_option maxRecDepth 100000
set_option linter.unusedVariables false
set_option linter.unusedSimpArgs false
set_option maxHeartbeats 1000000
def impl_PackTake.wp (l0 : List (Nat)) (K : (List UInt8) → Bool → Prop) : Prop := impl_within.wp (l0.length : Int) (1 : Int) (128 : Int) fun y101 => ((y101 = true → impl_packed.wp l0 fun y104 => K (y104) (true)) ∧ (y101 = false → K ([] : List UInt8) (false)))
end Go.Proofs.Ytpeijfnfffogeaa.G

namespace Go.Proofs.Ytpeijfnfffogeaa.G
open Go Go.Ab
set_option maxRecDepth 100000
set_option linter.unusedVariables false
set_option linter.unusedSimpArgs false
set_option maxHeartbeats 1000000
def math_Float64bits.wp (x : Nat) (K : Int → Prop) : Prop := (num .f64 x = true) ∧ K (x : Int)
end Go.Proofs.Ytpeijfnfffogeaa.G

namespace Go.Proofs.Ytpeijfnfffogeaa.G
open Go Go.Ab
set_option maxRecDepth 100000
set_option linter.unusedVariables false
set_option linter.unusedSimpArgs false
set_option maxHeartbeats 1000000
def math_Signbit.wp (a0 : Nat) (K : Bool → Prop) : Prop := math_Float64bits.wp a0 fun y101 => K (decide ((IntKind.i64.wrap y101) < (0 : Int)))
end Go.Proofs.Ytpeijfnfffogeaa.G

namespace Go.Proofs.Ytpeijfnfffogeaa.G
open Go Go.Ab
set_option maxRecDepth 100000
set_option linter.unusedVariables false
set_option linter.unusedSimpArgs false
set_option maxHeartbeats 1000000
def impl_SameNumber.wp (a0 : Nat) (a1 : Nat) (K : Bool → Prop) : Prop := (((fcmp .neq .f32 a0 a0) = true → K (fcmp .neq .f32 a1 a1)) ∧ ((fcmp .neq .f32 a0 a0) = false → (((fcmp .neq .f32 a1 a1) = true → K (false)) ∧ ((fcmp .neq .f32 a1 a1) = false → (((fcmp .eql .f32 a0 a1) = true → math_Signbit.wp (widen a0) fun y104 => math_Signbit.wp (widen a1) fun y106 => K (y104 == y106)) ∧ ((fcmp .eql .f32 a0 a1) = false → K (false)))))))
end Go.Proofs.Ytpeijfnfffogeaa.G

namespace Go.Proofs.Ytpeijfnfffogeaa.G
open Go Go.Ab
set_option maxRecDepth 100000
set_option linter.unusedVariables false
set_option linter.unusedSimpArgs false
set_option maxHeartbeats 1000000
def impl_sameNumbers.wp (l0 : List (Nat)) (l1 : List (Nat)) (K : Bool → Prop) : Prop := (((l0.length : Int) = (l1.length : Int) → ∀ X102 : Int → Prop, (∀ (x103 : Int), ((x103 < (l0.length : Int) → (0 ≤ x103 ∧ x103 < (l0.length : Int)) ∧ (0 ≤ x103 ∧ x103 < (l1.length : Int)) ∧ impl_SameNumber.wp (l0.getD (x103).toNat (0 : Nat)) (l1.getD (x103).toNat (0 : Nat)) fun y107 => ((y107 = true → X102 (IntKind.i64.wrap (x103 + (1 : Int)))) ∧ (y107 = false → K (false)))) ∧ (¬(x103 < (l0.length : Int)) → K (true))) → X102 x103) → X102 (0 : Int)) ∧ (¬((l0.length : Int) = (l1.length : Int)) → K (false)))
end Go.Proofs.Ytpeijfnfffogeaa.G

namespace Go.Proofs.Ytpeijfnfffogeaa.G
open Go Go.Ab
set_option maxRecDepth 100000
set_option linter.unusedVariables false
set_option linter.unusedSimpArgs false
set_option maxHeartbeats 1000000
def impl_sameTake.wp (a0 : List UInt8) (a1 : Int) (l2 : List (Nat)) (a3 : List UInt8) (a4 : Int) (l5 : List (Nat)) (K : Bool → Prop) : Prop := ((a0 = a3 → ((a1 = a4 → impl_sameNumbers.wp l2 l5 fun y109 => K (y109)) ∧ (¬(a1 = a4) → K (false)))) ∧ (¬(a0 = a3) → K (false)))
end Go.Proofs.Ytpeijfnfffogeaa.G

namespace Go.Proofs.Ytpeijfnfffogeaa.G
open Go Go.Ab
set_option maxRecDepth 100000
set_option linter.unusedVariables false
set_option linter.unusedSimpArgs false
set_option maxHeartbeats 1000000
def slices_EqualFunc_impl_Take_impl_Take_impl_Take_impl_Take_impl_sameTake.wp (l0 : List ((List UInt8) × (Int) × (List (Nat)))) (l1 : List ((List UInt8) × (Int) × (List (Nat)))) (K : Bool → Prop) : Prop := (((l0.length : Int) = (l1.length : Int) → ∀ X102 : Int → Prop, (∀ (x103 : Int), ((x103 < (l0.length : Int) → (0 ≤ x103 ∧ x103 < (l0.length : Int)) ∧ (0 ≤ x103 ∧ x103 < (l1.length : Int)) ∧ impl_sameTake.wp (l0.getD (x103).toNat (([] : List UInt8), (0 : Int), ([] : List (Nat)))).1 (l0.getD (x103).toNat (([] : List UInt8), (0 : Int), ([] : List (Nat)))).2.1 (l0.getD (x103).toNat (([] : List UInt8), (0 : Int), ([] : List (Nat)))).2.2 (l1.getD (x103).toNat (([] : List UInt8), (0 : Int), ([] : List (Nat)))).1 (l1.getD (x103).toNat (([] : List UInt8), (0 : Int), ([] : List (Nat)))).2.1 (l1.getD (x103).toNat (([] : List UInt8), (0 : Int), ([] : List (Nat)))).2.2 fun y115 => ((y115 = true → X102 (IntKind.i64.wrap (x103 + (1 : Int)))) ∧ (y115 = false → K (false)))) ∧ (¬(x103 < (l0.length : Int)) → K (true))) → X102 x103) → X102 (0 : Int)) ∧ (¬((l0.length : Int) = (l1.length : Int)) → K (false)))
end Go.Proofs.Ytpeijfnfffogeaa.G

namespace Go.Proofs.Ytpeijfnfffogeaa.G
open Go Go.Ab
set_option maxRecDepth 100000
set_option linter.unusedVariables false
set_option linter.unusedSimpArgs false
set_option maxHeartbeats 1000000
def impl_SameTakes.wp (l0 : List ((List UInt8) × (Int) × (List (Nat)))) (l1 : List ((List UInt8) × (Int) × (List (Nat)))) (K : Bool → Prop) : Prop := slices_EqualFunc_impl_Take_impl_Take_impl_Take_impl_Take_impl_sameTake.wp l0 l1 fun y101 => K (y101)
end Go.Proofs.Ytpeijfnfffogeaa.G

namespace Go.Proofs.Ytpeijfnfffogeaa.G
open Go Go.Ab
set_option maxRecDepth 100000
set_option linter.unusedVariables false
set_option linter.unusedSimpArgs false
set_option maxHeartbeats 1000000
def spec_l01Bits.wp (a0 : Nat) (K : Int → Prop) : Prop := (((fcmp .neq .f32 a0 a0) = true → K (2143289344 : Int)) ∧ ((fcmp .neq .f32 a0 a0) = false → math_Float32bits.wp a0 fun y102 => K (IntKind.i64.wrap y102)))
end Go.Proofs.Ytpeijfnfffogeaa.G

namespace Go.Proofs.Ytpeijfnfffogeaa.G
open Go Go.Ab
set_option maxRecDepth 100000
set_option linter.unusedVariables false
set_option linter.unusedSimpArgs false
set_option maxHeartbeats 1000000
def spec_l01Same.wp (a0 : Nat) (a1 : Nat) (K : Bool → Prop) : Prop := spec_l01Bits.wp a0 fun y101 => spec_l01Bits.wp a1 fun y103 => K (decide (y101 = y103))
end Go.Proofs.Ytpeijfnfffogeaa.G

namespace Go.Proofs.Ytpeijfnfffogeaa.G
open Go Go.Ab
set_option maxRecDepth 100000
set_option linter.unusedVariables false
set_option linter.unusedSimpArgs false
set_option maxHeartbeats 1000000
def spec_SameNumber.wp (a0 : Nat) (a1 : Nat) (K : Bool → Prop) : Prop := spec_l01Same.wp a0 a1 fun y101 => K (y101)
end Go.Proofs.Ytpeijfnfffogeaa.G

namespace Go.Proofs.Ytpeijfnfffogeaa.G
open Go Go.Ab
set_option maxRecDepth 100000
set_option linter.unusedVariables false
set_option linter.unusedSimpArgs false
set_option maxHeartbeats 1000000
def laws_b10List.wp (l0 : List (Nat)) (l1 : List (Nat)) (K : Bool → Prop) : Prop := (((l0.length : Int) = (l1.length : Int) → ∀ X102 : Int → Prop, (∀ (x103 : Int), ((x103 < (l0.length : Int) → (0 ≤ x103 ∧ x103 < (l0.length : Int)) ∧ (0 ≤ x103 ∧ x103 < (l1.length : Int)) ∧ spec_SameNumber.wp (l0.getD (x103).toNat (0 : Nat)) (l1.getD (x103).toNat (0 : Nat)) fun y107 => ((y107 = true → X102 (IntKind.i64.wrap (x103 + (1 : Int)))) ∧ (y107 = false → K (false)))) ∧ (¬(x103 < (l0.length : Int)) → K (true))) → X102 x103) → X102 (0 : Int)) ∧ (¬((l0.length : Int) = (l1.length : Int)) → K (false)))
end Go.Proofs.Ytpeijfnfffogeaa.G

namespace Go.Proofs.Ytpeijfnfffogeaa.G
open Go Go.Ab
set_option maxRecDepth 100000
set_option linter.unusedVariables false
set_option linter.unusedSimpArgs false
set_option maxHeartbeats 1000000
def impl_StoreTakes.wp (l0 : List ((List UInt8) × (Int) × (List (Nat)))) (K : (List UInt8) → Bool → Prop) : Prop := (((8 : Int) < (l0.length : Int) → K ([] : List UInt8) (false)) ∧ (¬((8 : Int) < (l0.length : Int)) → ∀ X102 : List UInt8 → Int → Prop, (∀ (out103 : List UInt8) (x104 : Int), ((x104 < (l0.length : Int) → (0 ≤ x104 ∧ x104 < (l0.length : Int)) ∧ impl_StoreTake.wp (l0.getD (x104).toNat (([] : List UInt8), (0 : Int), ([] : List (Nat)))).1 (l0.getD (x104).toNat (([] : List UInt8), (0 : Int), ([] : List (Nat)))).2.1 (l0.getD (x104).toNat (([] : List UInt8), (0 : Int), ([] : List (Nat)))).2.2 fun y111 y112 => ((y112 = true → ((out103.length : Int) + (y111.length : Int) ≤ 9223372036854775807) ∧ X102 (out103 ++ y111) (IntKind.i64.wrap (x104 + (1 : Int)))) ∧ (y112 = false → K ([] : List UInt8) (false)))) ∧ (¬(x104 < (l0.length : Int)) → K (out103) (true))) → X102 out103 x104) → X102 ([] : List UInt8) (0 : Int)))
end Go.Proofs.Ytpeijfnfffogeaa.G

namespace Go.Proofs.Ytpeijfnfffogeaa.G
open Go Go.Ab
set_option maxRecDepth 100000
set_option linter.unusedVariables false
set_option linter.unusedSimpArgs false
set_option maxHeartbeats 1000000
def laws_b10At.wp (l0 : List (Int)) (a1 : Int) (a2 : Int) (K : Int → Prop) : Prop := ((a2 ≤ (1 : Int) → K (0 : Int)) ∧ (¬(a2 ≤ (1 : Int)) → ((a1 < (l0.length : Int) → (0 ≤ a1 ∧ a1 < (l0.length : Int)) ∧ (a2 ≠ 0) ∧ K (Int.tmod (IntKind.i64.wrap (l0.getD (a1).toNat (0 : Int))) a2)) ∧ (¬(a1 < (l0.length : Int)) → (a2 ≠ 0) ∧ K (Int.tmod (IntKind.i64.wrap ((IntKind.i64.wrap (a1 * (37 : Int))) + (11 : Int))) a2)))))
end Go.Proofs.Ytpeijfnfffogeaa.G

namespace Go.Proofs.Ytpeijfnfffogeaa.G
open Go Go.Ab
set_option maxRecDepth 100000
set_option linter.unusedVariables false
set_option linter.unusedSimpArgs false
set_option maxHeartbeats 1000000
def laws_FnTakes.wp (l0 : List (Int)) (l1 : List (Int)) (K : Bool → Prop) : Prop := laws_b10Long.wp l0 l1 fun y101 => ((y101 = true → K (true)) ∧ (y101 = false → spec_B10Takes.wp l0 fun y104 => ∀ X272 : List (Int) → Int → Prop, (∀ (ends273 : List (Int)) (x275 : Int), ((x275 < (y104.length : Int) → (0 ≤ x275 ∧ x275 < (y104.length : Int)) ∧ impl_StoreTake.wp (y104.getD (x275).toNat (([] : List UInt8), (0 : Int), ([] : List (Nat)))).1 (y104.getD (x275).toNat (([] : List UInt8), (0 : Int), ([] : List (Nat)))).2.1 (y104.getD (x275).toNat (([] : List UInt8), (0 : Int), ([] : List (Nat)))).2.2 fun y278 y279 => impl_LoadTake.wp y278 fun y281 y282 y283 y286 => impl_PackTake.wp (y104.getD (x275).toNat (([] : List UInt8), (0 : Int), ([] : List (Nat)))).2.2 fun y292 y293 => impl_UnpackTake.wp y292 fun y295 y298 => ((y279 = true → ((y286 = true → ((y293 = true → ((y298 = true → impl_ValidTake.wp (y104.getD (x275).toNat (([] : List UInt8), (0 : Int), ([] : List (Nat)))).1 (y104.getD (x275).toNat (([] : List UInt8), (0 : Int), ([] : List (Nat)))).2.1 (y104.getD (x275).toNat (([] : List UInt8), (0 : Int), ([] : List (Nat)))).2.2 fun y304 => ((y304 = true → (0 ≤ x275 ∧ x275 ≤ (IntKind.i64.wrap (x275 + (1 : Int))) ∧ (IntKind.i64.wrap (x275 + (1 : Int))) ≤ (y104.length : Int)) ∧ impl_SameTakes.wp ([(y281, y282, y283)] : List ((List UInt8) × (Int) × (List (Nat)))) ((y104.drop (x275).toNat).take (((IntKind.i64.wrap (x275 + (1 : Int)))).toNat - (x275).toNat)) fun y311 => ((y311 = true → ∃ (y314 : Bool), laws_b10List.wp y295 (y104.getD (x275).toNat (([] : List UInt8), (0 : Int), ([] : List (Nat)))).2.2 (fun zy314 => y314 = zy314) ∧ ((y314 = true → (((IntKind.i64.wrap ((5 : Int) * ((y104.getD (x275).toNat (([] : List UInt8), (0 : Int), ([] : List (Nat)))).2.2.length : Int))) < (y292.length : Int) → K (false)) ∧ (¬((IntKind.i64.wrap ((5 : Int) * ((y104.getD (x275).toNat (([] : List UInt8), (0 : Int), ([] : List (Nat)))).2.2.length : Int))) < (y292.length : Int)) → (0 ≤ (IntKind.i64.wrap ((ends273.length : Int) - (1 : Int))) ∧ (IntKind.i64.wrap ((ends273.length : Int) - (1 : Int))) < (ends273.length : Int)) ∧ ((ends273.length + ([(IntKind.i64.wrap ((ends273.getD ((IntKind.i64.wrap ((ends273.length : Int) - (1 : Int)))).toNat (0 : Int)) + (y278.length : Int)))] : List (Int)).length) * 8 ≤ 2 ^ 40) ∧ X272 (ends273 ++ ([(IntKind.i64.wrap ((ends273.getD ((IntKind.i64.wrap ((ends273.length : Int) - (1 : Int)))).toNat (0 : Int)) + (y278.length : Int)))] : List (Int))) (IntKind.i64.wrap (x275 + (1 : Int)))))) ∧ (y314 = false → K (false)))) ∧ (y311 = false → K (false)))) ∧ (y304 = false → K (false)))) ∧ (y298 = false → K (false)))) ∧ (y293 = false → K (false)))) ∧ (y286 = false → K (false)))) ∧ (y279 = false → K (false)))) ∧ (¬(x275 < (y104.length : Int)) → impl_StoreTakes.wp y104 fun y325 y326 => impl_RecoverTakes.wp y325 fun y328 y333 y334 => ((y326 = true → ((y334 = true → (0 ≤ (y104.length : Int) ∧ (y104.length : Int) < (ends273.length : Int)) ∧ (((y325.length : Int) = (ends273.getD ((y104.length : Int)).toNat (0 : Int)) → ((y333 = (y325.length : Int) → impl_SameTakes.wp y328 y104 fun y341 => ((y341 = true → (((y325.length : Int) = (0 : Int) → K (true)) ∧ (¬((y325.length : Int) = (0 : Int)) → laws_b10At.wp l1 (0 : Int) (256 : Int) fun y345 => laws_b10At.wp l1 (1 : Int) (256 : Int) fun y347 => ((y325.length : Int) ≠ 0) ∧ ∀ X350 : Int → Prop, (∀ (kept351 : Int), ((kept351 < (y104.length : Int) → (0 ≤ (IntKind.i64.wrap (kept351 + (1 : Int))) ∧ (IntKind.i64.wrap (kept351 + (1 : Int))) < (ends273.length : Int)) ∧ (((ends273.getD ((IntKind.i64.wrap (kept351 + (1 : Int)))).toNat (0 : Int)) ≤ (Int.tmod (IntKind.i64.wrap ((IntKind.i64.wrap ((256 : Int) * y345)) + y347)) (y325.length : Int)) → X350 (IntKind.i64.wrap (kept351 + (1 : Int)))) ∧ (¬((ends273.getD ((IntKind.i64.wrap (kept351 + (1 : Int)))).toNat (0 : Int)) ≤ (Int.tmod (IntKind.i64.wrap ((IntKind.i64.wrap ((256 : Int) * y345)) + y347)) (y325.length : Int))) → (0 ≤ (0 : Int) ∧ (0 : Int) ≤ (Int.tmod (IntKind.i64.wrap ((IntKind.i64.wrap ((256 : Int) * y345)) + y347)) (y325.length : Int)) ∧ (Int.tmod (IntKind.i64.wrap ((IntKind.i64.wrap ((256 : Int) * y345)) + y347)) (y325.length : Int)) ≤ (y325.length : Int)) ∧ impl_RecoverTakes.wp ((y325.drop ((0 : Int)).toNat).take (((Int.tmod (IntKind.i64.wrap ((IntKind.i64.wrap ((256 : Int) * y345)) + y347)) (y325.length : Int))).toNat - ((0 : Int)).toNat)) fun y356 y361 y362 => ((y362 = true → (0 ≤ kept351 ∧ kept351 < (ends273.length : Int)) ∧ ((y361 = (ends273.getD (kept351).toNat (0 : Int)) → (((y356.length : Int) = kept351 → (0 ≤ (Int.tmod (IntKind.i64.wrap ((IntKind.i64.wrap ((256 : Int) * y345)) + y347)) (y325.length : Int)) ∧ (Int.tmod (IntKind.i64.wrap ((IntKind.i64.wrap ((256 : Int) * y345)) + y347)) (y325.length : Int)) < ((nums y325).length : Int)) ∧ laws_b10At.wp l1 (2 : Int) (255 : Int) fun y372 => impl_RecoverTakes.wp (byts ((nums y325).set ((Int.tmod (IntKind.i64.wrap ((IntKind.i64.wrap ((256 : Int) * y345)) + y347)) (y325.length : Int))).toNat (IntKind.u8.wrap (((nums y325).getD ((Int.tmod (IntKind.i64.wrap ((IntKind.i64.wrap ((256 : Int) * y345)) + y347)) (y325.length : Int))).toNat (0 : Int)) + (IntKind.u8.wrap (IntKind.i64.wrap ((1 : Int) + y372))))))) fun y375 y380 y381 => impl_StoreTakes.wp y375 fun y383 y384 => ((y381 = true → ((y384 = true → ((kept351 ≤ (y375.length : Int) → (((0 : Int) ≤ y380 → ((y380 ≤ (((nums y325).set ((Int.tmod (IntKind.i64.wrap ((IntKind.i64.wrap ((256 : Int) * y345)) + y347)) (y325.length : Int))).toNat (IntKind.u8.wrap (((nums y325).getD ((Int.tmod (IntKind.i64.wrap ((IntKind.i64.wrap ((256 : Int) * y345)) + y347)) (y325.length : Int))).toNat (0 : Int)) + (IntKind.u8.wrap (IntKind.i64.wrap ((1 : Int) + y372)))))).length : Int) → (0 ≤ (0 : Int) ∧ (0 : Int) ≤ y380 ∧ y380 ≤ (((nums y325).set ((Int.tmod (IntKind.i64.wrap ((IntKind.i64.wrap ((256 : Int) * y345)) + y347)) (y325.length : Int))).toNat (IntKind.u8.wrap (((nums y325).getD ((Int.tmod (IntKind.i64.wrap ((IntKind.i64.wrap ((256 : Int) * y345)) + y347)) (y325.length : Int))).toNat (0 : Int)) + (IntKind.u8.wrap (IntKind.i64.wrap ((1 : Int) + y372)))))).length : Int)) ∧ K (decide (y383 = (byts ((((nums y325).set ((Int.tmod (IntKind.i64.wrap ((IntKind.i64.wrap ((256 : Int) * y345)) + y347)) (y325.length : Int))).toNat (IntKind.u8.wrap (((nums y325).getD ((Int.tmod (IntKind.i64.wrap ((IntKind.i64.wrap ((256 : Int) * y345)) + y347)) (y325.length : Int))).toNat (0 : Int)) + (IntKind.u8.wrap (IntKind.i64.wrap ((1 : Int) + y372)))))).drop ((0 : Int)).toNat).take ((y380).toNat - ((0 : Int)).toNat)))))) ∧ (¬(y380 ≤ (((nums y325).set ((Int.tmod (IntKind.i64.wrap ((IntKind.i64.wrap ((256 : Int) * y345)) + y347)) (y325.length : Int))).toNat (IntKind.u8.wrap (((nums y325).getD ((Int.tmod (IntKind.i64.wrap ((IntKind.i64.wrap ((256 : Int) * y345)) + y347)) (y325.length : Int))).toNat (0 : Int)) + (IntKind.u8.wrap (IntKind.i64.wrap ((1 : Int) + y372)))))).length : Int)) → K (false)))) ∧ (¬((0 : Int) ≤ y380) → K (false)))) ∧ (¬(kept351 ≤ (y375.length : Int)) → K (false)))) ∧ (y384 = false → K (false)))) ∧ (y381 = false → K (false)))) ∧ (¬((y356.length : Int) = kept351) → K (false)))) ∧ (¬(y361 = (ends273.getD (kept351).toNat (0 : Int))) → K (false)))) ∧ (y362 = false → K (false)))))) ∧ (¬(kept351 < (y104.length : Int)) → (0 ≤ (0 : Int) ∧ (0 : Int) ≤ (Int.tmod (IntKind.i64.wrap ((IntKind.i64.wrap ((256 : Int) * y345)) + y347)) (y325.length : Int)) ∧ (Int.tmod (IntKind.i64.wrap ((IntKind.i64.wrap ((256 : Int) * y345)) + y347)) (y325.length : Int)) ≤ (y325.length : Int)) ∧ impl_RecoverTakes.wp ((y325.drop ((0 : Int)).toNat).take (((Int.tmod (IntKind.i64.wrap ((IntKind.i64.wrap ((256 : Int) * y345)) + y347)) (y325.length : Int))).toNat - ((0 : Int)).toNat)) fun y393 y398 y399 => ((y399 = true → (0 ≤ kept351 ∧ kept351 < (ends273.length : Int)) ∧ ((y398 = (ends273.getD (kept351).toNat (0 : Int)) → (((y393.length : Int) = kept351 → (0 ≤ (Int.tmod (IntKind.i64.wrap ((IntKind.i64.wrap ((256 : Int) * y345)) + y347)) (y325.length : Int)) ∧ (Int.tmod (IntKind.i64.wrap ((IntKind.i64.wrap ((256 : Int) * y345)) + y347)) (y325.length : Int)) < ((nums y325).length : Int)) ∧ laws_b10At.wp l1 (2 : Int) (255 : Int) fun y409 => impl_RecoverTakes.wp (byts ((nums y325).set ((Int.tmod (IntKind.i64.wrap ((IntKind.i64.wrap ((256 : Int) * y345)) + y347)) (y325.length : Int))).toNat (IntKind.u8.wrap (((nums y325).getD ((Int.tmod (IntKind.i64.wrap ((IntKind.i64.wrap ((256 : Int) * y345)) + y347)) (y325.length : Int))).toNat (0 : Int)) + (IntKind.u8.wrap (IntKind.i64.wrap ((1 : Int) + y409))))))) fun y412 y417 y418 => impl_StoreTakes.wp y412 fun y420 y421 => ((y418 = true → ((y421 = true → ((kept351 ≤ (y412.length : Int) → (((0 : Int) ≤ y417 → ((y417 ≤ (((nums y325).set ((Int.tmod (IntKind.i64.wrap ((IntKind.i64.wrap ((256 : Int) * y345)) + y347)) (y325.length : Int))).toNat (IntKind.u8.wrap (((nums y325).getD ((Int.tmod (IntKind.i64.wrap ((IntKind.i64.wrap ((256 : Int) * y345)) + y347)) (y325.length : Int))).toNat (0 : Int)) + (IntKind.u8.wrap (IntKind.i64.wrap ((1 : Int) + y409)))))).length : Int) → (0 ≤ (0 : Int) ∧ (0 : Int) ≤ y417 ∧ y417 ≤ (((nums y325).set ((Int.tmod (IntKind.i64.wrap ((IntKind.i64.wrap ((256 : Int) * y345)) + y347)) (y325.length : Int))).toNat (IntKind.u8.wrap (((nums y325).getD ((Int.tmod (IntKind.i64.wrap ((IntKind.i64.wrap ((256 : Int) * y345)) + y347)) (y325.length : Int))).toNat (0 : Int)) + (IntKind.u8.wrap (IntKind.i64.wrap ((1 : Int) + y409)))))).length : Int)) ∧ K (decide (y420 = (byts ((((nums y325).set ((Int.tmod (IntKind.i64.wrap ((IntKind.i64.wrap ((256 : Int) * y345)) + y347)) (y325.length : Int))).toNat (IntKind.u8.wrap (((nums y325).getD ((Int.tmod (IntKind.i64.wrap ((IntKind.i64.wrap ((256 : Int) * y345)) + y347)) (y325.length : Int))).toNat (0 : Int)) + (IntKind.u8.wrap (IntKind.i64.wrap ((1 : Int) + y409)))))).drop ((0 : Int)).toNat).take ((y417).toNat - ((0 : Int)).toNat)))))) ∧ (¬(y417 ≤ (((nums y325).set ((Int.tmod (IntKind.i64.wrap ((IntKind.i64.wrap ((256 : Int) * y345)) + y347)) (y325.length : Int))).toNat (IntKind.u8.wrap (((nums y325).getD ((Int.tmod (IntKind.i64.wrap ((IntKind.i64.wrap ((256 : Int) * y345)) + y347)) (y325.length : Int))).toNat (0 : Int)) + (IntKind.u8.wrap (IntKind.i64.wrap ((1 : Int) + y409)))))).length : Int)) → K (false)))) ∧ (¬((0 : Int) ≤ y417) → K (false)))) ∧ (¬(kept351 ≤ (y412.length : Int)) → K (false)))) ∧ (y421 = false → K (false)))) ∧ (y418 = false → K (false)))) ∧ (¬((y393.length : Int) = kept351) → K (false)))) ∧ (¬(y398 = (ends273.getD (kept351).toNat (0 : Int))) → K (false)))) ∧ (y399 = false → K (false))))) → X350 kept351) → X350 (0 : Int)))) ∧ (y341 = false → K (false)))) ∧ (¬(y333 = (y325.length : Int)) → K (false)))) ∧ (¬((y325.length : Int) = (ends273.getD ((y104.length : Int)).toNat (0 : Int))) → K (false)))) ∧ (y334 = false → K (false)))) ∧ (y326 = false → K (false))))) → X272 ends273 x275) → X272 ([(0 : Int)] : List (Int)) (0 : Int)))
end Go.Proofs.Ytpeijfnfffogeaa.G

namespace Go.Proofs.Ytpeijfnfffogeaa.G
open Go Go.Ab
set_option maxRecDepth 100000
set_option linter.unusedVariables false
set_option linter.unusedSimpArgs false
set_option maxHeartbeats 1000000
def laws_eqInt64S.wp (l0 : List (Int)) (l1 : List (Int)) (K : Bool → Prop) : Prop := (((l0.length : Int) = (l1.length : Int) → ∀ X102 : Int → Prop, (∀ (i103 : Int), ((i103 < (l0.length : Int) → (0 ≤ i103 ∧ i103 < (l0.length : Int)) ∧ (0 ≤ i103 ∧ i103 < (l1.length : Int)) ∧ (((l0.getD (i103).toNat (0 : Int)) = (l1.getD (i103).toNat (0 : Int)) → X102 (IntKind.i64.wrap (i103 + (1 : Int)))) ∧ (¬((l0.getD (i103).toNat (0 : Int)) = (l1.getD (i103).toNat (0 : Int))) → K (false)))) ∧ (¬(i103 < (l0.length : Int)) → K (true))) → X102 i103) → X102 (0 : Int)) ∧ (¬((l0.length : Int) = (l1.length : Int)) → K (false)))
end Go.Proofs.Ytpeijfnfffogeaa.G

namespace Go.Proofs.Ytpeijfnfffogeaa.G
open Go Go.Ab
set_option maxRecDepth 100000
set_option linter.unusedVariables false
set_option linter.unusedSimpArgs false
set_option maxHeartbeats 1000000
def laws_sameFloat.wp (a0 : Nat) (a1 : Nat) (K : Bool → Prop) : Prop := (((fcmp .neq .f64 a0 a0) = true → K (fcmp .neq .f64 a1 a1)) ∧ ((fcmp .neq .f64 a0 a0) = false → (((fcmp .neq .f64 a1 a1) = true → K (false)) ∧ ((fcmp .neq .f64 a1 a1) = false → (((fcmp .eql .f64 a0 (cz .f64 0)) = true → (((fcmp .eql .f64 a1 (cz .f64 0)) = true → K ((fcmp .gtr .f64 (fop .quo .f64 (cz .f64 4607182418800017408) a0) (cz .f64 0)) == (fcmp .gtr .f64 (fop .quo .f64 (cz .f64 4607182418800017408) a1) (cz .f64 0)))) ∧ ((fcmp .eql .f64 a1 (cz .f64 0)) = false → K (fcmp .eql .f64 a0 a1)))) ∧ ((fcmp .eql .f64 a0 (cz .f64 0)) = false → K (fcmp .eql .f64 a0 a1)))))))
end Go.Proofs.Ytpeijfnfffogeaa.G

namespace Go.Proofs.Ytpeijfnfffogeaa.G
open Go Go.Ab
set_option maxRecDepth 100000
set_option linter.unusedVariables false
set_option linter.unusedSimpArgs false
set_option maxHeartbeats 1000000
def laws_markInt64S.wp (l0 : List (Int)) (a1 : Int) (K : Int → (List (Int)) → Prop) : Prop := ∀ X108 : List (Int) → Int → Int → Prop, (∀ (a109 : List (Int)) (k110 : Int) (i111 : Int), ((i111 < (a109.length : Int) → (0 ≤ i111 ∧ i111 < (a109.length : Int)) ∧ X108 (a109.set (i111).toNat k110) (IntKind.i64.wrap (k110 + (1 : Int))) (IntKind.i64.wrap (i111 + (1 : Int)))) ∧ (¬(i111 < (a109.length : Int)) → K (k110) (a109))) → X108 a109 k110 i111) → X108 (l0) (a1) (0 : Int)
end Go.Proofs.Ytpeijfnfffogeaa.G

namespace Go.Proofs.Ytpeijfnfffogeaa.G
open Go Go.Ab
set_option maxRecDepth 100000
set_option linter.unusedVariables false
set_option linter.unusedSimpArgs false
set_option maxHeartbeats 1000000
def laws_heldInt64S.wp (l0 : List (Int)) (a1 : Int) (K : Int → Prop) : Prop := ∀ X101 : Int → Int → Prop, (∀ (k102 : Int) (i103 : Int), ((i103 < (l0.length : Int) → (0 ≤ i103 ∧ i103 < (l0.length : Int)) ∧ (((l0.getD (i103).toNat (0 : Int)) = k102 → X101 (IntKind.i64.wrap (k102 + (1 : Int))) (IntKind.i64.wrap (i103 + (1 : Int)))) ∧ (¬((l0.getD (i103).toNat (0 : Int)) = k102) → K (-1 : Int)))) ∧ (¬(i103 < (l0.length : Int)) → K (k102))) → X101 k102 i103) → X101 (a1) (0 : Int)
end Go.Proofs.Ytpeijfnfffogeaa.G

namespace Go.Proofs.Ytpeijfnfffogeaa.G
open Go Go.Ab
set_option maxRecDepth 100000
set_option linter.unusedVariables false
set_option linter.unusedSimpArgs false
set_option maxHeartbeats 1000000
def laws_toFloat32S.wp (l0 : List (Nat)) (K : (List (Nat)) → Prop) : Prop := (0 ≤ (l0.length : Int) ∧ (l0.length : Int) ≤ (l0.length : Int) ∧ (l0.length : Int) ≤ 2 ^ 40 ∧ (l0.length : Int) * 4 ≤ 2 ^ 40) ∧ ∀ X111 : List (Nat) → Int → Prop, (∀ (out112 : List (Nat)) (i113 : Int), ((i113 < (l0.length : Int) → (0 ≤ i113 ∧ i113 < (l0.length : Int)) ∧ (0 ≤ i113 ∧ i113 < (out112.length : Int)) ∧ X111 (out112.set (i113).toNat (l0.getD (i113).toNat (0 : Nat))) (IntKind.i64.wrap (i113 + (1 : Int)))) ∧ (¬(i113 < (l0.length : Int)) → K (out112))) → X111 out112 i113) → X111 (List.replicate ((l0.length : Int)).toNat (0 : Nat)) (0 : Int)
end Go.Proofs.Ytpeijfnfffogeaa.G

namespace Go.Proofs.Ytpeijfnfffogeaa.G
open Go Go.Ab
set_option maxRecDepth 100000
set_option linter.unusedVariables false
set_option linter.unusedSimpArgs false
set_option maxHeartbeats 1000000
def laws_toBoolS.wp (l0 : List (Bool)) (K : (List (Bool)) → Prop) : Prop := (0 ≤ (l0.length : Int) ∧ (l0.length : Int) ≤ (l0.length : Int) ∧ (l0.length : Int) ≤ 2 ^ 40 ∧ (l0.length : Int) * 1 ≤ 2 ^ 40) ∧ ∀ X111 : List (Bool) → Int → Prop, (∀ (out112 : List (Bool)) (i113 : Int), ((i113 < (l0.length : Int) → (0 ≤ i113 ∧ i113 < (l0.length : Int)) ∧ (0 ≤ i113 ∧ i113 < (out112.length : Int)) ∧ X111 (out112.set (i113).toNat (l0.getD (i113).toNat false)) (IntKind.i64.wrap (i113 + (1 : Int)))) ∧ (¬(i113 < (l0.length : Int)) → K (out112))) → X111 out112 i113) → X111 (List.replicate ((l0.length : Int)).toNat false) (0 : Int)
end Go.Proofs.Ytpeijfnfffogeaa.G

namespace Go.Proofs.Ytpeijfnfffogeaa.G
open Go Go.Ab
set_option maxRecDepth 100000
set_option linter.unusedVariables false
set_option linter.unusedSimpArgs false
set_option maxHeartbeats 1000000
def laws_eqFloat32S.wp (l0 : List (Nat)) (l1 : List (Nat)) (K : Bool → Prop) : Prop := (((l0.length : Int) = (l1.length : Int) → ∀ X102 : Int → Prop, (∀ (i103 : Int), ((i103 < (l0.length : Int) → (0 ≤ i103 ∧ i103 < (l0.length : Int)) ∧ (0 ≤ i103 ∧ i103 < (l1.length : Int)) ∧ laws_sameFloat.wp (widen (l0.getD (i103).toNat (0 : Nat))) (widen (l1.getD (i103).toNat (0 : Nat))) fun y107 => ((y107 = true → X102 (IntKind.i64.wrap (i103 + (1 : Int)))) ∧ (y107 = false → K (false)))) ∧ (¬(i103 < (l0.length : Int)) → K (true))) → X102 i103) → X102 (0 : Int)) ∧ (¬((l0.length : Int) = (l1.length : Int)) → K (false)))
end Go.Proofs.Ytpeijfnfffogeaa.G

namespace Go.Proofs.Ytpeijfnfffogeaa.G
open Go Go.Ab
set_option maxRecDepth 100000
set_option linter.unusedVariables false
set_option linter.unusedSimpArgs false
set_option maxHeartbeats 1000000
def laws_eqBoolS.wp (l0 : List (Bool)) (l1 : List (Bool)) (K : Bool → Prop) : Prop := (((l0.length : Int) = (l1.length : Int) → ∀ X102 : Int → Prop, (∀ (i103 : Int), ((i103 < (l0.length : Int) → (0 ≤ i103 ∧ i103 < (l0.length : Int)) ∧ (0 ≤ i103 ∧ i103 < (l1.length : Int)) ∧ ((((l0.getD (i103).toNat false) == (l1.getD (i103).toNat false)) = true → X102 (IntKind.i64.wrap (i103 + (1 : Int)))) ∧ (((l0.getD (i103).toNat false) == (l1.getD (i103).toNat false)) = false → K (false)))) ∧ (¬(i103 < (l0.length : Int)) → K (true))) → X102 i103) → X102 (0 : Int)) ∧ (¬((l0.length : Int) = (l1.length : Int)) → K (false)))
end Go.Proofs.Ytpeijfnfffogeaa.G

namespace Go.Proofs.Ytpeijfnfffogeaa.G
open Go Go.Ab
set_option maxRecDepth 100000
set_option linter.unusedVariables false
set_option linter.unusedSimpArgs false
set_option maxHeartbeats 1000000
def laws_markFloat32S.wp (l0 : List (Nat)) (a1 : Int) (K : Int → (List (Nat)) → Prop) : Prop := ∀ X108 : List (Nat) → Int → Int → Prop, (∀ (a109 : List (Nat)) (k110 : Int) (i111 : Int), ((i111 < (a109.length : Int) → (0 ≤ i111 ∧ i111 < (a109.length : Int)) ∧ X108 (a109.set (i111).toNat (itof .f32 k110)) (IntKind.i64.wrap (k110 + (1 : Int))) (IntKind.i64.wrap (i111 + (1 : Int)))) ∧ (¬(i111 < (a109.length : Int)) → K (k110) (a109))) → X108 a109 k110 i111) → X108 (l0) (a1) (0 : Int)
end Go.Proofs.Ytpeijfnfffogeaa.G

namespace Go.Proofs.Ytpeijfnfffogeaa.G
open Go Go.Ab
set_option maxRecDepth 100000
set_option linter.unusedVariables false
set_option linter.unusedSimpArgs false
set_option maxHeartbeats 1000000
def laws_heldFloat32S.wp (l0 : List (Nat)) (a1 : Int) (K : Int → Prop) : Prop := ∀ X101 : Int → Int → Prop, (∀ (k102 : Int) (i103 : Int), ((i103 < (l0.length : Int) → (0 ≤ i103 ∧ i103 < (l0.length : Int)) ∧ (((fcmp .neq .f32 (l0.getD (i103).toNat (0 : Nat)) (itof .f32 k102)) = true → K (-1 : Int)) ∧ ((fcmp .neq .f32 (l0.getD (i103).toNat (0 : Nat)) (itof .f32 k102)) = false → X101 (IntKind.i64.wrap (k102 + (1 : Int))) (IntKind.i64.wrap (i103 + (1 : Int)))))) ∧ (¬(i103 < (l0.length : Int)) → K (k102))) → X101 k102 i103) → X101 (a1) (0 : Int)
end Go.Proofs.Ytpeijfnfffogeaa.G

namespace Go.Proofs.Ytpeijfnfffogeaa.G
open Go Go.Ab
set_option maxRecDepth 100000
set_option linter.unusedVariables false
set_option linter.unusedSimpArgs false
set_option maxHeartbeats 1000000
def laws_toInt64S.wp (l0 : List (Int)) (K : (List (Int)) → Prop) : Prop := (0 ≤ (l0.length : Int) ∧ (l0.length : Int) ≤ (l0.length : Int) ∧ (l0.length : Int) ≤ 2 ^ 40 ∧ (l0.length : Int) * 8 ≤ 2 ^ 40) ∧ ∀ X111 : List (Int) → Int → Prop, (∀ (out112 : List (Int)) (i113 : Int), ((i113 < (l0.length : Int) → (0 ≤ i113 ∧ i113 < (l0.length : Int)) ∧ (0 ≤ i113 ∧ i113 < (out112.length : Int)) ∧ X111 (out112.set (i113).toNat (l0.getD (i113).toNat (0 : Int))) (IntKind.i64.wrap (i113 + (1 : Int)))) ∧ (¬(i113 < (l0.length : Int)) → K (out112))) → X111 out112 i113) → X111 (List.replicate ((l0.length : Int)).toNat (0 : Int)) (0 : Int)
end Go.Proofs.Ytpeijfnfffogeaa.G

namespace Go.Proofs.Ytpeijfnfffogeaa.G
open Go Go.Ab
set_option maxRecDepth 100000
set_option linter.unusedVariables false
set_option linter.unusedSimpArgs false
set_option maxHeartbeats 1000000
def spec_l01Finite.wp (a0 : Nat) (K : Bool → Prop) : Prop := K (fcmp .eql .f32 (fop .sub .f32 a0 a0) (cz .f32 0))
end Go.Proofs.Ytpeijfnfffogeaa.G

namespace Go.Proofs.Ytpeijfnfffogeaa.G
open Go Go.Ab
set_option maxRecDepth 100000
set_option linter.unusedVariables false
set_option linter.unusedSimpArgs false
set_option maxHeartbeats 1000000
def spec_l02Least.wp (a0 : Nat) (K : Bool → Prop) : Prop := spec_l01Finite.wp a0 fun y101 => ((y101 = true → K (fcmp .geq .f32 a0 (cz .f32 0))) ∧ (y101 = false → K (false)))
end Go.Proofs.Ytpeijfnfffogeaa.G

namespace Go.Proofs.Ytpeijfnfffogeaa.G
open Go Go.Ab
set_option maxRecDepth 100000
set_option linter.unusedVariables false
set_option linter.unusedSimpArgs false
set_option maxHeartbeats 1000000
def spec_l02Share.wp (a0 : Nat) (K : Bool → Prop) : Prop := (((fcmp .geq .f32 a0 (cz .f32 0)) = true → K (fcmp .leq .f32 a0 (cz .f32 1065353216))) ∧ ((fcmp .geq .f32 a0 (cz .f32 0)) = false → K (false)))
end Go.Proofs.Ytpeijfnfffogeaa.G

namespace Go.Proofs.Ytpeijfnfffogeaa.G
open Go Go.Ab
set_option maxRecDepth 100000
set_option linter.unusedVariables false
set_option linter.unusedSimpArgs false
set_option maxHeartbeats 1000000
def spec_l02Finite.wp (l0 : List (Nat)) (K : Bool → Prop) : Prop := ∀ X101 : Int → Prop, (∀ (i102 : Int), ((i102 < (l0.length : Int) → (0 ≤ i102 ∧ i102 < (l0.length : Int)) ∧ spec_l01Finite.wp (l0.getD (i102).toNat (0 : Nat)) fun y105 => ((y105 = true → X101 (IntKind.i64.wrap (i102 + (1 : Int)))) ∧ (y105 = false → K (false)))) ∧ (¬(i102 < (l0.length : Int)) → K (true))) → X101 i102) → X101 (0 : Int)
end Go.Proofs.Ytpeijfnfffogeaa.G

namespace Go.Proofs.Ytpeijfnfffogeaa.G
open Go Go.Ab
set_option maxRecDepth 100000
set_option linter.unusedVariables false
set_option linter.unusedSimpArgs false
set_option maxHeartbeats 1000000
def impl_IsFinite.wp (a0 : Nat) (K : Bool → Prop) : Prop := K (fcmp .eql .f32 (fop .sub .f32 a0 a0) (cz .f32 0))
end Go.Proofs.Ytpeijfnfffogeaa.G

namespace Go.Proofs.Ytpeijfnfffogeaa.G
open Go Go.Ab
set_option maxRecDepth 100000
set_option linter.unusedVariables false
set_option linter.unusedSimpArgs false
set_option maxHeartbeats 1000000
def impl_isLeast.wp (a0 : Nat) (K : Bool → Prop) : Prop := impl_IsFinite.wp a0 fun y101 => ((y101 = true → K (fcmp .geq .f32 a0 (cz .f32 0))) ∧ (y101 = false → K (false)))
end Go.Proofs.Ytpeijfnfffogeaa.G

namespace Go.Proofs.Ytpeijfnfffogeaa.G
open Go Go.Ab
set_option maxRecDepth 100000
set_option linter.unusedVariables false
set_option linter.unusedSimpArgs false
set_option maxHeartbeats 1000000
def impl_isShare.wp (a0 : Nat) (K : Bool → Prop) : Prop := (((fcmp .geq .f32 a0 (cz .f32 0)) = true → K (fcmp .leq .f32 a0 (cz .f32 1065353216))) ∧ ((fcmp .geq .f32 a0 (cz .f32 0)) = false → K (false)))
end Go.Proofs.Ytpeijfnfffogeaa.G

namespace Go.Proofs.Ytpeijfnfffogeaa.G
open Go Go.Ab
set_option maxRecDepth 100000
set_option linter.unusedVariables false
set_option linter.unusedSimpArgs false
set_option maxHeartbeats 1000000
def impl_areFinite.wp (l0 : List (List (Nat))) (K : Bool → Prop) : Prop := ∀ X101 : Int → Prop, (∀ (x102 : Int), ((x102 < (l0.length : Int) → (0 ≤ x102 ∧ x102 < (l0.length : Int)) ∧ ∀ X105 : Int → Prop, (∀ (x106 : Int), ((x106 < ((l0.getD (x102).toNat ([] : List (Nat))).length : Int) → (0 ≤ x106 ∧ x106 < ((l0.getD (x102).toNat ([] : List (Nat))).length : Int)) ∧ impl_IsFinite.wp ((l0.getD (x102).toNat ([] : List (Nat))).getD (x106).toNat (0 : Nat)) fun y109 => ((y109 = true → X105 (IntKind.i64.wrap (x106 + (1 : Int)))) ∧ (y109 = false → K (false)))) ∧ (¬(x106 < ((l0.getD (x102).toNat ([] : List (Nat))).length : Int)) → X101 (IntKind.i64.wrap (x102 + (1 : Int))))) → X105 x106) → X105 (0 : Int)) ∧ (¬(x102 < (l0.length : Int)) → K (true))) → X101 x102) → X101 (0 : Int)
end Go.Proofs.Ytpeijfnfffogeaa.G

namespace Go.Proofs.Ytpeijfnfffogeaa.G
open Go Go.Ab
set_option maxRecDepth 100000
set_option linter.unusedVariables false
set_option linter.unusedSimpArgs false
set_option maxHeartbeats 1000000
def impl_finiteList.wp (l0 : List (Nat)) (K : Bool → Bool → Prop) : Prop := impl_areFinite.wp ([l0] : List (List (Nat))) fun y104 => ((y104 = true → K (true) (true)) ∧ (y104 = false → K (false) (false)))
end Go.Proofs.Ytpeijfnfffogeaa.G

namespace Go.Proofs.Ytpeijfnfffogeaa.G
open Go Go.Ab
set_option maxRecDepth 100000
set_option linter.unusedVariables false
set_option linter.unusedSimpArgs false
set_option maxHeartbeats 1000000
def spec_l00In.wp (a0 : Int) (a1 : Int) (a2 : Int) (K : Bool → Prop) : Prop := ((a1 ≤ a0 → K (decide (a0 ≤ a2))) ∧ (¬(a1 ≤ a0) → K (false)))
end Go.Proofs.Ytpeijfnfffogeaa.G

namespace Go.Proofs.Ytpeijfnfffogeaa.G
open Go Go.Ab
set_option maxRecDepth 100000
set_option linter.unusedVariables false
set_option linter.unusedSimpArgs false
set_option maxHeartbeats 1000000
def spec_l02Bound.wp (l0 : List (Int)) (a1 : Int) (K : Bool → Prop) : Prop := ∀ X101 : Int → Prop, (∀ (i102 : Int), ((i102 < (l0.length : Int) → (0 ≤ i102 ∧ i102 < (l0.length : Int)) ∧ spec_l00In.wp (l0.getD (i102).toNat (0 : Int)) (IntKind.i64.wrap (0 - a1)) a1 fun y105 => ((y105 = true → X101 (IntKind.i64.wrap (i102 + (1 : Int)))) ∧ (y105 = false → K (false)))) ∧ (¬(i102 < (l0.length : Int)) → K (true))) → X101 i102) → X101 (0 : Int)
end Go.Proofs.Ytpeijfnfffogeaa.G

namespace Go.Proofs.Ytpeijfnfffogeaa.G
open Go Go.Ab
set_option maxRecDepth 100000
set_option linter.unusedVariables false
set_option linter.unusedSimpArgs false
set_option maxHeartbeats 1000000
def spec_l02Integers.wp (l0 : List (Int)) (K : Bool → Prop) : Prop := (((1 : Int) ≤ (l0.length : Int) → (((l0.length : Int) ≤ (128 : Int) → spec_l02Bound.wp l0 (1000000 : Int) fun y103 => K (y103)) ∧ (¬((l0.length : Int) ≤ (128 : Int)) → K (false)))) ∧ (¬((1 : Int) ≤ (l0.length : Int)) → K (false)))
end Go.Proofs.Ytpeijfnfffogeaa.G

namespace Go.Proofs.Ytpeijfnfffogeaa.G
open Go Go.Ab
set_option maxRecDepth 100000
set_option linter.unusedVariables false
set_option linter.unusedSimpArgs false
set_option maxHeartbeats 1000000
def impl_areWithin.wp (l0 : List (Int)) (a1 : Int) (K : Bool → Prop) : Prop := ∀ X101 : Int → Prop, (∀ (x102 : Int), ((x102 < (l0.length : Int) → (0 ≤ x102 ∧ x102 < (l0.length : Int)) ∧ impl_within.wp (l0.getD (x102).toNat (0 : Int)) (IntKind.i64.wrap (0 - a1)) a1 fun y105 => ((y105 = true → X101 (IntKind.i64.wrap (x102 + (1 : Int)))) ∧ (y105 = false → K (false)))) ∧ (¬(x102 < (l0.length : Int)) → K (true))) → X101 x102) → X101 (0 : Int)
end Go.Proofs.Ytpeijfnfffogeaa.G

namespace Go.Proofs.Ytpeijfnfffogeaa.G
open Go Go.Ab
set_option maxRecDepth 100000
set_option linter.unusedVariables false
set_option linter.unusedSimpArgs false
set_option maxHeartbeats 1000000
def impl_AreIntegers.wp (l0 : List (Int)) (K : Bool → Prop) : Prop := impl_within.wp (l0.length : Int) (1 : Int) (128 : Int) fun y101 => ((y101 = true → impl_areWithin.wp l0 (1000000 : Int) fun y104 => K (y104)) ∧ (y101 = false → K (false)))
end Go.Proofs.Ytpeijfnfffogeaa.G

namespace Go.Proofs.Ytpeijfnfffogeaa.G
open Go Go.Ab
set_option maxRecDepth 100000
set_option linter.unusedVariables false
set_option linter.unusedSimpArgs false
set_option maxHeartbeats 1000000
def spec_l02Is.wp (l0 : List (Nat)) (K : Bool → Prop) : Prop := (((1 : Int) ≤ (l0.length : Int) → (((l0.length : Int) ≤ (128 : Int) → spec_l02Finite.wp l0 fun y103 => K (y103)) ∧ (¬((l0.length : Int) ≤ (128 : Int)) → K (false)))) ∧ (¬((1 : Int) ≤ (l0.length : Int)) → K (false)))
end Go.Proofs.Ytpeijfnfffogeaa.G

namespace Go.Proofs.Ytpeijfnfffogeaa.G
open Go Go.Ab
set_option maxRecDepth 100000
set_option linter.unusedVariables false
set_option linter.unusedSimpArgs false
set_option maxHeartbeats 1000000
def spec_l02Above.wp (a0 : Nat) (K : Bool → Prop) : Prop := spec_l01Finite.wp a0 fun y101 => ((y101 = true → K (fcmp .gtr .f32 a0 (cz .f32 0))) ∧ (y101 = false → K (false)))
end Go.Proofs.Ytpeijfnfffogeaa.G

namespace Go.Proofs.Ytpeijfnfffogeaa.G
open Go Go.Ab
set_option maxRecDepth 100000
set_option linter.unusedVariables false
set_option linter.unusedSimpArgs false
set_option maxHeartbeats 1000000
def spec_l02List.wp (l0 : List (Nat)) (K : Bool → Bool → Prop) : Prop := spec_l02Finite.wp l0 fun y101 => ((y101 = true → K (true) (true)) ∧ (y101 = false → K (false) (false)))
end Go.Proofs.Ytpeijfnfffogeaa.G

namespace Go.Proofs.Ytpeijfnfffogeaa.G
open Go Go.Ab
set_option maxRecDepth 100000
set_option linter.unusedVariables false
set_option linter.unusedSimpArgs false
set_option maxHeartbeats 1000000
def impl_IsList.wp (l0 : List (Nat)) (K : Bool → Prop) : Prop := impl_within.wp (l0.length : Int) (1 : Int) (128 : Int) fun y101 => ((y101 = true → impl_areFinite.wp ([l0] : List (List (Nat))) fun y107 => K (y107)) ∧ (y101 = false → K (false)))
end Go.Proofs.Ytpeijfnfffogeaa.G

namespace Go.Proofs.Ytpeijfnfffogeaa.G
open Go Go.Ab
set_option maxRecDepth 100000
set_option linter.unusedVariables false
set_option linter.unusedSimpArgs false
set_option maxHeartbeats 1000000
def impl_isOver.wp (a0 : Nat) (K : Bool → Prop) : Prop := impl_IsFinite.wp a0 fun y101 => ((y101 = true → K (fcmp .gtr .f32 a0 (cz .f32 0))) ∧ (y101 = false → K (false)))
end Go.Proofs.Ytpeijfnfffogeaa.G

namespace Go.Proofs.Ytpeijfnfffogeaa.G
open Go Go.Ab
set_option maxRecDepth 100000
set_option linter.unusedVariables false
set_option linter.unusedSimpArgs false
set_option maxHeartbeats 1000000
def spec_l07Pack.wp (l0 : List (Nat)) (K : (List UInt8) → Prop) : Prop := ∀ X218 : List (Int) → Int → Int → Prop, (∀ (out219 : List (Int)) (before221 : Int) (x222 : Int), ((x222 < (l0.length : Int) → (0 ≤ x222 ∧ x222 < (l0.length : Int)) ∧ spec_l01Bits.wp (l0.getD (x222).toNat (0 : Nat)) fun y225 => ∀ X227 : Int → Int → Prop, (∀ (z228 : Int) (scale229 : Int), ((z228 < (4 : Int) → (scale229 ≠ 0) ∧ (((IntKind.i64.wrap (Int.tdiv (ibits .xor .i64 y225 before221) scale229)) = (0 : Int) → ((scale229 = (1 : Int) → ((out219.length + ([(IntKind.u8.wrap (IntKind.i64.wrap (z228 + (1 : Int))))] : List (Int)).length) * 1 ≤ 2 ^ 40) ∧ ∀ X252 : List (Int) → Int → Int → Prop, (∀ (out253 : List (Int)) (x255 : Int) (k256 : Int), ((k256 < (4 : Int) → ((out253.length + ([(IntKind.u8.wrap (Int.tmod x255 (256 : Int)))] : List (Int)).length) * 1 ≤ 2 ^ 40) ∧ X252 (out253 ++ ([(IntKind.u8.wrap (Int.tmod x255 (256 : Int)))] : List (Int))) (IntKind.i64.wrap (Int.tdiv x255 (256 : Int))) (IntKind.i64.wrap (k256 + (1 : Int)))) ∧ (¬(k256 < (4 : Int)) → X218 (out253) (y225) (IntKind.i64.wrap (x222 + (1 : Int))))) → X252 out253 x255 k256) → X252 (out219 ++ ([(IntKind.u8.wrap (IntKind.i64.wrap (z228 + (1 : Int))))] : List (Int))) (ibits .xor .i64 y225 before221) (IntKind.i64.wrap (z228 + (1 : Int)))) ∧ (¬(scale229 = (1 : Int)) → X227 (IntKind.i64.wrap (z228 + (1 : Int))) (IntKind.i64.wrap (Int.tdiv scale229 (256 : Int)))))) ∧ (¬((IntKind.i64.wrap (Int.tdiv (ibits .xor .i64 y225 before221) scale229)) = (0 : Int)) → ((out219.length + ([(IntKind.u8.wrap z228)] : List (Int)).length) * 1 ≤ 2 ^ 40) ∧ ∀ X284 : List (Int) → Int → Int → Prop, (∀ (out285 : List (Int)) (x287 : Int) (k288 : Int), ((k288 < (4 : Int) → ((out285.length + ([(IntKind.u8.wrap (Int.tmod x287 (256 : Int)))] : List (Int)).length) * 1 ≤ 2 ^ 40) ∧ X284 (out285 ++ ([(IntKind.u8.wrap (Int.tmod x287 (256 : Int)))] : List (Int))) (IntKind.i64.wrap (Int.tdiv x287 (256 : Int))) (IntKind.i64.wrap (k288 + (1 : Int)))) ∧ (¬(k288 < (4 : Int)) → X218 (out285) (y225) (IntKind.i64.wrap (x222 + (1 : Int))))) → X284 out285 x287 k288) → X284 (out219 ++ ([(IntKind.u8.wrap z228)] : List (Int))) (ibits .xor .i64 y225 before221) (z228)))) ∧ (¬(z228 < (4 : Int)) → ((out219.length + ([(IntKind.u8.wrap z228)] : List (Int)).length) * 1 ≤ 2 ^ 40) ∧ ∀ X316 : List (Int) → Int → Int → Prop, (∀ (out317 : List (Int)) (x319 : Int) (k320 : Int), ((k320 < (4 : Int) → ((out317.length + ([(IntKind.u8.wrap (Int.tmod x319 (256 : Int)))] : List (Int)).length) * 1 ≤ 2 ^ 40) ∧ X316 (out317 ++ ([(IntKind.u8.wrap (Int.tmod x319 (256 : Int)))] : List (Int))) (IntKind.i64.wrap (Int.tdiv x319 (256 : Int))) (IntKind.i64.wrap (k320 + (1 : Int)))) ∧ (¬(k320 < (4 : Int)) → X218 (out317) (y225) (IntKind.i64.wrap (x222 + (1 : Int))))) → X316 out317 x319 k320) → X316 (out219 ++ ([(IntKind.u8.wrap z228)] : List (Int))) (ibits .xor .i64 y225 before221) (z228))) → X227 z228 scale229) → X227 (0 : Int) (16777216 : Int)) ∧ (¬(x222 < (l0.length : Int)) → K (byts out219))) → X218 out219 before221 x222) → X218 ([] : List (Int)) (0 : Int) (0 : Int)
end Go.Proofs.Ytpeijfnfffogeaa.G

namespace Go.Proofs.Ytpeijfnfffogeaa.G
open Go Go.Ab
set_option maxRecDepth 100000
set_option linter.unusedVariables false
set_option linter.unusedSimpArgs false
set_option maxHeartbeats 1000000
def spec_l07Values.wp (l0 : List (Nat)) (K : Bool → Prop) : Prop := (((1 : Int) ≤ (l0.length : Int) → K (decide ((l0.length : Int) ≤ (128 : Int)))) ∧ (¬((1 : Int) ≤ (l0.length : Int)) → K (false)))
end Go.Proofs.Ytpeijfnfffogeaa.G

namespace Go.Proofs.Ytpeijfnfffogeaa.G
open Go Go.Ab
set_option maxRecDepth 100000
set_option linter.unusedVariables false
set_option linter.unusedSimpArgs false
set_option maxHeartbeats 1000000
def spec_l07Name.wp (a0 : List UInt8) (K : Bool → Prop) : Prop := ∀ X101 : Int → Prop, (∀ (i102 : Int), ((i102 < (a0.length : Int) → (0 ≤ i102 ∧ i102 < (a0.length : Int)) ∧ (((bt a0 i102) < (97 : Int) → K (false)) ∧ (¬((bt a0 i102) < (97 : Int)) → (((122 : Int) < (bt a0 i102) → K (false)) ∧ (¬((122 : Int) < (bt a0 i102)) → X101 (IntKind.i64.wrap (i102 + (1 : Int)))))))) ∧ (¬(i102 < (a0.length : Int)) → (((1 : Int) ≤ (a0.length : Int) → K (decide ((a0.length : Int) ≤ (8 : Int)))) ∧ (¬((1 : Int) ≤ (a0.length : Int)) → K (false))))) → X101 i102) → X101 (0 : Int)
end Go.Proofs.Ytpeijfnfffogeaa.G

namespace Go.Proofs.Ytpeijfnfffogeaa.G
open Go Go.Ab
set_option maxRecDepth 100000
set_option linter.unusedVariables false
set_option linter.unusedSimpArgs false
set_option maxHeartbeats 1000000
def spec_l07Take.wp (a0 : List UInt8) (a1 : Int) (l2 : List (Nat)) (K : Bool → Prop) : Prop := spec_l07Name.wp a0 fun y101 => ((y101 = true → spec_l00In.wp a1 (1 : Int) (65535 : Int) fun y104 => ((y104 = true → spec_l07Values.wp l2 fun y107 => K (y107)) ∧ (y104 = false → K (false)))) ∧ (y101 = false → K (false)))
end Go.Proofs.Ytpeijfnfffogeaa.G

namespace Go.Proofs.Ytpeijfnfffogeaa.G
open Go Go.Ab
set_option maxRecDepth 100000
set_option linter.unusedVariables false
set_option linter.unusedSimpArgs false
set_option maxHeartbeats 1000000
def laws_eqTake.wp (a0 : List UInt8) (a1 : Int) (l2 : List (Nat)) (a3 : List UInt8) (a4 : Int) (l5 : List (Nat)) (K : Bool → Prop) : Prop := ((a0 = a3 → ((a1 = a4 → laws_eqFloat32S.wp l2 l5 fun y109 => ((y109 = true → K (true)) ∧ (y109 = false → K (false)))) ∧ (¬(a1 = a4) → K (false)))) ∧ (¬(a0 = a3) → K (false)))
end Go.Proofs.Ytpeijfnfffogeaa.G

namespace Go.Proofs.Ytpeijfnfffogeaa.G
open Go Go.Ab
set_option maxRecDepth 100000
set_option linter.unusedVariables false
set_option linter.unusedSimpArgs false
set_option maxHeartbeats 1000000
def laws_szFloat32S.wp (l0 : List (Nat)) (a1 : Int) (K : Int → Prop) : Prop := (((IntKind.i64.wrap (a1 - (l0.length : Int))) < (0 : Int) → K (-1 : Int)) ∧ (¬((IntKind.i64.wrap (a1 - (l0.length : Int))) < (0 : Int)) → K (IntKind.i64.wrap (a1 - (l0.length : Int)))))
end Go.Proofs.Ytpeijfnfffogeaa.G

namespace Go.Proofs.Ytpeijfnfffogeaa.G
open Go Go.Ab
set_option maxRecDepth 100000
set_option linter.unusedVariables false
set_option linter.unusedSimpArgs false
set_option maxHeartbeats 1000000
def spec_l01Check.wp (a0 : Int) (a1 : List UInt8) (K : Int → Prop) : Prop := ∀ X101 : Int → Int → Prop, (∀ (n102 : Int) (i103 : Int), ((i103 < (a1.length : Int) → (0 ≤ i103 ∧ i103 < (a1.length : Int)) ∧ X101 (Int.tmod (IntKind.i64.wrap ((IntKind.i64.wrap ((IntKind.i64.wrap ((853 : Int) * n102)) + (IntKind.i64.wrap (bt a1 i103)))) + (139 : Int))) (65003 : Int)) (IntKind.i64.wrap (i103 + (1 : Int)))) ∧ (¬(i103 < (a1.length : Int)) → K (n102))) → X101 n102 i103) → X101 (a0) (0 : Int)
end Go.Proofs.Ytpeijfnfffogeaa.G

namespace Go.Proofs.Ytpeijfnfffogeaa.G
open Go Go.Ab
set_option maxRecDepth 100000
set_option linter.unusedVariables false
set_option linter.unusedSimpArgs false
set_option maxHeartbeats 1000000
def spec_l07Store.wp (a0 : List UInt8) (a1 : Int) (l2 : List (Nat)) (K : (List UInt8) → Prop) : Prop := (0 < ([(84 : Int), (65 : Int), (75 : Int), (49 : Int)] : List (Int)).length) ∧ ((([(84 : Int), (65 : Int), (75 : Int), (49 : Int)] : List (Int)).length + ([(IntKind.u8.wrap (a0.length : Int))] : List (Int)).length) * 1 ≤ 2 ^ 40) ∧ (((([(84 : Int), (65 : Int), (75 : Int), (49 : Int)] : List (Int)) ++ ([(IntKind.u8.wrap (a0.length : Int))] : List (Int))).length + (nums a0).length) * 1 ≤ 2 ^ 40) ∧ spec_l07Pack.wp l2 fun y117 => ((((([(84 : Int), (65 : Int), (75 : Int), (49 : Int)] : List (Int)) ++ ([(IntKind.u8.wrap (a0.length : Int))] : List (Int))) ++ (nums a0)).length + ([(IntKind.u8.wrap (Int.tmod a1 (256 : Int))), (IntKind.u8.wrap (IntKind.i64.wrap (Int.tdiv a1 (256 : Int)))), (IntKind.u8.wrap (Int.tmod (y117.length : Int) (256 : Int))), (IntKind.u8.wrap (IntKind.i64.wrap (Int.tdiv (y117.length : Int) (256 : Int))))] : List (Int)).length) * 1 ≤ 2 ^ 40) ∧ (((((([(84 : Int), (65 : Int), (75 : Int), (49 : Int)] : List (Int)) ++ ([(IntKind.u8.wrap (a0.length : Int))] : List (Int))) ++ (nums a0)) ++ ([(IntKind.u8.wrap (Int.tmod a1 (256 : Int))), (IntKind.u8.wrap (IntKind.i64.wrap (Int.tdiv a1 (256 : Int)))), (IntKind.u8.wrap (Int.tmod (y117.length : Int) (256 : Int))), (IntKind.u8.wrap (IntKind.i64.wrap (Int.tdiv (y117.length : Int) (256 : Int))))] : List (Int))).length + (nums y117).length) * 1 ≤ 2 ^ 40) ∧ spec_l01Check.wp (0 : Int) (byts ((((([(84 : Int), (65 : Int), (75 : Int), (49 : Int)] : List (Int)) ++ ([(IntKind.u8.wrap (a0.length : Int))] : List (Int))) ++ (nums a0)) ++ ([(IntKind.u8.wrap (Int.tmod a1 (256 : Int))), (IntKind.u8.wrap (IntKind.i64.wrap (Int.tdiv a1 (256 : Int)))), (IntKind.u8.wrap (Int.tmod (y117.length : Int) (256 : Int))), (IntKind.u8.wrap (IntKind.i64.wrap (Int.tdiv (y117.length : Int) (256 : Int))))] : List (Int))) ++ (nums y117))) fun y131 => ((((((([(84 : Int), (65 : Int), (75 : Int), (49 : Int)] : List (Int)) ++ ([(IntKind.u8.wrap (a0.length : Int))] : List (Int))) ++ (nums a0)) ++ ([(IntKind.u8.wrap (Int.tmod a1 (256 : Int))), (IntKind.u8.wrap (IntKind.i64.wrap (Int.tdiv a1 (256 : Int)))), (IntKind.u8.wrap (Int.tmod (y117.length : Int) (256 : Int))), (IntKind.u8.wrap (IntKind.i64.wrap (Int.tdiv (y117.length : Int) (256 : Int))))] : List (Int))) ++ (nums y117)).length + ([(IntKind.u8.wrap (Int.tmod y131 (256 : Int))), (IntKind.u8.wrap (IntKind.i64.wrap (Int.tdiv y131 (256 : Int))))] : List (Int)).length) * 1 ≤ 2 ^ 40) ∧ K (byts (((((([(84 : Int), (65 : Int), (75 : Int), (49 : Int)] : List (Int)) ++ ([(IntKind.u8.wrap (a0.length : Int))] : List (Int))) ++ (nums a0)) ++ ([(IntKind.u8.wrap (Int.tmod a1 (256 : Int))), (IntKind.u8.wrap (IntKind.i64.wrap (Int.tdiv a1 (256 : Int)))), (IntKind.u8.wrap (Int.tmod (y117.length : Int) (256 : Int))), (IntKind.u8.wrap (IntKind.i64.wrap (Int.tdiv (y117.length : Int) (256 : Int))))] : List (Int))) ++ (nums y117)) ++ ([(IntKind.u8.wrap (Int.tmod y131 (256 : Int))), (IntKind.u8.wrap (IntKind.i64.wrap (Int.tdiv y131 (256 : Int))))] : List (Int))))
end Go.Proofs.Ytpeijfnfffogeaa.G

namespace Go.Proofs.Ytpeijfnfffogeaa.G
open Go Go.Ab
set_option maxRecDepth 100000
set_option linter.unusedVariables false
set_option linter.unusedSimpArgs false
set_option maxHeartbeats 1000000
def laws_eqTakeS.wp (l0 : List ((List UInt8) × (Int) × (List (Nat)))) (l1 : List ((List UInt8) × (Int) × (List (Nat)))) (K : Bool → Prop) : Prop := (((l0.length : Int) = (l1.length : Int) → ∀ X102 : Int → Prop, (∀ (i103 : Int), ((i103 < (l0.length : Int) → (0 ≤ i103 ∧ i103 < (l0.length : Int)) ∧ (0 ≤ i103 ∧ i103 < (l1.length : Int)) ∧ laws_eqTake.wp (l0.getD (i103).toNat (([] : List UInt8), (0 : Int), ([] : List (Nat)))).1 (l0.getD (i103).toNat (([] : List UInt8), (0 : Int), ([] : List (Nat)))).2.1 (l0.getD (i103).toNat (([] : List UInt8), (0 : Int), ([] : List (Nat)))).2.2 (l1.getD (i103).toNat (([] : List UInt8), (0 : Int), ([] : List (Nat)))).1 (l1.getD (i103).toNat (([] : List UInt8), (0 : Int), ([] : List (Nat)))).2.1 (l1.getD (i103).toNat (([] : List UInt8), (0 : Int), ([] : List (Nat)))).2.2 fun y107 => ((y107 = true → X102 (IntKind.i64.wrap (i103 + (1 : Int)))) ∧ (y107 = false → K (false)))) ∧ (¬(i103 < (l0.length : Int)) → K (true))) → X102 i103) → X102 (0 : Int)) ∧ (¬((l0.length : Int) = (l1.length : Int)) → K (false)))
end Go.Proofs.Ytpeijfnfffogeaa.G

namespace Go.Proofs.Ytpeijfnfffogeaa.G
open Go Go.Ab
set_option maxRecDepth 100000
set_option linter.unusedVariables false
set_option linter.unusedSimpArgs false
set_option maxHeartbeats 1000000
def spec_l07Unpack.wp (a0 : List UInt8) (K : (List (Nat)) → Bool → Prop) : Prop := ∀ X143 : List (Nat) → Int → Int → Prop, (∀ (out144 : List (Nat)) (before146 : Int) (atq147 : Int), ((atq147 < (a0.length : Int) → (((out144.length : Int) ≤ (128 : Int) → (0 ≤ atq147 ∧ atq147 < (a0.length : Int)) ∧ (((4 : Int) < (IntKind.i64.wrap (bt a0 atq147)) → K ([] : List (Nat)) (false)) ∧ (¬((4 : Int) < (IntKind.i64.wrap (bt a0 atq147))) → (((a0.length : Int) < (IntKind.i64.wrap ((IntKind.i64.wrap ((IntKind.i64.wrap (atq147 + (1 : Int))) + (4 : Int))) - (IntKind.i64.wrap (bt a0 atq147)))) → K ([] : List (Nat)) (false)) ∧ (¬((a0.length : Int) < (IntKind.i64.wrap ((IntKind.i64.wrap ((IntKind.i64.wrap (atq147 + (1 : Int))) + (4 : Int))) - (IntKind.i64.wrap (bt a0 atq147))))) → ∀ X153 : Int → Int → Int → Int → Prop, (∀ (atq154 : Int) (x155 : Int) (scale156 : Int) (k157 : Int), ((k157 < (4 : Int) → (0 ≤ atq154 ∧ atq154 < (a0.length : Int)) ∧ X153 (IntKind.i64.wrap (atq154 + (1 : Int))) (IntKind.i64.wrap (x155 + (IntKind.i64.wrap ((IntKind.i64.wrap (bt a0 atq154)) * scale156)))) (IntKind.i64.wrap (scale156 * (256 : Int))) (IntKind.i64.wrap (k157 + (1 : Int)))) ∧ (¬(k157 < (4 : Int)) → spec_l01From.wp (ibits .xor .i64 before146 x155) fun y160 => ((out144.length + ([y160] : List (Nat)).length) * 4 ≤ 2 ^ 40) ∧ X143 (out144 ++ ([y160] : List (Nat))) (ibits .xor .i64 before146 x155) (atq154))) → X153 atq154 x155 scale156 k157) → X153 (IntKind.i64.wrap (atq147 + (1 : Int))) (0 : Int) (1 : Int) (IntKind.i64.wrap (bt a0 atq147))))))) ∧ (¬((out144.length : Int) ≤ (128 : Int)) → spec_l07Values.wp out144 fun y170 => ((y170 = true → spec_l07Pack.wp out144 fun y173 => ((y173 = a0 → K (out144) (true)) ∧ (¬(y173 = a0) → K ([] : List (Nat)) (false)))) ∧ (y170 = false → K ([] : List (Nat)) (false)))))) ∧ (¬(atq147 < (a0.length : Int)) → spec_l07Values.wp out144 fun y176 => ((y176 = true → spec_l07Pack.wp out144 fun y179 => ((y179 = a0 → K (out144) (true)) ∧ (¬(y179 = a0) → K ([] : List (Nat)) (false)))) ∧ (y176 = false → K ([] : List (Nat)) (false))))) → X143 out144 before146 atq147) → X143 ([] : List (Nat)) (0 : Int) (0 : Int)
end Go.Proofs.Ytpeijfnfffogeaa.G

namespace Go.Proofs.Ytpeijfnfffogeaa.G
open Go Go.Ab
set_option maxRecDepth 100000
set_option linter.unusedVariables false
set_option linter.unusedSimpArgs false
set_option maxHeartbeats 1000000
def spec_l07Long.wp (a0 : List UInt8) (K : Int → Prop) : Prop := (((a0.length : Int) < (5 : Int) → K (0 : Int)) ∧ (¬((a0.length : Int) < (5 : Int)) → (0 ≤ (4 : Int) ∧ (4 : Int) < (a0.length : Int)) ∧ (((a0.length : Int) < (IntKind.i64.wrap ((IntKind.i64.wrap ((5 : Int) + (IntKind.i64.wrap (bt a0 (4 : Int))))) + (4 : Int))) → K (0 : Int)) ∧ (¬((a0.length : Int) < (IntKind.i64.wrap ((IntKind.i64.wrap ((5 : Int) + (IntKind.i64.wrap (bt a0 (4 : Int))))) + (4 : Int)))) → (0 ≤ (IntKind.i64.wrap ((IntKind.i64.wrap ((5 : Int) + (IntKind.i64.wrap (bt a0 (4 : Int))))) + (2 : Int))) ∧ (IntKind.i64.wrap ((IntKind.i64.wrap ((5 : Int) + (IntKind.i64.wrap (bt a0 (4 : Int))))) + (2 : Int))) < (a0.length : Int)) ∧ (0 ≤ (IntKind.i64.wrap ((IntKind.i64.wrap ((5 : Int) + (IntKind.i64.wrap (bt a0 (4 : Int))))) + (3 : Int))) ∧ (IntKind.i64.wrap ((IntKind.i64.wrap ((5 : Int) + (IntKind.i64.wrap (bt a0 (4 : Int))))) + (3 : Int))) < (a0.length : Int)) ∧ (((a0.length : Int) < (IntKind.i64.wrap ((IntKind.i64.wrap ((IntKind.i64.wrap ((IntKind.i64.wrap ((5 : Int) + (IntKind.i64.wrap (bt a0 (4 : Int))))) + (6 : Int))) + (IntKind.i64.wrap (bt a0 (IntKind.i64.wrap ((IntKind.i64.wrap ((5 : Int) + (IntKind.i64.wrap (bt a0 (4 : Int))))) + (2 : Int))))))) + (IntKind.i64.wrap ((256 : Int) * (IntKind.i64.wrap (bt a0 (IntKind.i64.wrap ((IntKind.i64.wrap ((5 : Int) + (IntKind.i64.wrap (bt a0 (4 : Int))))) + (3 : Int))))))))) → K (0 : Int)) ∧ (¬((a0.length : Int) < (IntKind.i64.wrap ((IntKind.i64.wrap ((IntKind.i64.wrap ((IntKind.i64.wrap ((5 : Int) + (IntKind.i64.wrap (bt a0 (4 : Int))))) + (6 : Int))) + (IntKind.i64.wrap (bt a0 (IntKind.i64.wrap ((IntKind.i64.wrap ((5 : Int) + (IntKind.i64.wrap (bt a0 (4 : Int))))) + (2 : Int))))))) + (IntKind.i64.wrap ((256 : Int) * (IntKind.i64.wrap (bt a0 (IntKind.i64.wrap ((IntKind.i64.wrap ((5 : Int) + (IntKind.i64.wrap (bt a0 (4 : Int))))) + (3 : Int)))))))))) → K (IntKind.i64.wrap ((IntKind.i64.wrap ((IntKind.i64.wrap ((IntKind.i64.wrap ((5 : Int) + (IntKind.i64.wrap (bt a0 (4 : Int))))) + (6 : Int))) + (IntKind.i64.wrap (bt a0 (IntKind.i64.wrap ((IntKind.i64.wrap ((5 : Int) + (IntKind.i64.wrap (bt a0 (4 : Int))))) + (2 : Int))))))) + (IntKind.i64.wrap ((256 : Int) * (IntKind.i64.wrap (bt a0 (IntKind.i64.wrap ((IntKind.i64.wrap ((5 : Int) + (IntKind.i64.wrap (bt a0 (4 : Int))))) + (3 : Int)))))))))))))))
end Go.Proofs.Ytpeijfnfffogeaa.G

namespace Go.Proofs.Ytpeijfnfffogeaa.G
open Go Go.Ab
set_option maxRecDepth 100000
set_option linter.unusedVariables false
set_option linter.unusedSimpArgs false
set_option maxHeartbeats 1000000
def spec_l07Load.wp (a0 : List UInt8) (K : (List UInt8) → Int → (List (Nat)) → Bool → Prop) : Prop := spec_l07Long.wp a0 fun y104 => ((y104 = (0 : Int) → K ([] : List UInt8) (0 : Int) ([] : List (Nat)) (false)) ∧ (¬(y104 = (0 : Int)) → ((y104 = (a0.length : Int) → (0 ≤ (4 : Int) ∧ (4 : Int) < (a0.length : Int)) ∧ (0 ≤ (IntKind.i64.wrap ((IntKind.i64.wrap ((5 : Int) + (IntKind.i64.wrap (bt a0 (4 : Int))))) + (4 : Int))) ∧ (IntKind.i64.wrap ((IntKind.i64.wrap ((5 : Int) + (IntKind.i64.wrap (bt a0 (4 : Int))))) + (4 : Int))) ≤ (IntKind.i64.wrap (y104 - (2 : Int))) ∧ (IntKind.i64.wrap (y104 - (2 : Int))) ≤ (a0.length : Int)) ∧ spec_l07Unpack.wp ((a0.drop ((IntKind.i64.wrap ((IntKind.i64.wrap ((5 : Int) + (IntKind.i64.wrap (bt a0 (4 : Int))))) + (4 : Int)))).toNat).take (((IntKind.i64.wrap (y104 - (2 : Int)))).toNat - ((IntKind.i64.wrap ((IntKind.i64.wrap ((5 : Int) + (IntKind.i64.wrap (bt a0 (4 : Int))))) + (4 : Int)))).toNat)) fun y111 y114 => (0 ≤ (5 : Int) ∧ (5 : Int) ≤ (IntKind.i64.wrap ((5 : Int) + (IntKind.i64.wrap (bt a0 (4 : Int))))) ∧ (IntKind.i64.wrap ((5 : Int) + (IntKind.i64.wrap (bt a0 (4 : Int))))) ≤ (a0.length : Int)) ∧ (0 ≤ (IntKind.i64.wrap ((5 : Int) + (IntKind.i64.wrap (bt a0 (4 : Int))))) ∧ (IntKind.i64.wrap ((5 : Int) + (IntKind.i64.wrap (bt a0 (4 : Int))))) < (a0.length : Int)) ∧ (0 ≤ (IntKind.i64.wrap ((IntKind.i64.wrap ((5 : Int) + (IntKind.i64.wrap (bt a0 (4 : Int))))) + (1 : Int))) ∧ (IntKind.i64.wrap ((IntKind.i64.wrap ((5 : Int) + (IntKind.i64.wrap (bt a0 (4 : Int))))) + (1 : Int))) < (a0.length : Int)) ∧ ((y114 = true → spec_l07Take.wp ((a0.drop ((5 : Int)).toNat).take (((IntKind.i64.wrap ((5 : Int) + (IntKind.i64.wrap (bt a0 (4 : Int)))))).toNat - ((5 : Int)).toNat)) (IntKind.i64.wrap ((IntKind.i64.wrap (bt a0 (IntKind.i64.wrap ((5 : Int) + (IntKind.i64.wrap (bt a0 (4 : Int))))))) + (IntKind.i64.wrap ((256 : Int) * (IntKind.i64.wrap (bt a0 (IntKind.i64.wrap ((IntKind.i64.wrap ((5 : Int) + (IntKind.i64.wrap (bt a0 (4 : Int))))) + (1 : Int))))))))) y111 fun y124 => ((y124 = true → spec_l07Store.wp ((a0.drop ((5 : Int)).toNat).take (((IntKind.i64.wrap ((5 : Int) + (IntKind.i64.wrap (bt a0 (4 : Int)))))).toNat - ((5 : Int)).toNat)) (IntKind.i64.wrap ((IntKind.i64.wrap (bt a0 (IntKind.i64.wrap ((5 : Int) + (IntKind.i64.wrap (bt a0 (4 : Int))))))) + (IntKind.i64.wrap ((256 : Int) * (IntKind.i64.wrap (bt a0 (IntKind.i64.wrap ((IntKind.i64.wrap ((5 : Int) + (IntKind.i64.wrap (bt a0 (4 : Int))))) + (1 : Int))))))))) y111 fun y127 => ((y127 = a0 → K ((a0.drop ((5 : Int)).toNat).take (((IntKind.i64.wrap ((5 : Int) + (IntKind.i64.wrap (bt a0 (4 : Int)))))).toNat - ((5 : Int)).toNat)) (IntKind.i64.wrap ((IntKind.i64.wrap (bt a0 (IntKind.i64.wrap ((5 : Int) + (IntKind.i64.wrap (bt a0 (4 : Int))))))) + (IntKind.i64.wrap ((256 : Int) * (IntKind.i64.wrap (bt a0 (IntKind.i64.wrap ((IntKind.i64.wrap ((5 : Int) + (IntKind.i64.wrap (bt a0 (4 : Int))))) + (1 : Int))))))))) (y111) (true)) ∧ (¬(y127 = a0) → K ([] : List UInt8) (0 : Int) ([] : List (Nat)) (false)))) ∧ (y124 = false → K ([] : List UInt8) (0 : Int) ([] : List (Nat)) (false)))) ∧ (y114 = false → K ([] : List UInt8) (0 : Int) ([] : List (Nat)) (false)))) ∧ (¬(y104 = (a0.length : Int)) → K ([] : List UInt8) (0 : Int) ([] : List (Nat)) (false)))))
end Go.Proofs.Ytpeijfnfffogeaa.G

namespace Go.Proofs.Ytpeijfnfffogeaa.G
open Go Go.Ab
set_option maxRecDepth 100000
set_option linter.unusedVariables false
set_option linter.unusedSimpArgs false
set_option maxHeartbeats 1000000
def spec_LoadTake.wp (a0 : List UInt8) (K : (List UInt8) → Int → (List (Nat)) → Bool → Prop) : Prop := spec_l07Load.wp a0 fun y104 y105 y106 y109 => K (y104) (y105) (y106) (y109)
end Go.Proofs.Ytpeijfnfffogeaa.G

namespace Go.Proofs.Ytpeijfnfffogeaa.G
open Go Go.Ab
set_option maxRecDepth 100000
set_option linter.unusedVariables false
set_option linter.unusedSimpArgs false
set_option maxHeartbeats 1000000
def impl_size.wp (a0 : Nat) (K : Nat → Prop) : Prop := (((fcmp .lss .f32 a0 (cz .f32 0)) = true → K (fneg .f32 a0)) ∧ ((fcmp .lss .f32 a0 (cz .f32 0)) = false → (((fcmp .eql .f32 a0 (cz .f32 0)) = true → K (cz .f32 0)) ∧ ((fcmp .eql .f32 a0 (cz .f32 0)) = false → K (a0)))))
end Go.Proofs.Ytpeijfnfffogeaa.G

namespace Go.Proofs.Ytpeijfnfffogeaa.G
open Go Go.Ab
set_option maxRecDepth 100000
set_option linter.unusedVariables false
set_option linter.unusedSimpArgs false
set_option maxHeartbeats 1000000
def spec_l03Size.wp (a0 : Nat) (K : Nat → Prop) : Prop := (((fcmp .leq .f32 a0 (cz .f32 0)) = true → K (fop .sub .f32 (cz .f32 0) a0)) ∧ ((fcmp .leq .f32 a0 (cz .f32 0)) = false → K (a0)))
end Go.Proofs.Ytpeijfnfffogeaa.G

namespace Go.Proofs.Ytpeijfnfffogeaa.G
open Go Go.Ab
set_option maxRecDepth 100000
set_option linter.unusedVariables false
set_option linter.unusedSimpArgs false
set_option maxHeartbeats 1000000
def spec_l01SameAll.wp (l0 : List (Nat)) (l1 : List (Nat)) (K : Bool → Prop) : Prop := (((l0.length : Int) = (l1.length : Int) → ∀ X102 : Int → Prop, (∀ (i103 : Int), ((i103 < (l0.length : Int) → (0 ≤ i103 ∧ i103 < (l0.length : Int)) ∧ (0 ≤ i103 ∧ i103 < (l1.length : Int)) ∧ spec_l01Same.wp (l0.getD (i103).toNat (0 : Nat)) (l1.getD (i103).toNat (0 : Nat)) fun y107 => ((y107 = true → X102 (IntKind.i64.wrap (i103 + (1 : Int)))) ∧ (y107 = false → K (false)))) ∧ (¬(i103 < (l0.length : Int)) → K (true))) → X102 i103) → X102 (0 : Int)) ∧ (¬((l0.length : Int) = (l1.length : Int)) → K (false)))
end Go.Proofs.Ytpeijfnfffogeaa.G

