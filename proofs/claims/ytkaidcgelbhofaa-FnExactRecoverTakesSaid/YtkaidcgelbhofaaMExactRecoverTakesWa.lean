/-
  What the functions compute, as formulas over numbers and lists. Printed by a program of the session; nothing here is trusted.
-/
import Derived.Test.YtkaidcgelbhofaaAbG
namespace Go.Proofs.Ytkaidcgelbhofaa.G
open Go Go.Ab
set_option maxRecDepth 100000
set_option linter.unusedVariables false
set_option linter.unusedSimpArgs false
set_option maxHeartbeats 1000000
def IR_LeFlt_f32_o : Inn (List (Nat)) := fun x c => Pc.osl (c.getD 0 .und) 1 (enc (eFlt .f32) x)
def IR_LeInt_i64_o : Inn (List (Int)) := fun x c => Pc.osl (c.getD 0 .und) 1 (enc (eInt .i64) x)
def IR_LePair_eBool_ePair_eFlt_f32_eInt_i64_o : Inn (List ((Bool) × (Nat) × (Int))) := fun x c => Pc.osl (c.getD 0 .und) 3 (enc (ePair eBool (ePair (eFlt .f32) (eInt .i64))) x)
def IR_LePair_eInt_i64_eFlt_f32_o : Inn (List ((Int) × (Nat))) := fun x c => Pc.osl (c.getD 0 .und) 2 (enc (ePair (eInt .i64) (eFlt .f32)) x)
def IR_s_ii64_LeFlt_f32_poooq : Inn ((List UInt8) × (Int) × (List (Nat))) := fun x c => Pc.osl (c.getD 2 .und) 1 (enc (eFlt .f32) x.2.2)
def R_LeFlt_f32_o (H : Heap) (x : List (Nat)) (c : List AV) : Prop := c = [(c.getD 0 .und)] ∧ Shows H (c.getD 0 .und) 1 (enc (eFlt .f32) x)
def R_LeInt_i64_o (H : Heap) (x : List (Int)) (c : List AV) : Prop := c = [(c.getD 0 .und)] ∧ Shows H (c.getD 0 .und) 1 (enc (eInt .i64) x)
def R_LePair_eBool_ePair_eFlt_f32_eInt_i64_o (H : Heap) (x : List ((Bool) × (Nat) × (Int))) (c : List AV) : Prop := c = [(c.getD 0 .und)] ∧ Shows H (c.getD 0 .und) 3 (enc (ePair eBool (ePair (eFlt .f32) (eInt .i64))) x)
def R_LePair_eInt_i64_eFlt_f32_o (H : Heap) (x : List ((Int) × (Nat))) (c : List AV) : Prop := c = [(c.getD 0 .und)] ∧ Shows H (c.getD 0 .und) 2 (enc (ePair (eInt .i64) (eFlt .f32)) x)
def R_s_ii64_LeFlt_f32_poooq (H : Heap) (x : (List UInt8) × (Int) × (List (Nat))) (c : List AV) : Prop := c = [(.str (pk x.1)), (.int .i64 x.2.1), (c.getD 2 .und)] ∧ Shows H (c.getD 2 .und) 1 (enc (eFlt .f32) x.2.2)
end Go.Proofs.Ytkaidcgelbhofaa.G

namespace Go.Proofs.Ytkaidcgelbhofaa.G
open Go Go.Ab
set_option maxRecDepth 100000
set_option linter.unusedVariables false
set_option linter.unusedSimpArgs false
set_option maxHeartbeats 1000000
def spec_l07Long.wp (a0 : List UInt8) (K : Int → Prop) : Prop := (((a0.length : Int) < (5 : Int) → K (0 : Int)) ∧ (¬((a0.length : Int) < (5 : Int)) → (0 ≤ (4 : Int) ∧ (4 : Int) < (a0.length : Int)) ∧ (((a0.length : Int) < (IntKind.i64.wrap ((IntKind.i64.wrap ((5 : Int) + (IntKind.i64.wrap (bt a0 (4 : Int))))) + (4 : Int))) → K (0 : Int)) ∧ (¬((a0.length : Int) < (IntKind.i64.wrap ((IntKind.i64.wrap ((5 : Int) + (IntKind.i64.wrap (bt a0 (4 : Int))))) + (4 : Int)))) → (0 ≤ (IntKind.i64.wrap ((IntKind.i64.wrap ((5 : Int) + (IntKind.i64.wrap (bt a0 (4 : Int))))) + (2 : Int))) ∧ (IntKind.i64.wrap ((IntKind.i64.wrap ((5 : Int) + (IntKind.i64.wrap (bt a0 (4 : Int))))) + (2 : Int))) < (a0.length : Int)) ∧ (0 ≤ (IntKind.i64.wrap ((IntKind.i64.wrap ((5 : Int) + (IntKind.i64.wrap (bt a0 (4 : Int))))) + (3 : Int))) ∧ (IntKind.i64.wrap ((IntKind.i64.wrap ((5 : Int) + (IntKind.i64.wrap (bt a0 (4 : Int))))) + (3 : Int))) < (a0.length : Int)) ∧ (((a0.length : Int) < (IntKind.i64.wrap ((IntKind.i64.wrap ((IntKind.i64.wrap ((IntKind.i64.wrap ((5 : Int) + (IntKind.i64.wrap (bt a0 (4 : Int))))) + (6 : Int))) + (IntKind.i64.wrap (bt a0 (IntKind.i64.wrap ((IntKind.i64.wrap ((5 : Int) + (IntKind.i64.wrap (bt a0 (4 : Int))))) + (2 : Int))))))) + (IntKind.i64.wrap ((256 : Int) * (IntKind.i64.wrap (bt a0 (IntKind.i64.wrap ((IntKind.i64.wrap ((5 : Int) + (IntKind.i64.wrap (bt a0 (4 : Int))))) + (3 : Int))))))))) → K (0 : Int)) ∧ (¬((a0.length : Int) < (IntKind.i64.wrap ((IntKind.i64.wrap ((IntKind.i64.wrap ((IntKind.i64.wrap ((5 : Int) + (IntKind.i64.wrap (bt a0 (4 : Int))))) + (6 : Int))) + (IntKind.i64.wrap (bt a0 (IntKind.i64.wrap ((IntKind.i64.wrap ((5 : Int) + (IntKind.i64.wrap (bt a0 (4 : Int))))) + (2 : Int))))))) + (IntKind.i64.wrap ((256 : Int) * (IntKind.i64.wrap (bt a0 (IntKind.i64.wrap ((IntKind.i64.wrap ((5 : Int) + (IntKind.i64.wrap (bt a0 (4 : Int))))) + (3 : Int)))))))))) → K (IntKind.i64.wrap ((IntKind.i64.wrap ((IntKind.i64.wrap ((IntKind.i64.wrap ((5 : Int) + (IntKind.i64.wrap (bt a0 (4 : Int))))) + (6 : Int))) + (IntKind.i64.wrap (bt a0 (IntKind.i64.wrap ((IntKind.i64.wrap ((5 : Int) + (IntKind.i64.wrap (bt a0 (4 : Int))))) + (2 : Int))))))) + (IntKind.i64.wrap ((256 : Int) * (IntKind.i64.wrap (bt a0 (IntKind.i64.wrap ((IntKind.i64.wrap ((5 : Int) + (IntKind.i64.wrap (bt a0 (4 : Int))))) + (3 : Int)))))))))))))))
end Go.Proofs.Ytkaidcgelbhofaa.G

namespace Go.Proofs.Ytkaidcgelbhofaa.G
open Go Go.Ab
set_option maxRecDepth 100000
set_option linter.unusedVariables false
set_option linter.unusedSimpArgs false
set_option maxHeartbeats 1000000
def math_Float32frombits.wp (x : Int) (K : Nat → Prop) : Prop := K (cz .f32 x.toNat)
end Go.Proofs.Ytkaidcgelbhofaa.G

namespace Go.Proofs.Ytkaidcgelbhofaa.G
open Go Go.Ab
set_option maxRecDepth 100000
set_option linter.unusedVariables false
set_option linter.unusedSimpArgs false
set_option maxHeartbeats 1000000
def spec_l01From.wp (a0 : Int) (K : Nat → Prop) : Prop := math_Float32frombits.wp (IntKind.u32.wrap a0) fun y101 => K (y101)
end Go.Proofs.Ytkaidcgelbhofaa.G

namespace Go.Proofs.Ytkaidcgelbhofaa.G
open Go Go.Ab
set_option maxRecDepth 100000
set_option linter.unusedVariables false
set_option linter.unusedSimpArgs false
set_option maxHeartbeats 1000000
def spec_l07Values.wp (l0 : List (Nat)) (K : Bool → Prop) : Prop := (((1 : Int) ≤ (l0.length : Int) → K (decide ((l0.length : Int) ≤ (128 : Int)))) ∧ (¬((1 : Int) ≤ (l0.length : Int)) → K (false)))
end Go.Proofs.Ytkaidcgelbhofaa.G

namespace Go.Proofs.Ytkaidcgelbhofaa.G
open Go Go.Ab
set_option maxRecDepth 100000
set_option linter.unusedVariables false
set_option linter.unusedSimpArgs false
set_option maxHeartbeats 1000000
def math_Float32bits.wp (x : Nat) (K : Int → Prop) : Prop := (num .f32 x = true) ∧ K (x : Int)
end Go.Proofs.Ytkaidcgelbhofaa.G

namespace Go.Proofs.Ytkaidcgelbhofaa.G
open Go Go.Ab
set_option maxRecDepth 100000
set_option linter.unusedVariables false
set_option linter.unusedSimpArgs false
set_option maxHeartbeats 1000000
def spec_l01Bits.wp (a0 : Nat) (K : Int → Prop) : Prop := (((fcmp .neq .f32 a0 a0) = true → K (2143289344 : Int)) ∧ ((fcmp .neq .f32 a0 a0) = false → math_Float32bits.wp a0 fun y102 => K (IntKind.i64.wrap y102)))
end Go.Proofs.Ytkaidcgelbhofaa.G

namespace Go.Proofs.Ytkaidcgelbhofaa.G
open Go Go.Ab
set_option maxRecDepth 100000
set_option linter.unusedVariables false
set_option linter.unusedSimpArgs false
set_option maxHeartbeats 1000000
def spec_l07Pack.wp (l0 : List (Nat)) (K : (List UInt8) → Prop) : Prop := ∀ X218 : List (Int) → Int → Int → Prop, (∀ (out219 : List (Int)) (before221 : Int) (x222 : Int), ((x222 < (l0.length : Int) → (0 ≤ x222 ∧ x222 < (l0.length : Int)) ∧ spec_l01Bits.wp (l0.getD (x222).toNat (0 : Nat)) fun y225 => ∀ X227 : Int → Int → Prop, (∀ (z228 : Int) (scale229 : Int), ((z228 < (4 : Int) → (scale229 ≠ 0) ∧ (((IntKind.i64.wrap (Int.tdiv (ibits .xor .i64 y225 before221) scale229)) = (0 : Int) → ((scale229 = (1 : Int) → ((out219.length + ([(IntKind.u8.wrap (IntKind.i64.wrap (z228 + (1 : Int))))] : List (Int)).length) * 1 ≤ 2 ^ 40) ∧ ∀ X252 : List (Int) → Int → Int → Prop, (∀ (out253 : List (Int)) (x255 : Int) (k256 : Int), ((k256 < (4 : Int) → ((out253.length + ([(IntKind.u8.wrap (Int.tmod x255 (256 : Int)))] : List (Int)).length) * 1 ≤ 2 ^ 40) ∧ X252 (out253 ++ ([(IntKind.u8.wrap (Int.tmod x255 (256 : Int)))] : List (Int))) (IntKind.i64.wrap (Int.tdiv x255 (256 : Int))) (IntKind.i64.wrap (k256 + (1 : Int)))) ∧ (¬(k256 < (4 : Int)) → X218 (out253) (y225) (IntKind.i64.wrap (x222 + (1 : Int))))) → X252 out253 x255 k256) → X252 (out219 ++ ([(IntKind.u8.wrap (IntKind.i64.wrap (z228 + (1 : Int))))] : List (Int))) (ibits .xor .i64 y225 before221) (IntKind.i64.wrap (z228 + (1 : Int)))) ∧ (¬(scale229 = (1 : Int)) → X227 (IntKind.i64.wrap (z228 + (1 : Int))) (IntKind.i64.wrap (Int.tdiv scale229 (256 : Int)))))) ∧ (¬((IntKind.i64.wrap (Int.tdiv (ibits .xor .i64 y225 before221) scale229)) = (0 : Int)) → ((out219.length + ([(IntKind.u8.wrap z228)] : List (Int)).length) * 1 ≤ 2 ^ 40) ∧ ∀ X284 : List (Int) → Int → Int → Prop, (∀ (out285 : List (Int)) (x287 : Int) (k288 : Int), ((k288 < (4 : Int) → ((out285.length + ([(IntKind.u8.wrap (Int.tmod x287 (256 : Int)))] : List (Int)).length) * 1 ≤ 2 ^ 40) ∧ X284 (out285 ++ ([(IntKind.u8.wrap (Int.tmod x287 (256 : Int)))] : List (Int))) (IntKind.i64.wrap (Int.tdiv x287 (256 : Int))) (IntKind.i64.wrap (k288 + (1 : Int)))) ∧ (¬(k288 < (4 : Int)) → X218 (out285) (y225) (IntKind.i64.wrap (x222 + (1 : Int))))) → X284 out285 x287 k288) → X284 (out219 ++ ([(IntKind.u8.wrap z228)] : List (Int))) (ibits .xor .i64 y225 before221) (z228)))) ∧ (¬(z228 < (4 : Int)) → ((out219.length + ([(IntKind.u8.wrap z228)] : List (Int)).length) * 1 ≤ 2 ^ 40) ∧ ∀ X316 : List (Int) → Int → Int → Prop, (∀ (out317 : List (Int)) (x319 : Int) (k320 : Int), ((k320 < (4 : Int) → ((out317.length + ([(IntKind.u8.wrap (Int.tmod x319 (256 : Int)))] : List (Int)).length) * 1 ≤ 2 ^ 40) ∧ X316 (out317 ++ ([(IntKind.u8.wrap (Int.tmod x319 (256 : Int)))] : List (Int))) (IntKind.i64.wrap (Int.tdiv x319 (256 : Int))) (IntKind.i64.wrap (k320 + (1 : Int)))) ∧ (¬(k320 < (4 : Int)) → X218 (out317) (y225) (IntKind.i64.wrap (x222 + (1 : Int))))) → X316 out317 x319 k320) → X316 (out219 ++ ([(IntKind.u8.wrap z228)] : List (Int))) (ibits .xor .i64 y225 before221) (z228))) → X227 z228 scale229) → X227 (0 : Int) (16777216 : Int)) ∧ (¬(x222 < (l0.length : Int)) → K (byts out219))) → X218 out219 before221 x222) → X218 ([] : List (Int)) (0 : Int) (0 : Int)
end Go.Proofs.Ytkaidcgelbhofaa.G

namespace Go.Proofs.Ytkaidcgelbhofaa.G
open Go Go.Ab
set_option maxRecDepth 100000
set_option linter.unusedVariables false
set_option linter.unusedSimpArgs false
set_option maxHeartbeats 1000000
def spec_l07Unpack.wp (a0 : List UInt8) (K : (List (Nat)) → Bool → Prop) : Prop := ∀ X143 : List (Nat) → Int → Int → Prop, (∀ (out144 : List (Nat)) (before146 : Int) (atq147 : Int), ((atq147 < (a0.length : Int) → (((out144.length : Int) ≤ (128 : Int) → (0 ≤ atq147 ∧ atq147 < (a0.length : Int)) ∧ (((4 : Int) < (IntKind.i64.wrap (bt a0 atq147)) → K ([] : List (Nat)) (false)) ∧ (¬((4 : Int) < (IntKind.i64.wrap (bt a0 atq147))) → (((a0.length : Int) < (IntKind.i64.wrap ((IntKind.i64.wrap ((IntKind.i64.wrap (atq147 + (1 : Int))) + (4 : Int))) - (IntKind.i64.wrap (bt a0 atq147)))) → K ([] : List (Nat)) (false)) ∧ (¬((a0.length : Int) < (IntKind.i64.wrap ((IntKind.i64.wrap ((IntKind.i64.wrap (atq147 + (1 : Int))) + (4 : Int))) - (IntKind.i64.wrap (bt a0 atq147))))) → ∀ X153 : Int → Int → Int → Int → Prop, (∀ (atq154 : Int) (x155 : Int) (scale156 : Int) (k157 : Int), ((k157 < (4 : Int) → (0 ≤ atq154 ∧ atq154 < (a0.length : Int)) ∧ X153 (IntKind.i64.wrap (atq154 + (1 : Int))) (IntKind.i64.wrap (x155 + (IntKind.i64.wrap ((IntKind.i64.wrap (bt a0 atq154)) * scale156)))) (IntKind.i64.wrap (scale156 * (256 : Int))) (IntKind.i64.wrap (k157 + (1 : Int)))) ∧ (¬(k157 < (4 : Int)) → spec_l01From.wp (ibits .xor .i64 before146 x155) fun y160 => ((out144.length + ([y160] : List (Nat)).length) * 4 ≤ 2 ^ 40) ∧ X143 (out144 ++ ([y160] : List (Nat))) (ibits .xor .i64 before146 x155) (atq154))) → X153 atq154 x155 scale156 k157) → X153 (IntKind.i64.wrap (atq147 + (1 : Int))) (0 : Int) (1 : Int) (IntKind.i64.wrap (bt a0 atq147))))))) ∧ (¬((out144.length : Int) ≤ (128 : Int)) → spec_l07Values.wp out144 fun y170 => ((y170 = true → spec_l07Pack.wp out144 fun y173 => ((y173 = a0 → K (out144) (true)) ∧ (¬(y173 = a0) → K ([] : List (Nat)) (false)))) ∧ (y170 = false → K ([] : List (Nat)) (false)))))) ∧ (¬(atq147 < (a0.length : Int)) → spec_l07Values.wp out144 fun y176 => ((y176 = true → spec_l07Pack.wp out144 fun y179 => ((y179 = a0 → K (out144) (true)) ∧ (¬(y179 = a0) → K ([] : List (Nat)) (false)))) ∧ (y176 = false → K ([] : List (Nat)) (false))))) → X143 out144 before146 atq147) → X143 ([] : List (Nat)) (0 : Int) (0 : Int)
end Go.Proofs.Ytkaidcgelbhofaa.G

namespace Go.Proofs.Ytkaidcgelbhofaa.G
open Go Go.Ab
set_option maxRecDepth 100000
set_option linter.unusedVariables false
set_option linter.unusedSimpArgs false
set_option maxHeartbeats 1000000
def spec_l00In.wp (a0 : Int) (a1 : Int) (a2 : Int) (K : Bool → Prop) : Prop := ((a1 ≤ a0 → K (decide (a0 ≤ a2))) ∧ (¬(a1 ≤ a0) → K (false)))
end Go.Proofs.Ytkaidcgelbhofaa.G

namespace Go.Proofs.Ytkaidcgelbhofaa.G
open Go Go.Ab
set_option maxRecDepth 100000
set_option linter.unusedVariables false
set_option linter.unusedSimpArgs false
set_option maxHeartbeats 1000000
def spec_l07Name.wp (a0 : List UInt8) (K : Bool → Prop) : Prop := ∀ X101 : Int → Prop, (∀ (i102 : Int), ((i102 < (a0.length : Int) → (0 ≤ i102 ∧ i102 < (a0.length : Int)) ∧ (((bt a0 i102) < (97 : Int) → K (false)) ∧ (¬((bt a0 i102) < (97 : Int)) → (((122 : Int) < (bt a0 i102) → K (false)) ∧ (¬((122 : Int) < (bt a0 i102)) → X101 (IntKind.i64.wrap (i102 + (1 : Int)))))))) ∧ (¬(i102 < (a0.length : Int)) → (((1 : Int) ≤ (a0.length : Int) → K (decide ((a0.length : Int) ≤ (8 : Int)))) ∧ (¬((1 : Int) ≤ (a0.length : Int)) → K (false))))) → X101 i102) → X101 (0 : Int)
end Go.Proofs.Ytkaidcgelbhofaa.G

namespace Go.Proofs.Ytkaidcgelbhofaa.G
open Go Go.Ab
set_option maxRecDepth 100000
set_option linter.unusedVariables false
set_option linter.unusedSimpArgs false
set_option maxHeartbeats 1000000
def spec_l07Take.wp (a0 : List UInt8) (a1 : Int) (l2 : List (Nat)) (K : Bool → Prop) : Prop := spec_l07Name.wp a0 fun y101 => ((y101 = true → spec_l00In.wp a1 (1 : Int) (65535 : Int) fun y104 => ((y104 = true → spec_l07Values.wp l2 fun y107 => K (y107)) ∧ (y104 = false → K (false)))) ∧ (y101 = false → K (false)))
end Go.Proofs.Ytkaidcgelbhofaa.G

namespace Go.Proofs.Ytkaidcgelbhofaa.G
open Go Go.Ab
set_option maxRecDepth 100000
set_option linter.unusedVariables false
set_option linter.unusedSimpArgs false
set_option maxHeartbeats 1000000
def spec_l01Check.wp (a0 : Int) (a1 : List UInt8) (K : Int → Prop) : Prop := ∀ X101 : Int → Int → Prop, (∀ (n102 : Int) (i103 : Int), ((i103 < (a1.length : Int) → (0 ≤ i103 ∧ i103 < (a1.length : Int)) ∧ X101 (Int.tmod (IntKind.i64.wrap ((IntKind.i64.wrap ((IntKind.i64.wrap ((853 : Int) * n102)) + (IntKind.i64.wrap (bt a1 i103)))) + (139 : Int))) (65003 : Int)) (IntKind.i64.wrap (i103 + (1 : Int)))) ∧ (¬(i103 < (a1.length : Int)) → K (n102))) → X101 n102 i103) → X101 (a0) (0 : Int)
end Go.Proofs.Ytkaidcgelbhofaa.G

namespace Go.Proofs.Ytkaidcgelbhofaa.G
open Go Go.Ab
set_option maxRecDepth 100000
set_option linter.unusedVariables false
set_option linter.unusedSimpArgs false
set_option maxHeartbeats 1000000
def spec_l07Store.wp (a0 : List UInt8) (a1 : Int) (l2 : List (Nat)) (K : (List UInt8) → Prop) : Prop := (0 < ([(84 : Int), (65 : Int), (75 : Int), (49 : Int)] : List (Int)).length) ∧ ((([(84 : Int), (65 : Int), (75 : Int), (49 : Int)] : List (Int)).length + ([(IntKind.u8.wrap (a0.length : Int))] : List (Int)).length) * 1 ≤ 2 ^ 40) ∧ (((([(84 : Int), (65 : Int), (75 : Int), (49 : Int)] : List (Int)) ++ ([(IntKind.u8.wrap (a0.length : Int))] : List (Int))).length + (nums a0).length) * 1 ≤ 2 ^ 40) ∧ spec_l07Pack.wp l2 fun y117 => ((((([(84 : Int), (65 : Int), (75 : Int), (49 : Int)] : List (Int)) ++ ([(IntKind.u8.wrap (a0.length : Int))] : List (Int))) ++ (nums a0)).length + ([(IntKind.u8.wrap (Int.tmod a1 (256 : Int))), (IntKind.u8.wrap (IntKind.i64.wrap (Int.tdiv a1 (256 : Int)))), (IntKind.u8.wrap (Int.tmod (y117.length : Int) (256 : Int))), (IntKind.u8.wrap (IntKind.i64.wrap (Int.tdiv (y117.length : Int) (256 : Int))))] : List (Int)).length) * 1 ≤ 2 ^ 40) ∧ (((((([(84 : Int), (65 : Int), (75 : Int), (49 : Int)] : List (Int)) ++ ([(IntKind.u8.wrap (a0.length : Int))] : List (Int))) ++ (nums a0)) ++ ([(IntKind.u8.wrap (Int.tmod a1 (256 : Int))), (IntKind.u8.wrap (IntKind.i64.wrap (Int.tdiv a1 (256 : Int)))), (IntKind.u8.wrap (Int.tmod (y117.length : Int) (256 : Int))), (IntKind.u8.wrap (IntKind.i64.wrap (Int.tdiv (y117.length : Int) (256 : Int))))] : List (Int))).length + (nums y117).length) * 1 ≤ 2 ^ 40) ∧ spec_l01Check.wp (0 : Int) (byts ((((([(84 : Int), (65 : Int), (75 : Int), (49 : Int)] : List (Int)) ++ ([(IntKind.u8.wrap (a0.length : Int))] : List (Int))) ++ (nums a0)) ++ ([(IntKind.u8.wrap (Int.tmod a1 (256 : Int))), (IntKind.u8.wrap (IntKind.i64.wrap (Int.tdiv a1 (256 : Int)))), (IntKind.u8.wrap (Int.tmod (y117.length : Int) (256 : Int))), (IntKind.u8.wrap (IntKind.i64.wrap (Int.tdiv (y117.length : Int) (256 : Int))))] : List (Int))) ++ (nums y117))) fun y131 => ((((((([(84 : Int), (65 : Int), (75 : Int), (49 : Int)] : List (Int)) ++ ([(IntKind.u8.wrap (a0.length : Int))] : List (Int))) ++ (nums a0)) ++ ([(IntKind.u8.wrap (Int.tmod a1 (256 : Int))), (IntKind.u8.wrap (IntKind.i64.wrap (Int.tdiv a1 (256 : Int)))), (IntKind.u8.wrap (Int.tmod (y117.length : Int) (256 : Int))), (IntKind.u8.wrap (IntKind.i64.wrap (Int.tdiv (y117.length : Int) (256 : Int))))] : List (Int))) ++ (nums y117)).length + ([(IntKind.u8.wrap (Int.tmod y131 (256 : Int))), (IntKind.u8.wrap (IntKind.i64.wrap (Int.tdiv y131 (256 : Int))))] : List (Int)).length) * 1 ≤ 2 ^ 40) ∧ K (byts (((((([(84 : Int), (65 : Int), (75 : Int), (49 : Int)] : List (Int)) ++ ([(IntKind.u8.wrap (a0.length : Int))] : List (Int))) ++ (nums a0)) ++ ([(IntKind.u8.wrap (Int.tmod a1 (256 : Int))), (IntKind.u8.wrap (IntKind.i64.wrap (Int.tdiv a1 (256 : Int)))), (IntKind.u8.wrap (Int.tmod (y117.length : Int) (256 : Int))), (IntKind.u8.wrap (IntKind.i64.wrap (Int.tdiv (y117.length : Int) (256 : Int))))] : List (Int))) ++ (nums y117)) ++ ([(IntKind.u8.wrap (Int.tmod y131 (256 : Int))), (IntKind.u8.wrap (IntKind.i64.wrap (Int.tdiv y131 (256 : Int))))] : List (Int))))
end Go.Proofs.Ytkaidcgelbhofaa.G

namespace Go.Proofs.Ytkaidcgelbhofaa.G
open Go Go.Ab
set_option maxRecDepth 100000
set_option linter.unusedVariables false
set_option linter.unusedSimpArgs false
set_option maxHeartbeats 1000000
def spec_l07Load.wp (a0 : List UInt8) (K : (List UInt8) → Int → (List (Nat)) → Bool → Prop) : Prop := spec_l07Long.wp a0 fun y104 => ((y104 = (0 : Int) → K ([] : List UInt8) (0 : Int) ([] : List (Nat)) (false)) ∧ (¬(y104 = (0 : Int)) → ((y104 = (a0.length : Int) → (0 ≤ (4 : Int) ∧ (4 : Int) < (a0.length : Int)) ∧ (0 ≤ (IntKind.i64.wrap ((IntKind.i64.wrap ((5 : Int) + (IntKind.i64.wrap (bt a0 (4 : Int))))) + (4 : Int))) ∧ (IntKind.i64.wrap ((IntKind.i64.wrap ((5 : Int) + (IntKind.i64.wrap (bt a0 (4 : Int))))) + (4 : Int))) ≤ (IntKind.i64.wrap (y104 - (2 : Int))) ∧ (IntKind.i64.wrap (y104 - (2 : Int))) ≤ (a0.length : Int)) ∧ spec_l07Unpack.wp ((a0.drop ((IntKind.i64.wrap ((IntKind.i64.wrap ((5 : Int) + (IntKind.i64.wrap (bt a0 (4 : Int))))) + (4 : Int)))).toNat).take (((IntKind.i64.wrap (y104 - (2 : Int)))).toNat - ((IntKind.i64.wrap ((IntKind.i64.wrap ((5 : Int) + (IntKind.i64.wrap (bt a0 (4 : Int))))) + (4 : Int)))).toNat)) fun y111 y114 => (0 ≤ (5 : Int) ∧ (5 : Int) ≤ (IntKind.i64.wrap ((5 : Int) + (IntKind.i64.wrap (bt a0 (4 : Int))))) ∧ (IntKind.i64.wrap ((5 : Int) + (IntKind.i64.wrap (bt a0 (4 : Int))))) ≤ (a0.length : Int)) ∧ (0 ≤ (IntKind.i64.wrap ((5 : Int) + (IntKind.i64.wrap (bt a0 (4 : Int))))) ∧ (IntKind.i64.wrap ((5 : Int) + (IntKind.i64.wrap (bt a0 (4 : Int))))) < (a0.length : Int)) ∧ (0 ≤ (IntKind.i64.wrap ((IntKind.i64.wrap ((5 : Int) + (IntKind.i64.wrap (bt a0 (4 : Int))))) + (1 : Int))) ∧ (IntKind.i64.wrap ((IntKind.i64.wrap ((5 : Int) + (IntKind.i64.wrap (bt a0 (4 : Int))))) + (1 : Int))) < (a0.length : Int)) ∧ ((y114 = true → spec_l07Take.wp ((a0.drop ((5 : Int)).toNat).take (((IntKind.i64.wrap ((5 : Int) + (IntKind.i64.wrap (bt a0 (4 : Int)))))).toNat - ((5 : Int)).toNat)) (IntKind.i64.wrap ((IntKind.i64.wrap (bt a0 (IntKind.i64.wrap ((5 : Int) + (IntKind.i64.wrap (bt a0 (4 : Int))))))) + (IntKind.i64.wrap ((256 : Int) * (IntKind.i64.wrap (bt a0 (IntKind.i64.wrap ((IntKind.i64.wrap ((5 : Int) + (IntKind.i64.wrap (bt a0 (4 : Int))))) + (1 : Int))))))))) y111 fun y124 => ((y124 = true → spec_l07Store.wp ((a0.drop ((5 : Int)).toNat).take (((IntKind.i64.wrap ((5 : Int) + (IntKind.i64.wrap (bt a0 (4 : Int)))))).toNat - ((5 : Int)).toNat)) (IntKind.i64.wrap ((IntKind.i64.wrap (bt a0 (IntKind.i64.wrap ((5 : Int) + (IntKind.i64.wrap (bt a0 (4 : Int))))))) + (IntKind.i64.wrap ((256 : Int) * (IntKind.i64.wrap (bt a0 (IntKind.i64.wrap ((IntKind.i64.wrap ((5 : Int) + (IntKind.i64.wrap (bt a0 (4 : Int))))) + (1 : Int))))))))) y111 fun y127 => ((y127 = a0 → K ((a0.drop ((5 : Int)).toNat).take (((IntKind.i64.wrap ((5 : Int) + (IntKind.i64.wrap (bt a0 (4 : Int)))))).toNat - ((5 : Int)).toNat)) (IntKind.i64.wrap ((IntKind.i64.wrap (bt a0 (IntKind.i64.wrap ((5 : Int) + (IntKind.i64.wrap (bt a0 (4 : Int))))))) + (IntKind.i64.wrap ((256 : Int) * (IntKind.i64.wrap (bt a0 (IntKind.i64.wrap ((IntKind.i64.wrap ((5 : Int) + (IntKind.i64.wrap (bt a0 (4 : Int))))) + (1 : Int))))))))) (y111) (true)) ∧ (¬(y127 = a0) → K ([] : List UInt8) (0 : Int) ([] : List (Nat)) (false)))) ∧ (y124 = false → K ([] : List UInt8) (0 : Int) ([] : List (Nat)) (false)))) ∧ (y114 = false → K ([] : List UInt8) (0 : Int) ([] : List (Nat)) (false)))) ∧ (¬(y104 = (a0.length : Int)) → K ([] : List UInt8) (0 : Int) ([] : List (Nat)) (false)))))
end Go.Proofs.Ytkaidcgelbhofaa.G

namespace Go.Proofs.Ytkaidcgelbhofaa.G
open Go Go.Ab
set_option maxRecDepth 100000
set_option linter.unusedVariables false
set_option linter.unusedSimpArgs false
set_option maxHeartbeats 1000000
def spec_RecoverTakes.wp (a0 : List UInt8) (K : (List ((List UInt8) × (Int) × (List (Nat)))) → Int → Bool → Prop) : Prop := ∀ X138 : List ((List UInt8) × (Int) × (List (Nat))) → Int → Prop, (∀ (out139 : List ((List UInt8) × (Int) × (List (Nat)))) (atq143 : Int), (((out139.length : Int) < (8 : Int) → (0 ≤ atq143 ∧ atq143 ≤ (a0.length : Int) ∧ (a0.length : Int) ≤ (a0.length : Int)) ∧ spec_l07Long.wp ((a0.drop (atq143).toNat).take (((a0.length : Int)).toNat - (atq143).toNat)) fun y146 => ((y146 = (0 : Int) → K (out139) (atq143) (true)) ∧ (¬(y146 = (0 : Int)) → (0 ≤ atq143 ∧ atq143 ≤ (IntKind.i64.wrap (atq143 + y146)) ∧ (IntKind.i64.wrap (atq143 + y146)) ≤ (a0.length : Int)) ∧ spec_l07Load.wp ((a0.drop (atq143).toNat).take (((IntKind.i64.wrap (atq143 + y146))).toNat - (atq143).toNat)) fun y150 y151 y152 y155 => ((y155 = true → ((out139.length + ([(y150, y151, y152)] : List ((List UInt8) × (Int) × (List (Nat)))).length) * 48 ≤ 2 ^ 40) ∧ X138 (out139 ++ ([(y150, y151, y152)] : List ((List UInt8) × (Int) × (List (Nat))))) (IntKind.i64.wrap (atq143 + y146))) ∧ (y155 = false → K (out139) (atq143) (true)))))) ∧ (¬((out139.length : Int) < (8 : Int)) → K (out139) (atq143) (true))) → X138 out139 atq143) → X138 ([] : List ((List UInt8) × (Int) × (List (Nat)))) (0 : Int)
end Go.Proofs.Ytkaidcgelbhofaa.G

namespace Go.Proofs.Ytkaidcgelbhofaa.G
open Go Go.Ab
set_option maxRecDepth 100000
set_option linter.unusedVariables false
set_option linter.unusedSimpArgs false
set_option maxHeartbeats 1000000
def internal_stringslite_HasPrefix.wp (a0 : List UInt8) (a1 : List UInt8) (K : Bool → Prop) : Prop := (((a1.length : Int) ≤ (a0.length : Int) → (0 ≤ (0 : Int) ∧ (0 : Int) ≤ (a1.length : Int) ∧ (a1.length : Int) ≤ (a0.length : Int)) ∧ K (decide (((a0.drop ((0 : Int)).toNat).take (((a1.length : Int)).toNat - ((0 : Int)).toNat)) = a1))) ∧ (¬((a1.length : Int) ≤ (a0.length : Int)) → K (false)))
end Go.Proofs.Ytkaidcgelbhofaa.G

namespace Go.Proofs.Ytkaidcgelbhofaa.G
open Go Go.Ab
set_option maxRecDepth 100000
set_option linter.unusedVariables false
set_option linter.unusedSimpArgs false
set_option maxHeartbeats 1000000
def strings_HasPrefix.wp (a0 : List UInt8) (a1 : List UInt8) (K : Bool → Prop) : Prop := internal_stringslite_HasPrefix.wp a0 a1 fun y101 => K (y101)
end Go.Proofs.Ytkaidcgelbhofaa.G

namespace Go.Proofs.Ytkaidcgelbhofaa.G
open Go Go.Ab
set_option maxRecDepth 100000
set_option linter.unusedVariables false
set_option linter.unusedSimpArgs false
set_option maxHeartbeats 1000000
def impl_lowNumber.wp (a0 : List UInt8) (K : Int → Prop) : Prop := ∀ X101 : Int → Int → Prop, (∀ (n102 : Int) (i103 : Int), (((0 : Int) ≤ i103 → (0 ≤ i103 ∧ i103 < (a0.length : Int)) ∧ X101 (ibits .or .i64 (IntKind.i64.wrap (n102 * (2 ^ (min ((8 : Int)).toNat IntKind.i64.bits)))) (IntKind.i64.wrap (bt a0 i103))) (IntKind.i64.wrap (i103 - (1 : Int)))) ∧ (¬((0 : Int) ≤ i103) → K (n102))) → X101 n102 i103) → X101 (0 : Int) (IntKind.i64.wrap ((a0.length : Int) - (1 : Int)))
end Go.Proofs.Ytkaidcgelbhofaa.G

namespace Go.Proofs.Ytkaidcgelbhofaa.G
open Go Go.Ab
set_option maxRecDepth 100000
set_option linter.unusedVariables false
set_option linter.unusedSimpArgs false
set_option maxHeartbeats 1000000
def impl_within.wp (a0 : Int) (a1 : Int) (a2 : Int) (K : Bool → Prop) : Prop := ((a1 ≤ a0 → K (decide (a0 ≤ a2))) ∧ (¬(a1 ≤ a0) → K (false)))
end Go.Proofs.Ytkaidcgelbhofaa.G

namespace Go.Proofs.Ytkaidcgelbhofaa.G
open Go Go.Ab
set_option maxRecDepth 100000
set_option linter.unusedVariables false
set_option linter.unusedSimpArgs false
set_option maxHeartbeats 1000000
def impl_FromBits.wp (a0 : Int) (K : Nat → Bool → Prop) : Prop := impl_within.wp a0 (0 : Int) (4294967295 : Int) fun y101 => ((y101 = true → math_Float32frombits.wp (IntKind.u32.wrap a0) fun y104 => K (y104) (true)) ∧ (y101 = false → K (cz .f32 0) (false)))
end Go.Proofs.Ytkaidcgelbhofaa.G

namespace Go.Proofs.Ytkaidcgelbhofaa.G
open Go Go.Ab
set_option maxRecDepth 100000
set_option linter.unusedVariables false
set_option linter.unusedSimpArgs false
set_option maxHeartbeats 1000000
def impl_BitsOf.wp (a0 : Nat) (K : Int → Prop) : Prop := (((fcmp .neq .f32 a0 a0) = true → K (2143289344 : Int)) ∧ ((fcmp .neq .f32 a0 a0) = false → math_Float32bits.wp a0 fun y102 => K (IntKind.i64.wrap y102)))
end Go.Proofs.Ytkaidcgelbhofaa.G

namespace Go.Proofs.Ytkaidcgelbhofaa.G
open Go Go.Ab
set_option maxRecDepth 100000
set_option linter.unusedVariables false
set_option linter.unusedSimpArgs false
set_option maxHeartbeats 1000000
def impl_packed.wp (l0 : List (Nat)) (K : (List UInt8) → Prop) : Prop := ∀ X151 : List (Int) → Int → Int → Prop, (∀ (out152 : List (Int)) (last154 : Int) (x155 : Int), ((x155 < (l0.length : Int) → (0 ≤ x155 ∧ x155 < (l0.length : Int)) ∧ impl_BitsOf.wp (l0.getD (x155).toNat (0 : Nat)) fun y158 => ∀ X160 : Int → Int → Prop, (∀ (z161 : Int) (m162 : Int), (((0 : Int) < m162 → X160 (IntKind.i64.wrap (z161 - (1 : Int))) (Int.fdiv m162 (2 ^ (min ((8 : Int)).toNat IntKind.i64.bits)))) ∧ (¬((0 : Int) < m162) → ((out152.length + ([(IntKind.u8.wrap z161)] : List (Int)).length) * 1 ≤ 2 ^ 40) ∧ ∀ X182 : List (Int) → Int → Int → Prop, (∀ (out183 : List (Int)) (more185 : Int) (x186 : Int), ((x186 < (IntKind.i64.wrap ((4 : Int) - z161)) → ((out183.length + ([(IntKind.u8.wrap more185)] : List (Int)).length) * 1 ≤ 2 ^ 40) ∧ X182 (out183 ++ ([(IntKind.u8.wrap more185)] : List (Int))) (Int.fdiv more185 (2 ^ (min ((8 : Int)).toNat IntKind.i64.bits))) (IntKind.i64.wrap (x186 + (1 : Int)))) ∧ (¬(x186 < (IntKind.i64.wrap ((4 : Int) - z161))) → X151 (out183) (y158) (IntKind.i64.wrap (x155 + (1 : Int))))) → X182 out183 more185 x186) → X182 (out152 ++ ([(IntKind.u8.wrap z161)] : List (Int))) (ibits .xor .i64 y158 last154) (0 : Int))) → X160 z161 m162) → X160 (4 : Int) (ibits .xor .i64 y158 last154)) ∧ (¬(x155 < (l0.length : Int)) → K (byts out152))) → X151 out152 last154 x155) → X151 ([] : List (Int)) (0 : Int) (0 : Int)
end Go.Proofs.Ytkaidcgelbhofaa.G

namespace Go.Proofs.Ytkaidcgelbhofaa.G
open Go Go.Ab
set_option maxRecDepth 100000
set_option linter.unusedVariables false
set_option linter.unusedSimpArgs false
set_option maxHeartbeats 1000000
def impl_UnpackTake.wp (a0 : List UInt8) (K : (List (Nat)) → Bool → Prop) : Prop := ∀ X130 : List (Nat) → Int → Int → Prop, (∀ (out131 : List (Nat)) (last133 : Int) (atq134 : Int), ((atq134 < (a0.length : Int) → (0 ≤ atq134 ∧ atq134 < (a0.length : Int)) ∧ (((4 : Int) < (IntKind.i64.wrap (bt a0 atq134)) → K ([] : List (Nat)) (false)) ∧ (¬((4 : Int) < (IntKind.i64.wrap (bt a0 atq134))) → (((a0.length : Int) < (IntKind.i64.wrap ((IntKind.i64.wrap (atq134 + (5 : Int))) - (IntKind.i64.wrap (bt a0 atq134)))) → K ([] : List (Nat)) (false)) ∧ (¬((a0.length : Int) < (IntKind.i64.wrap ((IntKind.i64.wrap (atq134 + (5 : Int))) - (IntKind.i64.wrap (bt a0 atq134))))) → (((out131.length : Int) = (128 : Int) → K ([] : List (Nat)) (false)) ∧ (¬((out131.length : Int) = (128 : Int)) → (0 ≤ (IntKind.i64.wrap (atq134 + (1 : Int))) ∧ (IntKind.i64.wrap (atq134 + (1 : Int))) ≤ (IntKind.i64.wrap ((IntKind.i64.wrap (atq134 + (5 : Int))) - (IntKind.i64.wrap (bt a0 atq134)))) ∧ (IntKind.i64.wrap ((IntKind.i64.wrap (atq134 + (5 : Int))) - (IntKind.i64.wrap (bt a0 atq134)))) ≤ (a0.length : Int)) ∧ impl_lowNumber.wp ((a0.drop ((IntKind.i64.wrap (atq134 + (1 : Int)))).toNat).take (((IntKind.i64.wrap ((IntKind.i64.wrap (atq134 + (5 : Int))) - (IntKind.i64.wrap (bt a0 atq134))))).toNat - ((IntKind.i64.wrap (atq134 + (1 : Int)))).toNat)) fun y141 => impl_FromBits.wp (ibits .xor .i64 last133 y141) fun y143 y144 => ((out131.length + ([y143] : List (Nat)).length) * 4 ≤ 2 ^ 40) ∧ X130 (out131 ++ ([y143] : List (Nat))) (ibits .xor .i64 last133 y141) (IntKind.i64.wrap ((IntKind.i64.wrap (atq134 + (5 : Int))) - (IntKind.i64.wrap (bt a0 atq134))))))))))) ∧ (¬(atq134 < (a0.length : Int)) → (((out131.length : Int) = (0 : Int) → K ([] : List (Nat)) (false)) ∧ (¬((out131.length : Int) = (0 : Int)) → impl_packed.wp out131 fun y153 => ((y153 = a0 → K (out131) (true)) ∧ (¬(y153 = a0) → K ([] : List (Nat)) (false))))))) → X130 out131 last133 atq134) → X130 ([] : List (Nat)) (0 : Int) (0 : Int)
end Go.Proofs.Ytkaidcgelbhofaa.G

namespace Go.Proofs.Ytkaidcgelbhofaa.G
open Go Go.Ab
set_option maxRecDepth 100000
set_option linter.unusedVariables false
set_option linter.unusedSimpArgs false
set_option maxHeartbeats 1000000
def impl_IsName.wp (a0 : List UInt8) (K : Bool → Prop) : Prop := ∀ X101 : Int → Prop, (∀ (x102 : Int), ((x102 < (a0.length : Int) → (0 ≤ x102 ∧ x102 < (a0.length : Int)) ∧ (((bt a0 x102) < (97 : Int) → K (false)) ∧ (¬((bt a0 x102) < (97 : Int)) → (((122 : Int) < (bt a0 x102) → K (false)) ∧ (¬((122 : Int) < (bt a0 x102)) → X101 (IntKind.i64.wrap (x102 + (1 : Int)))))))) ∧ (¬(x102 < (a0.length : Int)) → (((1 : Int) ≤ (a0.length : Int) → K (decide ((a0.length : Int) ≤ (8 : Int)))) ∧ (¬((1 : Int) ≤ (a0.length : Int)) → K (false))))) → X101 x102) → X101 (0 : Int)
end Go.Proofs.Ytkaidcgelbhofaa.G

namespace Go.Proofs.Ytkaidcgelbhofaa.G
open Go Go.Ab
set_option maxRecDepth 100000
set_option linter.unusedVariables false
set_option linter.unusedSimpArgs false
set_option maxHeartbeats 1000000
def impl_ValidTake.wp (a0 : List UInt8) (a1 : Int) (l2 : List (Nat)) (K : Bool → Prop) : Prop := impl_IsName.wp a0 fun y104 => ((y104 = true → impl_within.wp a1 (1 : Int) (65535 : Int) fun y107 => ((y107 = true → impl_within.wp (l2.length : Int) (1 : Int) (128 : Int) fun y110 => K (y110)) ∧ (y107 = false → K (false)))) ∧ (y104 = false → K (false)))
end Go.Proofs.Ytkaidcgelbhofaa.G

namespace Go.Proofs.Ytkaidcgelbhofaa.G
open Go Go.Ab
set_option maxRecDepth 100000
set_option linter.unusedVariables false
set_option linter.unusedSimpArgs false
set_option maxHeartbeats 1000000
def impl_lowBytes.wp (a0 : Int) (K : (List (Int)) → Prop) : Prop := K ([(IntKind.u8.wrap a0), (IntKind.u8.wrap (Int.fdiv a0 (2 ^ (min ((8 : Int)).toNat IntKind.i64.bits))))] : List (Int))
end Go.Proofs.Ytkaidcgelbhofaa.G

namespace Go.Proofs.Ytkaidcgelbhofaa.G
open Go Go.Ab
set_option maxRecDepth 100000
set_option linter.unusedVariables false
set_option linter.unusedSimpArgs false
set_option maxHeartbeats 1000000
def impl_CheckOf.wp (a0 : Int) (a1 : List UInt8) (K : Int → Bool → Prop) : Prop := impl_within.wp a0 (0 : Int) (65002 : Int) fun y101 => ((y101 = true → ∀ X104 : Int → Int → Prop, (∀ (start105 : Int) (x106 : Int), ((x106 < (a1.length : Int) → (0 ≤ x106 ∧ x106 < (a1.length : Int)) ∧ X104 (Int.tmod (IntKind.i64.wrap ((IntKind.i64.wrap ((IntKind.i64.wrap ((853 : Int) * start105)) + (IntKind.i64.wrap (bt a1 x106)))) + (139 : Int))) (65003 : Int)) (IntKind.i64.wrap (x106 + (1 : Int)))) ∧ (¬(x106 < (a1.length : Int)) → K (start105) (true))) → X104 start105 x106) → X104 (a0) (0 : Int)) ∧ (y101 = false → K (0 : Int) (false)))
end Go.Proofs.Ytkaidcgelbhofaa.G

namespace Go.Proofs.Ytkaidcgelbhofaa.G
open Go Go.Ab
set_option maxRecDepth 100000
set_option linter.unusedVariables false
set_option linter.unusedSimpArgs false
set_option maxHeartbeats 1000000
def impl_StoreTake.wp (a0 : List UInt8) (a1 : Int) (l2 : List (Nat)) (K : (List UInt8) → Bool → Prop) : Prop := impl_ValidTake.wp a0 a1 l2 fun y104 => ((y104 = true → impl_packed.wp l2 fun y107 => (0 < ([(84 : Int), (65 : Int), (75 : Int), (49 : Int)] : List (Int)).length) ∧ ((([(84 : Int), (65 : Int), (75 : Int), (49 : Int)] : List (Int)).length + ([(IntKind.u8.wrap (a0.length : Int))] : List (Int)).length) * 1 ≤ 2 ^ 40) ∧ (((([(84 : Int), (65 : Int), (75 : Int), (49 : Int)] : List (Int)) ++ ([(IntKind.u8.wrap (a0.length : Int))] : List (Int))).length + a0.length) * 1 ≤ 2 ^ 40) ∧ impl_lowBytes.wp a1 fun y122 => ((((([(84 : Int), (65 : Int), (75 : Int), (49 : Int)] : List (Int)) ++ ([(IntKind.u8.wrap (a0.length : Int))] : List (Int))) ++ nums a0).length + y122.length) * 1 ≤ 2 ^ 40) ∧ impl_lowBytes.wp (y107.length : Int) fun y129 => (((((([(84 : Int), (65 : Int), (75 : Int), (49 : Int)] : List (Int)) ++ ([(IntKind.u8.wrap (a0.length : Int))] : List (Int))) ++ nums a0) ++ y122).length + y129.length) * 1 ≤ 2 ^ 40) ∧ ((((((([(84 : Int), (65 : Int), (75 : Int), (49 : Int)] : List (Int)) ++ ([(IntKind.u8.wrap (a0.length : Int))] : List (Int))) ++ nums a0) ++ y122) ++ y129).length + y107.length) * 1 ≤ 2 ^ 40) ∧ impl_CheckOf.wp (0 : Int) (byts (((((([(84 : Int), (65 : Int), (75 : Int), (49 : Int)] : List (Int)) ++ ([(IntKind.u8.wrap (a0.length : Int))] : List (Int))) ++ nums a0) ++ y122) ++ y129) ++ nums y107)) fun y139 y140 => impl_lowBytes.wp y139 fun y142 => (((((((([(84 : Int), (65 : Int), (75 : Int), (49 : Int)] : List (Int)) ++ ([(IntKind.u8.wrap (a0.length : Int))] : List (Int))) ++ nums a0) ++ y122) ++ y129) ++ nums y107).length + y142.length) * 1 ≤ 2 ^ 40) ∧ K (byts ((((((([(84 : Int), (65 : Int), (75 : Int), (49 : Int)] : List (Int)) ++ ([(IntKind.u8.wrap (a0.length : Int))] : List (Int))) ++ nums a0) ++ y122) ++ y129) ++ nums y107) ++ y142)) (true)) ∧ (y104 = false → K ([] : List UInt8) (false)))
end Go.Proofs.Ytkaidcgelbhofaa.G

namespace Go.Proofs.Ytkaidcgelbhofaa.G
open Go Go.Ab
set_option maxRecDepth 100000
set_option linter.unusedVariables false
set_option linter.unusedSimpArgs false
set_option maxHeartbeats 1000000
def impl_takeAhead.wp (a0 : List UInt8) (K : (List UInt8) → Int → (List (Nat)) → Int → Bool → Prop) : Prop := (((a0.length : Int) < (5 : Int) → K ([] : List UInt8) (0 : Int) ([] : List (Nat)) (0 : Int) (false)) ∧ (¬((a0.length : Int) < (5 : Int)) → strings_HasPrefix.wp a0 ([84, 65, 75, 49] : List UInt8) fun y106 => ((y106 = true → (0 ≤ (4 : Int) ∧ (4 : Int) < (a0.length : Int)) ∧ (((a0.length : Int) < (IntKind.i64.wrap ((IntKind.i64.wrap ((5 : Int) + (IntKind.i64.wrap (bt a0 (4 : Int))))) + (4 : Int))) → K ([] : List UInt8) (0 : Int) ([] : List (Nat)) (0 : Int) (false)) ∧ (¬((a0.length : Int) < (IntKind.i64.wrap ((IntKind.i64.wrap ((5 : Int) + (IntKind.i64.wrap (bt a0 (4 : Int))))) + (4 : Int)))) → (0 ≤ (5 : Int) ∧ (5 : Int) ≤ (IntKind.i64.wrap ((5 : Int) + (IntKind.i64.wrap (bt a0 (4 : Int))))) ∧ (IntKind.i64.wrap ((5 : Int) + (IntKind.i64.wrap (bt a0 (4 : Int))))) ≤ (a0.length : Int)) ∧ (0 ≤ (IntKind.i64.wrap ((5 : Int) + (IntKind.i64.wrap (bt a0 (4 : Int))))) ∧ (IntKind.i64.wrap ((5 : Int) + (IntKind.i64.wrap (bt a0 (4 : Int))))) ≤ (IntKind.i64.wrap ((IntKind.i64.wrap ((5 : Int) + (IntKind.i64.wrap (bt a0 (4 : Int))))) + (2 : Int))) ∧ (IntKind.i64.wrap ((IntKind.i64.wrap ((5 : Int) + (IntKind.i64.wrap (bt a0 (4 : Int))))) + (2 : Int))) ≤ (a0.length : Int)) ∧ ∃ (y114 : Int), impl_lowNumber.wp ((a0.drop ((IntKind.i64.wrap ((5 : Int) + (IntKind.i64.wrap (bt a0 (4 : Int)))))).toNat).take (((IntKind.i64.wrap ((IntKind.i64.wrap ((5 : Int) + (IntKind.i64.wrap (bt a0 (4 : Int))))) + (2 : Int)))).toNat - ((IntKind.i64.wrap ((5 : Int) + (IntKind.i64.wrap (bt a0 (4 : Int)))))).toNat)) (fun zy114 => y114 = zy114) ∧ (0 ≤ (IntKind.i64.wrap ((IntKind.i64.wrap ((5 : Int) + (IntKind.i64.wrap (bt a0 (4 : Int))))) + (2 : Int))) ∧ (IntKind.i64.wrap ((IntKind.i64.wrap ((5 : Int) + (IntKind.i64.wrap (bt a0 (4 : Int))))) + (2 : Int))) ≤ (IntKind.i64.wrap ((IntKind.i64.wrap ((5 : Int) + (IntKind.i64.wrap (bt a0 (4 : Int))))) + (4 : Int))) ∧ (IntKind.i64.wrap ((IntKind.i64.wrap ((5 : Int) + (IntKind.i64.wrap (bt a0 (4 : Int))))) + (4 : Int))) ≤ (a0.length : Int)) ∧ impl_lowNumber.wp ((a0.drop ((IntKind.i64.wrap ((IntKind.i64.wrap ((5 : Int) + (IntKind.i64.wrap (bt a0 (4 : Int))))) + (2 : Int)))).toNat).take (((IntKind.i64.wrap ((IntKind.i64.wrap ((5 : Int) + (IntKind.i64.wrap (bt a0 (4 : Int))))) + (4 : Int)))).toNat - ((IntKind.i64.wrap ((IntKind.i64.wrap ((5 : Int) + (IntKind.i64.wrap (bt a0 (4 : Int))))) + (2 : Int)))).toNat)) fun y121 => (((a0.length : Int) < (IntKind.i64.wrap ((IntKind.i64.wrap ((IntKind.i64.wrap ((IntKind.i64.wrap ((5 : Int) + (IntKind.i64.wrap (bt a0 (4 : Int))))) + (4 : Int))) + y121)) + (2 : Int))) → K ([] : List UInt8) (0 : Int) ([] : List (Nat)) (0 : Int) (false)) ∧ (¬((a0.length : Int) < (IntKind.i64.wrap ((IntKind.i64.wrap ((IntKind.i64.wrap ((IntKind.i64.wrap ((5 : Int) + (IntKind.i64.wrap (bt a0 (4 : Int))))) + (4 : Int))) + y121)) + (2 : Int)))) → (0 ≤ (IntKind.i64.wrap ((IntKind.i64.wrap ((5 : Int) + (IntKind.i64.wrap (bt a0 (4 : Int))))) + (4 : Int))) ∧ (IntKind.i64.wrap ((IntKind.i64.wrap ((5 : Int) + (IntKind.i64.wrap (bt a0 (4 : Int))))) + (4 : Int))) ≤ (IntKind.i64.wrap ((IntKind.i64.wrap ((IntKind.i64.wrap ((5 : Int) + (IntKind.i64.wrap (bt a0 (4 : Int))))) + (4 : Int))) + y121)) ∧ (IntKind.i64.wrap ((IntKind.i64.wrap ((IntKind.i64.wrap ((5 : Int) + (IntKind.i64.wrap (bt a0 (4 : Int))))) + (4 : Int))) + y121)) ≤ (a0.length : Int)) ∧ impl_UnpackTake.wp ((a0.drop ((IntKind.i64.wrap ((IntKind.i64.wrap ((5 : Int) + (IntKind.i64.wrap (bt a0 (4 : Int))))) + (4 : Int)))).toNat).take (((IntKind.i64.wrap ((IntKind.i64.wrap ((IntKind.i64.wrap ((5 : Int) + (IntKind.i64.wrap (bt a0 (4 : Int))))) + (4 : Int))) + y121))).toNat - ((IntKind.i64.wrap ((IntKind.i64.wrap ((5 : Int) + (IntKind.i64.wrap (bt a0 (4 : Int))))) + (4 : Int)))).toNat)) fun y126 y129 => ((y129 = true → impl_StoreTake.wp ((a0.drop ((5 : Int)).toNat).take (((IntKind.i64.wrap ((5 : Int) + (IntKind.i64.wrap (bt a0 (4 : Int)))))).toNat - ((5 : Int)).toNat)) y114 y126 fun y133 y134 => ((y134 = true → (0 ≤ (0 : Int) ∧ (0 : Int) ≤ (IntKind.i64.wrap ((IntKind.i64.wrap ((IntKind.i64.wrap ((IntKind.i64.wrap ((5 : Int) + (IntKind.i64.wrap (bt a0 (4 : Int))))) + (4 : Int))) + y121)) + (2 : Int))) ∧ (IntKind.i64.wrap ((IntKind.i64.wrap ((IntKind.i64.wrap ((IntKind.i64.wrap ((5 : Int) + (IntKind.i64.wrap (bt a0 (4 : Int))))) + (4 : Int))) + y121)) + (2 : Int))) ≤ (a0.length : Int)) ∧ ((y133 = ((a0.drop ((0 : Int)).toNat).take (((IntKind.i64.wrap ((IntKind.i64.wrap ((IntKind.i64.wrap ((IntKind.i64.wrap ((5 : Int) + (IntKind.i64.wrap (bt a0 (4 : Int))))) + (4 : Int))) + y121)) + (2 : Int)))).toNat - ((0 : Int)).toNat)) → K ((a0.drop ((5 : Int)).toNat).take (((IntKind.i64.wrap ((5 : Int) + (IntKind.i64.wrap (bt a0 (4 : Int)))))).toNat - ((5 : Int)).toNat)) (y114) (y126) (IntKind.i64.wrap ((IntKind.i64.wrap ((IntKind.i64.wrap ((IntKind.i64.wrap ((5 : Int) + (IntKind.i64.wrap (bt a0 (4 : Int))))) + (4 : Int))) + y121)) + (2 : Int))) (true)) ∧ (¬(y133 = ((a0.drop ((0 : Int)).toNat).take (((IntKind.i64.wrap ((IntKind.i64.wrap ((IntKind.i64.wrap ((IntKind.i64.wrap ((5 : Int) + (IntKind.i64.wrap (bt a0 (4 : Int))))) + (4 : Int))) + y121)) + (2 : Int)))).toNat - ((0 : Int)).toNat))) → K ([] : List UInt8) (0 : Int) ([] : List (Nat)) (0 : Int) (false)))) ∧ (y134 = false → K ([] : List UInt8) (0 : Int) ([] : List (Nat)) (0 : Int) (false)))) ∧ (y129 = false → K ([] : List UInt8) (0 : Int) ([] : List (Nat)) (0 : Int) (false)))))))) ∧ (y106 = false → K ([] : List UInt8) (0 : Int) ([] : List (Nat)) (0 : Int) (false)))))
end Go.Proofs.Ytkaidcgelbhofaa.G

namespace Go.Proofs.Ytkaidcgelbhofaa.G
open Go Go.Ab
set_option maxRecDepth 100000
set_option linter.unusedVariables false
set_option linter.unusedSimpArgs false
set_option maxHeartbeats 1000000
def impl_RecoverTakes.wp (a0 : List UInt8) (K : (List ((List UInt8) × (Int) × (List (Nat)))) → Int → Bool → Prop) : Prop := ∀ X135 : List ((List UInt8) × (Int) × (List (Nat))) → Int → Prop, (∀ (list136 : List ((List UInt8) × (Int) × (List (Nat)))) (atq140 : Int), (((list136.length : Int) < (8 : Int) → (0 ≤ atq140 ∧ atq140 ≤ (a0.length : Int) ∧ (a0.length : Int) ≤ (a0.length : Int)) ∧ impl_takeAhead.wp ((a0.drop (atq140).toNat).take (((a0.length : Int)).toNat - (atq140).toNat)) fun y143 y144 y145 y148 y149 => ((y149 = true → ((list136.length + ([(y143, y144, y145)] : List ((List UInt8) × (Int) × (List (Nat)))).length) * 48 ≤ 2 ^ 40) ∧ X135 (list136 ++ ([(y143, y144, y145)] : List ((List UInt8) × (Int) × (List (Nat))))) (IntKind.i64.wrap (atq140 + y148))) ∧ (y149 = false → K (list136) (atq140) (true)))) ∧ (¬((list136.length : Int) < (8 : Int)) → K (list136) (atq140) (true))) → X135 list136 atq140) → X135 ([] : List ((List UInt8) × (Int) × (List (Nat)))) (0 : Int)
end Go.Proofs.Ytkaidcgelbhofaa.G

namespace Go.Proofs.Ytkaidcgelbhofaa.G
open Go Go.Ab
set_option maxRecDepth 100000
set_option linter.unusedVariables false
set_option linter.unusedSimpArgs false
set_option maxHeartbeats 1000000
def laws_sameFloat.wp (a0 : Nat) (a1 : Nat) (K : Bool → Prop) : Prop := (((fcmp .neq .f64 a0 a0) = true → K (fcmp .neq .f64 a1 a1)) ∧ ((fcmp .neq .f64 a0 a0) = false → (((fcmp .neq .f64 a1 a1) = true → K (false)) ∧ ((fcmp .neq .f64 a1 a1) = false → (((fcmp .eql .f64 a0 (cz .f64 0)) = true → (((fcmp .eql .f64 a1 (cz .f64 0)) = true → K ((fcmp .gtr .f64 (fop .quo .f64 (cz .f64 4607182418800017408) a0) (cz .f64 0)) == (fcmp .gtr .f64 (fop .quo .f64 (cz .f64 4607182418800017408) a1) (cz .f64 0)))) ∧ ((fcmp .eql .f64 a1 (cz .f64 0)) = false → K (fcmp .eql .f64 a0 a1)))) ∧ ((fcmp .eql .f64 a0 (cz .f64 0)) = false → K (fcmp .eql .f64 a0 a1)))))))
end Go.Proofs.Ytkaidcgelbhofaa.G

namespace Go.Proofs.Ytkaidcgelbhofaa.G
open Go Go.Ab
set_option maxRecDepth 100000
set_option linter.unusedVariables false
set_option linter.unusedSimpArgs false
set_option maxHeartbeats 1000000
def laws_eqFloat32S.wp (l0 : List (Nat)) (l1 : List (Nat)) (K : Bool → Prop) : Prop := (((l0.length : Int) = (l1.length : Int) → ∀ X102 : Int → Prop, (∀ (i103 : Int), ((i103 < (l0.length : Int) → (0 ≤ i103 ∧ i103 < (l0.length : Int)) ∧ (0 ≤ i103 ∧ i103 < (l1.length : Int)) ∧ laws_sameFloat.wp (widen (l0.getD (i103).toNat (0 : Nat))) (widen (l1.getD (i103).toNat (0 : Nat))) fun y107 => ((y107 = true → X102 (IntKind.i64.wrap (i103 + (1 : Int)))) ∧ (y107 = false → K (false)))) ∧ (¬(i103 < (l0.length : Int)) → K (true))) → X102 i103) → X102 (0 : Int)) ∧ (¬((l0.length : Int) = (l1.length : Int)) → K (false)))
end Go.Proofs.Ytkaidcgelbhofaa.G

namespace Go.Proofs.Ytkaidcgelbhofaa.G
open Go Go.Ab
set_option maxRecDepth 100000
set_option linter.unusedVariables false
set_option linter.unusedSimpArgs false
set_option maxHeartbeats 1000000
def laws_eqTake.wp (a0 : List UInt8) (a1 : Int) (l2 : List (Nat)) (a3 : List UInt8) (a4 : Int) (l5 : List (Nat)) (K : Bool → Prop) : Prop := ((a0 = a3 → ((a1 = a4 → laws_eqFloat32S.wp l2 l5 fun y109 => ((y109 = true → K (true)) ∧ (y109 = false → K (false)))) ∧ (¬(a1 = a4) → K (false)))) ∧ (¬(a0 = a3) → K (false)))
end Go.Proofs.Ytkaidcgelbhofaa.G

namespace Go.Proofs.Ytkaidcgelbhofaa.G
open Go Go.Ab
set_option maxRecDepth 100000
set_option linter.unusedVariables false
set_option linter.unusedSimpArgs false
set_option maxHeartbeats 1000000
def laws_eqTakeS.wp (l0 : List ((List UInt8) × (Int) × (List (Nat)))) (l1 : List ((List UInt8) × (Int) × (List (Nat)))) (K : Bool → Prop) : Prop := (((l0.length : Int) = (l1.length : Int) → ∀ X102 : Int → Prop, (∀ (i103 : Int), ((i103 < (l0.length : Int) → (0 ≤ i103 ∧ i103 < (l0.length : Int)) ∧ (0 ≤ i103 ∧ i103 < (l1.length : Int)) ∧ laws_eqTake.wp (l0.getD (i103).toNat (([] : List UInt8), (0 : Int), ([] : List (Nat)))).1 (l0.getD (i103).toNat (([] : List UInt8), (0 : Int), ([] : List (Nat)))).2.1 (l0.getD (i103).toNat (([] : List UInt8), (0 : Int), ([] : List (Nat)))).2.2 (l1.getD (i103).toNat (([] : List UInt8), (0 : Int), ([] : List (Nat)))).1 (l1.getD (i103).toNat (([] : List UInt8), (0 : Int), ([] : List (Nat)))).2.1 (l1.getD (i103).toNat (([] : List UInt8), (0 : Int), ([] : List (Nat)))).2.2 fun y107 => ((y107 = true → X102 (IntKind.i64.wrap (i103 + (1 : Int)))) ∧ (y107 = false → K (false)))) ∧ (¬(i103 < (l0.length : Int)) → K (true))) → X102 i103) → X102 (0 : Int)) ∧ (¬((l0.length : Int) = (l1.length : Int)) → K (false)))
end Go.Proofs.Ytkaidcgelbhofaa.G

namespace Go.Proofs.Ytkaidcgelbhofaa.G
open Go Go.Ab
set_option maxRecDepth 100000
set_option linter.unusedVariables false
set_option linter.unusedSimpArgs false
set_option maxHeartbeats 1000000
def laws_markText.wp (a0 : Int) (K : (List UInt8) → Prop) : Prop := ((a0 ≤ (0 : Int) → K ([109, 48] : List UInt8)) ∧ (¬(a0 ≤ (0 : Int)) → ∀ X102 : Int → List UInt8 → Prop, (∀ (k103 : Int) (out104 : List UInt8), (((0 : Int) < k103 → (((byts ([(IntKind.u8.wrap (IntKind.i64.wrap ((48 : Int) + (Int.tmod k103 (10 : Int)))))] : List (Int))).length : Int) + (out104.length : Int) ≤ 9223372036854775807) ∧ X102 (IntKind.i64.wrap (Int.tdiv k103 (10 : Int))) ((byts ([(IntKind.u8.wrap (IntKind.i64.wrap ((48 : Int) + (Int.tmod k103 (10 : Int)))))] : List (Int))) ++ out104)) ∧ (¬((0 : Int) < k103) → ((([109] : List UInt8).length : Int) + (out104.length : Int) ≤ 9223372036854775807) ∧ K (([109] : List UInt8) ++ out104))) → X102 k103 out104) → X102 (a0) ([] : List UInt8)))
end Go.Proofs.Ytkaidcgelbhofaa.G

namespace Go.Proofs.Ytkaidcgelbhofaa.G
open Go Go.Ab
set_option maxRecDepth 100000
set_option linter.unusedVariables false
set_option linter.unusedSimpArgs false
set_option maxHeartbeats 1000000
def laws_markFloat32S.wp (l0 : List (Nat)) (a1 : Int) (K : Int → (List (Nat)) → Prop) : Prop := ∀ X108 : List (Nat) → Int → Int → Prop, (∀ (a109 : List (Nat)) (k110 : Int) (i111 : Int), ((i111 < (a109.length : Int) → (0 ≤ i111 ∧ i111 < (a109.length : Int)) ∧ X108 (a109.set (i111).toNat (itof .f32 k110)) (IntKind.i64.wrap (k110 + (1 : Int))) (IntKind.i64.wrap (i111 + (1 : Int)))) ∧ (¬(i111 < (a109.length : Int)) → K (k110) (a109))) → X108 a109 k110 i111) → X108 (l0) (a1) (0 : Int)
end Go.Proofs.Ytkaidcgelbhofaa.G

namespace Go.Proofs.Ytkaidcgelbhofaa.G
open Go Go.Ab
set_option maxRecDepth 100000
set_option linter.unusedVariables false
set_option linter.unusedSimpArgs false
set_option maxHeartbeats 1000000
def laws_markTakeS.wp (l0 : List ((List UInt8) × (Int) × (List (Nat)))) (a1 : Int) (K : Int → (List ((List UInt8) × (Int) × (List (Nat)))) → Prop) : Prop := ∀ X122 : List ((List UInt8) × (Int) × (List (Nat))) → Int → Int → Prop, (∀ (a123 : List ((List UInt8) × (Int) × (List (Nat)))) (k126 : Int) (i127 : Int), ((i127 < (a123.length : Int) → laws_markText.wp k126 fun y129 => (0 ≤ i127 ∧ i127 < (a123.length : Int)) ∧ (0 ≤ i127 ∧ i127 < ((a123.set (i127).toNat (y129, (a123.getD (i127).toNat (([] : List UInt8), (0 : Int), ([] : List (Nat)))).2.1, (a123.getD (i127).toNat (([] : List UInt8), (0 : Int), ([] : List (Nat)))).2.2)).length : Int)) ∧ (0 ≤ i127 ∧ i127 < (((a123.set (i127).toNat (y129, (a123.getD (i127).toNat (([] : List UInt8), (0 : Int), ([] : List (Nat)))).2.1, (a123.getD (i127).toNat (([] : List UInt8), (0 : Int), ([] : List (Nat)))).2.2)).set (i127).toNat (((a123.set (i127).toNat (y129, (a123.getD (i127).toNat (([] : List UInt8), (0 : Int), ([] : List (Nat)))).2.1, (a123.getD (i127).toNat (([] : List UInt8), (0 : Int), ([] : List (Nat)))).2.2)).getD (i127).toNat (([] : List UInt8), (0 : Int), ([] : List (Nat)))).1, (IntKind.i64.wrap (k126 + (1 : Int))), ((a123.set (i127).toNat (y129, (a123.getD (i127).toNat (([] : List UInt8), (0 : Int), ([] : List (Nat)))).2.1, (a123.getD (i127).toNat (([] : List UInt8), (0 : Int), ([] : List (Nat)))).2.2)).getD (i127).toNat (([] : List UInt8), (0 : Int), ([] : List (Nat)))).2.2)).length : Int)) ∧ laws_markFloat32S.wp (((a123.set (i127).toNat (y129, (a123.getD (i127).toNat (([] : List UInt8), (0 : Int), ([] : List (Nat)))).2.1, (a123.getD (i127).toNat (([] : List UInt8), (0 : Int), ([] : List (Nat)))).2.2)).set (i127).toNat (((a123.set (i127).toNat (y129, (a123.getD (i127).toNat (([] : List UInt8), (0 : Int), ([] : List (Nat)))).2.1, (a123.getD (i127).toNat (([] : List UInt8), (0 : Int), ([] : List (Nat)))).2.2)).getD (i127).toNat (([] : List UInt8), (0 : Int), ([] : List (Nat)))).1, (IntKind.i64.wrap (k126 + (1 : Int))), ((a123.set (i127).toNat (y129, (a123.getD (i127).toNat (([] : List UInt8), (0 : Int), ([] : List (Nat)))).2.1, (a123.getD (i127).toNat (([] : List UInt8), (0 : Int), ([] : List (Nat)))).2.2)).getD (i127).toNat (([] : List UInt8), (0 : Int), ([] : List (Nat)))).2.2)).getD (i127).toNat (([] : List UInt8), (0 : Int), ([] : List (Nat)))).2.2 (IntKind.i64.wrap ((IntKind.i64.wrap (k126 + (1 : Int))) + (1 : Int))) fun y142 y143 => X122 (((a123.set (i127).toNat (y129, (a123.getD (i127).toNat (([] : List UInt8), (0 : Int), ([] : List (Nat)))).2.1, (a123.getD (i127).toNat (([] : List UInt8), (0 : Int), ([] : List (Nat)))).2.2)).set (i127).toNat (((a123.set (i127).toNat (y129, (a123.getD (i127).toNat (([] : List UInt8), (0 : Int), ([] : List (Nat)))).2.1, (a123.getD (i127).toNat (([] : List UInt8), (0 : Int), ([] : List (Nat)))).2.2)).getD (i127).toNat (([] : List UInt8), (0 : Int), ([] : List (Nat)))).1, (IntKind.i64.wrap (k126 + (1 : Int))), ((a123.set (i127).toNat (y129, (a123.getD (i127).toNat (([] : List UInt8), (0 : Int), ([] : List (Nat)))).2.1, (a123.getD (i127).toNat (([] : List UInt8), (0 : Int), ([] : List (Nat)))).2.2)).getD (i127).toNat (([] : List UInt8), (0 : Int), ([] : List (Nat)))).2.2)).set (i127).toNat ((((a123.set (i127).toNat (y129, (a123.getD (i127).toNat (([] : List UInt8), (0 : Int), ([] : List (Nat)))).2.1, (a123.getD (i127).toNat (([] : List UInt8), (0 : Int), ([] : List (Nat)))).2.2)).set (i127).toNat (((a123.set (i127).toNat (y129, (a123.getD (i127).toNat (([] : List UInt8), (0 : Int), ([] : List (Nat)))).2.1, (a123.getD (i127).toNat (([] : List UInt8), (0 : Int), ([] : List (Nat)))).2.2)).getD (i127).toNat (([] : List UInt8), (0 : Int), ([] : List (Nat)))).1, (IntKind.i64.wrap (k126 + (1 : Int))), ((a123.set (i127).toNat (y129, (a123.getD (i127).toNat (([] : List UInt8), (0 : Int), ([] : List (Nat)))).2.1, (a123.getD (i127).toNat (([] : List UInt8), (0 : Int), ([] : List (Nat)))).2.2)).getD (i127).toNat (([] : List UInt8), (0 : Int), ([] : List (Nat)))).2.2)).getD (i127).toNat (([] : List UInt8), (0 : Int), ([] : List (Nat)))).1, (((a123.set (i127).toNat (y129, (a123.getD (i127).toNat (([] : List UInt8), (0 : Int), ([] : List (Nat)))).2.1, (a123.getD (i127).toNat (([] : List UInt8), (0 : Int), ([] : List (Nat)))).2.2)).set (i127).toNat (((a123.set (i127).toNat (y129, (a123.getD (i127).toNat (([] : List UInt8), (0 : Int), ([] : List (Nat)))).2.1, (a123.getD (i127).toNat (([] : List UInt8), (0 : Int), ([] : List (Nat)))).2.2)).getD (i127).toNat (([] : List UInt8), (0 : Int), ([] : List (Nat)))).1, (IntKind.i64.wrap (k126 + (1 : Int))), ((a123.set (i127).toNat (y129, (a123.getD (i127).toNat (([] : List UInt8), (0 : Int), ([] : List (Nat)))).2.1, (a123.getD (i127).toNat (([] : List UInt8), (0 : Int), ([] : List (Nat)))).2.2)).getD (i127).toNat (([] : List UInt8), (0 : Int), ([] : List (Nat)))).2.2)).getD (i127).toNat (([] : List UInt8), (0 : Int), ([] : List (Nat)))).2.1, y143)) (y142) (IntKind.i64.wrap (i127 + (1 : Int)))) ∧ (¬(i127 < (a123.length : Int)) → K (k126) (a123))) → X122 a123 k126 i127) → X122 (l0) (a1) (0 : Int)
end Go.Proofs.Ytkaidcgelbhofaa.G

namespace Go.Proofs.Ytkaidcgelbhofaa.G
open Go Go.Ab
set_option maxRecDepth 100000
set_option linter.unusedVariables false
set_option linter.unusedSimpArgs false
set_option maxHeartbeats 1000000
def laws_heldFloat32S.wp (l0 : List (Nat)) (a1 : Int) (K : Int → Prop) : Prop := ∀ X101 : Int → Int → Prop, (∀ (k102 : Int) (i103 : Int), ((i103 < (l0.length : Int) → (0 ≤ i103 ∧ i103 < (l0.length : Int)) ∧ (((fcmp .neq .f32 (l0.getD (i103).toNat (0 : Nat)) (itof .f32 k102)) = true → K (-1 : Int)) ∧ ((fcmp .neq .f32 (l0.getD (i103).toNat (0 : Nat)) (itof .f32 k102)) = false → X101 (IntKind.i64.wrap (k102 + (1 : Int))) (IntKind.i64.wrap (i103 + (1 : Int)))))) ∧ (¬(i103 < (l0.length : Int)) → K (k102))) → X101 k102 i103) → X101 (a1) (0 : Int)
end Go.Proofs.Ytkaidcgelbhofaa.G

namespace Go.Proofs.Ytkaidcgelbhofaa.G
open Go Go.Ab
set_option maxRecDepth 100000
set_option linter.unusedVariables false
set_option linter.unusedSimpArgs false
set_option maxHeartbeats 1000000
def laws_heldTakeS.wp (l0 : List ((List UInt8) × (Int) × (List (Nat)))) (a1 : Int) (K : Int → Prop) : Prop := ∀ X101 : Int → Int → Prop, (∀ (k102 : Int) (i103 : Int), ((i103 < (l0.length : Int) → (0 ≤ i103 ∧ i103 < (l0.length : Int)) ∧ laws_markText.wp k102 fun y106 => (((l0.getD (i103).toNat (([] : List UInt8), (0 : Int), ([] : List (Nat)))).1 = y106 → (((l0.getD (i103).toNat (([] : List UInt8), (0 : Int), ([] : List (Nat)))).2.1 = (IntKind.i64.wrap (k102 + (1 : Int))) → laws_heldFloat32S.wp (l0.getD (i103).toNat (([] : List UInt8), (0 : Int), ([] : List (Nat)))).2.2 (IntKind.i64.wrap ((IntKind.i64.wrap (k102 + (1 : Int))) + (1 : Int))) fun y110 => ((y110 < (0 : Int) → K (-1 : Int)) ∧ (¬(y110 < (0 : Int)) → X101 (y110) (IntKind.i64.wrap (i103 + (1 : Int)))))) ∧ (¬((l0.getD (i103).toNat (([] : List UInt8), (0 : Int), ([] : List (Nat)))).2.1 = (IntKind.i64.wrap (k102 + (1 : Int)))) → K (-1 : Int)))) ∧ (¬((l0.getD (i103).toNat (([] : List UInt8), (0 : Int), ([] : List (Nat)))).1 = y106) → K (-1 : Int)))) ∧ (¬(i103 < (l0.length : Int)) → K (k102))) → X101 k102 i103) → X101 (a1) (0 : Int)
end Go.Proofs.Ytkaidcgelbhofaa.G

namespace Go.Proofs.Ytkaidcgelbhofaa.G
open Go Go.Ab
set_option maxRecDepth 100000
set_option linter.unusedVariables false
set_option linter.unusedSimpArgs false
set_option maxHeartbeats 1000000
def laws_FnExactRecoverTakes.wp (a0 : List UInt8) (K : Bool → Prop) : Prop := (((1048576 : Int) < (a0.length : Int) → K (true)) ∧ (¬((1048576 : Int) < (a0.length : Int)) → spec_RecoverTakes.wp a0 fun y102 y107 y108 => impl_RecoverTakes.wp a0 fun y110 y115 y116 => laws_eqTakeS.wp y110 y102 fun y118 => ((y118 = true → ((y115 = y107 → (((y116 == y108) = true → laws_markTakeS.wp y110 (1 : Int) fun y123 y124 => laws_heldTakeS.wp y124 (1 : Int) fun y128 => ((y128 < (0 : Int) → K (false)) ∧ (¬(y128 < (0 : Int)) → ((y128 = y123 → impl_RecoverTakes.wp a0 fun y132 y137 y138 => laws_eqTakeS.wp y132 y102 fun y140 => ((y140 = true → ((y137 = y107 → (((y138 == y108) = true → laws_heldTakeS.wp y124 (1 : Int) fun y145 => ((y145 < (0 : Int) → K (false)) ∧ (¬(y145 < (0 : Int)) → ((y145 = y123 → K (true)) ∧ (¬(y145 = y123) → K (false)))))) ∧ ((y138 == y108) = false → K (false)))) ∧ (¬(y137 = y107) → K (false)))) ∧ (y140 = false → K (false)))) ∧ (¬(y128 = y123) → K (false)))))) ∧ ((y116 == y108) = false → K (false)))) ∧ (¬(y115 = y107) → K (false)))) ∧ (y118 = false → K (false)))))
end Go.Proofs.Ytkaidcgelbhofaa.G

namespace Go.Proofs.Ytkaidcgelbhofaa.G
open Go Go.Ab
set_option maxRecDepth 100000
set_option linter.unusedVariables false
set_option linter.unusedSimpArgs false
set_option maxHeartbeats 1000000
def laws_eqInt64S.wp (l0 : List (Int)) (l1 : List (Int)) (K : Bool → Prop) : Prop := (((l0.length : Int) = (l1.length : Int) → ∀ X102 : Int → Prop, (∀ (i103 : Int), ((i103 < (l0.length : Int) → (0 ≤ i103 ∧ i103 < (l0.length : Int)) ∧ (0 ≤ i103 ∧ i103 < (l1.length : Int)) ∧ (((l0.getD (i103).toNat (0 : Int)) = (l1.getD (i103).toNat (0 : Int)) → X102 (IntKind.i64.wrap (i103 + (1 : Int)))) ∧ (¬((l0.getD (i103).toNat (0 : Int)) = (l1.getD (i103).toNat (0 : Int))) → K (false)))) ∧ (¬(i103 < (l0.length : Int)) → K (true))) → X102 i103) → X102 (0 : Int)) ∧ (¬((l0.length : Int) = (l1.length : Int)) → K (false)))
end Go.Proofs.Ytkaidcgelbhofaa.G

namespace Go.Proofs.Ytkaidcgelbhofaa.G
open Go Go.Ab
set_option maxRecDepth 100000
set_option linter.unusedVariables false
set_option linter.unusedSimpArgs false
set_option maxHeartbeats 1000000
def laws_markInt64S.wp (l0 : List (Int)) (a1 : Int) (K : Int → (List (Int)) → Prop) : Prop := ∀ X108 : List (Int) → Int → Int → Prop, (∀ (a109 : List (Int)) (k110 : Int) (i111 : Int), ((i111 < (a109.length : Int) → (0 ≤ i111 ∧ i111 < (a109.length : Int)) ∧ X108 (a109.set (i111).toNat k110) (IntKind.i64.wrap (k110 + (1 : Int))) (IntKind.i64.wrap (i111 + (1 : Int)))) ∧ (¬(i111 < (a109.length : Int)) → K (k110) (a109))) → X108 a109 k110 i111) → X108 (l0) (a1) (0 : Int)
end Go.Proofs.Ytkaidcgelbhofaa.G

namespace Go.Proofs.Ytkaidcgelbhofaa.G
open Go Go.Ab
set_option maxRecDepth 100000
set_option linter.unusedVariables false
set_option linter.unusedSimpArgs false
set_option maxHeartbeats 1000000
def laws_heldInt64S.wp (l0 : List (Int)) (a1 : Int) (K : Int → Prop) : Prop := ∀ X101 : Int → Int → Prop, (∀ (k102 : Int) (i103 : Int), ((i103 < (l0.length : Int) → (0 ≤ i103 ∧ i103 < (l0.length : Int)) ∧ (((l0.getD (i103).toNat (0 : Int)) = k102 → X101 (IntKind.i64.wrap (k102 + (1 : Int))) (IntKind.i64.wrap (i103 + (1 : Int)))) ∧ (¬((l0.getD (i103).toNat (0 : Int)) = k102) → K (-1 : Int)))) ∧ (¬(i103 < (l0.length : Int)) → K (k102))) → X101 k102 i103) → X101 (a1) (0 : Int)
end Go.Proofs.Ytkaidcgelbhofaa.G

namespace Go.Proofs.Ytkaidcgelbhofaa.G
open Go Go.Ab
set_option maxRecDepth 100000
set_option linter.unusedVariables false
set_option linter.unusedSimpArgs false
set_option maxHeartbeats 1000000
def laws_toFloat32S.wp (l0 : List (Nat)) (K : (List (Nat)) → Prop) : Prop := (0 ≤ (l0.length : Int) ∧ (l0.length : Int) ≤ (l0.length : Int) ∧ (l0.length : Int) ≤ 2 ^ 40 ∧ (l0.length : Int) * 4 ≤ 2 ^ 40) ∧ ∀ X111 : List (Nat) → Int → Prop, (∀ (out112 : List (Nat)) (i113 : Int), ((i113 < (l0.length : Int) → (0 ≤ i113 ∧ i113 < (l0.length : Int)) ∧ (0 ≤ i113 ∧ i113 < (out112.length : Int)) ∧ X111 (out112.set (i113).toNat (l0.getD (i113).toNat (0 : Nat))) (IntKind.i64.wrap (i113 + (1 : Int)))) ∧ (¬(i113 < (l0.length : Int)) → K (out112))) → X111 out112 i113) → X111 (List.replicate ((l0.length : Int)).toNat (0 : Nat)) (0 : Int)
end Go.Proofs.Ytkaidcgelbhofaa.G

namespace Go.Proofs.Ytkaidcgelbhofaa.G
open Go Go.Ab
set_option maxRecDepth 100000
set_option linter.unusedVariables false
set_option linter.unusedSimpArgs false
set_option maxHeartbeats 1000000
def laws_toInt64S.wp (l0 : List (Int)) (K : (List (Int)) → Prop) : Prop := (0 ≤ (l0.length : Int) ∧ (l0.length : Int) ≤ (l0.length : Int) ∧ (l0.length : Int) ≤ 2 ^ 40 ∧ (l0.length : Int) * 8 ≤ 2 ^ 40) ∧ ∀ X111 : List (Int) → Int → Prop, (∀ (out112 : List (Int)) (i113 : Int), ((i113 < (l0.length : Int) → (0 ≤ i113 ∧ i113 < (l0.length : Int)) ∧ (0 ≤ i113 ∧ i113 < (out112.length : Int)) ∧ X111 (out112.set (i113).toNat (l0.getD (i113).toNat (0 : Int))) (IntKind.i64.wrap (i113 + (1 : Int)))) ∧ (¬(i113 < (l0.length : Int)) → K (out112))) → X111 out112 i113) → X111 (List.replicate ((l0.length : Int)).toNat (0 : Int)) (0 : Int)
end Go.Proofs.Ytkaidcgelbhofaa.G

namespace Go.Proofs.Ytkaidcgelbhofaa.G
open Go Go.Ab
set_option maxRecDepth 100000
set_option linter.unusedVariables false
set_option linter.unusedSimpArgs false
set_option maxHeartbeats 1000000
def laws_toBoolS.wp (l0 : List (Bool)) (K : (List (Bool)) → Prop) : Prop := (0 ≤ (l0.length : Int) ∧ (l0.length : Int) ≤ (l0.length : Int) ∧ (l0.length : Int) ≤ 2 ^ 40 ∧ (l0.length : Int) * 1 ≤ 2 ^ 40) ∧ ∀ X111 : List (Bool) → Int → Prop, (∀ (out112 : List (Bool)) (i113 : Int), ((i113 < (l0.length : Int) → (0 ≤ i113 ∧ i113 < (l0.length : Int)) ∧ (0 ≤ i113 ∧ i113 < (out112.length : Int)) ∧ X111 (out112.set (i113).toNat (l0.getD (i113).toNat false)) (IntKind.i64.wrap (i113 + (1 : Int)))) ∧ (¬(i113 < (l0.length : Int)) → K (out112))) → X111 out112 i113) → X111 (List.replicate ((l0.length : Int)).toNat false) (0 : Int)
end Go.Proofs.Ytkaidcgelbhofaa.G

namespace Go.Proofs.Ytkaidcgelbhofaa.G
open Go Go.Ab
set_option maxRecDepth 100000
set_option linter.unusedVariables false
set_option linter.unusedSimpArgs false
set_option maxHeartbeats 1000000
def laws_eqBoolS.wp (l0 : List (Bool)) (l1 : List (Bool)) (K : Bool → Prop) : Prop := (((l0.length : Int) = (l1.length : Int) → ∀ X102 : Int → Prop, (∀ (i103 : Int), ((i103 < (l0.length : Int) → (0 ≤ i103 ∧ i103 < (l0.length : Int)) ∧ (0 ≤ i103 ∧ i103 < (l1.length : Int)) ∧ ((((l0.getD (i103).toNat false) == (l1.getD (i103).toNat false)) = true → X102 (IntKind.i64.wrap (i103 + (1 : Int)))) ∧ (((l0.getD (i103).toNat false) == (l1.getD (i103).toNat false)) = false → K (false)))) ∧ (¬(i103 < (l0.length : Int)) → K (true))) → X102 i103) → X102 (0 : Int)) ∧ (¬((l0.length : Int) = (l1.length : Int)) → K (false)))
end Go.Proofs.Ytkaidcgelbhofaa.G

namespace Go.Proofs.Ytkaidcgelbhofaa.G
open Go Go.Ab
set_option maxRecDepth 100000
set_option linter.unusedVariables false
set_option linter.unusedSimpArgs false
set_option maxHeartbeats 1000000
def spec_l01Finite.wp (a0 : Nat) (K : Bool → Prop) : Prop := K (fcmp .eql .f32 (fop .sub .f32 a0 a0) (cz .f32 0))
end Go.Proofs.Ytkaidcgelbhofaa.G

namespace Go.Proofs.Ytkaidcgelbhofaa.G
open Go Go.Ab
set_option maxRecDepth 100000
set_option linter.unusedVariables false
set_option linter.unusedSimpArgs false
set_option maxHeartbeats 1000000
def impl_IsFinite.wp (a0 : Nat) (K : Bool → Prop) : Prop := K (fcmp .eql .f32 (fop .sub .f32 a0 a0) (cz .f32 0))
end Go.Proofs.Ytkaidcgelbhofaa.G

namespace Go.Proofs.Ytkaidcgelbhofaa.G
open Go Go.Ab
set_option maxRecDepth 100000
set_option linter.unusedVariables false
set_option linter.unusedSimpArgs false
set_option maxHeartbeats 1000000
def impl_isLeast.wp (a0 : Nat) (K : Bool → Prop) : Prop := impl_IsFinite.wp a0 fun y101 => ((y101 = true → K (fcmp .geq .f32 a0 (cz .f32 0))) ∧ (y101 = false → K (false)))
end Go.Proofs.Ytkaidcgelbhofaa.G

namespace Go.Proofs.Ytkaidcgelbhofaa.G
open Go Go.Ab
set_option maxRecDepth 100000
set_option linter.unusedVariables false
set_option linter.unusedSimpArgs false
set_option maxHeartbeats 1000000
def impl_areFinite.wp (l0 : List (List (Nat))) (K : Bool → Prop) : Prop := ∀ X101 : Int → Prop, (∀ (x102 : Int), ((x102 < (l0.length : Int) → (0 ≤ x102 ∧ x102 < (l0.length : Int)) ∧ ∀ X105 : Int → Prop, (∀ (x106 : Int), ((x106 < ((l0.getD (x102).toNat ([] : List (Nat))).length : Int) → (0 ≤ x106 ∧ x106 < ((l0.getD (x102).toNat ([] : List (Nat))).length : Int)) ∧ impl_IsFinite.wp ((l0.getD (x102).toNat ([] : List (Nat))).getD (x106).toNat (0 : Nat)) fun y109 => ((y109 = true → X105 (IntKind.i64.wrap (x106 + (1 : Int)))) ∧ (y109 = false → K (false)))) ∧ (¬(x106 < ((l0.getD (x102).toNat ([] : List (Nat))).length : Int)) → X101 (IntKind.i64.wrap (x102 + (1 : Int))))) → X105 x106) → X105 (0 : Int)) ∧ (¬(x102 < (l0.length : Int)) → K (true))) → X101 x102) → X101 (0 : Int)
end Go.Proofs.Ytkaidcgelbhofaa.G

namespace Go.Proofs.Ytkaidcgelbhofaa.G
open Go Go.Ab
set_option maxRecDepth 100000
set_option linter.unusedVariables false
set_option linter.unusedSimpArgs false
set_option maxHeartbeats 1000000
def impl_IsList.wp (l0 : List (Nat)) (K : Bool → Prop) : Prop := impl_within.wp (l0.length : Int) (1 : Int) (128 : Int) fun y101 => ((y101 = true → impl_areFinite.wp ([l0] : List (List (Nat))) fun y107 => K (y107)) ∧ (y101 = false → K (false)))
end Go.Proofs.Ytkaidcgelbhofaa.G

namespace Go.Proofs.Ytkaidcgelbhofaa.G
open Go Go.Ab
set_option maxRecDepth 100000
set_option linter.unusedVariables false
set_option linter.unusedSimpArgs false
set_option maxHeartbeats 1000000
def impl_isShare.wp (a0 : Nat) (K : Bool → Prop) : Prop := (((fcmp .geq .f32 a0 (cz .f32 0)) = true → K (fcmp .leq .f32 a0 (cz .f32 1065353216))) ∧ ((fcmp .geq .f32 a0 (cz .f32 0)) = false → K (false)))
end Go.Proofs.Ytkaidcgelbhofaa.G

namespace Go.Proofs.Ytkaidcgelbhofaa.G
open Go Go.Ab
set_option maxRecDepth 100000
set_option linter.unusedVariables false
set_option linter.unusedSimpArgs false
set_option maxHeartbeats 1000000
def spec_l02Least.wp (a0 : Nat) (K : Bool → Prop) : Prop := spec_l01Finite.wp a0 fun y101 => ((y101 = true → K (fcmp .geq .f32 a0 (cz .f32 0))) ∧ (y101 = false → K (false)))
end Go.Proofs.Ytkaidcgelbhofaa.G

namespace Go.Proofs.Ytkaidcgelbhofaa.G
open Go Go.Ab
set_option maxRecDepth 100000
set_option linter.unusedVariables false
set_option linter.unusedSimpArgs false
set_option maxHeartbeats 1000000
def spec_l02Share.wp (a0 : Nat) (K : Bool → Prop) : Prop := (((fcmp .geq .f32 a0 (cz .f32 0)) = true → K (fcmp .leq .f32 a0 (cz .f32 1065353216))) ∧ ((fcmp .geq .f32 a0 (cz .f32 0)) = false → K (false)))
end Go.Proofs.Ytkaidcgelbhofaa.G

namespace Go.Proofs.Ytkaidcgelbhofaa.G
open Go Go.Ab
set_option maxRecDepth 100000
set_option linter.unusedVariables false
set_option linter.unusedSimpArgs false
set_option maxHeartbeats 1000000
def spec_l02Bound.wp (l0 : List (Int)) (a1 : Int) (K : Bool → Prop) : Prop := ∀ X101 : Int → Prop, (∀ (i102 : Int), ((i102 < (l0.length : Int) → (0 ≤ i102 ∧ i102 < (l0.length : Int)) ∧ spec_l00In.wp (l0.getD (i102).toNat (0 : Int)) (IntKind.i64.wrap (0 - a1)) a1 fun y105 => ((y105 = true → X101 (IntKind.i64.wrap (i102 + (1 : Int)))) ∧ (y105 = false → K (false)))) ∧ (¬(i102 < (l0.length : Int)) → K (true))) → X101 i102) → X101 (0 : Int)
end Go.Proofs.Ytkaidcgelbhofaa.G

namespace Go.Proofs.Ytkaidcgelbhofaa.G
open Go Go.Ab
set_option maxRecDepth 100000
set_option linter.unusedVariables false
set_option linter.unusedSimpArgs false
set_option maxHeartbeats 1000000
def impl_areWithin.wp (l0 : List (Int)) (a1 : Int) (K : Bool → Prop) : Prop := ∀ X101 : Int → Prop, (∀ (x102 : Int), ((x102 < (l0.length : Int) → (0 ≤ x102 ∧ x102 < (l0.length : Int)) ∧ impl_within.wp (l0.getD (x102).toNat (0 : Int)) (IntKind.i64.wrap (0 - a1)) a1 fun y105 => ((y105 = true → X101 (IntKind.i64.wrap (x102 + (1 : Int)))) ∧ (y105 = false → K (false)))) ∧ (¬(x102 < (l0.length : Int)) → K (true))) → X101 x102) → X101 (0 : Int)
end Go.Proofs.Ytkaidcgelbhofaa.G

namespace Go.Proofs.Ytkaidcgelbhofaa.G
open Go Go.Ab
set_option maxRecDepth 100000
set_option linter.unusedVariables false
set_option linter.unusedSimpArgs false
set_option maxHeartbeats 1000000
def spec_l02Finite.wp (l0 : List (Nat)) (K : Bool → Prop) : Prop := ∀ X101 : Int → Prop, (∀ (i102 : Int), ((i102 < (l0.length : Int) → (0 ≤ i102 ∧ i102 < (l0.length : Int)) ∧ spec_l01Finite.wp (l0.getD (i102).toNat (0 : Nat)) fun y105 => ((y105 = true → X101 (IntKind.i64.wrap (i102 + (1 : Int)))) ∧ (y105 = false → K (false)))) ∧ (¬(i102 < (l0.length : Int)) → K (true))) → X101 i102) → X101 (0 : Int)
end Go.Proofs.Ytkaidcgelbhofaa.G

namespace Go.Proofs.Ytkaidcgelbhofaa.G
open Go Go.Ab
set_option maxRecDepth 100000
set_option linter.unusedVariables false
set_option linter.unusedSimpArgs false
set_option maxHeartbeats 1000000
def spec_l02Is.wp (l0 : List (Nat)) (K : Bool → Prop) : Prop := (((1 : Int) ≤ (l0.length : Int) → (((l0.length : Int) ≤ (128 : Int) → spec_l02Finite.wp l0 fun y103 => K (y103)) ∧ (¬((l0.length : Int) ≤ (128 : Int)) → K (false)))) ∧ (¬((1 : Int) ≤ (l0.length : Int)) → K (false)))
end Go.Proofs.Ytkaidcgelbhofaa.G

namespace Go.Proofs.Ytkaidcgelbhofaa.G
open Go Go.Ab
set_option maxRecDepth 100000
set_option linter.unusedVariables false
set_option linter.unusedSimpArgs false
set_option maxHeartbeats 1000000
def spec_l02List.wp (l0 : List (Nat)) (K : Bool → Bool → Prop) : Prop := spec_l02Finite.wp l0 fun y101 => ((y101 = true → K (true) (true)) ∧ (y101 = false → K (false) (false)))
end Go.Proofs.Ytkaidcgelbhofaa.G

namespace Go.Proofs.Ytkaidcgelbhofaa.G
open Go Go.Ab
set_option maxRecDepth 100000
set_option linter.unusedVariables false
set_option linter.unusedSimpArgs false
set_option maxHeartbeats 1000000
def spec_l02Integers.wp (l0 : List (Int)) (K : Bool → Prop) : Prop := (((1 : Int) ≤ (l0.length : Int) → (((l0.length : Int) ≤ (128 : Int) → spec_l02Bound.wp l0 (1000000 : Int) fun y103 => K (y103)) ∧ (¬((l0.length : Int) ≤ (128 : Int)) → K (false)))) ∧ (¬((1 : Int) ≤ (l0.length : Int)) → K (false)))
end Go.Proofs.Ytkaidcgelbhofaa.G

namespace Go.Proofs.Ytkaidcgelbhofaa.G
open Go Go.Ab
set_option maxRecDepth 100000
set_option linter.unusedVariables false
set_option linter.unusedSimpArgs false
set_option maxHeartbeats 1000000
def impl_AreIntegers.wp (l0 : List (Int)) (K : Bool → Prop) : Prop := impl_within.wp (l0.length : Int) (1 : Int) (128 : Int) fun y101 => ((y101 = true → impl_areWithin.wp l0 (1000000 : Int) fun y104 => K (y104)) ∧ (y101 = false → K (false)))
end Go.Proofs.Ytkaidcgelbhofaa.G

namespace Go.Proofs.Ytkaidcgelbhofaa.G
open Go Go.Ab
set_option maxRecDepth 100000
set_option linter.unusedVariables false
set_option linter.unusedSimpArgs false
set_option maxHeartbeats 1000000
def spec_l02Above.wp (a0 : Nat) (K : Bool → Prop) : Prop := spec_l01Finite.wp a0 fun y101 => ((y101 = true → K (fcmp .gtr .f32 a0 (cz .f32 0))) ∧ (y101 = false → K (false)))
end Go.Proofs.Ytkaidcgelbhofaa.G

namespace Go.Proofs.Ytkaidcgelbhofaa.G
open Go Go.Ab
set_option maxRecDepth 100000
set_option linter.unusedVariables false
set_option linter.unusedSimpArgs false
set_option maxHeartbeats 1000000
def impl_isOver.wp (a0 : Nat) (K : Bool → Prop) : Prop := impl_IsFinite.wp a0 fun y101 => ((y101 = true → K (fcmp .gtr .f32 a0 (cz .f32 0))) ∧ (y101 = false → K (false)))
end Go.Proofs.Ytkaidcgelbhofaa.G

namespace Go.Proofs.Ytkaidcgelbhofaa.G
open Go Go.Ab
set_option maxRecDepth 100000
set_option linter.unusedVariables false
set_option linter.unusedSimpArgs false
set_option maxHeartbeats 1000000
def impl_finiteList.wp (l0 : List (Nat)) (K : Bool → Bool → Prop) : Prop := impl_areFinite.wp ([l0] : List (List (Nat))) fun y104 => ((y104 = true → K (true) (true)) ∧ (y104 = false → K (false) (false)))
end Go.Proofs.Ytkaidcgelbhofaa.G

namespace Go.Proofs.Ytkaidcgelbhofaa.G
open Go Go.Ab
set_option maxRecDepth 100000
set_option linter.unusedVariables false
set_option linter.unusedSimpArgs false
set_option maxHeartbeats 1000000
def laws_szFloat32S.wp (l0 : List (Nat)) (a1 : Int) (K : Int → Prop) : Prop := (((IntKind.i64.wrap (a1 - (l0.length : Int))) < (0 : Int) → K (-1 : Int)) ∧ (¬((IntKind.i64.wrap (a1 - (l0.length : Int))) < (0 : Int)) → K (IntKind.i64.wrap (a1 - (l0.length : Int)))))
end Go.Proofs.Ytkaidcgelbhofaa.G

