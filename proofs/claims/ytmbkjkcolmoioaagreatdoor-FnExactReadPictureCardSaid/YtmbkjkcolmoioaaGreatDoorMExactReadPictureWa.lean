/-
  What the functions compute, as formulas over numbers and lists. Printed by a program of the session; nothing here is trusted.
-/
import Derived.Test.YtmbkjkcolmoioaaGreatDoorAbG
namespace Go.Proofs.YtmbkjkcolmoioaaGreatDoor.G
open Go Go.Ab
set_option maxRecDepth 100000
set_option linter.unusedVariables false
set_option linter.unusedSimpArgs false
set_option maxHeartbeats 1000000
def R_LeFlt_f32_o (H : Heap) (x : List (Nat)) (c : List AV) : Prop := c = [(c.getD 0 .und)] ∧ Shows H (c.getD 0 .und) 1 (enc (eFlt .f32) x)
end Go.Proofs.YtmbkjkcolmoioaaGreatDoor.G

namespace Go.Proofs.YtmbkjkcolmoioaaGreatDoor.G
open Go Go.Ab
set_option maxRecDepth 100000
set_option linter.unusedVariables false
set_option linter.unusedSimpArgs false
set_option maxHeartbeats 1000000
def spec_l01Cut.wp (a0 : List UInt8) (a1 : Int) (K : (List (List UInt8)) → Prop) : Prop := ∀ X127 : List (List UInt8) → Int → Int → Prop, (∀ (out128 : List (List UInt8)) (fromq130 : Int) (i131 : Int), ((i131 ≤ (a0.length : Int) → ((i131 = (a0.length : Int) → (0 ≤ fromq130 ∧ fromq130 ≤ i131 ∧ i131 ≤ (a0.length : Int)) ∧ ((out128.length + ([((a0.drop (fromq130).toNat).take ((i131).toNat - (fromq130).toNat))] : List (List UInt8)).length) * 16 ≤ 2 ^ 40) ∧ X127 (out128 ++ ([((a0.drop (fromq130).toNat).take ((i131).toNat - (fromq130).toNat))] : List (List UInt8))) (IntKind.i64.wrap (i131 + (1 : Int))) (IntKind.i64.wrap (i131 + (1 : Int)))) ∧ (¬(i131 = (a0.length : Int)) → (0 ≤ i131 ∧ i131 < (a0.length : Int)) ∧ (((bt a0 i131) = a1 → (0 ≤ fromq130 ∧ fromq130 ≤ i131 ∧ i131 ≤ (a0.length : Int)) ∧ ((out128.length + ([((a0.drop (fromq130).toNat).take ((i131).toNat - (fromq130).toNat))] : List (List UInt8)).length) * 16 ≤ 2 ^ 40) ∧ X127 (out128 ++ ([((a0.drop (fromq130).toNat).take ((i131).toNat - (fromq130).toNat))] : List (List UInt8))) (IntKind.i64.wrap (i131 + (1 : Int))) (IntKind.i64.wrap (i131 + (1 : Int)))) ∧ (¬((bt a0 i131) = a1) → X127 (out128) (fromq130) (IntKind.i64.wrap (i131 + (1 : Int)))))))) ∧ (¬(i131 ≤ (a0.length : Int)) → K (out128))) → X127 out128 fromq130 i131) → X127 ([] : List (List UInt8)) (0 : Int) (0 : Int)
end Go.Proofs.YtmbkjkcolmoioaaGreatDoor.G

namespace Go.Proofs.YtmbkjkcolmoioaaGreatDoor.G
open Go Go.Ab
set_option maxRecDepth 100000
set_option linter.unusedVariables false
set_option linter.unusedSimpArgs false
set_option maxHeartbeats 1000000
def spec_l00In.wp (a0 : Int) (a1 : Int) (a2 : Int) (K : Bool → Prop) : Prop := ((a1 ≤ a0 → K (decide (a0 ≤ a2))) ∧ (¬(a1 ≤ a0) → K (false)))
end Go.Proofs.YtmbkjkcolmoioaaGreatDoor.G

namespace Go.Proofs.YtmbkjkcolmoioaaGreatDoor.G
open Go Go.Ab
set_option maxRecDepth 100000
set_option linter.unusedVariables false
set_option linter.unusedSimpArgs false
set_option maxHeartbeats 1000000
def spec_l01Dec.wp (a0 : Int) (K : (List UInt8) → Prop) : Prop := ∀ X104 : List (Int) → Int → Prop, (∀ (out105 : List (Int)) (rest107 : Int), (((out105.length : Int) = (0 : Int) → (((Int.tmod rest107 (10 : Int)) < (0 : Int) → ((([(IntKind.u8.wrap (IntKind.i64.wrap ((48 : Int) + (IntKind.i64.wrap (0 - (Int.tmod rest107 (10 : Int)))))))] : List (Int)).length + out105.length) * 1 ≤ 2 ^ 40) ∧ X104 (([(IntKind.u8.wrap (IntKind.i64.wrap ((48 : Int) + (IntKind.i64.wrap (0 - (Int.tmod rest107 (10 : Int)))))))] : List (Int)) ++ out105) (IntKind.i64.wrap (Int.tdiv rest107 (10 : Int)))) ∧ (¬((Int.tmod rest107 (10 : Int)) < (0 : Int)) → ((([(IntKind.u8.wrap (IntKind.i64.wrap ((48 : Int) + (Int.tmod rest107 (10 : Int)))))] : List (Int)).length + out105.length) * 1 ≤ 2 ^ 40) ∧ X104 (([(IntKind.u8.wrap (IntKind.i64.wrap ((48 : Int) + (Int.tmod rest107 (10 : Int)))))] : List (Int)) ++ out105) (IntKind.i64.wrap (Int.tdiv rest107 (10 : Int)))))) ∧ (¬((out105.length : Int) = (0 : Int)) → ((rest107 = (0 : Int) → ((a0 < (0 : Int) → ((([(45 : Int)] : List (Int)).length + out105.length) * 1 ≤ 2 ^ 40) ∧ K (byts (([(45 : Int)] : List (Int)) ++ out105))) ∧ (¬(a0 < (0 : Int)) → K (byts out105)))) ∧ (¬(rest107 = (0 : Int)) → (((Int.tmod rest107 (10 : Int)) < (0 : Int) → ((([(IntKind.u8.wrap (IntKind.i64.wrap ((48 : Int) + (IntKind.i64.wrap (0 - (Int.tmod rest107 (10 : Int)))))))] : List (Int)).length + out105.length) * 1 ≤ 2 ^ 40) ∧ X104 (([(IntKind.u8.wrap (IntKind.i64.wrap ((48 : Int) + (IntKind.i64.wrap (0 - (Int.tmod rest107 (10 : Int)))))))] : List (Int)) ++ out105) (IntKind.i64.wrap (Int.tdiv rest107 (10 : Int)))) ∧ (¬((Int.tmod rest107 (10 : Int)) < (0 : Int)) → ((([(IntKind.u8.wrap (IntKind.i64.wrap ((48 : Int) + (Int.tmod rest107 (10 : Int)))))] : List (Int)).length + out105.length) * 1 ≤ 2 ^ 40) ∧ X104 (([(IntKind.u8.wrap (IntKind.i64.wrap ((48 : Int) + (Int.tmod rest107 (10 : Int)))))] : List (Int)) ++ out105) (IntKind.i64.wrap (Int.tdiv rest107 (10 : Int))))))))) → X104 out105 rest107) → X104 ([] : List (Int)) (a0)
end Go.Proofs.YtmbkjkcolmoioaaGreatDoor.G

namespace Go.Proofs.YtmbkjkcolmoioaaGreatDoor.G
open Go Go.Ab
set_option maxRecDepth 100000
set_option linter.unusedVariables false
set_option linter.unusedSimpArgs false
set_option maxHeartbeats 1000000
def spec_l01Value.wp (a0 : List UInt8) (K : Int → Bool → Prop) : Prop := (((a0.length : Int) < (1 : Int) → K (0 : Int) (false)) ∧ (¬((a0.length : Int) < (1 : Int)) → (((17 : Int) < (a0.length : Int) → K (0 : Int) (false)) ∧ (¬((17 : Int) < (a0.length : Int)) → ∀ X103 : Int → Int → Prop, (∀ (n104 : Int) (i105 : Int), ((i105 < (a0.length : Int) → (0 ≤ i105 ∧ i105 < (a0.length : Int)) ∧ (((48 : Int) ≤ (bt a0 i105) → (((bt a0 i105) ≤ (57 : Int) → X103 (IntKind.i64.wrap ((IntKind.i64.wrap ((10 : Int) * n104)) + (IntKind.i64.wrap (IntKind.u8.wrap ((bt a0 i105) - (48 : Int)))))) (IntKind.i64.wrap (i105 + (1 : Int)))) ∧ (¬((bt a0 i105) ≤ (57 : Int)) → X103 (n104) (IntKind.i64.wrap (i105 + (1 : Int)))))) ∧ (¬((48 : Int) ≤ (bt a0 i105)) → X103 (n104) (IntKind.i64.wrap (i105 + (1 : Int)))))) ∧ (¬(i105 < (a0.length : Int)) → (0 ≤ (0 : Int) ∧ (0 : Int) < (a0.length : Int)) ∧ (((bt a0 (0 : Int)) = (45 : Int) → spec_l00In.wp (IntKind.i64.wrap (0 - n104)) (-1000000000000000 : Int) (1000000000000000 : Int) fun y112 => ((y112 = true → spec_l01Dec.wp (IntKind.i64.wrap (0 - n104)) fun y115 => ((y115 = a0 → K (IntKind.i64.wrap (0 - n104)) (true)) ∧ (¬(y115 = a0) → K (0 : Int) (false)))) ∧ (y112 = false → K (0 : Int) (false)))) ∧ (¬((bt a0 (0 : Int)) = (45 : Int)) → spec_l00In.wp n104 (-1000000000000000 : Int) (1000000000000000 : Int) fun y118 => ((y118 = true → spec_l01Dec.wp n104 fun y121 => ((y121 = a0 → K (n104) (true)) ∧ (¬(y121 = a0) → K (0 : Int) (false)))) ∧ (y118 = false → K (0 : Int) (false))))))) → X103 n104 i105) → X103 (0 : Int) (0 : Int)))))
end Go.Proofs.YtmbkjkcolmoioaaGreatDoor.G

namespace Go.Proofs.YtmbkjkcolmoioaaGreatDoor.G
open Go Go.Ab
set_option maxRecDepth 100000
set_option linter.unusedVariables false
set_option linter.unusedSimpArgs false
set_option maxHeartbeats 1000000
def spec_l01Numbers.wp (a0 : List UInt8) (K : (List (Int)) → Bool → Prop) : Prop := ((a0 = ([110, 111, 110, 101] : List UInt8) → K ([] : List (Int)) (true)) ∧ (¬(a0 = ([110, 111, 110, 101] : List UInt8)) → spec_l01Cut.wp a0 (44 : Int) fun y105 => (((64 : Int) < (y105.length : Int) → K ([] : List (Int)) (false)) ∧ (¬((64 : Int) < (y105.length : Int)) → ∀ X126 : List (Int) → Int → Prop, (∀ (out127 : List (Int)) (i129 : Int), ((i129 < (y105.length : Int) → (0 ≤ i129 ∧ i129 < (y105.length : Int)) ∧ spec_l01Value.wp (y105.getD (i129).toNat ([] : List UInt8)) fun y132 y133 => ((y133 = true → ((out127.length + ([y132] : List (Int)).length) * 8 ≤ 2 ^ 40) ∧ X126 (out127 ++ ([y132] : List (Int))) (IntKind.i64.wrap (i129 + (1 : Int)))) ∧ (y133 = false → K ([] : List (Int)) (false)))) ∧ (¬(i129 < (y105.length : Int)) → K (out127) (true))) → X126 out127 i129) → X126 ([] : List (Int)) (0 : Int)))))
end Go.Proofs.YtmbkjkcolmoioaaGreatDoor.G

namespace Go.Proofs.YtmbkjkcolmoioaaGreatDoor.G
open Go Go.Ab
set_option maxRecDepth 100000
set_option linter.unusedVariables false
set_option linter.unusedSimpArgs false
set_option maxHeartbeats 1000000
def math_Float32frombits.wp (x : Int) (K : Nat → Prop) : Prop := K (cz .f32 x.toNat)
end Go.Proofs.YtmbkjkcolmoioaaGreatDoor.G

namespace Go.Proofs.YtmbkjkcolmoioaaGreatDoor.G
open Go Go.Ab
set_option maxRecDepth 100000
set_option linter.unusedVariables false
set_option linter.unusedSimpArgs false
set_option maxHeartbeats 1000000
def spec_l01From.wp (a0 : Int) (K : Nat → Prop) : Prop := math_Float32frombits.wp (IntKind.u32.wrap a0) fun y101 => K (y101)
end Go.Proofs.YtmbkjkcolmoioaaGreatDoor.G

namespace Go.Proofs.YtmbkjkcolmoioaaGreatDoor.G
open Go Go.Ab
set_option maxRecDepth 100000
set_option linter.unusedVariables false
set_option linter.unusedSimpArgs false
set_option maxHeartbeats 1000000
def math_Float32bits.wp (x : Nat) (K : Int → Prop) : Prop := (num .f32 x = true) ∧ K (x : Int)
end Go.Proofs.YtmbkjkcolmoioaaGreatDoor.G

namespace Go.Proofs.YtmbkjkcolmoioaaGreatDoor.G
open Go Go.Ab
set_option maxRecDepth 100000
set_option linter.unusedVariables false
set_option linter.unusedSimpArgs false
set_option maxHeartbeats 1000000
def spec_l01Bits.wp (a0 : Nat) (K : Int → Prop) : Prop := (((fcmp .neq .f32 a0 a0) = true → K (2143289344 : Int)) ∧ ((fcmp .neq .f32 a0 a0) = false → math_Float32bits.wp a0 fun y102 => K (IntKind.i64.wrap y102)))
end Go.Proofs.YtmbkjkcolmoioaaGreatDoor.G

namespace Go.Proofs.YtmbkjkcolmoioaaGreatDoor.G
open Go Go.Ab
set_option maxRecDepth 100000
set_option linter.unusedVariables false
set_option linter.unusedSimpArgs false
set_option maxHeartbeats 1000000
def spec_l01NRead.wp (a0 : List UInt8) (K : (List (Nat)) → Bool → Prop) : Prop := ((a0 = ([110, 111, 110, 101] : List UInt8) → K ([] : List (Nat)) (true)) ∧ (¬(a0 = ([110, 111, 110, 101] : List UInt8)) → spec_l01Cut.wp a0 (44 : Int) fun y105 => (((256 : Int) < (y105.length : Int) → K ([] : List (Nat)) (false)) ∧ (¬((256 : Int) < (y105.length : Int)) → ∀ X152 : List (Nat) → Int → Prop, (∀ (out153 : List (Nat)) (i155 : Int), ((i155 < (y105.length : Int) → (0 ≤ i155 ∧ i155 < (y105.length : Int)) ∧ ((((y105.getD (i155).toNat ([] : List UInt8)).length : Int) = (8 : Int) → ∀ X159 : Int → Int → Prop, (∀ (n160 : Int) (k161 : Int), ((k161 < (8 : Int) → (0 ≤ k161 ∧ k161 < ((y105.getD (i155).toNat ([] : List UInt8)).length : Int)) ∧ (((48 : Int) ≤ (bt (y105.getD (i155).toNat ([] : List UInt8)) k161) → (((bt (y105.getD (i155).toNat ([] : List UInt8)) k161) ≤ (57 : Int) → (((97 : Int) ≤ (bt (y105.getD (i155).toNat ([] : List UInt8)) k161) → (((bt (y105.getD (i155).toNat ([] : List UInt8)) k161) ≤ (102 : Int) → (((IntKind.i64.wrap ((IntKind.i64.wrap (IntKind.u8.wrap ((bt (y105.getD (i155).toNat ([] : List UInt8)) k161) - (97 : Int)))) + (10 : Int))) < (0 : Int) → K ([] : List (Nat)) (false)) ∧ (¬((IntKind.i64.wrap ((IntKind.i64.wrap (IntKind.u8.wrap ((bt (y105.getD (i155).toNat ([] : List UInt8)) k161) - (97 : Int)))) + (10 : Int))) < (0 : Int)) → X159 (IntKind.i64.wrap ((IntKind.i64.wrap ((16 : Int) * n160)) + (IntKind.i64.wrap ((IntKind.i64.wrap (IntKind.u8.wrap ((bt (y105.getD (i155).toNat ([] : List UInt8)) k161) - (97 : Int)))) + (10 : Int))))) (IntKind.i64.wrap (k161 + (1 : Int)))))) ∧ (¬((bt (y105.getD (i155).toNat ([] : List UInt8)) k161) ≤ (102 : Int)) → (((IntKind.i64.wrap (IntKind.u8.wrap ((bt (y105.getD (i155).toNat ([] : List UInt8)) k161) - (48 : Int)))) < (0 : Int) → K ([] : List (Nat)) (false)) ∧ (¬((IntKind.i64.wrap (IntKind.u8.wrap ((bt (y105.getD (i155).toNat ([] : List UInt8)) k161) - (48 : Int)))) < (0 : Int)) → X159 (IntKind.i64.wrap ((IntKind.i64.wrap ((16 : Int) * n160)) + (IntKind.i64.wrap (IntKind.u8.wrap ((bt (y105.getD (i155).toNat ([] : List UInt8)) k161) - (48 : Int)))))) (IntKind.i64.wrap (k161 + (1 : Int)))))))) ∧ (¬((97 : Int) ≤ (bt (y105.getD (i155).toNat ([] : List UInt8)) k161)) → (((IntKind.i64.wrap (IntKind.u8.wrap ((bt (y105.getD (i155).toNat ([] : List UInt8)) k161) - (48 : Int)))) < (0 : Int) → K ([] : List (Nat)) (false)) ∧ (¬((IntKind.i64.wrap (IntKind.u8.wrap ((bt (y105.getD (i155).toNat ([] : List UInt8)) k161) - (48 : Int)))) < (0 : Int)) → X159 (IntKind.i64.wrap ((IntKind.i64.wrap ((16 : Int) * n160)) + (IntKind.i64.wrap (IntKind.u8.wrap ((bt (y105.getD (i155).toNat ([] : List UInt8)) k161) - (48 : Int)))))) (IntKind.i64.wrap (k161 + (1 : Int)))))))) ∧ (¬((bt (y105.getD (i155).toNat ([] : List UInt8)) k161) ≤ (57 : Int)) → (((97 : Int) ≤ (bt (y105.getD (i155).toNat ([] : List UInt8)) k161) → (((bt (y105.getD (i155).toNat ([] : List UInt8)) k161) ≤ (102 : Int) → (((IntKind.i64.wrap ((IntKind.i64.wrap (IntKind.u8.wrap ((bt (y105.getD (i155).toNat ([] : List UInt8)) k161) - (97 : Int)))) + (10 : Int))) < (0 : Int) → K ([] : List (Nat)) (false)) ∧ (¬((IntKind.i64.wrap ((IntKind.i64.wrap (IntKind.u8.wrap ((bt (y105.getD (i155).toNat ([] : List UInt8)) k161) - (97 : Int)))) + (10 : Int))) < (0 : Int)) → X159 (IntKind.i64.wrap ((IntKind.i64.wrap ((16 : Int) * n160)) + (IntKind.i64.wrap ((IntKind.i64.wrap (IntKind.u8.wrap ((bt (y105.getD (i155).toNat ([] : List UInt8)) k161) - (97 : Int)))) + (10 : Int))))) (IntKind.i64.wrap (k161 + (1 : Int)))))) ∧ (¬((bt (y105.getD (i155).toNat ([] : List UInt8)) k161) ≤ (102 : Int)) → (((-1 : Int) < (0 : Int) → K ([] : List (Nat)) (false)) ∧ (¬((-1 : Int) < (0 : Int)) → X159 (IntKind.i64.wrap ((IntKind.i64.wrap ((16 : Int) * n160)) + (-1 : Int))) (IntKind.i64.wrap (k161 + (1 : Int)))))))) ∧ (¬((97 : Int) ≤ (bt (y105.getD (i155).toNat ([] : List UInt8)) k161)) → (((-1 : Int) < (0 : Int) → K ([] : List (Nat)) (false)) ∧ (¬((-1 : Int) < (0 : Int)) → X159 (IntKind.i64.wrap ((IntKind.i64.wrap ((16 : Int) * n160)) + (-1 : Int))) (IntKind.i64.wrap (k161 + (1 : Int)))))))))) ∧ (¬((48 : Int) ≤ (bt (y105.getD (i155).toNat ([] : List UInt8)) k161)) → (((97 : Int) ≤ (bt (y105.getD (i155).toNat ([] : List UInt8)) k161) → (((bt (y105.getD (i155).toNat ([] : List UInt8)) k161) ≤ (102 : Int) → (((IntKind.i64.wrap ((IntKind.i64.wrap (IntKind.u8.wrap ((bt (y105.getD (i155).toNat ([] : List UInt8)) k161) - (97 : Int)))) + (10 : Int))) < (0 : Int) → K ([] : List (Nat)) (false)) ∧ (¬((IntKind.i64.wrap ((IntKind.i64.wrap (IntKind.u8.wrap ((bt (y105.getD (i155).toNat ([] : List UInt8)) k161) - (97 : Int)))) + (10 : Int))) < (0 : Int)) → X159 (IntKind.i64.wrap ((IntKind.i64.wrap ((16 : Int) * n160)) + (IntKind.i64.wrap ((IntKind.i64.wrap (IntKind.u8.wrap ((bt (y105.getD (i155).toNat ([] : List UInt8)) k161) - (97 : Int)))) + (10 : Int))))) (IntKind.i64.wrap (k161 + (1 : Int)))))) ∧ (¬((bt (y105.getD (i155).toNat ([] : List UInt8)) k161) ≤ (102 : Int)) → (((-1 : Int) < (0 : Int) → K ([] : List (Nat)) (false)) ∧ (¬((-1 : Int) < (0 : Int)) → X159 (IntKind.i64.wrap ((IntKind.i64.wrap ((16 : Int) * n160)) + (-1 : Int))) (IntKind.i64.wrap (k161 + (1 : Int)))))))) ∧ (¬((97 : Int) ≤ (bt (y105.getD (i155).toNat ([] : List UInt8)) k161)) → (((-1 : Int) < (0 : Int) → K ([] : List (Nat)) (false)) ∧ (¬((-1 : Int) < (0 : Int)) → X159 (IntKind.i64.wrap ((IntKind.i64.wrap ((16 : Int) * n160)) + (-1 : Int))) (IntKind.i64.wrap (k161 + (1 : Int)))))))))) ∧ (¬(k161 < (8 : Int)) → spec_l01From.wp n160 fun y181 => spec_l01Bits.wp y181 fun y183 => ((y183 = n160 → ((out153.length + ([y181] : List (Nat)).length) * 4 ≤ 2 ^ 40) ∧ X152 (out153 ++ ([y181] : List (Nat))) (IntKind.i64.wrap (i155 + (1 : Int)))) ∧ (¬(y183 = n160) → K ([] : List (Nat)) (false))))) → X159 n160 k161) → X159 (0 : Int) (0 : Int)) ∧ (¬(((y105.getD (i155).toNat ([] : List UInt8)).length : Int) = (8 : Int)) → K ([] : List (Nat)) (false)))) ∧ (¬(i155 < (y105.length : Int)) → K (out153) (true))) → X152 out153 i155) → X152 ([] : List (Nat)) (0 : Int)))))
end Go.Proofs.YtmbkjkcolmoioaaGreatDoor.G

namespace Go.Proofs.YtmbkjkcolmoioaaGreatDoor.G
open Go Go.Ab
set_option maxRecDepth 100000
set_option linter.unusedVariables false
set_option linter.unusedSimpArgs false
set_option maxHeartbeats 1000000
def spec_l04Sides.wp (a0 : Int) (a1 : Int) (K : Bool → Prop) : Prop := spec_l00In.wp a0 (1 : Int) (16 : Int) fun y101 => ((y101 = true → spec_l00In.wp a1 (1 : Int) (16 : Int) fun y104 => K (y104)) ∧ (y101 = false → K (false)))
end Go.Proofs.YtmbkjkcolmoioaaGreatDoor.G

namespace Go.Proofs.YtmbkjkcolmoioaaGreatDoor.G
open Go Go.Ab
set_option maxRecDepth 100000
set_option linter.unusedVariables false
set_option linter.unusedSimpArgs false
set_option maxHeartbeats 1000000
def spec_l01Finite.wp (a0 : Nat) (K : Bool → Prop) : Prop := K (fcmp .eql .f32 (fop .sub .f32 a0 a0) (cz .f32 0))
end Go.Proofs.YtmbkjkcolmoioaaGreatDoor.G

namespace Go.Proofs.YtmbkjkcolmoioaaGreatDoor.G
open Go Go.Ab
set_option maxRecDepth 100000
set_option linter.unusedVariables false
set_option linter.unusedSimpArgs false
set_option maxHeartbeats 1000000
def spec_l02Finite.wp (l0 : List (Nat)) (K : Bool → Prop) : Prop := ∀ X101 : Int → Prop, (∀ (i102 : Int), ((i102 < (l0.length : Int) → (0 ≤ i102 ∧ i102 < (l0.length : Int)) ∧ spec_l01Finite.wp (l0.getD (i102).toNat (0 : Nat)) fun y105 => ((y105 = true → X101 (IntKind.i64.wrap (i102 + (1 : Int)))) ∧ (y105 = false → K (false)))) ∧ (¬(i102 < (l0.length : Int)) → K (true))) → X101 i102) → X101 (0 : Int)
end Go.Proofs.YtmbkjkcolmoioaaGreatDoor.G

namespace Go.Proofs.YtmbkjkcolmoioaaGreatDoor.G
open Go Go.Ab
set_option maxRecDepth 100000
set_option linter.unusedVariables false
set_option linter.unusedSimpArgs false
set_option maxHeartbeats 1000000
def spec_l04Is.wp (a0 : Int) (a1 : Int) (l2 : List (Nat)) (K : Bool → Prop) : Prop := spec_l04Sides.wp a0 a1 fun y101 => ((y101 = true → (((l2.length : Int) = (IntKind.i64.wrap (a0 * a1)) → spec_l02Finite.wp l2 fun y105 => K (y105)) ∧ (¬((l2.length : Int) = (IntKind.i64.wrap (a0 * a1))) → K (false)))) ∧ (y101 = false → K (false)))
end Go.Proofs.YtmbkjkcolmoioaaGreatDoor.G

namespace Go.Proofs.YtmbkjkcolmoioaaGreatDoor.G
open Go Go.Ab
set_option maxRecDepth 100000
set_option linter.unusedVariables false
set_option linter.unusedSimpArgs false
set_option maxHeartbeats 1000000
def spec_l04Give.wp (a0 : Int) (a1 : Int) (l2 : List (Nat)) (K : Int → Int → Bool → Bool → Prop) : Prop := spec_l04Is.wp a0 a1 l2 fun y107 => ((y107 = true → K (a0) (a1) (true) (true)) ∧ (y107 = false → K (0 : Int) (0 : Int) (false) (false)))
end Go.Proofs.YtmbkjkcolmoioaaGreatDoor.G

namespace Go.Proofs.YtmbkjkcolmoioaaGreatDoor.G
open Go Go.Ab
set_option maxRecDepth 100000
set_option linter.unusedVariables false
set_option linter.unusedSimpArgs false
set_option maxHeartbeats 1000000
def spec_l08ReadPicture.wp (a0 : List UInt8) (K : Int → Int → (List (Nat)) → Bool → Prop) : Prop := spec_l01Cut.wp a0 (59 : Int) fun y104 => (((y104.length : Int) = (2 : Int) → (0 ≤ (0 : Int) ∧ (0 : Int) < (y104.length : Int)) ∧ spec_l01Numbers.wp (y104.getD ((0 : Int)).toNat ([] : List UInt8)) fun y110 y113 => (0 ≤ (1 : Int) ∧ (1 : Int) < (y104.length : Int)) ∧ spec_l01NRead.wp (y104.getD ((1 : Int)).toNat ([] : List UInt8)) fun y116 y119 => ((y113 = true → ((y119 = true → (((y110.length : Int) = (2 : Int) → (0 ≤ (0 : Int) ∧ (0 : Int) < (y110.length : Int)) ∧ (0 ≤ (1 : Int) ∧ (1 : Int) < (y110.length : Int)) ∧ spec_l04Give.wp (y110.getD ((0 : Int)).toNat (0 : Int)) (y110.getD ((1 : Int)).toNat (0 : Int)) y116 fun y126 y127 y128 y129 => ((y128 = true → K (y126) (y127) (y116) (y129)) ∧ (y128 = false → K (y126) (y127) ([] : List (Nat)) (y129)))) ∧ (¬((y110.length : Int) = (2 : Int)) → K (0 : Int) (0 : Int) ([] : List (Nat)) (false)))) ∧ (y119 = false → K (0 : Int) (0 : Int) ([] : List (Nat)) (false)))) ∧ (y113 = false → K (0 : Int) (0 : Int) ([] : List (Nat)) (false)))) ∧ (¬((y104.length : Int) = (2 : Int)) → K (0 : Int) (0 : Int) ([] : List (Nat)) (false)))
end Go.Proofs.YtmbkjkcolmoioaaGreatDoor.G

namespace Go.Proofs.YtmbkjkcolmoioaaGreatDoor.G
open Go Go.Ab
set_option maxRecDepth 100000
set_option linter.unusedVariables false
set_option linter.unusedSimpArgs false
set_option maxHeartbeats 1000000
def spec_ReadPicture.wp (a0 : List UInt8) (K : Int → Int → (List (Nat)) → Bool → Prop) : Prop := spec_l08ReadPicture.wp a0 fun y104 y105 y106 y109 => K (y104) (y105) (y106) (y109)
end Go.Proofs.YtmbkjkcolmoioaaGreatDoor.G

namespace Go.Proofs.YtmbkjkcolmoioaaGreatDoor.G
open Go Go.Ab
set_option maxRecDepth 100000
set_option linter.unusedVariables false
set_option linter.unusedSimpArgs false
set_option maxHeartbeats 1000000
def internal_stringslite_Index.wp (a0 : List UInt8) (a1 : List UInt8) (K : Int → Prop) : Prop := ∃ c, a1 = [c] ∧ K (Lib.indexByte a0 c)
end Go.Proofs.YtmbkjkcolmoioaaGreatDoor.G

namespace Go.Proofs.YtmbkjkcolmoioaaGreatDoor.G
open Go Go.Ab
set_option maxRecDepth 100000
set_option linter.unusedVariables false
set_option linter.unusedSimpArgs false
set_option maxHeartbeats 1000000
def internal_stringslite_Cut.wp (a0 : List UInt8) (a1 : List UInt8) (K : (List UInt8) → (List UInt8) → Bool → Prop) : Prop := internal_stringslite_Index.wp a0 a1 fun y101 => (((0 : Int) ≤ y101 → (0 ≤ (0 : Int) ∧ (0 : Int) ≤ y101 ∧ y101 ≤ (a0.length : Int)) ∧ (0 ≤ (IntKind.i64.wrap (y101 + (a1.length : Int))) ∧ (IntKind.i64.wrap (y101 + (a1.length : Int))) ≤ (a0.length : Int) ∧ (a0.length : Int) ≤ (a0.length : Int)) ∧ K ((a0.drop ((0 : Int)).toNat).take ((y101).toNat - ((0 : Int)).toNat)) ((a0.drop ((IntKind.i64.wrap (y101 + (a1.length : Int)))).toNat).take (((a0.length : Int)).toNat - ((IntKind.i64.wrap (y101 + (a1.length : Int)))).toNat)) (true)) ∧ (¬((0 : Int) ≤ y101) → K (a0) ([] : List UInt8) (false)))
end Go.Proofs.YtmbkjkcolmoioaaGreatDoor.G

namespace Go.Proofs.YtmbkjkcolmoioaaGreatDoor.G
open Go Go.Ab
set_option maxRecDepth 100000
set_option linter.unusedVariables false
set_option linter.unusedSimpArgs false
set_option maxHeartbeats 1000000
def strings_Cut.wp (a0 : List UInt8) (a1 : List UInt8) (K : (List UInt8) → (List UInt8) → Bool → Prop) : Prop := internal_stringslite_Cut.wp a0 a1 fun y101 y102 y103 => K (y101) (y102) (y103)
end Go.Proofs.YtmbkjkcolmoioaaGreatDoor.G

namespace Go.Proofs.YtmbkjkcolmoioaaGreatDoor.G
open Go Go.Ab
set_option maxRecDepth 100000
set_option linter.unusedVariables false
set_option linter.unusedSimpArgs false
set_option maxHeartbeats 1000000
def impl_within.wp (a0 : Int) (a1 : Int) (a2 : Int) (K : Bool → Prop) : Prop := ((a1 ≤ a0 → K (decide (a0 ≤ a2))) ∧ (¬(a1 ≤ a0) → K (false)))
end Go.Proofs.YtmbkjkcolmoioaaGreatDoor.G

namespace Go.Proofs.YtmbkjkcolmoioaaGreatDoor.G
open Go Go.Ab
set_option maxRecDepth 100000
set_option linter.unusedVariables false
set_option linter.unusedSimpArgs false
set_option maxHeartbeats 1000000
def impl_isValue.wp (a0 : Int) (K : Bool → Prop) : Prop := impl_within.wp a0 (-1000000000000000 : Int) (1000000000000000 : Int) fun y101 => K (y101)
end Go.Proofs.YtmbkjkcolmoioaaGreatDoor.G

namespace Go.Proofs.YtmbkjkcolmoioaaGreatDoor.G
open Go Go.Ab
set_option maxRecDepth 100000
set_option linter.unusedVariables false
set_option linter.unusedSimpArgs false
set_option maxHeartbeats 1000000
def internal_strconv_small.wp (a0 : Int) (K : (List UInt8) → Prop) : Prop := ((a0 < (10 : Int) → (0 ≤ a0 ∧ a0 ≤ (IntKind.i64.wrap (a0 + (1 : Int))) ∧ (IntKind.i64.wrap (a0 + (1 : Int))) ≤ (([48, 49, 50, 51, 52, 53, 54, 55, 56, 57, 97, 98, 99, 100, 101, 102, 103, 104, 105, 106, 107, 108, 109, 110, 111, 112, 113, 114, 115, 116, 117, 118, 119, 120, 121, 122] : List UInt8).length : Int)) ∧ K ((([48, 49, 50, 51, 52, 53, 54, 55, 56, 57, 97, 98, 99, 100, 101, 102, 103, 104, 105, 106, 107, 108, 109, 110, 111, 112, 113, 114, 115, 116, 117, 118, 119, 120, 121, 122] : List UInt8).drop (a0).toNat).take (((IntKind.i64.wrap (a0 + (1 : Int)))).toNat - (a0).toNat))) ∧ (¬(a0 < (10 : Int)) → (0 ≤ (IntKind.i64.wrap (a0 * (2 : Int))) ∧ (IntKind.i64.wrap (a0 * (2 : Int))) ≤ (IntKind.i64.wrap ((IntKind.i64.wrap (a0 * (2 : Int))) + (2 : Int))) ∧ (IntKind.i64.wrap ((IntKind.i64.wrap (a0 * (2 : Int))) + (2 : Int))) ≤ (([48, 48, 48, 49, 48, 50, 48, 51, 48, 52, 48, 53, 48, 54, 48, 55, 48, 56, 48, 57, 49, 48, 49, 49, 49, 50, 49, 51, 49, 52, 49, 53, 49, 54, 49, 55, 49, 56, 49, 57, 50, 48, 50, 49, 50, 50, 50, 51, 50, 52, 50, 53, 50, 54, 50, 55, 50, 56, 50, 57, 51, 48, 51, 49, 51, 50, 51, 51, 51, 52, 51, 53, 51, 54, 51, 55, 51, 56, 51, 57, 52, 48, 52, 49, 52, 50, 52, 51, 52, 52, 52, 53, 52, 54, 52, 55, 52, 56, 52, 57, 53, 48, 53, 49, 53, 50, 53, 51, 53, 52, 53, 53, 53, 54, 53, 55, 53, 56, 53, 57, 54, 48, 54, 49, 54, 50, 54, 51, 54, 52, 54, 53, 54, 54, 54, 55, 54, 56, 54, 57, 55, 48, 55, 49, 55, 50, 55, 51, 55, 52, 55, 53, 55, 54, 55, 55, 55, 56, 55, 57, 56, 48, 56, 49, 56, 50, 56, 51, 56, 52, 56, 53, 56, 54, 56, 55, 56, 56, 56, 57, 57, 48, 57, 49, 57, 50, 57, 51, 57, 52, 57, 53, 57, 54, 57, 55, 57, 56, 57, 57] : List UInt8).length : Int)) ∧ K ((([48, 48, 48, 49, 48, 50, 48, 51, 48, 52, 48, 53, 48, 54, 48, 55, 48, 56, 48, 57, 49, 48, 49, 49, 49, 50, 49, 51, 49, 52, 49, 53, 49, 54, 49, 55, 49, 56, 49, 57, 50, 48, 50, 49, 50, 50, 50, 51, 50, 52, 50, 53, 50, 54, 50, 55, 50, 56, 50, 57, 51, 48, 51, 49, 51, 50, 51, 51, 51, 52, 51, 53, 51, 54, 51, 55, 51, 56, 51, 57, 52, 48, 52, 49, 52, 50, 52, 51, 52, 52, 52, 53, 52, 54, 52, 55, 52, 56, 52, 57, 53, 48, 53, 49, 53, 50, 53, 51, 53, 52, 53, 53, 53, 54, 53, 55, 53, 56, 53, 57, 54, 48, 54, 49, 54, 50, 54, 51, 54, 52, 54, 53, 54, 54, 54, 55, 54, 56, 54, 57, 55, 48, 55, 49, 55, 50, 55, 51, 55, 52, 55, 53, 55, 54, 55, 55, 55, 56, 55, 57, 56, 48, 56, 49, 56, 50, 56, 51, 56, 52, 56, 53, 56, 54, 56, 55, 56, 56, 56, 57, 57, 48, 57, 49, 57, 50, 57, 51, 57, 52, 57, 53, 57, 54, 57, 55, 57, 56, 57, 57] : List UInt8).drop ((IntKind.i64.wrap (a0 * (2 : Int)))).toNat).take (((IntKind.i64.wrap ((IntKind.i64.wrap (a0 * (2 : Int))) + (2 : Int)))).toNat - ((IntKind.i64.wrap (a0 * (2 : Int)))).toNat))))
end Go.Proofs.YtmbkjkcolmoioaaGreatDoor.G

namespace Go.Proofs.YtmbkjkcolmoioaaGreatDoor.G
open Go Go.Ab
set_option maxRecDepth 100000
set_option linter.unusedVariables false
set_option linter.unusedSimpArgs false
set_option maxHeartbeats 1000000
def internal_strconv_isPowerOfTwo.wp (a0 : Int) (K : Bool → Prop) : Prop := K (decide ((ibits .and .i64 a0 (IntKind.i64.wrap (a0 - (1 : Int)))) = (0 : Int)))
end Go.Proofs.YtmbkjkcolmoioaaGreatDoor.G

namespace Go.Proofs.YtmbkjkcolmoioaaGreatDoor.G
open Go Go.Ab
set_option maxRecDepth 100000
set_option linter.unusedVariables false
set_option linter.unusedSimpArgs false
set_option maxHeartbeats 1000000
def math_bits_TrailingZeros.wp (a0 : Int) (K : Int → Prop) : Prop := (0 ≤ a0 ∧ a0 < 18446744073709551616) ∧ K ((Lib.ctz 64 a0.toNat : Nat) : Int)
end Go.Proofs.YtmbkjkcolmoioaaGreatDoor.G

namespace Go.Proofs.YtmbkjkcolmoioaaGreatDoor.G
open Go Go.Ab
set_option maxRecDepth 100000
set_option linter.unusedVariables false
set_option linter.unusedSimpArgs false
set_option maxHeartbeats 1000000
def internal_strconv_formatBits.wp (l0 : List (Int)) (a1 : Int) (a2 : Int) (a3 : Bool) (a4 : Bool) (K : (List (Int)) → (List UInt8) → Prop) : Prop := ((a2 < (2 : Int) → False) ∧ (¬(a2 < (2 : Int)) → ((a2 = (10 : Int) → False) ∧ (¬(a2 = (10 : Int)) → (((36 : Int) < a2 → False) ∧ (¬((36 : Int) < a2) → ((a3 = true → internal_strconv_isPowerOfTwo.wp a2 fun y108 => ((y108 = true → math_bits_TrailingZeros.wp (IntKind.u64.wrap a2) fun y111 => ∀ X129 : List (Int) → Int → Int → Prop, (∀ (l130 : List (Int)) (u131 : Int) (i132 : Int), (((IntKind.u64.wrap a2) ≤ u131 → (0 ≤ (ibits .and .u64 u131 (IntKind.u64.wrap ((IntKind.u64.wrap a2) - (1 : Int)))) ∧ (ibits .and .u64 u131 (IntKind.u64.wrap ((IntKind.u64.wrap a2) - (1 : Int)))) < (([48, 49, 50, 51, 52, 53, 54, 55, 56, 57, 97, 98, 99, 100, 101, 102, 103, 104, 105, 106, 107, 108, 109, 110, 111, 112, 113, 114, 115, 116, 117, 118, 119, 120, 121, 122] : List UInt8).length : Int)) ∧ (0 ≤ (IntKind.i64.wrap (i132 - (1 : Int))) ∧ (IntKind.i64.wrap (i132 - (1 : Int))) < (l130.length : Int)) ∧ (0 ≤ (IntKind.u64.wrap y111)) ∧ X129 (l130.set ((IntKind.i64.wrap (i132 - (1 : Int)))).toNat (bt ([48, 49, 50, 51, 52, 53, 54, 55, 56, 57, 97, 98, 99, 100, 101, 102, 103, 104, 105, 106, 107, 108, 109, 110, 111, 112, 113, 114, 115, 116, 117, 118, 119, 120, 121, 122] : List UInt8) (ibits .and .u64 u131 (IntKind.u64.wrap ((IntKind.u64.wrap a2) - (1 : Int)))))) (Int.fdiv u131 (2 ^ (min ((IntKind.u64.wrap y111)).toNat IntKind.u64.bits))) (IntKind.i64.wrap (i132 - (1 : Int)))) ∧ (¬((IntKind.u64.wrap a2) ≤ u131) → (0 ≤ u131 ∧ u131 < (([48, 49, 50, 51, 52, 53, 54, 55, 56, 57, 97, 98, 99, 100, 101, 102, 103, 104, 105, 106, 107, 108, 109, 110, 111, 112, 113, 114, 115, 116, 117, 118, 119, 120, 121, 122] : List UInt8).length : Int)) ∧ (0 ≤ (IntKind.i64.wrap (i132 - (1 : Int))) ∧ (IntKind.i64.wrap (i132 - (1 : Int))) < (l130.length : Int)) ∧ (0 ≤ (IntKind.i64.wrap ((IntKind.i64.wrap (i132 - (1 : Int))) - (1 : Int))) ∧ (IntKind.i64.wrap ((IntKind.i64.wrap (i132 - (1 : Int))) - (1 : Int))) < ((l130.set ((IntKind.i64.wrap (i132 - (1 : Int)))).toNat (bt ([48, 49, 50, 51, 52, 53, 54, 55, 56, 57, 97, 98, 99, 100, 101, 102, 103, 104, 105, 106, 107, 108, 109, 110, 111, 112, 113, 114, 115, 116, 117, 118, 119, 120, 121, 122] : List UInt8) u131)).length : Int)) ∧ ((a4 = true → False) ∧ (a4 = false → (0 ≤ (IntKind.i64.wrap ((IntKind.i64.wrap (i132 - (1 : Int))) - (1 : Int))) ∧ (IntKind.i64.wrap ((IntKind.i64.wrap (i132 - (1 : Int))) - (1 : Int))) ≤ (((l130.set ((IntKind.i64.wrap (i132 - (1 : Int)))).toNat (bt ([48, 49, 50, 51, 52, 53, 54, 55, 56, 57, 97, 98, 99, 100, 101, 102, 103, 104, 105, 106, 107, 108, 109, 110, 111, 112, 113, 114, 115, 116, 117, 118, 119, 120, 121, 122] : List UInt8) u131)).set ((IntKind.i64.wrap ((IntKind.i64.wrap (i132 - (1 : Int))) - (1 : Int)))).toNat (45 : Int)).length : Int) ∧ (((l130.set ((IntKind.i64.wrap (i132 - (1 : Int)))).toNat (bt ([48, 49, 50, 51, 52, 53, 54, 55, 56, 57, 97, 98, 99, 100, 101, 102, 103, 104, 105, 106, 107, 108, 109, 110, 111, 112, 113, 114, 115, 116, 117, 118, 119, 120, 121, 122] : List UInt8) u131)).set ((IntKind.i64.wrap ((IntKind.i64.wrap (i132 - (1 : Int))) - (1 : Int)))).toNat (45 : Int)).length : Int) ≤ (((l130.set ((IntKind.i64.wrap (i132 - (1 : Int)))).toNat (bt ([48, 49, 50, 51, 52, 53, 54, 55, 56, 57, 97, 98, 99, 100, 101, 102, 103, 104, 105, 106, 107, 108, 109, 110, 111, 112, 113, 114, 115, 116, 117, 118, 119, 120, 121, 122] : List UInt8) u131)).set ((IntKind.i64.wrap ((IntKind.i64.wrap (i132 - (1 : Int))) - (1 : Int)))).toNat (45 : Int)).length : Int)) ∧ K ([] : List (Int)) (byts ((((l130.set ((IntKind.i64.wrap (i132 - (1 : Int)))).toNat (bt ([48, 49, 50, 51, 52, 53, 54, 55, 56, 57, 97, 98, 99, 100, 101, 102, 103, 104, 105, 106, 107, 108, 109, 110, 111, 112, 113, 114, 115, 116, 117, 118, 119, 120, 121, 122] : List UInt8) u131)).set ((IntKind.i64.wrap ((IntKind.i64.wrap (i132 - (1 : Int))) - (1 : Int)))).toNat (45 : Int)).drop ((IntKind.i64.wrap ((IntKind.i64.wrap (i132 - (1 : Int))) - (1 : Int)))).toNat).take (((((l130.set ((IntKind.i64.wrap (i132 - (1 : Int)))).toNat (bt ([48, 49, 50, 51, 52, 53, 54, 55, 56, 57, 97, 98, 99, 100, 101, 102, 103, 104, 105, 106, 107, 108, 109, 110, 111, 112, 113, 114, 115, 116, 117, 118, 119, 120, 121, 122] : List UInt8) u131)).set ((IntKind.i64.wrap ((IntKind.i64.wrap (i132 - (1 : Int))) - (1 : Int)))).toNat (45 : Int)).length : Int)).toNat - ((IntKind.i64.wrap ((IntKind.i64.wrap (i132 - (1 : Int))) - (1 : Int)))).toNat))))))) → X129 l130 u131 i132) → X129 (List.replicate 65 (0 : Int)) (IntKind.u64.wrap (0 - a1)) (65 : Int)) ∧ (y108 = false → ∀ X164 : List (Int) → Int → Int → Prop, (∀ (l165 : List (Int)) (u166 : Int) (i167 : Int), (((IntKind.u64.wrap a2) ≤ u166 → ((IntKind.u64.wrap a2) ≠ 0) ∧ (0 ≤ (IntKind.u64.wrap (u166 - (IntKind.u64.wrap ((IntKind.u64.wrap (Int.tdiv u166 (IntKind.u64.wrap a2))) * (IntKind.u64.wrap a2))))) ∧ (IntKind.u64.wrap (u166 - (IntKind.u64.wrap ((IntKind.u64.wrap (Int.tdiv u166 (IntKind.u64.wrap a2))) * (IntKind.u64.wrap a2))))) < (([48, 49, 50, 51, 52, 53, 54, 55, 56, 57, 97, 98, 99, 100, 101, 102, 103, 104, 105, 106, 107, 108, 109, 110, 111, 112, 113, 114, 115, 116, 117, 118, 119, 120, 121, 122] : List UInt8).length : Int)) ∧ (0 ≤ (IntKind.i64.wrap (i167 - (1 : Int))) ∧ (IntKind.i64.wrap (i167 - (1 : Int))) < (l165.length : Int)) ∧ X164 (l165.set ((IntKind.i64.wrap (i167 - (1 : Int)))).toNat (bt ([48, 49, 50, 51, 52, 53, 54, 55, 56, 57, 97, 98, 99, 100, 101, 102, 103, 104, 105, 106, 107, 108, 109, 110, 111, 112, 113, 114, 115, 116, 117, 118, 119, 120, 121, 122] : List UInt8) (IntKind.u64.wrap (u166 - (IntKind.u64.wrap ((IntKind.u64.wrap (Int.tdiv u166 (IntKind.u64.wrap a2))) * (IntKind.u64.wrap a2))))))) (IntKind.u64.wrap (Int.tdiv u166 (IntKind.u64.wrap a2))) (IntKind.i64.wrap (i167 - (1 : Int)))) ∧ (¬((IntKind.u64.wrap a2) ≤ u166) → (0 ≤ u166 ∧ u166 < (([48, 49, 50, 51, 52, 53, 54, 55, 56, 57, 97, 98, 99, 100, 101, 102, 103, 104, 105, 106, 107, 108, 109, 110, 111, 112, 113, 114, 115, 116, 117, 118, 119, 120, 121, 122] : List UInt8).length : Int)) ∧ (0 ≤ (IntKind.i64.wrap (i167 - (1 : Int))) ∧ (IntKind.i64.wrap (i167 - (1 : Int))) < (l165.length : Int)) ∧ (0 ≤ (IntKind.i64.wrap ((IntKind.i64.wrap (i167 - (1 : Int))) - (1 : Int))) ∧ (IntKind.i64.wrap ((IntKind.i64.wrap (i167 - (1 : Int))) - (1 : Int))) < ((l165.set ((IntKind.i64.wrap (i167 - (1 : Int)))).toNat (bt ([48, 49, 50, 51, 52, 53, 54, 55, 56, 57, 97, 98, 99, 100, 101, 102, 103, 104, 105, 106, 107, 108, 109, 110, 111, 112, 113, 114, 115, 116, 117, 118, 119, 120, 121, 122] : List UInt8) u166)).length : Int)) ∧ ((a4 = true → False) ∧ (a4 = false → (0 ≤ (IntKind.i64.wrap ((IntKind.i64.wrap (i167 - (1 : Int))) - (1 : Int))) ∧ (IntKind.i64.wrap ((IntKind.i64.wrap (i167 - (1 : Int))) - (1 : Int))) ≤ (((l165.set ((IntKind.i64.wrap (i167 - (1 : Int)))).toNat (bt ([48, 49, 50, 51, 52, 53, 54, 55, 56, 57, 97, 98, 99, 100, 101, 102, 103, 104, 105, 106, 107, 108, 109, 110, 111, 112, 113, 114, 115, 116, 117, 118, 119, 120, 121, 122] : List UInt8) u166)).set ((IntKind.i64.wrap ((IntKind.i64.wrap (i167 - (1 : Int))) - (1 : Int)))).toNat (45 : Int)).length : Int) ∧ (((l165.set ((IntKind.i64.wrap (i167 - (1 : Int)))).toNat (bt ([48, 49, 50, 51, 52, 53, 54, 55, 56, 57, 97, 98, 99, 100, 101, 102, 103, 104, 105, 106, 107, 108, 109, 110, 111, 112, 113, 114, 115, 116, 117, 118, 119, 120, 121, 122] : List UInt8) u166)).set ((IntKind.i64.wrap ((IntKind.i64.wrap (i167 - (1 : Int))) - (1 : Int)))).toNat (45 : Int)).length : Int) ≤ (((l165.set ((IntKind.i64.wrap (i167 - (1 : Int)))).toNat (bt ([48, 49, 50, 51, 52, 53, 54, 55, 56, 57, 97, 98, 99, 100, 101, 102, 103, 104, 105, 106, 107, 108, 109, 110, 111, 112, 113, 114, 115, 116, 117, 118, 119, 120, 121, 122] : List UInt8) u166)).set ((IntKind.i64.wrap ((IntKind.i64.wrap (i167 - (1 : Int))) - (1 : Int)))).toNat (45 : Int)).length : Int)) ∧ K ([] : List (Int)) (byts ((((l165.set ((IntKind.i64.wrap (i167 - (1 : Int)))).toNat (bt ([48, 49, 50, 51, 52, 53, 54, 55, 56, 57, 97, 98, 99, 100, 101, 102, 103, 104, 105, 106, 107, 108, 109, 110, 111, 112, 113, 114, 115, 116, 117, 118, 119, 120, 121, 122] : List UInt8) u166)).set ((IntKind.i64.wrap ((IntKind.i64.wrap (i167 - (1 : Int))) - (1 : Int)))).toNat (45 : Int)).drop ((IntKind.i64.wrap ((IntKind.i64.wrap (i167 - (1 : Int))) - (1 : Int)))).toNat).take (((((l165.set ((IntKind.i64.wrap (i167 - (1 : Int)))).toNat (bt ([48, 49, 50, 51, 52, 53, 54, 55, 56, 57, 97, 98, 99, 100, 101, 102, 103, 104, 105, 106, 107, 108, 109, 110, 111, 112, 113, 114, 115, 116, 117, 118, 119, 120, 121, 122] : List UInt8) u166)).set ((IntKind.i64.wrap ((IntKind.i64.wrap (i167 - (1 : Int))) - (1 : Int)))).toNat (45 : Int)).length : Int)).toNat - ((IntKind.i64.wrap ((IntKind.i64.wrap (i167 - (1 : Int))) - (1 : Int)))).toNat))))))) → X164 l165 u166 i167) → X164 (List.replicate 65 (0 : Int)) (IntKind.u64.wrap (0 - a1)) (65 : Int)))) ∧ (a3 = false → internal_strconv_isPowerOfTwo.wp a2 fun y183 => ((y183 = true → math_bits_TrailingZeros.wp (IntKind.u64.wrap a2) fun y186 => ∀ X202 : List (Int) → Int → Int → Prop, (∀ (l203 : List (Int)) (u204 : Int) (i205 : Int), (((IntKind.u64.wrap a2) ≤ u204 → (0 ≤ (ibits .and .u64 u204 (IntKind.u64.wrap ((IntKind.u64.wrap a2) - (1 : Int)))) ∧ (ibits .and .u64 u204 (IntKind.u64.wrap ((IntKind.u64.wrap a2) - (1 : Int)))) < (([48, 49, 50, 51, 52, 53, 54, 55, 56, 57, 97, 98, 99, 100, 101, 102, 103, 104, 105, 106, 107, 108, 109, 110, 111, 112, 113, 114, 115, 116, 117, 118, 119, 120, 121, 122] : List UInt8).length : Int)) ∧ (0 ≤ (IntKind.i64.wrap (i205 - (1 : Int))) ∧ (IntKind.i64.wrap (i205 - (1 : Int))) < (l203.length : Int)) ∧ (0 ≤ (IntKind.u64.wrap y186)) ∧ X202 (l203.set ((IntKind.i64.wrap (i205 - (1 : Int)))).toNat (bt ([48, 49, 50, 51, 52, 53, 54, 55, 56, 57, 97, 98, 99, 100, 101, 102, 103, 104, 105, 106, 107, 108, 109, 110, 111, 112, 113, 114, 115, 116, 117, 118, 119, 120, 121, 122] : List UInt8) (ibits .and .u64 u204 (IntKind.u64.wrap ((IntKind.u64.wrap a2) - (1 : Int)))))) (Int.fdiv u204 (2 ^ (min ((IntKind.u64.wrap y186)).toNat IntKind.u64.bits))) (IntKind.i64.wrap (i205 - (1 : Int)))) ∧ (¬((IntKind.u64.wrap a2) ≤ u204) → (0 ≤ u204 ∧ u204 < (([48, 49, 50, 51, 52, 53, 54, 55, 56, 57, 97, 98, 99, 100, 101, 102, 103, 104, 105, 106, 107, 108, 109, 110, 111, 112, 113, 114, 115, 116, 117, 118, 119, 120, 121, 122] : List UInt8).length : Int)) ∧ (0 ≤ (IntKind.i64.wrap (i205 - (1 : Int))) ∧ (IntKind.i64.wrap (i205 - (1 : Int))) < (l203.length : Int)) ∧ ((a4 = true → False) ∧ (a4 = false → (0 ≤ (IntKind.i64.wrap (i205 - (1 : Int))) ∧ (IntKind.i64.wrap (i205 - (1 : Int))) ≤ ((l203.set ((IntKind.i64.wrap (i205 - (1 : Int)))).toNat (bt ([48, 49, 50, 51, 52, 53, 54, 55, 56, 57, 97, 98, 99, 100, 101, 102, 103, 104, 105, 106, 107, 108, 109, 110, 111, 112, 113, 114, 115, 116, 117, 118, 119, 120, 121, 122] : List UInt8) u204)).length : Int) ∧ ((l203.set ((IntKind.i64.wrap (i205 - (1 : Int)))).toNat (bt ([48, 49, 50, 51, 52, 53, 54, 55, 56, 57, 97, 98, 99, 100, 101, 102, 103, 104, 105, 106, 107, 108, 109, 110, 111, 112, 113, 114, 115, 116, 117, 118, 119, 120, 121, 122] : List UInt8) u204)).length : Int) ≤ ((l203.set ((IntKind.i64.wrap (i205 - (1 : Int)))).toNat (bt ([48, 49, 50, 51, 52, 53, 54, 55, 56, 57, 97, 98, 99, 100, 101, 102, 103, 104, 105, 106, 107, 108, 109, 110, 111, 112, 113, 114, 115, 116, 117, 118, 119, 120, 121, 122] : List UInt8) u204)).length : Int)) ∧ K ([] : List (Int)) (byts (((l203.set ((IntKind.i64.wrap (i205 - (1 : Int)))).toNat (bt ([48, 49, 50, 51, 52, 53, 54, 55, 56, 57, 97, 98, 99, 100, 101, 102, 103, 104, 105, 106, 107, 108, 109, 110, 111, 112, 113, 114, 115, 116, 117, 118, 119, 120, 121, 122] : List UInt8) u204)).drop ((IntKind.i64.wrap (i205 - (1 : Int)))).toNat).take ((((l203.set ((IntKind.i64.wrap (i205 - (1 : Int)))).toNat (bt ([48, 49, 50, 51, 52, 53, 54, 55, 56, 57, 97, 98, 99, 100, 101, 102, 103, 104, 105, 106, 107, 108, 109, 110, 111, 112, 113, 114, 115, 116, 117, 118, 119, 120, 121, 122] : List UInt8) u204)).length : Int)).toNat - ((IntKind.i64.wrap (i205 - (1 : Int)))).toNat))))))) → X202 l203 u204 i205) → X202 (List.replicate 65 (0 : Int)) (a1) (65 : Int)) ∧ (y183 = false → ∀ X233 : List (Int) → Int → Int → Prop, (∀ (l234 : List (Int)) (u235 : Int) (i236 : Int), (((IntKind.u64.wrap a2) ≤ u235 → ((IntKind.u64.wrap a2) ≠ 0) ∧ (0 ≤ (IntKind.u64.wrap (u235 - (IntKind.u64.wrap ((IntKind.u64.wrap (Int.tdiv u235 (IntKind.u64.wrap a2))) * (IntKind.u64.wrap a2))))) ∧ (IntKind.u64.wrap (u235 - (IntKind.u64.wrap ((IntKind.u64.wrap (Int.tdiv u235 (IntKind.u64.wrap a2))) * (IntKind.u64.wrap a2))))) < (([48, 49, 50, 51, 52, 53, 54, 55, 56, 57, 97, 98, 99, 100, 101, 102, 103, 104, 105, 106, 107, 108, 109, 110, 111, 112, 113, 114, 115, 116, 117, 118, 119, 120, 121, 122] : List UInt8).length : Int)) ∧ (0 ≤ (IntKind.i64.wrap (i236 - (1 : Int))) ∧ (IntKind.i64.wrap (i236 - (1 : Int))) < (l234.length : Int)) ∧ X233 (l234.set ((IntKind.i64.wrap (i236 - (1 : Int)))).toNat (bt ([48, 49, 50, 51, 52, 53, 54, 55, 56, 57, 97, 98, 99, 100, 101, 102, 103, 104, 105, 106, 107, 108, 109, 110, 111, 112, 113, 114, 115, 116, 117, 118, 119, 120, 121, 122] : List UInt8) (IntKind.u64.wrap (u235 - (IntKind.u64.wrap ((IntKind.u64.wrap (Int.tdiv u235 (IntKind.u64.wrap a2))) * (IntKind.u64.wrap a2))))))) (IntKind.u64.wrap (Int.tdiv u235 (IntKind.u64.wrap a2))) (IntKind.i64.wrap (i236 - (1 : Int)))) ∧ (¬((IntKind.u64.wrap a2) ≤ u235) → (0 ≤ u235 ∧ u235 < (([48, 49, 50, 51, 52, 53, 54, 55, 56, 57, 97, 98, 99, 100, 101, 102, 103, 104, 105, 106, 107, 108, 109, 110, 111, 112, 113, 114, 115, 116, 117, 118, 119, 120, 121, 122] : List UInt8).length : Int)) ∧ (0 ≤ (IntKind.i64.wrap (i236 - (1 : Int))) ∧ (IntKind.i64.wrap (i236 - (1 : Int))) < (l234.length : Int)) ∧ ((a4 = true → False) ∧ (a4 = false → (0 ≤ (IntKind.i64.wrap (i236 - (1 : Int))) ∧ (IntKind.i64.wrap (i236 - (1 : Int))) ≤ ((l234.set ((IntKind.i64.wrap (i236 - (1 : Int)))).toNat (bt ([48, 49, 50, 51, 52, 53, 54, 55, 56, 57, 97, 98, 99, 100, 101, 102, 103, 104, 105, 106, 107, 108, 109, 110, 111, 112, 113, 114, 115, 116, 117, 118, 119, 120, 121, 122] : List UInt8) u235)).length : Int) ∧ ((l234.set ((IntKind.i64.wrap (i236 - (1 : Int)))).toNat (bt ([48, 49, 50, 51, 52, 53, 54, 55, 56, 57, 97, 98, 99, 100, 101, 102, 103, 104, 105, 106, 107, 108, 109, 110, 111, 112, 113, 114, 115, 116, 117, 118, 119, 120, 121, 122] : List UInt8) u235)).length : Int) ≤ ((l234.set ((IntKind.i64.wrap (i236 - (1 : Int)))).toNat (bt ([48, 49, 50, 51, 52, 53, 54, 55, 56, 57, 97, 98, 99, 100, 101, 102, 103, 104, 105, 106, 107, 108, 109, 110, 111, 112, 113, 114, 115, 116, 117, 118, 119, 120, 121, 122] : List UInt8) u235)).length : Int)) ∧ K ([] : List (Int)) (byts (((l234.set ((IntKind.i64.wrap (i236 - (1 : Int)))).toNat (bt ([48, 49, 50, 51, 52, 53, 54, 55, 56, 57, 97, 98, 99, 100, 101, 102, 103, 104, 105, 106, 107, 108, 109, 110, 111, 112, 113, 114, 115, 116, 117, 118, 119, 120, 121, 122] : List UInt8) u235)).drop ((IntKind.i64.wrap (i236 - (1 : Int)))).toNat).take ((((l234.set ((IntKind.i64.wrap (i236 - (1 : Int)))).toNat (bt ([48, 49, 50, 51, 52, 53, 54, 55, 56, 57, 97, 98, 99, 100, 101, 102, 103, 104, 105, 106, 107, 108, 109, 110, 111, 112, 113, 114, 115, 116, 117, 118, 119, 120, 121, 122] : List UInt8) u235)).length : Int)).toNat - ((IntKind.i64.wrap (i236 - (1 : Int)))).toNat))))))) → X233 l234 u235 i236) → X233 (List.replicate 65 (0 : Int)) (a1) (65 : Int)))))))))))
end Go.Proofs.YtmbkjkcolmoioaaGreatDoor.G

namespace Go.Proofs.YtmbkjkcolmoioaaGreatDoor.G
open Go Go.Ab
set_option maxRecDepth 100000
set_option linter.unusedVariables false
set_option linter.unusedSimpArgs false
set_option maxHeartbeats 1000000
def internal_strconv_FormatIntW.wp (a0 : Int) (a1 : Int) (K : (List UInt8) → Prop) : Prop := ((a1 = (10 : Int) → (((0 : Int) ≤ a0 → ((a0 < (100 : Int) → internal_strconv_small.wp a0 fun y104 => K (y104)) ∧ (¬(a0 < (100 : Int)) → ((a0 < (0 : Int) → False) ∧ (¬(a0 < (0 : Int)) → False))))) ∧ (¬((0 : Int) ≤ a0) → ((a0 < (0 : Int) → False) ∧ (¬(a0 < (0 : Int)) → False))))) ∧ (¬(a1 = (10 : Int)) → internal_strconv_formatBits.wp ([] : List (Int)) (IntKind.u64.wrap a0) a1 (decide (a0 < (0 : Int))) false fun y114 y117 => K (y117)))
def internal_strconv_FormatIntH.wp (a0 : Int) (a1 : Int) (K : List UInt8 → Prop) : Prop := a1 = 10 ∧ (-9223372036854775808 ≤ a0 ∧ a0 ≤ 9223372036854775807) ∧ K (Lib.itoa a0)
def internal_strconv_FormatInt.wp (a0 : Int) (a1 : Int) (K : List UInt8 → Prop) : Prop := internal_strconv_FormatIntH.wp a0 a1 K ∨ internal_strconv_FormatIntW.wp a0 a1 K
end Go.Proofs.YtmbkjkcolmoioaaGreatDoor.G

namespace Go.Proofs.YtmbkjkcolmoioaaGreatDoor.G
open Go Go.Ab
set_option maxRecDepth 100000
set_option linter.unusedVariables false
set_option linter.unusedSimpArgs false
set_option maxHeartbeats 1000000
def strconv_FormatInt.wp (a0 : Int) (a1 : Int) (K : (List UInt8) → Prop) : Prop := internal_strconv_FormatInt.wp a0 a1 fun y101 => K (y101)
end Go.Proofs.YtmbkjkcolmoioaaGreatDoor.G

namespace Go.Proofs.YtmbkjkcolmoioaaGreatDoor.G
open Go Go.Ab
set_option maxRecDepth 100000
set_option linter.unusedVariables false
set_option linter.unusedSimpArgs false
set_option maxHeartbeats 1000000
def impl_Decimal.wp (a0 : Int) (K : (List UInt8) → Prop) : Prop := strconv_FormatInt.wp a0 (10 : Int) fun y101 => K (y101)
end Go.Proofs.YtmbkjkcolmoioaaGreatDoor.G

namespace Go.Proofs.YtmbkjkcolmoioaaGreatDoor.G
open Go Go.Ab
set_option maxRecDepth 100000
set_option linter.unusedVariables false
set_option linter.unusedSimpArgs false
set_option maxHeartbeats 1000000
def strconv_ParseInt.wp (a0 : List UInt8) (a1 a2 : Int) (K : Int → IfV → Prop) : Prop := ((a1 = 10 ∧ a2 = 64) ∧ a0.length ≤ 2 ^ 40) ∧ match Lib.parseIntB 64 a0 with
  | .ok v => K v IfV.nil
  | .syntax => K 0 IfV.other
  | .range => K (Lib.intSat 64 a0) IfV.other
end Go.Proofs.YtmbkjkcolmoioaaGreatDoor.G

namespace Go.Proofs.YtmbkjkcolmoioaaGreatDoor.G
open Go Go.Ab
set_option maxRecDepth 100000
set_option linter.unusedVariables false
set_option linter.unusedSimpArgs false
set_option maxHeartbeats 1000000
def impl_ReadDecimal.wp (a0 : List UInt8) (K : Int → Bool → Prop) : Prop := strconv_ParseInt.wp a0 (10 : Int) (64 : Int) fun y101 y102 => (((y102.isNil) = true → impl_isValue.wp y101 fun y105 => ((y105 = true → impl_Decimal.wp y101 fun y108 => ((y108 = a0 → K (y101) (true)) ∧ (¬(y108 = a0) → K (0 : Int) (false)))) ∧ (y105 = false → K (0 : Int) (false)))) ∧ ((y102.isNil) = false → K (0 : Int) (false)))
end Go.Proofs.YtmbkjkcolmoioaaGreatDoor.G

namespace Go.Proofs.YtmbkjkcolmoioaaGreatDoor.G
open Go Go.Ab
set_option maxRecDepth 100000
set_option linter.unusedVariables false
set_option linter.unusedSimpArgs false
set_option maxHeartbeats 1000000
def strings_explode.wp (a0 : List UInt8) (a1 : Int) (K : (List (List UInt8)) → Prop) : Prop := False
end Go.Proofs.YtmbkjkcolmoioaaGreatDoor.G

namespace Go.Proofs.YtmbkjkcolmoioaaGreatDoor.G
open Go Go.Ab
set_option maxRecDepth 100000
set_option linter.unusedVariables false
set_option linter.unusedSimpArgs false
set_option maxHeartbeats 1000000
def strings_Count.wp (a0 : List UInt8) (a1 : List UInt8) (K : Int → Prop) : Prop := ∃ c, a1 = [c] ∧ K ((Lib.countByte a0 c : Nat) : Int)
end Go.Proofs.YtmbkjkcolmoioaaGreatDoor.G

namespace Go.Proofs.YtmbkjkcolmoioaaGreatDoor.G
open Go Go.Ab
set_option maxRecDepth 100000
set_option linter.unusedVariables false
set_option linter.unusedSimpArgs false
set_option maxHeartbeats 1000000
def strings_Index.wp (a0 : List UInt8) (a1 : List UInt8) (K : Int → Prop) : Prop := ∃ c, a1 = [c] ∧ K (Lib.indexByte a0 c)
end Go.Proofs.YtmbkjkcolmoioaaGreatDoor.G

namespace Go.Proofs.YtmbkjkcolmoioaaGreatDoor.G
open Go Go.Ab
set_option maxRecDepth 100000
set_option linter.unusedVariables false
set_option linter.unusedSimpArgs false
set_option maxHeartbeats 1000000
def strings_genSplit.wp (a0 : List UInt8) (a1 : List UInt8) (a2 : Int) (a3 : Int) (K : (List (List UInt8)) → Prop) : Prop := ((a3 = (0 : Int) → K ([] : List (List UInt8))) ∧ (¬(a3 = (0 : Int)) → ((a1 = ([] : List UInt8) → strings_explode.wp a0 a3 fun y103 => K (y103)) ∧ (¬(a1 = ([] : List UInt8)) → ((a3 < (0 : Int) → strings_Count.wp a0 a1 fun y108 => (0 ≤ (mnI (IntKind.i64.wrap (y108 + (1 : Int))) (IntKind.i64.wrap ((a0.length : Int) + (1 : Int)))) ∧ (mnI (IntKind.i64.wrap (y108 + (1 : Int))) (IntKind.i64.wrap ((a0.length : Int) + (1 : Int)))) ≤ (mnI (IntKind.i64.wrap (y108 + (1 : Int))) (IntKind.i64.wrap ((a0.length : Int) + (1 : Int)))) ∧ (mnI (IntKind.i64.wrap (y108 + (1 : Int))) (IntKind.i64.wrap ((a0.length : Int) + (1 : Int)))) ≤ 2 ^ 40 ∧ (mnI (IntKind.i64.wrap (y108 + (1 : Int))) (IntKind.i64.wrap ((a0.length : Int) + (1 : Int)))) * 16 ≤ 2 ^ 40) ∧ ∀ X131 : List (List UInt8) → List UInt8 → Int → Prop, (∀ (a132 : List (List UInt8)) (sq133 : List UInt8) (i134 : Int), ((i134 < (IntKind.i64.wrap ((mnI (IntKind.i64.wrap (y108 + (1 : Int))) (IntKind.i64.wrap ((a0.length : Int) + (1 : Int)))) - (1 : Int))) → strings_Index.wp sq133 a1 fun y136 => ((y136 < (0 : Int) → (0 ≤ i134 ∧ i134 < (a132.length : Int)) ∧ (0 ≤ (0 : Int) ∧ (0 : Int) ≤ (IntKind.i64.wrap (i134 + (1 : Int))) ∧ (IntKind.i64.wrap (i134 + (1 : Int))) ≤ ((a132.set (i134).toNat sq133).length : Int)) ∧ K (((a132.set (i134).toNat sq133).drop ((0 : Int)).toNat).take (((IntKind.i64.wrap (i134 + (1 : Int)))).toNat - ((0 : Int)).toNat))) ∧ (¬(y136 < (0 : Int)) → (0 ≤ (0 : Int) ∧ (0 : Int) ≤ (IntKind.i64.wrap (y136 + a2)) ∧ (IntKind.i64.wrap (y136 + a2)) ≤ (sq133.length : Int)) ∧ (0 ≤ i134 ∧ i134 < (a132.length : Int)) ∧ (0 ≤ (IntKind.i64.wrap (y136 + (a1.length : Int))) ∧ (IntKind.i64.wrap (y136 + (a1.length : Int))) ≤ (sq133.length : Int) ∧ (sq133.length : Int) ≤ (sq133.length : Int)) ∧ X131 (a132.set (i134).toNat ((sq133.drop ((0 : Int)).toNat).take (((IntKind.i64.wrap (y136 + a2))).toNat - ((0 : Int)).toNat))) ((sq133.drop ((IntKind.i64.wrap (y136 + (a1.length : Int)))).toNat).take (((sq133.length : Int)).toNat - ((IntKind.i64.wrap (y136 + (a1.length : Int)))).toNat)) (IntKind.i64.wrap (i134 + (1 : Int)))))) ∧ (¬(i134 < (IntKind.i64.wrap ((mnI (IntKind.i64.wrap (y108 + (1 : Int))) (IntKind.i64.wrap ((a0.length : Int) + (1 : Int)))) - (1 : Int)))) → (0 ≤ i134 ∧ i134 < (a132.length : Int)) ∧ (0 ≤ (0 : Int) ∧ (0 : Int) ≤ (IntKind.i64.wrap (i134 + (1 : Int))) ∧ (IntKind.i64.wrap (i134 + (1 : Int))) ≤ ((a132.set (i134).toNat sq133).length : Int)) ∧ K (((a132.set (i134).toNat sq133).drop ((0 : Int)).toNat).take (((IntKind.i64.wrap (i134 + (1 : Int)))).toNat - ((0 : Int)).toNat)))) → X131 a132 sq133 i134) → X131 (List.replicate ((mnI (IntKind.i64.wrap (y108 + (1 : Int))) (IntKind.i64.wrap ((a0.length : Int) + (1 : Int))))).toNat ([] : List UInt8)) (a0) (0 : Int)) ∧ (¬(a3 < (0 : Int)) → (0 ≤ (mnI a3 (IntKind.i64.wrap ((a0.length : Int) + (1 : Int)))) ∧ (mnI a3 (IntKind.i64.wrap ((a0.length : Int) + (1 : Int)))) ≤ (mnI a3 (IntKind.i64.wrap ((a0.length : Int) + (1 : Int)))) ∧ (mnI a3 (IntKind.i64.wrap ((a0.length : Int) + (1 : Int)))) ≤ 2 ^ 40 ∧ (mnI a3 (IntKind.i64.wrap ((a0.length : Int) + (1 : Int)))) * 16 ≤ 2 ^ 40) ∧ ∀ X172 : List (List UInt8) → List UInt8 → Int → Prop, (∀ (a173 : List (List UInt8)) (sq174 : List UInt8) (i175 : Int), ((i175 < (IntKind.i64.wrap ((mnI a3 (IntKind.i64.wrap ((a0.length : Int) + (1 : Int)))) - (1 : Int))) → strings_Index.wp sq174 a1 fun y177 => ((y177 < (0 : Int) → (0 ≤ i175 ∧ i175 < (a173.length : Int)) ∧ (0 ≤ (0 : Int) ∧ (0 : Int) ≤ (IntKind.i64.wrap (i175 + (1 : Int))) ∧ (IntKind.i64.wrap (i175 + (1 : Int))) ≤ ((a173.set (i175).toNat sq174).length : Int)) ∧ K (((a173.set (i175).toNat sq174).drop ((0 : Int)).toNat).take (((IntKind.i64.wrap (i175 + (1 : Int)))).toNat - ((0 : Int)).toNat))) ∧ (¬(y177 < (0 : Int)) → (0 ≤ (0 : Int) ∧ (0 : Int) ≤ (IntKind.i64.wrap (y177 + a2)) ∧ (IntKind.i64.wrap (y177 + a2)) ≤ (sq174.length : Int)) ∧ (0 ≤ i175 ∧ i175 < (a173.length : Int)) ∧ (0 ≤ (IntKind.i64.wrap (y177 + (a1.length : Int))) ∧ (IntKind.i64.wrap (y177 + (a1.length : Int))) ≤ (sq174.length : Int) ∧ (sq174.length : Int) ≤ (sq174.length : Int)) ∧ X172 (a173.set (i175).toNat ((sq174.drop ((0 : Int)).toNat).take (((IntKind.i64.wrap (y177 + a2))).toNat - ((0 : Int)).toNat))) ((sq174.drop ((IntKind.i64.wrap (y177 + (a1.length : Int)))).toNat).take (((sq174.length : Int)).toNat - ((IntKind.i64.wrap (y177 + (a1.length : Int)))).toNat)) (IntKind.i64.wrap (i175 + (1 : Int)))))) ∧ (¬(i175 < (IntKind.i64.wrap ((mnI a3 (IntKind.i64.wrap ((a0.length : Int) + (1 : Int)))) - (1 : Int)))) → (0 ≤ i175 ∧ i175 < (a173.length : Int)) ∧ (0 ≤ (0 : Int) ∧ (0 : Int) ≤ (IntKind.i64.wrap (i175 + (1 : Int))) ∧ (IntKind.i64.wrap (i175 + (1 : Int))) ≤ ((a173.set (i175).toNat sq174).length : Int)) ∧ K (((a173.set (i175).toNat sq174).drop ((0 : Int)).toNat).take (((IntKind.i64.wrap (i175 + (1 : Int)))).toNat - ((0 : Int)).toNat)))) → X172 a173 sq174 i175) → X172 (List.replicate ((mnI a3 (IntKind.i64.wrap ((a0.length : Int) + (1 : Int))))).toNat ([] : List UInt8)) (a0) (0 : Int)))))))
end Go.Proofs.YtmbkjkcolmoioaaGreatDoor.G

namespace Go.Proofs.YtmbkjkcolmoioaaGreatDoor.G
open Go Go.Ab
set_option maxRecDepth 100000
set_option linter.unusedVariables false
set_option linter.unusedSimpArgs false
set_option maxHeartbeats 1000000
def strings_Split.wp (a0 : List UInt8) (a1 : List UInt8) (K : (List (List UInt8)) → Prop) : Prop := strings_genSplit.wp a0 a1 (0 : Int) (-1 : Int) fun y101 => K (y101)
end Go.Proofs.YtmbkjkcolmoioaaGreatDoor.G

namespace Go.Proofs.YtmbkjkcolmoioaaGreatDoor.G
open Go Go.Ab
set_option maxRecDepth 100000
set_option linter.unusedVariables false
set_option linter.unusedSimpArgs false
set_option maxHeartbeats 1000000
def impl_pieces.wp (a0 : List UInt8) (K : (List (List UInt8)) → Prop) : Prop := ((a0 = ([110, 111, 110, 101] : List UInt8) → K ([] : List (List UInt8))) ∧ (¬(a0 = ([110, 111, 110, 101] : List UInt8)) → strings_Split.wp a0 ([44] : List UInt8) fun y102 => K (y102)))
end Go.Proofs.YtmbkjkcolmoioaaGreatDoor.G

namespace Go.Proofs.YtmbkjkcolmoioaaGreatDoor.G
open Go Go.Ab
set_option maxRecDepth 100000
set_option linter.unusedVariables false
set_option linter.unusedSimpArgs false
set_option maxHeartbeats 1000000
def impl_readList.wp (a0 : List UInt8) (K : (List (Int)) → Bool → Prop) : Prop := impl_pieces.wp a0 fun y104 => ∀ X124 : List (Int) → Int → Prop, (∀ (out125 : List (Int)) (x127 : Int), ((x127 < (y104.length : Int) → (0 ≤ x127 ∧ x127 < (y104.length : Int)) ∧ impl_ReadDecimal.wp (y104.getD (x127).toNat ([] : List UInt8)) fun y130 y131 => ((y131 = true → ((out125.length + ([y130] : List (Int)).length) * 8 ≤ 2 ^ 40) ∧ X124 (out125 ++ ([y130] : List (Int))) (IntKind.i64.wrap (x127 + (1 : Int)))) ∧ (y131 = false → K ([] : List (Int)) (false)))) ∧ (¬(x127 < (y104.length : Int)) → K (out125) (true))) → X124 out125 x127) → X124 ([] : List (Int)) (0 : Int)
end Go.Proofs.YtmbkjkcolmoioaaGreatDoor.G

namespace Go.Proofs.YtmbkjkcolmoioaaGreatDoor.G
open Go Go.Ab
set_option maxRecDepth 100000
set_option linter.unusedVariables false
set_option linter.unusedSimpArgs false
set_option maxHeartbeats 1000000
def impl_ReadList.wp (a0 : List UInt8) (K : (List (Int)) → Bool → Prop) : Prop := impl_readList.wp a0 fun y101 y104 => ((y104 = true → (((64 : Int) < (y101.length : Int) → K ([] : List (Int)) (false)) ∧ (¬((64 : Int) < (y101.length : Int)) → K (y101) (true)))) ∧ (y104 = false → K ([] : List (Int)) (false)))
end Go.Proofs.YtmbkjkcolmoioaaGreatDoor.G

namespace Go.Proofs.YtmbkjkcolmoioaaGreatDoor.G
open Go Go.Ab
set_option maxRecDepth 100000
set_option linter.unusedVariables false
set_option linter.unusedSimpArgs false
set_option maxHeartbeats 1000000
def impl_readPair.wp (a0 : List UInt8) (K : Int → Int → Bool → Prop) : Prop := impl_ReadList.wp a0 fun y101 y104 => ((y104 = true → (((y101.length : Int) = (2 : Int) → (0 ≤ (0 : Int) ∧ (0 : Int) < (y101.length : Int)) ∧ (0 ≤ (1 : Int) ∧ (1 : Int) < (y101.length : Int)) ∧ K (y101.getD ((0 : Int)).toNat (0 : Int)) (y101.getD ((1 : Int)).toNat (0 : Int)) (true)) ∧ (¬((y101.length : Int) = (2 : Int)) → K (0 : Int) (0 : Int) (false)))) ∧ (y104 = false → K (0 : Int) (0 : Int) (false)))
end Go.Proofs.YtmbkjkcolmoioaaGreatDoor.G

namespace Go.Proofs.YtmbkjkcolmoioaaGreatDoor.G
open Go Go.Ab
set_option maxRecDepth 100000
set_option linter.unusedVariables false
set_option linter.unusedSimpArgs false
set_option maxHeartbeats 1000000
def impl_BitsOf.wp (a0 : Nat) (K : Int → Prop) : Prop := (((fcmp .neq .f32 a0 a0) = true → K (2143289344 : Int)) ∧ ((fcmp .neq .f32 a0 a0) = false → math_Float32bits.wp a0 fun y102 => K (IntKind.i64.wrap y102)))
end Go.Proofs.YtmbkjkcolmoioaaGreatDoor.G

namespace Go.Proofs.YtmbkjkcolmoioaaGreatDoor.G
open Go Go.Ab
set_option maxRecDepth 100000
set_option linter.unusedVariables false
set_option linter.unusedSimpArgs false
set_option maxHeartbeats 1000000
def strings_Repeat.wp (a0 : List UInt8) (a1 : Int) (K : List UInt8 → Prop) : Prop := (0 ≤ a1 ∧ a1 ≤ 2 ^ 40 ∧ a0.length * a1.toNat ≤ 2 ^ 40) ∧ K (Lib.repeatL a0 a1.toNat)
end Go.Proofs.YtmbkjkcolmoioaaGreatDoor.G

namespace Go.Proofs.YtmbkjkcolmoioaaGreatDoor.G
open Go Go.Ab
set_option maxRecDepth 100000
set_option linter.unusedVariables false
set_option linter.unusedSimpArgs false
set_option maxHeartbeats 1000000
def impl_hexOf.wp (a0 : Nat) (K : (List UInt8) → Prop) : Prop := impl_BitsOf.wp a0 fun y101 => strconv_FormatInt.wp y101 (16 : Int) fun y103 => strings_Repeat.wp ([48] : List UInt8) (IntKind.i64.wrap ((8 : Int) - (y103.length : Int))) fun y105 => ((y105.length : Int) + (y103.length : Int) ≤ 9223372036854775807) ∧ K (y105 ++ y103)
end Go.Proofs.YtmbkjkcolmoioaaGreatDoor.G

namespace Go.Proofs.YtmbkjkcolmoioaaGreatDoor.G
open Go Go.Ab
set_option maxRecDepth 100000
set_option linter.unusedVariables false
set_option linter.unusedSimpArgs false
set_option maxHeartbeats 1000000
def strings_Join.wp (l0 : List (List UInt8)) (a1 : List UInt8) (K : List UInt8 → Prop) : Prop := (l0.length ≤ 2 ^ 40 ∧ (Lib.join l0 a1).length ≤ 2 ^ 40) ∧ K (Lib.join l0 a1)
end Go.Proofs.YtmbkjkcolmoioaaGreatDoor.G

namespace Go.Proofs.YtmbkjkcolmoioaaGreatDoor.G
open Go Go.Ab
set_option maxRecDepth 100000
set_option linter.unusedVariables false
set_option linter.unusedSimpArgs false
set_option maxHeartbeats 1000000
def impl_joined.wp (l0 : List (List UInt8)) (K : (List UInt8) → Prop) : Prop := (((l0.length : Int) = (0 : Int) → K ([110, 111, 110, 101] : List UInt8)) ∧ (¬((l0.length : Int) = (0 : Int)) → strings_Join.wp l0 ([44] : List UInt8) fun y102 => K (y102)))
end Go.Proofs.YtmbkjkcolmoioaaGreatDoor.G

namespace Go.Proofs.YtmbkjkcolmoioaaGreatDoor.G
open Go Go.Ab
set_option maxRecDepth 100000
set_option linter.unusedVariables false
set_option linter.unusedSimpArgs false
set_option maxHeartbeats 1000000
def impl_NumbersText.wp (l0 : List (Nat)) (K : (List UInt8) → Bool → Prop) : Prop := (((256 : Int) < (l0.length : Int) → K ([] : List UInt8) (false)) ∧ (¬((256 : Int) < (l0.length : Int)) → ∀ X121 : List (List UInt8) → Int → Prop, (∀ (texts122 : List (List UInt8)) (x124 : Int), ((x124 < (l0.length : Int) → (0 ≤ x124 ∧ x124 < (l0.length : Int)) ∧ impl_hexOf.wp (l0.getD (x124).toNat (0 : Nat)) fun y127 => ((texts122.length + ([y127] : List (List UInt8)).length) * 16 ≤ 2 ^ 40) ∧ X121 (texts122 ++ ([y127] : List (List UInt8))) (IntKind.i64.wrap (x124 + (1 : Int)))) ∧ (¬(x124 < (l0.length : Int)) → impl_joined.wp texts122 fun y135 => K (y135) (true))) → X121 texts122 x124) → X121 ([] : List (List UInt8)) (0 : Int)))
end Go.Proofs.YtmbkjkcolmoioaaGreatDoor.G

namespace Go.Proofs.YtmbkjkcolmoioaaGreatDoor.G
open Go Go.Ab
set_option maxRecDepth 100000
set_option linter.unusedVariables false
set_option linter.unusedSimpArgs false
set_option maxHeartbeats 1000000
def internal_strconv_lower.wp (a0 : Int) (K : Int → Prop) : Prop := K (ibits .or .u8 a0 (32 : Int))
end Go.Proofs.YtmbkjkcolmoioaaGreatDoor.G

namespace Go.Proofs.YtmbkjkcolmoioaaGreatDoor.G
open Go Go.Ab
set_option maxRecDepth 100000
set_option linter.unusedVariables false
set_option linter.unusedSimpArgs false
set_option maxHeartbeats 1000000
def internal_strconv_underscoreOK.wp (a0 : List UInt8) (K : Bool → Prop) : Prop := False
end Go.Proofs.YtmbkjkcolmoioaaGreatDoor.G

namespace Go.Proofs.YtmbkjkcolmoioaaGreatDoor.G
open Go Go.Ab
set_option maxRecDepth 100000
set_option linter.unusedVariables false
set_option linter.unusedSimpArgs false
set_option maxHeartbeats 1000000
def internal_strconv_ParseUintC.wp (a0 : List UInt8) (K : Int → IfV → Prop) : Prop := ((a0 = ([] : List UInt8) → K (0 : Int) (IfV.num 255 .i64 (2 : Int))) ∧ (¬(a0 = ([] : List UInt8)) → (0 ≤ (IntKind.u64.wrap (32 : Int))) ∧ ∀ X106 : Bool → Int → Int → Prop, (∀ (underscores107 : Bool) (n108 : Int) (x109 : Int), ((x109 < ((nums a0).length : Int) → (0 ≤ x109 ∧ x109 < ((nums a0).length : Int)) ∧ ((((nums a0).getD (x109).toNat (0 : Int)) = (95 : Int) → (((48 : Int) ≤ ((nums a0).getD (x109).toNat (0 : Int)) → ((((nums a0).getD (x109).toNat (0 : Int)) ≤ (57 : Int) → (((IntKind.u8.wrap (16 : Int)) ≤ (IntKind.u8.wrap (((nums a0).getD (x109).toNat (0 : Int)) - (48 : Int))) → K (0 : Int) (IfV.num 255 .i64 (2 : Int))) ∧ (¬((IntKind.u8.wrap (16 : Int)) ≤ (IntKind.u8.wrap (((nums a0).getD (x109).toNat (0 : Int)) - (48 : Int)))) → (((1152921504606846976 : Int) ≤ n108 → K (IntKind.u64.wrap ((IntKind.u64.wrap ((1 : Int) * (2 ^ (min ((IntKind.u64.wrap (32 : Int))).toNat IntKind.u64.bits)))) - (1 : Int))) (IfV.num 255 .i64 (1 : Int))) ∧ (¬((1152921504606846976 : Int) ≤ n108) → (((IntKind.u64.wrap ((IntKind.u64.wrap (n108 * (IntKind.u64.wrap (16 : Int)))) + (IntKind.u64.wrap (IntKind.u8.wrap (((nums a0).getD (x109).toNat (0 : Int)) - (48 : Int)))))) < (IntKind.u64.wrap (n108 * (IntKind.u64.wrap (16 : Int)))) → K (IntKind.u64.wrap ((IntKind.u64.wrap ((1 : Int) * (2 ^ (min ((IntKind.u64.wrap (32 : Int))).toNat IntKind.u64.bits)))) - (1 : Int))) (IfV.num 255 .i64 (1 : Int))) ∧ (¬((IntKind.u64.wrap ((IntKind.u64.wrap (n108 * (IntKind.u64.wrap (16 : Int)))) + (IntKind.u64.wrap (IntKind.u8.wrap (((nums a0).getD (x109).toNat (0 : Int)) - (48 : Int)))))) < (IntKind.u64.wrap (n108 * (IntKind.u64.wrap (16 : Int))))) → (((IntKind.u64.wrap ((IntKind.u64.wrap ((1 : Int) * (2 ^ (min ((IntKind.u64.wrap (32 : Int))).toNat IntKind.u64.bits)))) - (1 : Int))) < (IntKind.u64.wrap ((IntKind.u64.wrap (n108 * (IntKind.u64.wrap (16 : Int)))) + (IntKind.u64.wrap (IntKind.u8.wrap (((nums a0).getD (x109).toNat (0 : Int)) - (48 : Int)))))) → K (IntKind.u64.wrap ((IntKind.u64.wrap ((1 : Int) * (2 ^ (min ((IntKind.u64.wrap (32 : Int))).toNat IntKind.u64.bits)))) - (1 : Int))) (IfV.num 255 .i64 (1 : Int))) ∧ (¬((IntKind.u64.wrap ((IntKind.u64.wrap ((1 : Int) * (2 ^ (min ((IntKind.u64.wrap (32 : Int))).toNat IntKind.u64.bits)))) - (1 : Int))) < (IntKind.u64.wrap ((IntKind.u64.wrap (n108 * (IntKind.u64.wrap (16 : Int)))) + (IntKind.u64.wrap (IntKind.u8.wrap (((nums a0).getD (x109).toNat (0 : Int)) - (48 : Int))))))) → X106 (underscores107) (IntKind.u64.wrap ((IntKind.u64.wrap (n108 * (IntKind.u64.wrap (16 : Int)))) + (IntKind.u64.wrap (IntKind.u8.wrap (((nums a0).getD (x109).toNat (0 : Int)) - (48 : Int)))))) (IntKind.i64.wrap (x109 + (1 : Int)))))))))))) ∧ (¬(((nums a0).getD (x109).toNat (0 : Int)) ≤ (57 : Int)) → internal_strconv_lower.wp ((nums a0).getD (x109).toNat (0 : Int)) fun y119 => (((97 : Int) ≤ y119 → internal_strconv_lower.wp ((nums a0).getD (x109).toNat (0 : Int)) fun y122 => ((y122 ≤ (122 : Int) → internal_strconv_lower.wp ((nums a0).getD (x109).toNat (0 : Int)) fun y125 => (((IntKind.u8.wrap (16 : Int)) ≤ (IntKind.u8.wrap ((IntKind.u8.wrap (y125 - (97 : Int))) + (10 : Int))) → K (0 : Int) (IfV.num 255 .i64 (2 : Int))) ∧ (¬((IntKind.u8.wrap (16 : Int)) ≤ (IntKind.u8.wrap ((IntKind.u8.wrap (y125 - (97 : Int))) + (10 : Int)))) → (((1152921504606846976 : Int) ≤ n108 → K (IntKind.u64.wrap ((IntKind.u64.wrap ((1 : Int) * (2 ^ (min ((IntKind.u64.wrap (32 : Int))).toNat IntKind.u64.bits)))) - (1 : Int))) (IfV.num 255 .i64 (1 : Int))) ∧ (¬((1152921504606846976 : Int) ≤ n108) → (((IntKind.u64.wrap ((IntKind.u64.wrap (n108 * (IntKind.u64.wrap (16 : Int)))) + (IntKind.u64.wrap (IntKind.u8.wrap ((IntKind.u8.wrap (y125 - (97 : Int))) + (10 : Int)))))) < (IntKind.u64.wrap (n108 * (IntKind.u64.wrap (16 : Int)))) → K (IntKind.u64.wrap ((IntKind.u64.wrap ((1 : Int) * (2 ^ (min ((IntKind.u64.wrap (32 : Int))).toNat IntKind.u64.bits)))) - (1 : Int))) (IfV.num 255 .i64 (1 : Int))) ∧ (¬((IntKind.u64.wrap ((IntKind.u64.wrap (n108 * (IntKind.u64.wrap (16 : Int)))) + (IntKind.u64.wrap (IntKind.u8.wrap ((IntKind.u8.wrap (y125 - (97 : Int))) + (10 : Int)))))) < (IntKind.u64.wrap (n108 * (IntKind.u64.wrap (16 : Int))))) → (((IntKind.u64.wrap ((IntKind.u64.wrap ((1 : Int) * (2 ^ (min ((IntKind.u64.wrap (32 : Int))).toNat IntKind.u64.bits)))) - (1 : Int))) < (IntKind.u64.wrap ((IntKind.u64.wrap (n108 * (IntKind.u64.wrap (16 : Int)))) + (IntKind.u64.wrap (IntKind.u8.wrap ((IntKind.u8.wrap (y125 - (97 : Int))) + (10 : Int)))))) → K (IntKind.u64.wrap ((IntKind.u64.wrap ((1 : Int) * (2 ^ (min ((IntKind.u64.wrap (32 : Int))).toNat IntKind.u64.bits)))) - (1 : Int))) (IfV.num 255 .i64 (1 : Int))) ∧ (¬((IntKind.u64.wrap ((IntKind.u64.wrap ((1 : Int) * (2 ^ (min ((IntKind.u64.wrap (32 : Int))).toNat IntKind.u64.bits)))) - (1 : Int))) < (IntKind.u64.wrap ((IntKind.u64.wrap (n108 * (IntKind.u64.wrap (16 : Int)))) + (IntKind.u64.wrap (IntKind.u8.wrap ((IntKind.u8.wrap (y125 - (97 : Int))) + (10 : Int))))))) → X106 (underscores107) (IntKind.u64.wrap ((IntKind.u64.wrap (n108 * (IntKind.u64.wrap (16 : Int)))) + (IntKind.u64.wrap (IntKind.u8.wrap ((IntKind.u8.wrap (y125 - (97 : Int))) + (10 : Int)))))) (IntKind.i64.wrap (x109 + (1 : Int)))))))))))) ∧ (¬(y122 ≤ (122 : Int)) → K (0 : Int) (IfV.num 255 .i64 (2 : Int))))) ∧ (¬((97 : Int) ≤ y119) → K (0 : Int) (IfV.num 255 .i64 (2 : Int))))))) ∧ (¬((48 : Int) ≤ ((nums a0).getD (x109).toNat (0 : Int))) → internal_strconv_lower.wp ((nums a0).getD (x109).toNat (0 : Int)) fun y131 => (((97 : Int) ≤ y131 → internal_strconv_lower.wp ((nums a0).getD (x109).toNat (0 : Int)) fun y134 => ((y134 ≤ (122 : Int) → internal_strconv_lower.wp ((nums a0).getD (x109).toNat (0 : Int)) fun y137 => (((IntKind.u8.wrap (16 : Int)) ≤ (IntKind.u8.wrap ((IntKind.u8.wrap (y137 - (97 : Int))) + (10 : Int))) → K (0 : Int) (IfV.num 255 .i64 (2 : Int))) ∧ (¬((IntKind.u8.wrap (16 : Int)) ≤ (IntKind.u8.wrap ((IntKind.u8.wrap (y137 - (97 : Int))) + (10 : Int)))) → (((1152921504606846976 : Int) ≤ n108 → K (IntKind.u64.wrap ((IntKind.u64.wrap ((1 : Int) * (2 ^ (min ((IntKind.u64.wrap (32 : Int))).toNat IntKind.u64.bits)))) - (1 : Int))) (IfV.num 255 .i64 (1 : Int))) ∧ (¬((1152921504606846976 : Int) ≤ n108) → (((IntKind.u64.wrap ((IntKind.u64.wrap (n108 * (IntKind.u64.wrap (16 : Int)))) + (IntKind.u64.wrap (IntKind.u8.wrap ((IntKind.u8.wrap (y137 - (97 : Int))) + (10 : Int)))))) < (IntKind.u64.wrap (n108 * (IntKind.u64.wrap (16 : Int)))) → K (IntKind.u64.wrap ((IntKind.u64.wrap ((1 : Int) * (2 ^ (min ((IntKind.u64.wrap (32 : Int))).toNat IntKind.u64.bits)))) - (1 : Int))) (IfV.num 255 .i64 (1 : Int))) ∧ (¬((IntKind.u64.wrap ((IntKind.u64.wrap (n108 * (IntKind.u64.wrap (16 : Int)))) + (IntKind.u64.wrap (IntKind.u8.wrap ((IntKind.u8.wrap (y137 - (97 : Int))) + (10 : Int)))))) < (IntKind.u64.wrap (n108 * (IntKind.u64.wrap (16 : Int))))) → (((IntKind.u64.wrap ((IntKind.u64.wrap ((1 : Int) * (2 ^ (min ((IntKind.u64.wrap (32 : Int))).toNat IntKind.u64.bits)))) - (1 : Int))) < (IntKind.u64.wrap ((IntKind.u64.wrap (n108 * (IntKind.u64.wrap (16 : Int)))) + (IntKind.u64.wrap (IntKind.u8.wrap ((IntKind.u8.wrap (y137 - (97 : Int))) + (10 : Int)))))) → K (IntKind.u64.wrap ((IntKind.u64.wrap ((1 : Int) * (2 ^ (min ((IntKind.u64.wrap (32 : Int))).toNat IntKind.u64.bits)))) - (1 : Int))) (IfV.num 255 .i64 (1 : Int))) ∧ (¬((IntKind.u64.wrap ((IntKind.u64.wrap ((1 : Int) * (2 ^ (min ((IntKind.u64.wrap (32 : Int))).toNat IntKind.u64.bits)))) - (1 : Int))) < (IntKind.u64.wrap ((IntKind.u64.wrap (n108 * (IntKind.u64.wrap (16 : Int)))) + (IntKind.u64.wrap (IntKind.u8.wrap ((IntKind.u8.wrap (y137 - (97 : Int))) + (10 : Int))))))) → X106 (underscores107) (IntKind.u64.wrap ((IntKind.u64.wrap (n108 * (IntKind.u64.wrap (16 : Int)))) + (IntKind.u64.wrap (IntKind.u8.wrap ((IntKind.u8.wrap (y137 - (97 : Int))) + (10 : Int)))))) (IntKind.i64.wrap (x109 + (1 : Int)))))))))))) ∧ (¬(y134 ≤ (122 : Int)) → K (0 : Int) (IfV.num 255 .i64 (2 : Int))))) ∧ (¬((97 : Int) ≤ y131) → K (0 : Int) (IfV.num 255 .i64 (2 : Int))))))) ∧ (¬(((nums a0).getD (x109).toNat (0 : Int)) = (95 : Int)) → (((48 : Int) ≤ ((nums a0).getD (x109).toNat (0 : Int)) → ((((nums a0).getD (x109).toNat (0 : Int)) ≤ (57 : Int) → (((IntKind.u8.wrap (16 : Int)) ≤ (IntKind.u8.wrap (((nums a0).getD (x109).toNat (0 : Int)) - (48 : Int))) → K (0 : Int) (IfV.num 255 .i64 (2 : Int))) ∧ (¬((IntKind.u8.wrap (16 : Int)) ≤ (IntKind.u8.wrap (((nums a0).getD (x109).toNat (0 : Int)) - (48 : Int)))) → (((1152921504606846976 : Int) ≤ n108 → K (IntKind.u64.wrap ((IntKind.u64.wrap ((1 : Int) * (2 ^ (min ((IntKind.u64.wrap (32 : Int))).toNat IntKind.u64.bits)))) - (1 : Int))) (IfV.num 255 .i64 (1 : Int))) ∧ (¬((1152921504606846976 : Int) ≤ n108) → (((IntKind.u64.wrap ((IntKind.u64.wrap (n108 * (IntKind.u64.wrap (16 : Int)))) + (IntKind.u64.wrap (IntKind.u8.wrap (((nums a0).getD (x109).toNat (0 : Int)) - (48 : Int)))))) < (IntKind.u64.wrap (n108 * (IntKind.u64.wrap (16 : Int)))) → K (IntKind.u64.wrap ((IntKind.u64.wrap ((1 : Int) * (2 ^ (min ((IntKind.u64.wrap (32 : Int))).toNat IntKind.u64.bits)))) - (1 : Int))) (IfV.num 255 .i64 (1 : Int))) ∧ (¬((IntKind.u64.wrap ((IntKind.u64.wrap (n108 * (IntKind.u64.wrap (16 : Int)))) + (IntKind.u64.wrap (IntKind.u8.wrap (((nums a0).getD (x109).toNat (0 : Int)) - (48 : Int)))))) < (IntKind.u64.wrap (n108 * (IntKind.u64.wrap (16 : Int))))) → (((IntKind.u64.wrap ((IntKind.u64.wrap ((1 : Int) * (2 ^ (min ((IntKind.u64.wrap (32 : Int))).toNat IntKind.u64.bits)))) - (1 : Int))) < (IntKind.u64.wrap ((IntKind.u64.wrap (n108 * (IntKind.u64.wrap (16 : Int)))) + (IntKind.u64.wrap (IntKind.u8.wrap (((nums a0).getD (x109).toNat (0 : Int)) - (48 : Int)))))) → K (IntKind.u64.wrap ((IntKind.u64.wrap ((1 : Int) * (2 ^ (min ((IntKind.u64.wrap (32 : Int))).toNat IntKind.u64.bits)))) - (1 : Int))) (IfV.num 255 .i64 (1 : Int))) ∧ (¬((IntKind.u64.wrap ((IntKind.u64.wrap ((1 : Int) * (2 ^ (min ((IntKind.u64.wrap (32 : Int))).toNat IntKind.u64.bits)))) - (1 : Int))) < (IntKind.u64.wrap ((IntKind.u64.wrap (n108 * (IntKind.u64.wrap (16 : Int)))) + (IntKind.u64.wrap (IntKind.u8.wrap (((nums a0).getD (x109).toNat (0 : Int)) - (48 : Int))))))) → X106 (underscores107) (IntKind.u64.wrap ((IntKind.u64.wrap (n108 * (IntKind.u64.wrap (16 : Int)))) + (IntKind.u64.wrap (IntKind.u8.wrap (((nums a0).getD (x109).toNat (0 : Int)) - (48 : Int)))))) (IntKind.i64.wrap (x109 + (1 : Int)))))))))))) ∧ (¬(((nums a0).getD (x109).toNat (0 : Int)) ≤ (57 : Int)) → internal_strconv_lower.wp ((nums a0).getD (x109).toNat (0 : Int)) fun y149 => (((97 : Int) ≤ y149 → internal_strconv_lower.wp ((nums a0).getD (x109).toNat (0 : Int)) fun y152 => ((y152 ≤ (122 : Int) → internal_strconv_lower.wp ((nums a0).getD (x109).toNat (0 : Int)) fun y155 => (((IntKind.u8.wrap (16 : Int)) ≤ (IntKind.u8.wrap ((IntKind.u8.wrap (y155 - (97 : Int))) + (10 : Int))) → K (0 : Int) (IfV.num 255 .i64 (2 : Int))) ∧ (¬((IntKind.u8.wrap (16 : Int)) ≤ (IntKind.u8.wrap ((IntKind.u8.wrap (y155 - (97 : Int))) + (10 : Int)))) → (((1152921504606846976 : Int) ≤ n108 → K (IntKind.u64.wrap ((IntKind.u64.wrap ((1 : Int) * (2 ^ (min ((IntKind.u64.wrap (32 : Int))).toNat IntKind.u64.bits)))) - (1 : Int))) (IfV.num 255 .i64 (1 : Int))) ∧ (¬((1152921504606846976 : Int) ≤ n108) → (((IntKind.u64.wrap ((IntKind.u64.wrap (n108 * (IntKind.u64.wrap (16 : Int)))) + (IntKind.u64.wrap (IntKind.u8.wrap ((IntKind.u8.wrap (y155 - (97 : Int))) + (10 : Int)))))) < (IntKind.u64.wrap (n108 * (IntKind.u64.wrap (16 : Int)))) → K (IntKind.u64.wrap ((IntKind.u64.wrap ((1 : Int) * (2 ^ (min ((IntKind.u64.wrap (32 : Int))).toNat IntKind.u64.bits)))) - (1 : Int))) (IfV.num 255 .i64 (1 : Int))) ∧ (¬((IntKind.u64.wrap ((IntKind.u64.wrap (n108 * (IntKind.u64.wrap (16 : Int)))) + (IntKind.u64.wrap (IntKind.u8.wrap ((IntKind.u8.wrap (y155 - (97 : Int))) + (10 : Int)))))) < (IntKind.u64.wrap (n108 * (IntKind.u64.wrap (16 : Int))))) → (((IntKind.u64.wrap ((IntKind.u64.wrap ((1 : Int) * (2 ^ (min ((IntKind.u64.wrap (32 : Int))).toNat IntKind.u64.bits)))) - (1 : Int))) < (IntKind.u64.wrap ((IntKind.u64.wrap (n108 * (IntKind.u64.wrap (16 : Int)))) + (IntKind.u64.wrap (IntKind.u8.wrap ((IntKind.u8.wrap (y155 - (97 : Int))) + (10 : Int)))))) → K (IntKind.u64.wrap ((IntKind.u64.wrap ((1 : Int) * (2 ^ (min ((IntKind.u64.wrap (32 : Int))).toNat IntKind.u64.bits)))) - (1 : Int))) (IfV.num 255 .i64 (1 : Int))) ∧ (¬((IntKind.u64.wrap ((IntKind.u64.wrap ((1 : Int) * (2 ^ (min ((IntKind.u64.wrap (32 : Int))).toNat IntKind.u64.bits)))) - (1 : Int))) < (IntKind.u64.wrap ((IntKind.u64.wrap (n108 * (IntKind.u64.wrap (16 : Int)))) + (IntKind.u64.wrap (IntKind.u8.wrap ((IntKind.u8.wrap (y155 - (97 : Int))) + (10 : Int))))))) → X106 (underscores107) (IntKind.u64.wrap ((IntKind.u64.wrap (n108 * (IntKind.u64.wrap (16 : Int)))) + (IntKind.u64.wrap (IntKind.u8.wrap ((IntKind.u8.wrap (y155 - (97 : Int))) + (10 : Int)))))) (IntKind.i64.wrap (x109 + (1 : Int)))))))))))) ∧ (¬(y152 ≤ (122 : Int)) → K (0 : Int) (IfV.num 255 .i64 (2 : Int))))) ∧ (¬((97 : Int) ≤ y149) → K (0 : Int) (IfV.num 255 .i64 (2 : Int))))))) ∧ (¬((48 : Int) ≤ ((nums a0).getD (x109).toNat (0 : Int))) → internal_strconv_lower.wp ((nums a0).getD (x109).toNat (0 : Int)) fun y161 => (((97 : Int) ≤ y161 → internal_strconv_lower.wp ((nums a0).getD (x109).toNat (0 : Int)) fun y164 => ((y164 ≤ (122 : Int) → internal_strconv_lower.wp ((nums a0).getD (x109).toNat (0 : Int)) fun y167 => (((IntKind.u8.wrap (16 : Int)) ≤ (IntKind.u8.wrap ((IntKind.u8.wrap (y167 - (97 : Int))) + (10 : Int))) → K (0 : Int) (IfV.num 255 .i64 (2 : Int))) ∧ (¬((IntKind.u8.wrap (16 : Int)) ≤ (IntKind.u8.wrap ((IntKind.u8.wrap (y167 - (97 : Int))) + (10 : Int)))) → (((1152921504606846976 : Int) ≤ n108 → K (IntKind.u64.wrap ((IntKind.u64.wrap ((1 : Int) * (2 ^ (min ((IntKind.u64.wrap (32 : Int))).toNat IntKind.u64.bits)))) - (1 : Int))) (IfV.num 255 .i64 (1 : Int))) ∧ (¬((1152921504606846976 : Int) ≤ n108) → (((IntKind.u64.wrap ((IntKind.u64.wrap (n108 * (IntKind.u64.wrap (16 : Int)))) + (IntKind.u64.wrap (IntKind.u8.wrap ((IntKind.u8.wrap (y167 - (97 : Int))) + (10 : Int)))))) < (IntKind.u64.wrap (n108 * (IntKind.u64.wrap (16 : Int)))) → K (IntKind.u64.wrap ((IntKind.u64.wrap ((1 : Int) * (2 ^ (min ((IntKind.u64.wrap (32 : Int))).toNat IntKind.u64.bits)))) - (1 : Int))) (IfV.num 255 .i64 (1 : Int))) ∧ (¬((IntKind.u64.wrap ((IntKind.u64.wrap (n108 * (IntKind.u64.wrap (16 : Int)))) + (IntKind.u64.wrap (IntKind.u8.wrap ((IntKind.u8.wrap (y167 - (97 : Int))) + (10 : Int)))))) < (IntKind.u64.wrap (n108 * (IntKind.u64.wrap (16 : Int))))) → (((IntKind.u64.wrap ((IntKind.u64.wrap ((1 : Int) * (2 ^ (min ((IntKind.u64.wrap (32 : Int))).toNat IntKind.u64.bits)))) - (1 : Int))) < (IntKind.u64.wrap ((IntKind.u64.wrap (n108 * (IntKind.u64.wrap (16 : Int)))) + (IntKind.u64.wrap (IntKind.u8.wrap ((IntKind.u8.wrap (y167 - (97 : Int))) + (10 : Int)))))) → K (IntKind.u64.wrap ((IntKind.u64.wrap ((1 : Int) * (2 ^ (min ((IntKind.u64.wrap (32 : Int))).toNat IntKind.u64.bits)))) - (1 : Int))) (IfV.num 255 .i64 (1 : Int))) ∧ (¬((IntKind.u64.wrap ((IntKind.u64.wrap ((1 : Int) * (2 ^ (min ((IntKind.u64.wrap (32 : Int))).toNat IntKind.u64.bits)))) - (1 : Int))) < (IntKind.u64.wrap ((IntKind.u64.wrap (n108 * (IntKind.u64.wrap (16 : Int)))) + (IntKind.u64.wrap (IntKind.u8.wrap ((IntKind.u8.wrap (y167 - (97 : Int))) + (10 : Int))))))) → X106 (underscores107) (IntKind.u64.wrap ((IntKind.u64.wrap (n108 * (IntKind.u64.wrap (16 : Int)))) + (IntKind.u64.wrap (IntKind.u8.wrap ((IntKind.u8.wrap (y167 - (97 : Int))) + (10 : Int)))))) (IntKind.i64.wrap (x109 + (1 : Int)))))))))))) ∧ (¬(y164 ≤ (122 : Int)) → K (0 : Int) (IfV.num 255 .i64 (2 : Int))))) ∧ (¬((97 : Int) ≤ y161) → K (0 : Int) (IfV.num 255 .i64 (2 : Int))))))))) ∧ (¬(x109 < ((nums a0).length : Int)) → ((underscores107 = true → internal_strconv_underscoreOK.wp a0 fun y174 => ((y174 = true → K (n108) (IfV.nil)) ∧ (y174 = false → K (0 : Int) (IfV.num 255 .i64 (2 : Int))))) ∧ (underscores107 = false → K (n108) (IfV.nil))))) → X106 underscores107 n108 x109) → X106 (false) (0 : Int) (0 : Int)))
def internal_strconv_ParseUint.wp (a0 : List UInt8) (a1 : Int) (a2 : Int) (K : Int → IfV → Prop) : Prop := (a1 = 16 ∧ a2 = 32) ∧ internal_strconv_ParseUintC.wp a0 K
end Go.Proofs.YtmbkjkcolmoioaaGreatDoor.G

namespace Go.Proofs.YtmbkjkcolmoioaaGreatDoor.G
open Go Go.Ab
set_option maxRecDepth 100000
set_option linter.unusedVariables false
set_option linter.unusedSimpArgs false
set_option maxHeartbeats 1000000
def strconv_toError.wp (a0 a1 : List UInt8) (a2 a3 : Int) (a4 : IfV) (K : IfV → Prop) : Prop := (a4 = IfV.num 255 .i64 2 ∧ a1.length ≤ 2 ^ 40) ∧ K IfV.other
end Go.Proofs.YtmbkjkcolmoioaaGreatDoor.G

namespace Go.Proofs.YtmbkjkcolmoioaaGreatDoor.G
open Go Go.Ab
set_option maxRecDepth 100000
set_option linter.unusedVariables false
set_option linter.unusedSimpArgs false
set_option maxHeartbeats 1000000
def strconv_ParseUint.wp (a0 : List UInt8) (a1 : Int) (a2 : Int) (K : Int → IfV → Prop) : Prop := internal_strconv_ParseUint.wp a0 a1 a2 fun y101 y102 => (((y102.isNil) = true → K (y101) (IfV.nil)) ∧ ((y102.isNil) = false → strconv_toError.wp ([80, 97, 114, 115, 101, 85, 105, 110, 116] : List UInt8) a0 a1 a2 y102 fun y105 => K (y101) (y105)))
end Go.Proofs.YtmbkjkcolmoioaaGreatDoor.G

namespace Go.Proofs.YtmbkjkcolmoioaaGreatDoor.G
open Go Go.Ab
set_option maxRecDepth 100000
set_option linter.unusedVariables false
set_option linter.unusedSimpArgs false
set_option maxHeartbeats 1000000
def impl_readHex.wp (a0 : List UInt8) (K : Nat → Prop) : Prop := strconv_ParseUint.wp a0 (16 : Int) (32 : Int) fun y101 y102 => math_Float32frombits.wp (IntKind.u32.wrap y101) fun y104 => K (y104)
end Go.Proofs.YtmbkjkcolmoioaaGreatDoor.G

namespace Go.Proofs.YtmbkjkcolmoioaaGreatDoor.G
open Go Go.Ab
set_option maxRecDepth 100000
set_option linter.unusedVariables false
set_option linter.unusedSimpArgs false
set_option maxHeartbeats 1000000
def impl_ReadNumbers.wp (a0 : List UInt8) (K : (List (Nat)) → Bool → Prop) : Prop := impl_pieces.wp a0 fun y104 => ∀ X129 : List (Nat) → Int → Prop, (∀ (out130 : List (Nat)) (x132 : Int), ((x132 < (y104.length : Int) → (0 ≤ x132 ∧ x132 < (y104.length : Int)) ∧ ((((y104.getD (x132).toNat ([] : List UInt8)).length : Int) = (8 : Int) → (((out130.length : Int) = (256 : Int) → K ([] : List (Nat)) (false)) ∧ (¬((out130.length : Int) = (256 : Int)) → impl_readHex.wp (y104.getD (x132).toNat ([] : List UInt8)) fun y137 => ((out130.length + ([y137] : List (Nat)).length) * 4 ≤ 2 ^ 40) ∧ X129 (out130 ++ ([y137] : List (Nat))) (IntKind.i64.wrap (x132 + (1 : Int)))))) ∧ (¬(((y104.getD (x132).toNat ([] : List UInt8)).length : Int) = (8 : Int)) → K ([] : List (Nat)) (false)))) ∧ (¬(x132 < (y104.length : Int)) → impl_NumbersText.wp out130 fun y145 y146 => ((y146 = true → ((y145 = a0 → K (out130) (true)) ∧ (¬(y145 = a0) → K ([] : List (Nat)) (false)))) ∧ (y146 = false → K ([] : List (Nat)) (false))))) → X129 out130 x132) → X129 ([] : List (Nat)) (0 : Int)
end Go.Proofs.YtmbkjkcolmoioaaGreatDoor.G

namespace Go.Proofs.YtmbkjkcolmoioaaGreatDoor.G
open Go Go.Ab
set_option maxRecDepth 100000
set_option linter.unusedVariables false
set_option linter.unusedSimpArgs false
set_option maxHeartbeats 1000000
def impl_IsFinite.wp (a0 : Nat) (K : Bool → Prop) : Prop := K (fcmp .eql .f32 (fop .sub .f32 a0 a0) (cz .f32 0))
end Go.Proofs.YtmbkjkcolmoioaaGreatDoor.G

namespace Go.Proofs.YtmbkjkcolmoioaaGreatDoor.G
open Go Go.Ab
set_option maxRecDepth 100000
set_option linter.unusedVariables false
set_option linter.unusedSimpArgs false
set_option maxHeartbeats 1000000
def impl_areFinite.wp (l0 : List (List (Nat))) (K : Bool → Prop) : Prop := ∀ X101 : Int → Prop, (∀ (x102 : Int), ((x102 < (l0.length : Int) → (0 ≤ x102 ∧ x102 < (l0.length : Int)) ∧ ∀ X105 : Int → Prop, (∀ (x106 : Int), ((x106 < ((l0.getD (x102).toNat ([] : List (Nat))).length : Int) → (0 ≤ x106 ∧ x106 < ((l0.getD (x102).toNat ([] : List (Nat))).length : Int)) ∧ impl_IsFinite.wp ((l0.getD (x102).toNat ([] : List (Nat))).getD (x106).toNat (0 : Nat)) fun y109 => ((y109 = true → X105 (IntKind.i64.wrap (x106 + (1 : Int)))) ∧ (y109 = false → K (false)))) ∧ (¬(x106 < ((l0.getD (x102).toNat ([] : List (Nat))).length : Int)) → X101 (IntKind.i64.wrap (x102 + (1 : Int))))) → X105 x106) → X105 (0 : Int)) ∧ (¬(x102 < (l0.length : Int)) → K (true))) → X101 x102) → X101 (0 : Int)
end Go.Proofs.YtmbkjkcolmoioaaGreatDoor.G

namespace Go.Proofs.YtmbkjkcolmoioaaGreatDoor.G
open Go Go.Ab
set_option maxRecDepth 100000
set_option linter.unusedVariables false
set_option linter.unusedSimpArgs false
set_option maxHeartbeats 1000000
def impl_ValidPicture.wp (a0 : Int) (a1 : Int) (l2 : List (Nat)) (K : Bool → Prop) : Prop := impl_within.wp a0 (1 : Int) (16 : Int) fun y104 => ((y104 = true → impl_within.wp a1 (1 : Int) (16 : Int) fun y107 => ((y107 = true → (((l2.length : Int) = (IntKind.i64.wrap (a0 * a1)) → impl_areFinite.wp ([l2] : List (List (Nat))) fun y114 => K (y114)) ∧ (¬((l2.length : Int) = (IntKind.i64.wrap (a0 * a1))) → K (false)))) ∧ (y107 = false → K (false)))) ∧ (y104 = false → K (false)))
end Go.Proofs.YtmbkjkcolmoioaaGreatDoor.G

namespace Go.Proofs.YtmbkjkcolmoioaaGreatDoor.G
open Go Go.Ab
set_option maxRecDepth 100000
set_option linter.unusedVariables false
set_option linter.unusedSimpArgs false
set_option maxHeartbeats 1000000
def impl_validPicture.wp (a0 : Int) (a1 : Int) (l2 : List (Nat)) (K : Int → Int → Bool → Bool → Prop) : Prop := impl_ValidPicture.wp a0 a1 l2 fun y107 => ((y107 = true → K (a0) (a1) (true) (true)) ∧ (y107 = false → K (0 : Int) (0 : Int) (false) (false)))
end Go.Proofs.YtmbkjkcolmoioaaGreatDoor.G

namespace Go.Proofs.YtmbkjkcolmoioaaGreatDoor.G
open Go Go.Ab
set_option maxRecDepth 100000
set_option linter.unusedVariables false
set_option linter.unusedSimpArgs false
set_option maxHeartbeats 1000000
def impl_ReadPicture.wp (a0 : List UInt8) (K : Int → Int → (List (Nat)) → Bool → Prop) : Prop := strings_Cut.wp a0 ([59] : List UInt8) fun y104 y105 y106 => impl_readPair.wp y104 fun y108 y109 y110 => impl_ReadNumbers.wp y105 fun y112 y115 => ((y106 = true → ((y110 = true → ((y115 = true → impl_validPicture.wp y108 y109 y112 fun y120 y121 y122 y123 => ((y122 = true → K (y120) (y121) (y112) (y123)) ∧ (y122 = false → K (y120) (y121) ([] : List (Nat)) (y123)))) ∧ (y115 = false → K (0 : Int) (0 : Int) ([] : List (Nat)) (false)))) ∧ (y110 = false → K (0 : Int) (0 : Int) ([] : List (Nat)) (false)))) ∧ (y106 = false → K (0 : Int) (0 : Int) ([] : List (Nat)) (false)))
end Go.Proofs.YtmbkjkcolmoioaaGreatDoor.G

namespace Go.Proofs.YtmbkjkcolmoioaaGreatDoor.G
open Go Go.Ab
set_option maxRecDepth 100000
set_option linter.unusedVariables false
set_option linter.unusedSimpArgs false
set_option maxHeartbeats 1000000
def laws_sameFloat.wp (a0 : Nat) (a1 : Nat) (K : Bool → Prop) : Prop := (((fcmp .neq .f64 a0 a0) = true → K (fcmp .neq .f64 a1 a1)) ∧ ((fcmp .neq .f64 a0 a0) = false → (((fcmp .neq .f64 a1 a1) = true → K (false)) ∧ ((fcmp .neq .f64 a1 a1) = false → (((fcmp .eql .f64 a0 (cz .f64 0)) = true → (((fcmp .eql .f64 a1 (cz .f64 0)) = true → K ((fcmp .gtr .f64 (fop .quo .f64 (cz .f64 4607182418800017408) a0) (cz .f64 0)) == (fcmp .gtr .f64 (fop .quo .f64 (cz .f64 4607182418800017408) a1) (cz .f64 0)))) ∧ ((fcmp .eql .f64 a1 (cz .f64 0)) = false → K (fcmp .eql .f64 a0 a1)))) ∧ ((fcmp .eql .f64 a0 (cz .f64 0)) = false → K (fcmp .eql .f64 a0 a1)))))))
end Go.Proofs.YtmbkjkcolmoioaaGreatDoor.G

namespace Go.Proofs.YtmbkjkcolmoioaaGreatDoor.G
open Go Go.Ab
set_option maxRecDepth 100000
set_option linter.unusedVariables false
set_option linter.unusedSimpArgs false
set_option maxHeartbeats 1000000
def laws_eqFloat32S.wp (l0 : List (Nat)) (l1 : List (Nat)) (K : Bool → Prop) : Prop := (((l0.length : Int) = (l1.length : Int) → ∀ X102 : Int → Prop, (∀ (i103 : Int), ((i103 < (l0.length : Int) → (0 ≤ i103 ∧ i103 < (l0.length : Int)) ∧ (0 ≤ i103 ∧ i103 < (l1.length : Int)) ∧ laws_sameFloat.wp (widen (l0.getD (i103).toNat (0 : Nat))) (widen (l1.getD (i103).toNat (0 : Nat))) fun y107 => ((y107 = true → X102 (IntKind.i64.wrap (i103 + (1 : Int)))) ∧ (y107 = false → K (false)))) ∧ (¬(i103 < (l0.length : Int)) → K (true))) → X102 i103) → X102 (0 : Int)) ∧ (¬((l0.length : Int) = (l1.length : Int)) → K (false)))
end Go.Proofs.YtmbkjkcolmoioaaGreatDoor.G

namespace Go.Proofs.YtmbkjkcolmoioaaGreatDoor.G
open Go Go.Ab
set_option maxRecDepth 100000
set_option linter.unusedVariables false
set_option linter.unusedSimpArgs false
set_option maxHeartbeats 1000000
def laws_eqPicture.wp (a0 : Int) (a1 : Int) (l2 : List (Nat)) (a3 : Int) (a4 : Int) (l5 : List (Nat)) (K : Bool → Prop) : Prop := ((a0 = a3 → ((a1 = a4 → laws_eqFloat32S.wp l2 l5 fun y109 => ((y109 = true → K (true)) ∧ (y109 = false → K (false)))) ∧ (¬(a1 = a4) → K (false)))) ∧ (¬(a0 = a3) → K (false)))
end Go.Proofs.YtmbkjkcolmoioaaGreatDoor.G

namespace Go.Proofs.YtmbkjkcolmoioaaGreatDoor.G
open Go Go.Ab
set_option maxRecDepth 100000
set_option linter.unusedVariables false
set_option linter.unusedSimpArgs false
set_option maxHeartbeats 1000000
def laws_markFloat32S.wp (l0 : List (Nat)) (a1 : Int) (K : Int → (List (Nat)) → Prop) : Prop := ∀ X108 : List (Nat) → Int → Int → Prop, (∀ (a109 : List (Nat)) (k110 : Int) (i111 : Int), ((i111 < (a109.length : Int) → (0 ≤ i111 ∧ i111 < (a109.length : Int)) ∧ X108 (a109.set (i111).toNat (itof .f32 k110)) (IntKind.i64.wrap (k110 + (1 : Int))) (IntKind.i64.wrap (i111 + (1 : Int)))) ∧ (¬(i111 < (a109.length : Int)) → K (k110) (a109))) → X108 a109 k110 i111) → X108 (l0) (a1) (0 : Int)
end Go.Proofs.YtmbkjkcolmoioaaGreatDoor.G

namespace Go.Proofs.YtmbkjkcolmoioaaGreatDoor.G
open Go Go.Ab
set_option maxRecDepth 100000
set_option linter.unusedVariables false
set_option linter.unusedSimpArgs false
set_option maxHeartbeats 1000000
def laws_markPicture.wp (a0 : Int) (a1 : Int) (l2 : List (Nat)) (a3 : Int) (K : Int → (List (Nat)) → Prop) : Prop := laws_markFloat32S.wp l2 a3 fun y105 y106 => K (y105) (y106)
end Go.Proofs.YtmbkjkcolmoioaaGreatDoor.G

namespace Go.Proofs.YtmbkjkcolmoioaaGreatDoor.G
open Go Go.Ab
set_option maxRecDepth 100000
set_option linter.unusedVariables false
set_option linter.unusedSimpArgs false
set_option maxHeartbeats 1000000
def laws_heldFloat32S.wp (l0 : List (Nat)) (a1 : Int) (K : Int → Prop) : Prop := ∀ X101 : Int → Int → Prop, (∀ (k102 : Int) (i103 : Int), ((i103 < (l0.length : Int) → (0 ≤ i103 ∧ i103 < (l0.length : Int)) ∧ (((fcmp .neq .f32 (l0.getD (i103).toNat (0 : Nat)) (itof .f32 k102)) = true → K (-1 : Int)) ∧ ((fcmp .neq .f32 (l0.getD (i103).toNat (0 : Nat)) (itof .f32 k102)) = false → X101 (IntKind.i64.wrap (k102 + (1 : Int))) (IntKind.i64.wrap (i103 + (1 : Int)))))) ∧ (¬(i103 < (l0.length : Int)) → K (k102))) → X101 k102 i103) → X101 (a1) (0 : Int)
end Go.Proofs.YtmbkjkcolmoioaaGreatDoor.G

namespace Go.Proofs.YtmbkjkcolmoioaaGreatDoor.G
open Go Go.Ab
set_option maxRecDepth 100000
set_option linter.unusedVariables false
set_option linter.unusedSimpArgs false
set_option maxHeartbeats 1000000
def laws_heldPicture.wp (a0 : Int) (a1 : Int) (l2 : List (Nat)) (a3 : Int) (K : Int → Prop) : Prop := laws_heldFloat32S.wp l2 a3 fun y104 => ((y104 < (0 : Int) → K (-1 : Int)) ∧ (¬(y104 < (0 : Int)) → K (y104)))
end Go.Proofs.YtmbkjkcolmoioaaGreatDoor.G

namespace Go.Proofs.YtmbkjkcolmoioaaGreatDoor.G
open Go Go.Ab
set_option maxRecDepth 100000
set_option linter.unusedVariables false
set_option linter.unusedSimpArgs false
set_option maxHeartbeats 1000000
def laws_FnExactReadPicture.wp (a0 : List UInt8) (K : Bool → Prop) : Prop := (((1048576 : Int) < (a0.length : Int) → K (true)) ∧ (¬((1048576 : Int) < (a0.length : Int)) → spec_ReadPicture.wp a0 fun y102 y103 y104 y107 => impl_ReadPicture.wp a0 fun y113 y114 y115 y118 => laws_eqPicture.wp y113 y114 y115 y102 y103 y104 fun y124 => ((y124 = true → (((y118 == y107) = true → laws_markPicture.wp y113 y114 y115 (1 : Int) fun y128 y129 => laws_heldPicture.wp y113 y114 y129 (1 : Int) fun y131 => ((y131 < (0 : Int) → K (false)) ∧ (¬(y131 < (0 : Int)) → ((y131 = y128 → impl_ReadPicture.wp a0 fun y135 y136 y137 y140 => laws_eqPicture.wp y135 y136 y137 y102 y103 y104 fun y146 => ((y146 = true → (((y140 == y107) = true → laws_heldPicture.wp y113 y114 y129 (1 : Int) fun y150 => ((y150 < (0 : Int) → K (false)) ∧ (¬(y150 < (0 : Int)) → ((y150 = y128 → K (true)) ∧ (¬(y150 = y128) → K (false)))))) ∧ ((y140 == y107) = false → K (false)))) ∧ (y146 = false → K (false)))) ∧ (¬(y131 = y128) → K (false)))))) ∧ ((y118 == y107) = false → K (false)))) ∧ (y124 = false → K (false)))))
end Go.Proofs.YtmbkjkcolmoioaaGreatDoor.G

namespace Go.Proofs.YtmbkjkcolmoioaaGreatDoor.G
open Go Go.Ab
set_option maxRecDepth 100000
set_option linter.unusedVariables false
set_option linter.unusedSimpArgs false
set_option maxHeartbeats 1000000
def impl_areWithin.wp (l0 : List (Int)) (a1 : Int) (K : Bool → Prop) : Prop := ∀ X101 : Int → Prop, (∀ (x102 : Int), ((x102 < (l0.length : Int) → (0 ≤ x102 ∧ x102 < (l0.length : Int)) ∧ impl_within.wp (l0.getD (x102).toNat (0 : Int)) (IntKind.i64.wrap (0 - a1)) a1 fun y105 => ((y105 = true → X101 (IntKind.i64.wrap (x102 + (1 : Int)))) ∧ (y105 = false → K (false)))) ∧ (¬(x102 < (l0.length : Int)) → K (true))) → X101 x102) → X101 (0 : Int)
end Go.Proofs.YtmbkjkcolmoioaaGreatDoor.G

namespace Go.Proofs.YtmbkjkcolmoioaaGreatDoor.G
open Go Go.Ab
set_option maxRecDepth 100000
set_option linter.unusedVariables false
set_option linter.unusedSimpArgs false
set_option maxHeartbeats 1000000
def impl_isLeast.wp (a0 : Nat) (K : Bool → Prop) : Prop := impl_IsFinite.wp a0 fun y101 => ((y101 = true → K (fcmp .geq .f32 a0 (cz .f32 0))) ∧ (y101 = false → K (false)))
end Go.Proofs.YtmbkjkcolmoioaaGreatDoor.G

namespace Go.Proofs.YtmbkjkcolmoioaaGreatDoor.G
open Go Go.Ab
set_option maxRecDepth 100000
set_option linter.unusedVariables false
set_option linter.unusedSimpArgs false
set_option maxHeartbeats 1000000
def impl_IsList.wp (l0 : List (Nat)) (K : Bool → Prop) : Prop := impl_within.wp (l0.length : Int) (1 : Int) (128 : Int) fun y101 => ((y101 = true → impl_areFinite.wp ([l0] : List (List (Nat))) fun y107 => K (y107)) ∧ (y101 = false → K (false)))
end Go.Proofs.YtmbkjkcolmoioaaGreatDoor.G

namespace Go.Proofs.YtmbkjkcolmoioaaGreatDoor.G
open Go Go.Ab
set_option maxRecDepth 100000
set_option linter.unusedVariables false
set_option linter.unusedSimpArgs false
set_option maxHeartbeats 1000000
def impl_finiteList.wp (l0 : List (Nat)) (K : Bool → Bool → Prop) : Prop := impl_areFinite.wp ([l0] : List (List (Nat))) fun y104 => ((y104 = true → K (true) (true)) ∧ (y104 = false → K (false) (false)))
end Go.Proofs.YtmbkjkcolmoioaaGreatDoor.G

namespace Go.Proofs.YtmbkjkcolmoioaaGreatDoor.G
open Go Go.Ab
set_option maxRecDepth 100000
set_option linter.unusedVariables false
set_option linter.unusedSimpArgs false
set_option maxHeartbeats 1000000
def impl_isOver.wp (a0 : Nat) (K : Bool → Prop) : Prop := impl_IsFinite.wp a0 fun y101 => ((y101 = true → K (fcmp .gtr .f32 a0 (cz .f32 0))) ∧ (y101 = false → K (false)))
end Go.Proofs.YtmbkjkcolmoioaaGreatDoor.G

namespace Go.Proofs.YtmbkjkcolmoioaaGreatDoor.G
open Go Go.Ab
set_option maxRecDepth 100000
set_option linter.unusedVariables false
set_option linter.unusedSimpArgs false
set_option maxHeartbeats 1000000
def impl_AreIntegers.wp (l0 : List (Int)) (K : Bool → Prop) : Prop := impl_within.wp (l0.length : Int) (1 : Int) (128 : Int) fun y101 => ((y101 = true → impl_areWithin.wp l0 (1000000 : Int) fun y104 => K (y104)) ∧ (y101 = false → K (false)))
end Go.Proofs.YtmbkjkcolmoioaaGreatDoor.G

namespace Go.Proofs.YtmbkjkcolmoioaaGreatDoor.G
open Go Go.Ab
set_option maxRecDepth 100000
set_option linter.unusedVariables false
set_option linter.unusedSimpArgs false
set_option maxHeartbeats 1000000
def impl_isShare.wp (a0 : Nat) (K : Bool → Prop) : Prop := (((fcmp .geq .f32 a0 (cz .f32 0)) = true → K (fcmp .leq .f32 a0 (cz .f32 1065353216))) ∧ ((fcmp .geq .f32 a0 (cz .f32 0)) = false → K (false)))
end Go.Proofs.YtmbkjkcolmoioaaGreatDoor.G

namespace Go.Proofs.YtmbkjkcolmoioaaGreatDoor.G
open Go Go.Ab
set_option maxRecDepth 100000
set_option linter.unusedVariables false
set_option linter.unusedSimpArgs false
set_option maxHeartbeats 1000000
def impl_ValidScheme.wp (l0 : List (Nat)) (a1 : Nat) (K : Bool → Prop) : Prop := impl_within.wp (l0.length : Int) (1 : Int) (8 : Int) fun y104 => ((y104 = true → impl_areFinite.wp ([l0] : List (List (Nat))) fun y110 => ((y110 = true → impl_isOver.wp a1 fun y113 => K (y113)) ∧ (y110 = false → K (false)))) ∧ (y104 = false → K (false)))
end Go.Proofs.YtmbkjkcolmoioaaGreatDoor.G

namespace Go.Proofs.YtmbkjkcolmoioaaGreatDoor.G
open Go Go.Ab
set_option maxRecDepth 100000
set_option linter.unusedVariables false
set_option linter.unusedSimpArgs false
set_option maxHeartbeats 1000000
def impl_ValidCoded.wp (a0 : Int) (a1 : Int) (l2 : List (Bool)) (K : Bool → Prop) : Prop := impl_within.wp a0 (1 : Int) (128 : Int) fun y104 => ((y104 = true → impl_within.wp a1 (0 : Int) (24 : Int) fun y107 => ((y107 = true → K (decide ((l2.length : Int) ≤ (32768 : Int)))) ∧ (y107 = false → K (false)))) ∧ (y104 = false → K (false)))
end Go.Proofs.YtmbkjkcolmoioaaGreatDoor.G

namespace Go.Proofs.YtmbkjkcolmoioaaGreatDoor.G
open Go Go.Ab
set_option maxRecDepth 100000
set_option linter.unusedVariables false
set_option linter.unusedSimpArgs false
set_option maxHeartbeats 1000000
def impl_ValidDesk.wp (l0 : List (Nat)) (l1 : List (Nat)) (a2 : Nat) (a3 : Int) (a4 : Int) (l5 : List (Nat)) (a6 : Int) (a7 : Int) (l8 : List (Bool)) (K : Bool → Prop) : Prop := impl_IsList.wp l0 fun y104 => ((y104 = true → impl_ValidScheme.wp l1 a2 fun y107 => ((y107 = true → impl_ValidPicture.wp a3 a4 l5 fun y110 => ((y110 = true → impl_ValidCoded.wp a6 a7 l8 fun y113 => K (y113)) ∧ (y110 = false → K (false)))) ∧ (y107 = false → K (false)))) ∧ (y104 = false → K (false)))
end Go.Proofs.YtmbkjkcolmoioaaGreatDoor.G

namespace Go.Proofs.YtmbkjkcolmoioaaGreatDoor.G
open Go Go.Ab
set_option maxRecDepth 100000
set_option linter.unusedVariables false
set_option linter.unusedSimpArgs false
set_option maxHeartbeats 1000000
def impl_areValues.wp (l0 : List (Int)) (K : Bool → Prop) : Prop := ∀ X101 : Int → Prop, (∀ (x102 : Int), ((x102 < (l0.length : Int) → (0 ≤ x102 ∧ x102 < (l0.length : Int)) ∧ impl_isValue.wp (l0.getD (x102).toNat (0 : Int)) fun y105 => ((y105 = true → X101 (IntKind.i64.wrap (x102 + (1 : Int)))) ∧ (y105 = false → K (false)))) ∧ (¬(x102 < (l0.length : Int)) → K (decide ((l0.length : Int) ≤ (64 : Int))))) → X101 x102) → X101 (0 : Int)
end Go.Proofs.YtmbkjkcolmoioaaGreatDoor.G

namespace Go.Proofs.YtmbkjkcolmoioaaGreatDoor.G
open Go Go.Ab
set_option maxRecDepth 100000
set_option linter.unusedVariables false
set_option linter.unusedSimpArgs false
set_option maxHeartbeats 1000000
def impl_listText.wp (l0 : List (Int)) (K : (List UInt8) → Prop) : Prop := ∀ X120 : List (List UInt8) → Int → Prop, (∀ (texts121 : List (List UInt8)) (x123 : Int), ((x123 < (l0.length : Int) → (0 ≤ x123 ∧ x123 < (l0.length : Int)) ∧ impl_Decimal.wp (l0.getD (x123).toNat (0 : Int)) fun y126 => ((texts121.length + ([y126] : List (List UInt8)).length) * 16 ≤ 2 ^ 40) ∧ X120 (texts121 ++ ([y126] : List (List UInt8))) (IntKind.i64.wrap (x123 + (1 : Int)))) ∧ (¬(x123 < (l0.length : Int)) → impl_joined.wp texts121 fun y134 => K (y134))) → X120 texts121 x123) → X120 ([] : List (List UInt8)) (0 : Int)
end Go.Proofs.YtmbkjkcolmoioaaGreatDoor.G

namespace Go.Proofs.YtmbkjkcolmoioaaGreatDoor.G
open Go Go.Ab
set_option maxRecDepth 100000
set_option linter.unusedVariables false
set_option linter.unusedSimpArgs false
set_option maxHeartbeats 1000000
def impl_ListText.wp (l0 : List (Int)) (K : (List UInt8) → Bool → Prop) : Prop := impl_areValues.wp l0 fun y101 => ((y101 = true → impl_listText.wp l0 fun y104 => K (y104) (true)) ∧ (y101 = false → K ([] : List UInt8) (false)))
end Go.Proofs.YtmbkjkcolmoioaaGreatDoor.G

