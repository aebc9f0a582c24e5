/-
  What the functions compute, as formulas over numbers and lists. Printed by a program of the session; nothing here is trusted.
-/
import Derived.Test.YtncblpfphehlpaaDoorAbG
namespace Go.Proofs.YtncblpfphehlpaaDoor.G
open Go Go.Ab
set_option maxRecDepth 100000
set_option linter.unusedVariables false
set_option linter.unusedSimpArgs false
set_option maxHeartbeats 1000000

end Go.Proofs.YtncblpfphehlpaaDoor.G

namespace Go.Proofs.YtncblpfphehlpaaDoor.G
open Go Go.Ab
set_option maxRecDepth 100000
set_option linter.unusedVariables false
set_option linter.unusedSimpArgs false
set_option maxHeartbeats 1000000
def strings_Index.wp (a0 : List UInt8) (a1 : List UInt8) (K : Int → Prop) : Prop := ∃ c, a1 = [c] ∧ K (Lib.indexByte a0 c)
end Go.Proofs.YtncblpfphehlpaaDoor.G

namespace Go.Proofs.YtncblpfphehlpaaDoor.G
open Go Go.Ab
set_option maxRecDepth 100000
set_option linter.unusedVariables false
set_option linter.unusedSimpArgs false
set_option maxHeartbeats 1000000
def strings_explode.wp (a0 : List UInt8) (a1 : Int) (K : (List (List UInt8)) → Prop) : Prop := False
end Go.Proofs.YtncblpfphehlpaaDoor.G

namespace Go.Proofs.YtncblpfphehlpaaDoor.G
open Go Go.Ab
set_option maxRecDepth 100000
set_option linter.unusedVariables false
set_option linter.unusedSimpArgs false
set_option maxHeartbeats 1000000
def strings_Count.wp (a0 : List UInt8) (a1 : List UInt8) (K : Int → Prop) : Prop := ∃ c, a1 = [c] ∧ K ((Lib.countByte a0 c : Nat) : Int)
end Go.Proofs.YtncblpfphehlpaaDoor.G

namespace Go.Proofs.YtncblpfphehlpaaDoor.G
open Go Go.Ab
set_option maxRecDepth 100000
set_option linter.unusedVariables false
set_option linter.unusedSimpArgs false
set_option maxHeartbeats 1000000
def strings_genSplit.wp (a0 : List UInt8) (a1 : List UInt8) (a2 : Int) (a3 : Int) (K : (List (List UInt8)) → Prop) : Prop := ((a3 = (0 : Int) → K ([] : List (List UInt8))) ∧ (¬(a3 = (0 : Int)) → ((a1 = ([] : List UInt8) → strings_explode.wp a0 a3 fun y103 => K (y103)) ∧ (¬(a1 = ([] : List UInt8)) → ((a3 < (0 : Int) → strings_Count.wp a0 a1 fun y108 => (0 ≤ (mnI (IntKind.i64.wrap (y108 + (1 : Int))) (IntKind.i64.wrap ((a0.length : Int) + (1 : Int)))) ∧ (mnI (IntKind.i64.wrap (y108 + (1 : Int))) (IntKind.i64.wrap ((a0.length : Int) + (1 : Int)))) ≤ (mnI (IntKind.i64.wrap (y108 + (1 : Int))) (IntKind.i64.wrap ((a0.length : Int) + (1 : Int)))) ∧ (mnI (IntKind.i64.wrap (y108 + (1 : Int))) (IntKind.i64.wrap ((a0.length : Int) + (1 : Int)))) ≤ 2 ^ 40 ∧ (mnI (IntKind.i64.wrap (y108 + (1 : Int))) (IntKind.i64.wrap ((a0.length : Int) + (1 : Int)))) * 16 ≤ 2 ^ 40) ∧ ∀ X131 : List (List UInt8) → List UInt8 → Int → Prop, (∀ (a132 : List (List UInt8)) (sq133 : List UInt8) (i134 : Int), ((i134 < (IntKind.i64.wrap ((mnI (IntKind.i64.wrap (y108 + (1 : Int))) (IntKind.i64.wrap ((a0.length : Int) + (1 : Int)))) - (1 : Int))) → strings_Index.wp sq133 a1 fun y136 => ((y136 < (0 : Int) → (0 ≤ i134 ∧ i134 < (a132.length : Int)) ∧ (0 ≤ (0 : Int) ∧ (0 : Int) ≤ (IntKind.i64.wrap (i134 + (1 : Int))) ∧ (IntKind.i64.wrap (i134 + (1 : Int))) ≤ ((a132.set (i134).toNat sq133).length : Int)) ∧ K (((a132.set (i134).toNat sq133).drop ((0 : Int)).toNat).take (((IntKind.i64.wrap (i134 + (1 : Int)))).toNat - ((0 : Int)).toNat))) ∧ (¬(y136 < (0 : Int)) → (0 ≤ (0 : Int) ∧ (0 : Int) ≤ (IntKind.i64.wrap (y136 + a2)) ∧ (IntKind.i64.wrap (y136 + a2)) ≤ (sq133.length : Int)) ∧ (0 ≤ i134 ∧ i134 < (a132.length : Int)) ∧ (0 ≤ (IntKind.i64.wrap (y136 + (a1.length : Int))) ∧ (IntKind.i64.wrap (y136 + (a1.length : Int))) ≤ (sq133.length : Int) ∧ (sq133.length : Int) ≤ (sq133.length : Int)) ∧ X131 (a132.set (i134).toNat ((sq133.drop ((0 : Int)).toNat).take (((IntKind.i64.wrap (y136 + a2))).toNat - ((0 : Int)).toNat))) ((sq133.drop ((IntKind.i64.wrap (y136 + (a1.length : Int)))).toNat).take (((sq133.length : Int)).toNat - ((IntKind.i64.wrap (y136 + (a1.length : Int)))).toNat)) (IntKind.i64.wrap (i134 + (1 : Int)))))) ∧ (¬(i134 < (IntKind.i64.wrap ((mnI (IntKind.i64.wrap (y108 + (1 : Int))) (IntKind.i64.wrap ((a0.length : Int) + (1 : Int)))) - (1 : Int)))) → (0 ≤ i134 ∧ i134 < (a132.length : Int)) ∧ (0 ≤ (0 : Int) ∧ (0 : Int) ≤ (IntKind.i64.wrap (i134 + (1 : Int))) ∧ (IntKind.i64.wrap (i134 + (1 : Int))) ≤ ((a132.set (i134).toNat sq133).length : Int)) ∧ K (((a132.set (i134).toNat sq133).drop ((0 : Int)).toNat).take (((IntKind.i64.wrap (i134 + (1 : Int)))).toNat - ((0 : Int)).toNat)))) → X131 a132 sq133 i134) → X131 (List.replicate ((mnI (IntKind.i64.wrap (y108 + (1 : Int))) (IntKind.i64.wrap ((a0.length : Int) + (1 : Int))))).toNat ([] : List UInt8)) (a0) (0 : Int)) ∧ (¬(a3 < (0 : Int)) → (0 ≤ (mnI a3 (IntKind.i64.wrap ((a0.length : Int) + (1 : Int)))) ∧ (mnI a3 (IntKind.i64.wrap ((a0.length : Int) + (1 : Int)))) ≤ (mnI a3 (IntKind.i64.wrap ((a0.length : Int) + (1 : Int)))) ∧ (mnI a3 (IntKind.i64.wrap ((a0.length : Int) + (1 : Int)))) ≤ 2 ^ 40 ∧ (mnI a3 (IntKind.i64.wrap ((a0.length : Int) + (1 : Int)))) * 16 ≤ 2 ^ 40) ∧ ∀ X172 : List (List UInt8) → List UInt8 → Int → Prop, (∀ (a173 : List (List UInt8)) (sq174 : List UInt8) (i175 : Int), ((i175 < (IntKind.i64.wrap ((mnI a3 (IntKind.i64.wrap ((a0.length : Int) + (1 : Int)))) - (1 : Int))) → strings_Index.wp sq174 a1 fun y177 => ((y177 < (0 : Int) → (0 ≤ i175 ∧ i175 < (a173.length : Int)) ∧ (0 ≤ (0 : Int) ∧ (0 : Int) ≤ (IntKind.i64.wrap (i175 + (1 : Int))) ∧ (IntKind.i64.wrap (i175 + (1 : Int))) ≤ ((a173.set (i175).toNat sq174).length : Int)) ∧ K (((a173.set (i175).toNat sq174).drop ((0 : Int)).toNat).take (((IntKind.i64.wrap (i175 + (1 : Int)))).toNat - ((0 : Int)).toNat))) ∧ (¬(y177 < (0 : Int)) → (0 ≤ (0 : Int) ∧ (0 : Int) ≤ (IntKind.i64.wrap (y177 + a2)) ∧ (IntKind.i64.wrap (y177 + a2)) ≤ (sq174.length : Int)) ∧ (0 ≤ i175 ∧ i175 < (a173.length : Int)) ∧ (0 ≤ (IntKind.i64.wrap (y177 + (a1.length : Int))) ∧ (IntKind.i64.wrap (y177 + (a1.length : Int))) ≤ (sq174.length : Int) ∧ (sq174.length : Int) ≤ (sq174.length : Int)) ∧ X172 (a173.set (i175).toNat ((sq174.drop ((0 : Int)).toNat).take (((IntKind.i64.wrap (y177 + a2))).toNat - ((0 : Int)).toNat))) ((sq174.drop ((IntKind.i64.wrap (y177 + (a1.length : Int)))).toNat).take (((sq174.length : Int)).toNat - ((IntKind.i64.wrap (y177 + (a1.length : Int)))).toNat)) (IntKind.i64.wrap (i175 + (1 : Int)))))) ∧ (¬(i175 < (IntKind.i64.wrap ((mnI a3 (IntKind.i64.wrap ((a0.length : Int) + (1 : Int)))) - (1 : Int)))) → (0 ≤ i175 ∧ i175 < (a173.length : Int)) ∧ (0 ≤ (0 : Int) ∧ (0 : Int) ≤ (IntKind.i64.wrap (i175 + (1 : Int))) ∧ (IntKind.i64.wrap (i175 + (1 : Int))) ≤ ((a173.set (i175).toNat sq174).length : Int)) ∧ K (((a173.set (i175).toNat sq174).drop ((0 : Int)).toNat).take (((IntKind.i64.wrap (i175 + (1 : Int)))).toNat - ((0 : Int)).toNat)))) → X172 a173 sq174 i175) → X172 (List.replicate ((mnI a3 (IntKind.i64.wrap ((a0.length : Int) + (1 : Int))))).toNat ([] : List UInt8)) (a0) (0 : Int)))))))
end Go.Proofs.YtncblpfphehlpaaDoor.G

namespace Go.Proofs.YtncblpfphehlpaaDoor.G
open Go Go.Ab
set_option maxRecDepth 100000
set_option linter.unusedVariables false
set_option linter.unusedSimpArgs false
set_option maxHeartbeats 1000000
def strings_Split.wp (a0 : List UInt8) (a1 : List UInt8) (K : (List (List UInt8)) → Prop) : Prop := strings_genSplit.wp a0 a1 (0 : Int) (-1 : Int) fun y101 => K (y101)
end Go.Proofs.YtncblpfphehlpaaDoor.G

namespace Go.Proofs.YtncblpfphehlpaaDoor.G
open Go Go.Ab
set_option maxRecDepth 100000
set_option linter.unusedVariables false
set_option linter.unusedSimpArgs false
set_option maxHeartbeats 1000000
def impl_linesOf.wp (a0 : List UInt8) (K : (List (List UInt8)) → Bool → Prop) : Prop := strings_Split.wp a0 ([10] : List UInt8) fun y101 => (0 ≤ (0 : Int) ∧ (0 : Int) ≤ (IntKind.i64.wrap ((y101.length : Int) - (1 : Int))) ∧ (IntKind.i64.wrap ((y101.length : Int) - (1 : Int))) ≤ (y101.length : Int)) ∧ (((a0.length : Int) ≤ (16000 : Int) → (0 ≤ (IntKind.i64.wrap ((y101.length : Int) - (1 : Int))) ∧ (IntKind.i64.wrap ((y101.length : Int) - (1 : Int))) < (y101.length : Int)) ∧ K ((y101.drop ((0 : Int)).toNat).take (((IntKind.i64.wrap ((y101.length : Int) - (1 : Int)))).toNat - ((0 : Int)).toNat)) (decide ((y101.getD ((IntKind.i64.wrap ((y101.length : Int) - (1 : Int)))).toNat ([] : List UInt8)) = ([] : List UInt8)))) ∧ (¬((a0.length : Int) ≤ (16000 : Int)) → K ((y101.drop ((0 : Int)).toNat).take (((IntKind.i64.wrap ((y101.length : Int) - (1 : Int)))).toNat - ((0 : Int)).toNat)) (false)))
end Go.Proofs.YtncblpfphehlpaaDoor.G

namespace Go.Proofs.YtncblpfphehlpaaDoor.G
open Go Go.Ab
set_option maxRecDepth 100000
set_option linter.unusedVariables false
set_option linter.unusedSimpArgs false
set_option maxHeartbeats 1000000
def impl_CountOutputs.wp (a0 : List UInt8) (K : Int → Int → Bool → Prop) : Prop := impl_linesOf.wp a0 fun y101 y104 => ((y104 = true → ∀ X107 : Int → Int → Prop, (∀ (bad108 : Int) (x109 : Int), ((x109 < (y101.length : Int) → (0 ≤ x109 ∧ x109 < (y101.length : Int)) ∧ (((y101.getD (x109).toNat ([] : List UInt8)) = ([110, 111] : List UInt8) → X107 (IntKind.i64.wrap (bad108 + (1 : Int))) (IntKind.i64.wrap (x109 + (1 : Int)))) ∧ (¬((y101.getD (x109).toNat ([] : List UInt8)) = ([110, 111] : List UInt8)) → (((y101.getD (x109).toNat ([] : List UInt8)) = ([119, 104, 97, 116] : List UInt8) → X107 (IntKind.i64.wrap (bad108 + (1 : Int))) (IntKind.i64.wrap (x109 + (1 : Int)))) ∧ (¬((y101.getD (x109).toNat ([] : List UInt8)) = ([119, 104, 97, 116] : List UInt8)) → X107 (bad108) (IntKind.i64.wrap (x109 + (1 : Int)))))))) ∧ (¬(x109 < (y101.length : Int)) → K (bad108) (IntKind.i64.wrap ((y101.length : Int) - bad108)) (true))) → X107 bad108 x109) → X107 (0 : Int) (0 : Int)) ∧ (y104 = false → K (0 : Int) (0 : Int) (false)))
end Go.Proofs.YtncblpfphehlpaaDoor.G

namespace Go.Proofs.YtncblpfphehlpaaDoor.G
open Go Go.Ab
set_option maxRecDepth 100000
set_option linter.unusedVariables false
set_option linter.unusedSimpArgs false
set_option maxHeartbeats 1000000
def spec_l01Cut.wp (a0 : List UInt8) (a1 : Int) (K : (List (List UInt8)) → Prop) : Prop := ∀ X127 : List (List UInt8) → Int → Int → Prop, (∀ (out128 : List (List UInt8)) (fromq130 : Int) (i131 : Int), ((i131 ≤ (a0.length : Int) → ((i131 = (a0.length : Int) → (0 ≤ fromq130 ∧ fromq130 ≤ i131 ∧ i131 ≤ (a0.length : Int)) ∧ ((out128.length + ([((a0.drop (fromq130).toNat).take ((i131).toNat - (fromq130).toNat))] : List (List UInt8)).length) * 16 ≤ 2 ^ 40) ∧ X127 (out128 ++ ([((a0.drop (fromq130).toNat).take ((i131).toNat - (fromq130).toNat))] : List (List UInt8))) (IntKind.i64.wrap (i131 + (1 : Int))) (IntKind.i64.wrap (i131 + (1 : Int)))) ∧ (¬(i131 = (a0.length : Int)) → (0 ≤ i131 ∧ i131 < (a0.length : Int)) ∧ (((bt a0 i131) = a1 → (0 ≤ fromq130 ∧ fromq130 ≤ i131 ∧ i131 ≤ (a0.length : Int)) ∧ ((out128.length + ([((a0.drop (fromq130).toNat).take ((i131).toNat - (fromq130).toNat))] : List (List UInt8)).length) * 16 ≤ 2 ^ 40) ∧ X127 (out128 ++ ([((a0.drop (fromq130).toNat).take ((i131).toNat - (fromq130).toNat))] : List (List UInt8))) (IntKind.i64.wrap (i131 + (1 : Int))) (IntKind.i64.wrap (i131 + (1 : Int)))) ∧ (¬((bt a0 i131) = a1) → X127 (out128) (fromq130) (IntKind.i64.wrap (i131 + (1 : Int)))))))) ∧ (¬(i131 ≤ (a0.length : Int)) → K (out128))) → X127 out128 fromq130 i131) → X127 ([] : List (List UInt8)) (0 : Int) (0 : Int)
end Go.Proofs.YtncblpfphehlpaaDoor.G

namespace Go.Proofs.YtncblpfphehlpaaDoor.G
open Go Go.Ab
set_option maxRecDepth 100000
set_option linter.unusedVariables false
set_option linter.unusedSimpArgs false
set_option maxHeartbeats 1000000
def spec_l08Lines.wp (a0 : List UInt8) (K : (List (List UInt8)) → (List UInt8) → Prop) : Prop := spec_l01Cut.wp a0 (10 : Int) fun y101 => (0 ≤ (0 : Int) ∧ (0 : Int) ≤ (IntKind.i64.wrap ((y101.length : Int) - (1 : Int))) ∧ (IntKind.i64.wrap ((y101.length : Int) - (1 : Int))) ≤ (y101.length : Int)) ∧ (0 ≤ (IntKind.i64.wrap ((y101.length : Int) - (1 : Int))) ∧ (IntKind.i64.wrap ((y101.length : Int) - (1 : Int))) < (y101.length : Int)) ∧ K ((y101.drop ((0 : Int)).toNat).take (((IntKind.i64.wrap ((y101.length : Int) - (1 : Int)))).toNat - ((0 : Int)).toNat)) (y101.getD ((IntKind.i64.wrap ((y101.length : Int) - (1 : Int)))).toNat ([] : List UInt8))
end Go.Proofs.YtncblpfphehlpaaDoor.G

namespace Go.Proofs.YtncblpfphehlpaaDoor.G
open Go Go.Ab
set_option maxRecDepth 100000
set_option linter.unusedVariables false
set_option linter.unusedSimpArgs false
set_option maxHeartbeats 1000000
def spec_CountOutputs.wp (a0 : List UInt8) (K : Int → Int → Bool → Prop) : Prop := (((16000 : Int) < (a0.length : Int) → K (0 : Int) (0 : Int) (false)) ∧ (¬((16000 : Int) < (a0.length : Int)) → spec_l08Lines.wp a0 fun y102 y105 => ((y105 = ([] : List UInt8) → ∀ X108 : Int → Int → Prop, (∀ (bad109 : Int) (i110 : Int), ((i110 < (y102.length : Int) → (0 ≤ i110 ∧ i110 < (y102.length : Int)) ∧ (((y102.getD (i110).toNat ([] : List UInt8)) = ([110, 111] : List UInt8) → X108 (IntKind.i64.wrap (bad109 + (1 : Int))) (IntKind.i64.wrap (i110 + (1 : Int)))) ∧ (¬((y102.getD (i110).toNat ([] : List UInt8)) = ([110, 111] : List UInt8)) → (((y102.getD (i110).toNat ([] : List UInt8)) = ([119, 104, 97, 116] : List UInt8) → X108 (IntKind.i64.wrap (bad109 + (1 : Int))) (IntKind.i64.wrap (i110 + (1 : Int)))) ∧ (¬((y102.getD (i110).toNat ([] : List UInt8)) = ([119, 104, 97, 116] : List UInt8)) → X108 (bad109) (IntKind.i64.wrap (i110 + (1 : Int)))))))) ∧ (¬(i110 < (y102.length : Int)) → K (bad109) (IntKind.i64.wrap ((y102.length : Int) - bad109)) (true))) → X108 bad109 i110) → X108 (0 : Int) (0 : Int)) ∧ (¬(y105 = ([] : List UInt8)) → K (0 : Int) (0 : Int) (false)))))
end Go.Proofs.YtncblpfphehlpaaDoor.G

namespace Go.Proofs.YtncblpfphehlpaaDoor.G
open Go Go.Ab
set_option maxRecDepth 100000
set_option linter.unusedVariables false
set_option linter.unusedSimpArgs false
set_option maxHeartbeats 1000000
def laws_FnExactCountOutputs.wp (a0 : List UInt8) (K : Bool → Prop) : Prop := (((1048576 : Int) < (a0.length : Int) → K (true)) ∧ (¬((1048576 : Int) < (a0.length : Int)) → spec_CountOutputs.wp a0 fun y102 y103 y104 => impl_CountOutputs.wp a0 fun y106 y107 y108 => ((y106 = y102 → ((y107 = y103 → (((y108 == y104) = true → K (true)) ∧ ((y108 == y104) = false → K (false)))) ∧ (¬(y107 = y103) → K (false)))) ∧ (¬(y106 = y102) → K (false)))))
end Go.Proofs.YtncblpfphehlpaaDoor.G

namespace Go.Proofs.YtncblpfphehlpaaDoor.G
open Go Go.Ab
set_option maxRecDepth 100000
set_option linter.unusedVariables false
set_option linter.unusedSimpArgs false
set_option maxHeartbeats 1000000
def laws_eqBoolS.wp (l0 : List (Bool)) (l1 : List (Bool)) (K : Bool → Prop) : Prop := (((l0.length : Int) = (l1.length : Int) → ∀ X102 : Int → Prop, (∀ (i103 : Int), ((i103 < (l0.length : Int) → (0 ≤ i103 ∧ i103 < (l0.length : Int)) ∧ (0 ≤ i103 ∧ i103 < (l1.length : Int)) ∧ ((((l0.getD (i103).toNat false) == (l1.getD (i103).toNat false)) = true → X102 (IntKind.i64.wrap (i103 + (1 : Int)))) ∧ (((l0.getD (i103).toNat false) == (l1.getD (i103).toNat false)) = false → K (false)))) ∧ (¬(i103 < (l0.length : Int)) → K (true))) → X102 i103) → X102 (0 : Int)) ∧ (¬((l0.length : Int) = (l1.length : Int)) → K (false)))
end Go.Proofs.YtncblpfphehlpaaDoor.G

namespace Go.Proofs.YtncblpfphehlpaaDoor.G
open Go Go.Ab
set_option maxRecDepth 100000
set_option linter.unusedVariables false
set_option linter.unusedSimpArgs false
set_option maxHeartbeats 1000000
def laws_toBoolS.wp (l0 : List (Bool)) (K : (List (Bool)) → Prop) : Prop := (0 ≤ (l0.length : Int) ∧ (l0.length : Int) ≤ (l0.length : Int) ∧ (l0.length : Int) ≤ 2 ^ 40 ∧ (l0.length : Int) * 1 ≤ 2 ^ 40) ∧ ∀ X111 : List (Bool) → Int → Prop, (∀ (out112 : List (Bool)) (i113 : Int), ((i113 < (l0.length : Int) → (0 ≤ i113 ∧ i113 < (l0.length : Int)) ∧ (0 ≤ i113 ∧ i113 < (out112.length : Int)) ∧ X111 (out112.set (i113).toNat (l0.getD (i113).toNat false)) (IntKind.i64.wrap (i113 + (1 : Int)))) ∧ (¬(i113 < (l0.length : Int)) → K (out112))) → X111 out112 i113) → X111 (List.replicate ((l0.length : Int)).toNat false) (0 : Int)
end Go.Proofs.YtncblpfphehlpaaDoor.G

