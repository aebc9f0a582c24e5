/-
  What the functions compute, as formulas over numbers and lists. Printed by a program of the session; nothing here is trusted.
-/
import Derived.Test.YtcplmcfnegphlaaAbK
namespace Go.Proofs.Ytcplmcfnegphlaa.G
open Go Go.Ab
set_option maxRecDepth 100000
set_option linter.unusedVariables false
set_option linter.unusedSimpArgs false
set_option maxHeartbeats 1000000

end Go.Proofs.Ytcplmcfnegphlaa.G

namespace Go.Proofs.Ytcplmcfnegphlaa.G
open Go Go.Ab
set_option maxRecDepth 100000
set_option linter.unusedVariables false
set_option linter.unusedSimpArgs false
set_option maxHeartbeats 1000000
def spec_l00In.wp (a0 : Int) (a1 : Int) (a2 : Int) (K : Bool → Prop) : Prop := ((a1 ≤ a0 → K (decide (a0 ≤ a2))) ∧ (¬(a1 ≤ a0) → K (false)))
end Go.Proofs.Ytcplmcfnegphlaa.G

namespace Go.Proofs.Ytcplmcfnegphlaa.G
open Go Go.Ab
set_option maxRecDepth 100000
set_option linter.unusedVariables false
set_option linter.unusedSimpArgs false
set_option maxHeartbeats 1000000
def spec_l02Bound.wp (l0 : List (Int)) (a1 : Int) (K : Bool → Prop) : Prop := ∀ X101 : Int → Prop, (∀ (i102 : Int), ((i102 < (l0.length : Int) → (0 ≤ i102 ∧ i102 < (l0.length : Int)) ∧ spec_l00In.wp (l0.getD (i102).toNat (0 : Int)) (IntKind.i64.wrap (0 - a1)) a1 fun y105 => ((y105 = true → X101 (IntKind.i64.wrap (i102 + (1 : Int)))) ∧ (y105 = false → K (false)))) ∧ (¬(i102 < (l0.length : Int)) → K (true))) → X101 i102) → X101 (0 : Int)
end Go.Proofs.Ytcplmcfnegphlaa.G

namespace Go.Proofs.Ytcplmcfnegphlaa.G
open Go Go.Ab
set_option maxRecDepth 100000
set_option linter.unusedVariables false
set_option linter.unusedSimpArgs false
set_option maxHeartbeats 1000000
def spec_l02Integers.wp (l0 : List (Int)) (K : Bool → Prop) : Prop := (((1 : Int) ≤ (l0.length : Int) → (((l0.length : Int) ≤ (128 : Int) → spec_l02Bound.wp l0 (1000000 : Int) fun y103 => K (y103)) ∧ (¬((l0.length : Int) ≤ (128 : Int)) → K (false)))) ∧ (¬((1 : Int) ≤ (l0.length : Int)) → K (false)))
end Go.Proofs.Ytcplmcfnegphlaa.G

namespace Go.Proofs.Ytcplmcfnegphlaa.G
open Go Go.Ab
set_option maxRecDepth 100000
set_option linter.unusedVariables false
set_option linter.unusedSimpArgs false
set_option maxHeartbeats 1000000
def spec_l06Rice.wp (l0 : List (Int)) (a1 : Int) (K : Bool → Prop) : Prop := spec_l02Integers.wp l0 fun y101 => ((y101 = true → spec_l00In.wp a1 (0 : Int) (20 : Int) fun y104 => K (y104)) ∧ (y101 = false → K (false)))
end Go.Proofs.Ytcplmcfnegphlaa.G

namespace Go.Proofs.Ytcplmcfnegphlaa.G
open Go Go.Ab
set_option maxRecDepth 100000
set_option linter.unusedVariables false
set_option linter.unusedSimpArgs false
set_option maxHeartbeats 1000000
def spec_l06Zig.wp (a0 : Int) (K : Int → Prop) : Prop := ((a0 < (0 : Int) → K (IntKind.i64.wrap ((IntKind.i64.wrap ((-2 : Int) * a0)) - (1 : Int)))) ∧ (¬(a0 < (0 : Int)) → K (IntKind.i64.wrap ((2 : Int) * a0))))
end Go.Proofs.Ytcplmcfnegphlaa.G

namespace Go.Proofs.Ytcplmcfnegphlaa.G
open Go Go.Ab
set_option maxRecDepth 100000
set_option linter.unusedVariables false
set_option linter.unusedSimpArgs false
set_option maxHeartbeats 1000000
def spec_l06RiceLong.wp (l0 : List (Int)) (a1 : Int) (K : Int → Prop) : Prop := ∀ X101 : Int → Int → Prop, (∀ (sum102 : Int) (i103 : Int), ((i103 < (l0.length : Int) → (0 ≤ i103 ∧ i103 < (l0.length : Int)) ∧ spec_l06Zig.wp (l0.getD (i103).toNat (0 : Int)) fun y106 => (0 ≤ (IntKind.u64.wrap a1)) ∧ X101 (IntKind.i64.wrap (sum102 + (IntKind.i64.wrap ((IntKind.i64.wrap ((Int.fdiv y106 (2 ^ (min ((IntKind.u64.wrap a1)).toNat IntKind.i64.bits))) + (1 : Int))) + a1)))) (IntKind.i64.wrap (i103 + (1 : Int)))) ∧ (¬(i103 < (l0.length : Int)) → K (sum102))) → X101 sum102 i103) → X101 (0 : Int) (0 : Int)
end Go.Proofs.Ytcplmcfnegphlaa.G

namespace Go.Proofs.Ytcplmcfnegphlaa.G
open Go Go.Ab
set_option maxRecDepth 100000
set_option linter.unusedVariables false
set_option linter.unusedSimpArgs false
set_option maxHeartbeats 1000000
def spec_l06RiceCode.wp (l0 : List (Int)) (a1 : Int) (K : (List (Bool)) → Prop) : Prop := ∀ X201 : List (Bool) → Int → Prop, (∀ (out202 : List (Bool)) (i204 : Int), ((i204 < (l0.length : Int) → (0 ≤ i204 ∧ i204 < (l0.length : Int)) ∧ spec_l06Zig.wp (l0.getD (i204).toNat (0 : Int)) fun y207 => (0 ≤ (IntKind.u64.wrap a1)) ∧ ∀ X253 : List (Bool) → Int → Prop, (∀ (out254 : List (Bool)) (n256 : Int), (((0 : Int) < n256 → ((out254.length + ([true] : List (Bool)).length) * 1 ≤ 2 ^ 40) ∧ X253 (out254 ++ ([true] : List (Bool))) (IntKind.i64.wrap (n256 - (1 : Int)))) ∧ (¬((0 : Int) < n256) → ((out254.length + ([false] : List (Bool)).length) * 1 ≤ 2 ^ 40) ∧ ∀ X282 : List (Bool) → Int → Prop, (∀ (out283 : List (Bool)) (j285 : Int), (((0 : Int) ≤ j285 → (0 ≤ (IntKind.u64.wrap j285)) ∧ ((out283.length + ([(decide ((ibits .and .i64 (Int.fdiv y207 (2 ^ (min ((IntKind.u64.wrap j285)).toNat IntKind.i64.bits))) (1 : Int)) = (1 : Int)))] : List (Bool)).length) * 1 ≤ 2 ^ 40) ∧ X282 (out283 ++ ([(decide ((ibits .and .i64 (Int.fdiv y207 (2 ^ (min ((IntKind.u64.wrap j285)).toNat IntKind.i64.bits))) (1 : Int)) = (1 : Int)))] : List (Bool))) (IntKind.i64.wrap (j285 - (1 : Int)))) ∧ (¬((0 : Int) ≤ j285) → X201 (out283) (IntKind.i64.wrap (i204 + (1 : Int))))) → X282 out283 j285) → X282 (out254 ++ ([false] : List (Bool))) (IntKind.i64.wrap (a1 - (1 : Int))))) → X253 out254 n256) → X253 (out202) (Int.fdiv y207 (2 ^ (min ((IntKind.u64.wrap a1)).toNat IntKind.i64.bits)))) ∧ (¬(i204 < (l0.length : Int)) → K (out202))) → X201 out202 i204) → X201 ([] : List (Bool)) (0 : Int)
end Go.Proofs.Ytcplmcfnegphlaa.G

namespace Go.Proofs.Ytcplmcfnegphlaa.G
open Go Go.Ab
set_option maxRecDepth 100000
set_option linter.unusedVariables false
set_option linter.unusedSimpArgs false
set_option maxHeartbeats 1000000
def spec_RiceCode.wp (l0 : List (Int)) (a1 : Int) (K : (List (Bool)) → Bool → Prop) : Prop := spec_l06Rice.wp l0 a1 fun y101 => ((y101 = true → spec_l06RiceLong.wp l0 a1 fun y104 => (((32768 : Int) < y104 → K ([] : List (Bool)) (false)) ∧ (¬((32768 : Int) < y104) → spec_l06RiceCode.wp l0 a1 fun y107 => K (y107) (true)))) ∧ (y101 = false → K ([] : List (Bool)) (false)))
end Go.Proofs.Ytcplmcfnegphlaa.G

namespace Go.Proofs.Ytcplmcfnegphlaa.G
open Go Go.Ab
set_option maxRecDepth 100000
set_option linter.unusedVariables false
set_option linter.unusedSimpArgs false
set_option maxHeartbeats 1000000
def laws_toInt64S.wp (l0 : List (Int)) (K : (List (Int)) → Prop) : Prop := (0 ≤ (l0.length : Int) ∧ (l0.length : Int) ≤ (l0.length : Int) ∧ (l0.length : Int) ≤ 2 ^ 40 ∧ (l0.length : Int) * 8 ≤ 2 ^ 40) ∧ ∀ X111 : List (Int) → Int → Prop, (∀ (out112 : List (Int)) (i113 : Int), ((i113 < (l0.length : Int) → (0 ≤ i113 ∧ i113 < (l0.length : Int)) ∧ (0 ≤ i113 ∧ i113 < (out112.length : Int)) ∧ X111 (out112.set (i113).toNat (l0.getD (i113).toNat (0 : Int))) (IntKind.i64.wrap (i113 + (1 : Int)))) ∧ (¬(i113 < (l0.length : Int)) → K (out112))) → X111 out112 i113) → X111 (List.replicate ((l0.length : Int)).toNat (0 : Int)) (0 : Int)
end Go.Proofs.Ytcplmcfnegphlaa.G

namespace Go.Proofs.Ytcplmcfnegphlaa.G
open Go Go.Ab
set_option maxRecDepth 100000
set_option linter.unusedVariables false
set_option linter.unusedSimpArgs false
set_option maxHeartbeats 1000000
def impl_within.wp (a0 : Int) (a1 : Int) (a2 : Int) (K : Bool → Prop) : Prop := ((a1 ≤ a0 → K (decide (a0 ≤ a2))) ∧ (¬(a1 ≤ a0) → K (false)))
end Go.Proofs.Ytcplmcfnegphlaa.G

namespace Go.Proofs.Ytcplmcfnegphlaa.G
open Go Go.Ab
set_option maxRecDepth 100000
set_option linter.unusedVariables false
set_option linter.unusedSimpArgs false
set_option maxHeartbeats 1000000
def impl_areWithin.wp (l0 : List (Int)) (a1 : Int) (K : Bool → Prop) : Prop := ∀ X101 : Int → Prop, (∀ (x102 : Int), ((x102 < (l0.length : Int) → (0 ≤ x102 ∧ x102 < (l0.length : Int)) ∧ impl_within.wp (l0.getD (x102).toNat (0 : Int)) (IntKind.i64.wrap (0 - a1)) a1 fun y105 => ((y105 = true → X101 (IntKind.i64.wrap (x102 + (1 : Int)))) ∧ (y105 = false → K (false)))) ∧ (¬(x102 < (l0.length : Int)) → K (true))) → X101 x102) → X101 (0 : Int)
end Go.Proofs.Ytcplmcfnegphlaa.G

namespace Go.Proofs.Ytcplmcfnegphlaa.G
open Go Go.Ab
set_option maxRecDepth 100000
set_option linter.unusedVariables false
set_option linter.unusedSimpArgs false
set_option maxHeartbeats 1000000
def impl_AreIntegers.wp (l0 : List (Int)) (K : Bool → Prop) : Prop := impl_within.wp (l0.length : Int) (1 : Int) (128 : Int) fun y101 => ((y101 = true → impl_areWithin.wp l0 (1000000 : Int) fun y104 => K (y104)) ∧ (y101 = false → K (false)))
end Go.Proofs.Ytcplmcfnegphlaa.G

namespace Go.Proofs.Ytcplmcfnegphlaa.G
open Go Go.Ab
set_option maxRecDepth 100000
set_option linter.unusedVariables false
set_option linter.unusedSimpArgs false
set_option maxHeartbeats 1000000
def impl_zigZag.wp (a0 : Int) (K : Int → Prop) : Prop := (((0 : Int) ≤ a0 → K (IntKind.i64.wrap ((2 : Int) * a0))) ∧ (¬((0 : Int) ≤ a0) → K (IntKind.i64.wrap ((IntKind.i64.wrap ((-2 : Int) * a0)) - (1 : Int)))))
end Go.Proofs.Ytcplmcfnegphlaa.G

namespace Go.Proofs.Ytcplmcfnegphlaa.G
open Go Go.Ab
set_option maxRecDepth 100000
set_option linter.unusedVariables false
set_option linter.unusedSimpArgs false
set_option maxHeartbeats 1000000
def impl_riceLong.wp (l0 : List (Int)) (a1 : Int) (K : Int → Prop) : Prop := ∀ X101 : Int → Int → Prop, (∀ (sum102 : Int) (x103 : Int), ((x103 < (l0.length : Int) → (0 ≤ x103 ∧ x103 < (l0.length : Int)) ∧ impl_zigZag.wp (l0.getD (x103).toNat (0 : Int)) fun y106 => (0 ≤ a1) ∧ X101 (IntKind.i64.wrap (sum102 + (IntKind.i64.wrap ((IntKind.i64.wrap ((Int.fdiv y106 (2 ^ (min (a1).toNat IntKind.i64.bits))) + (1 : Int))) + a1)))) (IntKind.i64.wrap (x103 + (1 : Int)))) ∧ (¬(x103 < (l0.length : Int)) → K (sum102))) → X101 sum102 x103) → X101 (0 : Int) (0 : Int)
end Go.Proofs.Ytcplmcfnegphlaa.G

namespace Go.Proofs.Ytcplmcfnegphlaa.G
open Go Go.Ab
set_option maxRecDepth 100000
set_option linter.unusedVariables false
set_option linter.unusedSimpArgs false
set_option maxHeartbeats 1000000
def impl_RiceLong.wp (l0 : List (Int)) (a1 : Int) (K : Int → Bool → Prop) : Prop := impl_AreIntegers.wp l0 fun y101 => ((y101 = true → impl_within.wp a1 (0 : Int) (20 : Int) fun y104 => ((y104 = true → impl_riceLong.wp l0 a1 fun y107 => K (y107) (true)) ∧ (y104 = false → K (0 : Int) (false)))) ∧ (y101 = false → K (0 : Int) (false)))
end Go.Proofs.Ytcplmcfnegphlaa.G

namespace Go.Proofs.Ytcplmcfnegphlaa.G
open Go Go.Ab
set_option maxRecDepth 100000
set_option linter.unusedVariables false
set_option linter.unusedSimpArgs false
set_option maxHeartbeats 1000000
def impl_RiceCode.wp (l0 : List (Int)) (a1 : Int) (K : (List (Bool)) → Bool → Prop) : Prop := impl_RiceLong.wp l0 a1 fun y101 y102 => ((y102 = true → (((32768 : Int) < y101 → K ([] : List (Bool)) (false)) ∧ (¬((32768 : Int) < y101) → ∀ X206 : List (Bool) → Int → Prop, (∀ (out207 : List (Bool)) (x209 : Int), ((x209 < (l0.length : Int) → (0 ≤ x209 ∧ x209 < (l0.length : Int)) ∧ impl_zigZag.wp (l0.getD (x209).toNat (0 : Int)) fun y212 => (0 ≤ a1) ∧ ∀ X258 : List (Bool) → Int → Prop, (∀ (out259 : List (Bool)) (x261 : Int), ((x261 < (Int.fdiv y212 (2 ^ (min (a1).toNat IntKind.i64.bits))) → ((out259.length + ([true] : List (Bool)).length) * 1 ≤ 2 ^ 40) ∧ X258 (out259 ++ ([true] : List (Bool))) (IntKind.i64.wrap (x261 + (1 : Int)))) ∧ (¬(x261 < (Int.fdiv y212 (2 ^ (min (a1).toNat IntKind.i64.bits)))) → ((out259.length + ([false] : List (Bool)).length) * 1 ≤ 2 ^ 40) ∧ ∀ X287 : List (Bool) → Int → Prop, (∀ (out288 : List (Bool)) (b290 : Int), (((0 : Int) ≤ b290 → (0 ≤ b290) ∧ ((out288.length + ([(decide ((ibits .and .i64 (Int.fdiv y212 (2 ^ (min (b290).toNat IntKind.i64.bits))) (1 : Int)) = (1 : Int)))] : List (Bool)).length) * 1 ≤ 2 ^ 40) ∧ X287 (out288 ++ ([(decide ((ibits .and .i64 (Int.fdiv y212 (2 ^ (min (b290).toNat IntKind.i64.bits))) (1 : Int)) = (1 : Int)))] : List (Bool))) (IntKind.i64.wrap (b290 - (1 : Int)))) ∧ (¬((0 : Int) ≤ b290) → X206 (out288) (IntKind.i64.wrap (x209 + (1 : Int))))) → X287 out288 b290) → X287 (out259 ++ ([false] : List (Bool))) (IntKind.i64.wrap (a1 - (1 : Int))))) → X258 out259 x261) → X258 (out207) (0 : Int)) ∧ (¬(x209 < (l0.length : Int)) → K (out207) (true))) → X206 out207 x209) → X206 ([] : List (Bool)) (0 : Int)))) ∧ (y102 = false → K ([] : List (Bool)) (false)))
end Go.Proofs.Ytcplmcfnegphlaa.G

namespace Go.Proofs.Ytcplmcfnegphlaa.G
open Go Go.Ab
set_option maxRecDepth 100000
set_option linter.unusedVariables false
set_option linter.unusedSimpArgs false
set_option maxHeartbeats 1000000
def laws_eqBoolS.wp (l0 : List (Bool)) (l1 : List (Bool)) (K : Bool → Prop) : Prop := (((l0.length : Int) = (l1.length : Int) → ∀ X102 : Int → Prop, (∀ (i103 : Int), ((i103 < (l0.length : Int) → (0 ≤ i103 ∧ i103 < (l0.length : Int)) ∧ (0 ≤ i103 ∧ i103 < (l1.length : Int)) ∧ ((((l0.getD (i103).toNat false) == (l1.getD (i103).toNat false)) = true → X102 (IntKind.i64.wrap (i103 + (1 : Int)))) ∧ (((l0.getD (i103).toNat false) == (l1.getD (i103).toNat false)) = false → K (false)))) ∧ (¬(i103 < (l0.length : Int)) → K (true))) → X102 i103) → X102 (0 : Int)) ∧ (¬((l0.length : Int) = (l1.length : Int)) → K (false)))
end Go.Proofs.Ytcplmcfnegphlaa.G

namespace Go.Proofs.Ytcplmcfnegphlaa.G
open Go Go.Ab
set_option maxRecDepth 100000
set_option linter.unusedVariables false
set_option linter.unusedSimpArgs false
set_option maxHeartbeats 1000000
def laws_eqInt64S.wp (l0 : List (Int)) (l1 : List (Int)) (K : Bool → Prop) : Prop := (((l0.length : Int) = (l1.length : Int) → ∀ X102 : Int → Prop, (∀ (i103 : Int), ((i103 < (l0.length : Int) → (0 ≤ i103 ∧ i103 < (l0.length : Int)) ∧ (0 ≤ i103 ∧ i103 < (l1.length : Int)) ∧ (((l0.getD (i103).toNat (0 : Int)) = (l1.getD (i103).toNat (0 : Int)) → X102 (IntKind.i64.wrap (i103 + (1 : Int)))) ∧ (¬((l0.getD (i103).toNat (0 : Int)) = (l1.getD (i103).toNat (0 : Int))) → K (false)))) ∧ (¬(i103 < (l0.length : Int)) → K (true))) → X102 i103) → X102 (0 : Int)) ∧ (¬((l0.length : Int) = (l1.length : Int)) → K (false)))
end Go.Proofs.Ytcplmcfnegphlaa.G

namespace Go.Proofs.Ytcplmcfnegphlaa.G
open Go Go.Ab
set_option maxRecDepth 100000
set_option linter.unusedVariables false
set_option linter.unusedSimpArgs false
set_option maxHeartbeats 1000000
def laws_markInt64S.wp (l0 : List (Int)) (a1 : Int) (K : Int → (List (Int)) → Prop) : Prop := ∀ X108 : List (Int) → Int → Int → Prop, (∀ (a109 : List (Int)) (k110 : Int) (i111 : Int), ((i111 < (a109.length : Int) → (0 ≤ i111 ∧ i111 < (a109.length : Int)) ∧ X108 (a109.set (i111).toNat k110) (IntKind.i64.wrap (k110 + (1 : Int))) (IntKind.i64.wrap (i111 + (1 : Int)))) ∧ (¬(i111 < (a109.length : Int)) → K (k110) (a109))) → X108 a109 k110 i111) → X108 (l0) (a1) (0 : Int)
end Go.Proofs.Ytcplmcfnegphlaa.G

namespace Go.Proofs.Ytcplmcfnegphlaa.G
open Go Go.Ab
set_option maxRecDepth 100000
set_option linter.unusedVariables false
set_option linter.unusedSimpArgs false
set_option maxHeartbeats 1000000
def laws_markBoolS.wp (l0 : List (Bool)) (a1 : Int) (K : Int → (List (Bool)) → Prop) : Prop := ∀ X108 : List (Bool) → Int → Int → Prop, (∀ (a109 : List (Bool)) (k110 : Int) (i111 : Int), ((i111 < (a109.length : Int) → (0 ≤ i111 ∧ i111 < (a109.length : Int)) ∧ X108 (a109.set (i111).toNat (decide ((Int.tmod k110 (3 : Int)) = (0 : Int)))) (IntKind.i64.wrap (k110 + (1 : Int))) (IntKind.i64.wrap (i111 + (1 : Int)))) ∧ (¬(i111 < (a109.length : Int)) → K (k110) (a109))) → X108 a109 k110 i111) → X108 (l0) (a1) (0 : Int)
end Go.Proofs.Ytcplmcfnegphlaa.G

namespace Go.Proofs.Ytcplmcfnegphlaa.G
open Go Go.Ab
set_option maxRecDepth 100000
set_option linter.unusedVariables false
set_option linter.unusedSimpArgs false
set_option maxHeartbeats 1000000
def laws_heldBoolS.wp (l0 : List (Bool)) (a1 : Int) (K : Int → Prop) : Prop := ∀ X101 : Int → Int → Prop, (∀ (k102 : Int) (i103 : Int), ((i103 < (l0.length : Int) → (0 ≤ i103 ∧ i103 < (l0.length : Int)) ∧ ((((l0.getD (i103).toNat false) == (decide ((Int.tmod k102 (3 : Int)) = (0 : Int)))) = true → X101 (IntKind.i64.wrap (k102 + (1 : Int))) (IntKind.i64.wrap (i103 + (1 : Int)))) ∧ (((l0.getD (i103).toNat false) == (decide ((Int.tmod k102 (3 : Int)) = (0 : Int)))) = false → K (-1 : Int)))) ∧ (¬(i103 < (l0.length : Int)) → K (k102))) → X101 k102 i103) → X101 (a1) (0 : Int)
end Go.Proofs.Ytcplmcfnegphlaa.G

namespace Go.Proofs.Ytcplmcfnegphlaa.G
open Go Go.Ab
set_option maxRecDepth 100000
set_option linter.unusedVariables false
set_option linter.unusedSimpArgs false
set_option maxHeartbeats 1000000
def laws_FnExactRiceCode.wp (l0 : List (Int)) (a1 : Int) (K : Bool → Prop) : Prop := (((1048576 : Int) < (l0.length : Int) → K (true)) ∧ (¬((1048576 : Int) < (l0.length : Int)) → laws_toInt64S.wp l0 fun y102 => spec_RiceCode.wp y102 a1 fun y106 y109 => laws_toInt64S.wp l0 fun y111 => impl_RiceCode.wp y111 a1 fun y115 y118 => laws_eqBoolS.wp y115 y106 fun y120 => ((y120 = true → (((y118 == y109) = true → laws_toInt64S.wp l0 fun y124 => laws_eqInt64S.wp y111 y124 fun y128 => ((y128 = true → laws_markInt64S.wp y111 (1 : Int) fun y131 y132 => ((y131 < (0 : Int) → K (false)) ∧ (¬(y131 < (0 : Int)) → laws_eqBoolS.wp y115 y106 fun y135 => ((y135 = true → laws_markBoolS.wp y115 (1 : Int) fun y138 y139 => laws_heldBoolS.wp y139 (1 : Int) fun y141 => ((y141 < (0 : Int) → K (false)) ∧ (¬(y141 < (0 : Int)) → ((y141 = y138 → laws_toInt64S.wp l0 fun y145 => impl_RiceCode.wp y145 a1 fun y149 y152 => laws_eqBoolS.wp y149 y106 fun y154 => ((y154 = true → (((y152 == y109) = true → laws_heldBoolS.wp y139 (1 : Int) fun y158 => ((y158 < (0 : Int) → K (false)) ∧ (¬(y158 < (0 : Int)) → ((y158 = y138 → K (true)) ∧ (¬(y158 = y138) → K (false)))))) ∧ ((y152 == y109) = false → K (false)))) ∧ (y154 = false → K (false)))) ∧ (¬(y141 = y138) → K (false)))))) ∧ (y135 = false → K (false)))))) ∧ (y128 = false → K (false)))) ∧ ((y118 == y109) = false → K (false)))) ∧ (y120 = false → K (false)))))
end Go.Proofs.Ytcplmcfnegphlaa.G

namespace Go.Proofs.Ytcplmcfnegphlaa.G
open Go Go.Ab
set_option maxRecDepth 100000
set_option linter.unusedVariables false
set_option linter.unusedSimpArgs false
set_option maxHeartbeats 1000000
def laws_heldInt64S.wp (l0 : List (Int)) (a1 : Int) (K : Int → Prop) : Prop := ∀ X101 : Int → Int → Prop, (∀ (k102 : Int) (i103 : Int), ((i103 < (l0.length : Int) → (0 ≤ i103 ∧ i103 < (l0.length : Int)) ∧ (((l0.getD (i103).toNat (0 : Int)) = k102 → X101 (IntKind.i64.wrap (k102 + (1 : Int))) (IntKind.i64.wrap (i103 + (1 : Int)))) ∧ (¬((l0.getD (i103).toNat (0 : Int)) = k102) → K (-1 : Int)))) ∧ (¬(i103 < (l0.length : Int)) → K (k102))) → X101 k102 i103) → X101 (a1) (0 : Int)
end Go.Proofs.Ytcplmcfnegphlaa.G

namespace Go.Proofs.Ytcplmcfnegphlaa.G
open Go Go.Ab
set_option maxRecDepth 100000
set_option linter.unusedVariables false
set_option linter.unusedSimpArgs false
set_option maxHeartbeats 1000000
def laws_toBoolS.wp (l0 : List (Bool)) (K : (List (Bool)) → Prop) : Prop := (0 ≤ (l0.length : Int) ∧ (l0.length : Int) ≤ (l0.length : Int) ∧ (l0.length : Int) ≤ 2 ^ 40 ∧ (l0.length : Int) * 1 ≤ 2 ^ 40) ∧ ∀ X111 : List (Bool) → Int → Prop, (∀ (out112 : List (Bool)) (i113 : Int), ((i113 < (l0.length : Int) → (0 ≤ i113 ∧ i113 < (l0.length : Int)) ∧ (0 ≤ i113 ∧ i113 < (out112.length : Int)) ∧ X111 (out112.set (i113).toNat (l0.getD (i113).toNat false)) (IntKind.i64.wrap (i113 + (1 : Int)))) ∧ (¬(i113 < (l0.length : Int)) → K (out112))) → X111 out112 i113) → X111 (List.replicate ((l0.length : Int)).toNat false) (0 : Int)
end Go.Proofs.Ytcplmcfnegphlaa.G

