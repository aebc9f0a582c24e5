/-
  What the functions compute, as formulas over numbers and lists. Printed by a program of the session; nothing here is trusted.
-/
import Derived.Test.YtdoamcokkcoflaaAbK
namespace Go.Proofs.Ytdoamcokkcoflaa.G
open Go Go.Ab
set_option maxRecDepth 100000
set_option linter.unusedVariables false
set_option linter.unusedSimpArgs false
set_option maxHeartbeats 1000000
def R_LeFlt_f32_o (H : Heap) (x : List (Nat)) (c : List AV) : Prop := c = [(c.getD 0 .und)] ∧ Shows H (c.getD 0 .und) 1 (enc (eFlt .f32) x)
def R_LeInt_i64_o (H : Heap) (x : List (Int)) (c : List AV) : Prop := c = [(c.getD 0 .und)] ∧ Shows H (c.getD 0 .und) 1 (enc (eInt .i64) x)
def R_LePair_eBool_ePair_eFlt_f32_eInt_i64_o (H : Heap) (x : List ((Bool) × (Nat) × (Int))) (c : List AV) : Prop := c = [(c.getD 0 .und)] ∧ Shows H (c.getD 0 .und) 3 (enc (ePair eBool (ePair (eFlt .f32) (eInt .i64))) x)
def R_LePair_eInt_i64_eFlt_f32_o (H : Heap) (x : List ((Int) × (Nat))) (c : List AV) : Prop := c = [(c.getD 0 .und)] ∧ Shows H (c.getD 0 .und) 2 (enc (ePair (eInt .i64) (eFlt .f32)) x)
end Go.Proofs.Ytdoamcokkcoflaa.G

namespace Go.Proofs.Ytdoamcokkcoflaa.G
open Go Go.Ab
set_option maxRecDepth 100000
set_option linter.unusedVariables false
set_option linter.unusedSimpArgs false
set_option maxHeartbeats 1000000
def laws_b10Gap.wp (a0 : Nat) (a1 : Nat) (K : Nat → Prop) : Prop := (((fcmp .lss .f64 a0 a1) = true → K (fop .sub .f64 a1 a0)) ∧ ((fcmp .lss .f64 a0 a1) = false → K (fop .sub .f64 a0 a1)))
end Go.Proofs.Ytdoamcokkcoflaa.G

namespace Go.Proofs.Ytdoamcokkcoflaa.G
open Go Go.Ab
set_option maxRecDepth 100000
set_option linter.unusedVariables false
set_option linter.unusedSimpArgs false
set_option maxHeartbeats 1000000
def spec_l00From.wp (l0 : List (Int)) (K : Bool → Int → Int → Prop) : Prop := K (true) (0 : Int) (0 : Int)
end Go.Proofs.Ytdoamcokkcoflaa.G

namespace Go.Proofs.Ytdoamcokkcoflaa.G
open Go Go.Ab
set_option maxRecDepth 100000
set_option linter.unusedVariables false
set_option linter.unusedSimpArgs false
set_option maxHeartbeats 1000000
def spec_l00Src_next.wp (l0 : List (Int)) (a1 : Int) (a2 : Int) (K : Int → Int → Int → Prop) : Prop := ((a1 < (l0.length : Int) → (0 ≤ a1 ∧ a1 < (l0.length : Int)) ∧ (((IntKind.i64.wrap (a1 + (1 : Int))) ≤ (l0.length : Int) → K (IntKind.i64.wrap (l0.getD (a1).toNat (0 : Int))) (IntKind.i64.wrap (a1 + (1 : Int))) (IntKind.u64.wrap ((IntKind.u64.wrap ((IntKind.u64.wrap (a2 * (6364136223846793005 : Int))) + (IntKind.u64.wrap (IntKind.i64.wrap (l0.getD (a1).toNat (0 : Int)))))) + (1442695040888963407 : Int)))) ∧ (¬((IntKind.i64.wrap (a1 + (1 : Int))) ≤ (l0.length : Int)) → K (IntKind.i64.wrap (ibits .and .u64 (Int.fdiv (IntKind.u64.wrap ((IntKind.u64.wrap ((IntKind.u64.wrap (a2 * (6364136223846793005 : Int))) + (IntKind.u64.wrap (IntKind.i64.wrap (l0.getD (a1).toNat (0 : Int)))))) + (1442695040888963407 : Int))) (2 ^ (min ((40 : Int)).toNat IntKind.u64.bits))) (255 : Int))) (IntKind.i64.wrap (a1 + (1 : Int))) (IntKind.u64.wrap ((IntKind.u64.wrap ((IntKind.u64.wrap (a2 * (6364136223846793005 : Int))) + (IntKind.u64.wrap (IntKind.i64.wrap (l0.getD (a1).toNat (0 : Int)))))) + (1442695040888963407 : Int)))))) ∧ (¬(a1 < (l0.length : Int)) → (((IntKind.i64.wrap (a1 + (1 : Int))) ≤ (l0.length : Int) → K (0 : Int) (IntKind.i64.wrap (a1 + (1 : Int))) (IntKind.u64.wrap ((IntKind.u64.wrap ((IntKind.u64.wrap (a2 * (6364136223846793005 : Int))) + (IntKind.u64.wrap (0 : Int)))) + (1442695040888963407 : Int)))) ∧ (¬((IntKind.i64.wrap (a1 + (1 : Int))) ≤ (l0.length : Int)) → K (IntKind.i64.wrap (ibits .and .u64 (Int.fdiv (IntKind.u64.wrap ((IntKind.u64.wrap ((IntKind.u64.wrap (a2 * (6364136223846793005 : Int))) + (IntKind.u64.wrap (0 : Int)))) + (1442695040888963407 : Int))) (2 ^ (min ((40 : Int)).toNat IntKind.u64.bits))) (255 : Int))) (IntKind.i64.wrap (a1 + (1 : Int))) (IntKind.u64.wrap ((IntKind.u64.wrap ((IntKind.u64.wrap (a2 * (6364136223846793005 : Int))) + (IntKind.u64.wrap (0 : Int)))) + (1442695040888963407 : Int)))))))
end Go.Proofs.Ytdoamcokkcoflaa.G

namespace Go.Proofs.Ytdoamcokkcoflaa.G
open Go Go.Ab
set_option maxRecDepth 100000
set_option linter.unusedVariables false
set_option linter.unusedSimpArgs false
set_option maxHeartbeats 1000000
def spec_l00Src_pick.wp (l0 : List (Int)) (a1 : Int) (a2 : Int) (a3 : Int) (K : Int → Int → Int → Prop) : Prop := ((a3 ≤ (1 : Int) → K (0 : Int) (a1) (a2)) ∧ (¬(a3 ≤ (1 : Int)) → spec_l00Src_next.wp l0 a1 a2 fun y103 y104 y105 => (((200 : Int) < a3 → spec_l00Src_next.wp l0 y104 y105 fun y108 y109 y110 => (a3 ≠ 0) ∧ K (Int.tmod (IntKind.i64.wrap ((IntKind.i64.wrap (y103 * (256 : Int))) + y108)) a3) (y109) (y110)) ∧ (¬((200 : Int) < a3) → (a3 ≠ 0) ∧ K (Int.tmod y103 a3) (y104) (y105)))))
end Go.Proofs.Ytdoamcokkcoflaa.G

namespace Go.Proofs.Ytdoamcokkcoflaa.G
open Go Go.Ab
set_option maxRecDepth 100000
set_option linter.unusedVariables false
set_option linter.unusedSimpArgs false
set_option maxHeartbeats 1000000
def spec_B10Signal.wp (l0 : List (Int)) (a1 : Int) (K : (List (Nat)) → Prop) : Prop := spec_l00From.wp l0 fun y101 y102 y103 => ((y101 = true → ∀ X126 : List (Nat) → Int → Int → Int → Prop, (∀ (out127 : List (Nat)) (b129 : Int) (b130 : Int) (n131 : Int), (((0 : Int) < n131 → spec_l00Src_pick.wp l0 b129 b130 (65 : Int) fun y133 y134 y135 => ((out127.length + ([(fop .quo .f32 (itof .f32 (IntKind.i64.wrap (y133 - (32 : Int)))) (cz .f32 1082130432))] : List (Nat)).length) * 4 ≤ 2 ^ 40) ∧ X126 (out127 ++ ([(fop .quo .f32 (itof .f32 (IntKind.i64.wrap (y133 - (32 : Int)))) (cz .f32 1082130432))] : List (Nat))) (y134) (y135) (IntKind.i64.wrap (n131 - (1 : Int)))) ∧ (¬((0 : Int) < n131) → K (out127))) → X126 out127 b129 b130 n131) → X126 ([] : List (Nat)) (y102) (y103) (a1)) ∧ (y101 = false → ∀ X163 : List (Nat) → List (Int) → Int → Int → Int → Prop, (∀ (out164 : List (Nat)) (b167 : List (Int)) (b169 : Int) (b170 : Int) (n171 : Int), (((0 : Int) < n171 → spec_l00Src_pick.wp b167 b169 b170 (65 : Int) fun y173 y174 y175 => ((out164.length + ([(fop .quo .f32 (itof .f32 (IntKind.i64.wrap (y173 - (32 : Int)))) (cz .f32 1082130432))] : List (Nat)).length) * 4 ≤ 2 ^ 40) ∧ X163 (out164 ++ ([(fop .quo .f32 (itof .f32 (IntKind.i64.wrap (y173 - (32 : Int)))) (cz .f32 1082130432))] : List (Nat))) (b167) (y174) (y175) (IntKind.i64.wrap (n171 - (1 : Int)))) ∧ (¬((0 : Int) < n171) → K (out164))) → X163 out164 b167 b169 b170 n171) → X163 ([] : List (Nat)) ([] : List (Int)) (y102) (y103) (a1)))
end Go.Proofs.Ytdoamcokkcoflaa.G

namespace Go.Proofs.Ytdoamcokkcoflaa.G
open Go Go.Ab
set_option maxRecDepth 100000
set_option linter.unusedVariables false
set_option linter.unusedSimpArgs false
set_option maxHeartbeats 1000000
def impl_IsFinite.wp (a0 : Nat) (K : Bool → Prop) : Prop := K (fcmp .eql .f32 (fop .sub .f32 a0 a0) (cz .f32 0))
end Go.Proofs.Ytdoamcokkcoflaa.G

namespace Go.Proofs.Ytdoamcokkcoflaa.G
open Go Go.Ab
set_option maxRecDepth 100000
set_option linter.unusedVariables false
set_option linter.unusedSimpArgs false
set_option maxHeartbeats 1000000
def impl_areFinite.wp (l0 : List (List (Nat))) (K : Bool → Prop) : Prop := ∀ X101 : Int → Prop, (∀ (x102 : Int), ((x102 < (l0.length : Int) → (0 ≤ x102 ∧ x102 < (l0.length : Int)) ∧ ∀ X105 : Int → Prop, (∀ (x106 : Int), ((x106 < ((l0.getD (x102).toNat ([] : List (Nat))).length : Int) → (0 ≤ x106 ∧ x106 < ((l0.getD (x102).toNat ([] : List (Nat))).length : Int)) ∧ impl_IsFinite.wp ((l0.getD (x102).toNat ([] : List (Nat))).getD (x106).toNat (0 : Nat)) fun y109 => ((y109 = true → X105 (IntKind.i64.wrap (x106 + (1 : Int)))) ∧ (y109 = false → K (false)))) ∧ (¬(x106 < ((l0.getD (x102).toNat ([] : List (Nat))).length : Int)) → X101 (IntKind.i64.wrap (x102 + (1 : Int))))) → X105 x106) → X105 (0 : Int)) ∧ (¬(x102 < (l0.length : Int)) → K (true))) → X101 x102) → X101 (0 : Int)
end Go.Proofs.Ytdoamcokkcoflaa.G

namespace Go.Proofs.Ytdoamcokkcoflaa.G
open Go Go.Ab
set_option maxRecDepth 100000
set_option linter.unusedVariables false
set_option linter.unusedSimpArgs false
set_option maxHeartbeats 1000000
def impl_isGrid.wp (l0 : List (Nat)) (K : Bool → Prop) : Prop := (((1 : Int) ≤ (IntKind.i64.wrap ((l0.length : Int) - (1 : Int))) → (((IntKind.i64.wrap ((l0.length : Int) - (1 : Int))) ≤ (64 : Int) → (((ibits .and .i64 (IntKind.i64.wrap ((l0.length : Int) - (1 : Int))) (IntKind.i64.wrap ((IntKind.i64.wrap ((l0.length : Int) - (1 : Int))) - (1 : Int)))) = (0 : Int) → impl_areFinite.wp ([l0] : List (List (Nat))) fun y107 => K (y107)) ∧ (¬((ibits .and .i64 (IntKind.i64.wrap ((l0.length : Int) - (1 : Int))) (IntKind.i64.wrap ((IntKind.i64.wrap ((l0.length : Int) - (1 : Int))) - (1 : Int)))) = (0 : Int)) → K (false)))) ∧ (¬((IntKind.i64.wrap ((l0.length : Int) - (1 : Int))) ≤ (64 : Int)) → K (false)))) ∧ (¬((1 : Int) ≤ (IntKind.i64.wrap ((l0.length : Int) - (1 : Int)))) → K (false)))
end Go.Proofs.Ytdoamcokkcoflaa.G

namespace Go.Proofs.Ytdoamcokkcoflaa.G
open Go Go.Ab
set_option maxRecDepth 100000
set_option linter.unusedVariables false
set_option linter.unusedSimpArgs false
set_option maxHeartbeats 1000000
def impl_copyOf.wp (l0 : List (Nat)) (K : (List (Nat)) → Prop) : Prop := ((([] : List (Nat)).length + l0.length) * 4 ≤ 2 ^ 40) ∧ K (([] : List (Nat)) ++ l0)
end Go.Proofs.Ytdoamcokkcoflaa.G

namespace Go.Proofs.Ytdoamcokkcoflaa.G
open Go Go.Ab
set_option maxRecDepth 100000
set_option linter.unusedVariables false
set_option linter.unusedSimpArgs false
set_option maxHeartbeats 1000000
def impl_finiteList.wp (l0 : List (Nat)) (K : Bool → Bool → Prop) : Prop := impl_areFinite.wp ([l0] : List (List (Nat))) fun y104 => ((y104 = true → K (true) (true)) ∧ (y104 = false → K (false) (false)))
end Go.Proofs.Ytdoamcokkcoflaa.G

namespace Go.Proofs.Ytdoamcokkcoflaa.G
open Go Go.Ab
set_option maxRecDepth 100000
set_option linter.unusedVariables false
set_option linter.unusedSimpArgs false
set_option maxHeartbeats 1000000
def impl_SurplusOf.wp (l0 : List (Nat)) (K : (List (Nat)) → Bool → Prop) : Prop := impl_isGrid.wp l0 fun y101 => ((y101 = true → impl_copyOf.wp l0 fun y104 => ∀ X120 : List (Nat) → Int → Prop, (∀ (out121 : List (Nat)) (i122 : Int), ((i122 < (IntKind.i64.wrap ((l0.length : Int) - (1 : Int))) → (0 ≤ i122 ∧ i122 < (l0.length : Int)) ∧ (0 ≤ (IntKind.i64.wrap (i122 - (ibits .and .i64 i122 (IntKind.i64.wrap (0 - i122))))) ∧ (IntKind.i64.wrap (i122 - (ibits .and .i64 i122 (IntKind.i64.wrap (0 - i122))))) < (l0.length : Int)) ∧ (0 ≤ (IntKind.i64.wrap (i122 + (ibits .and .i64 i122 (IntKind.i64.wrap (0 - i122))))) ∧ (IntKind.i64.wrap (i122 + (ibits .and .i64 i122 (IntKind.i64.wrap (0 - i122))))) < (l0.length : Int)) ∧ (0 ≤ i122 ∧ i122 < (out121.length : Int)) ∧ X120 (out121.set (i122).toNat (fop .sub .f32 (l0.getD (i122).toNat (0 : Nat)) (fop .quo .f32 (fop .add .f32 (l0.getD ((IntKind.i64.wrap (i122 - (ibits .and .i64 i122 (IntKind.i64.wrap (0 - i122)))))).toNat (0 : Nat)) (l0.getD ((IntKind.i64.wrap (i122 + (ibits .and .i64 i122 (IntKind.i64.wrap (0 - i122)))))).toNat (0 : Nat))) (cz .f32 1073741824)))) (IntKind.i64.wrap (i122 + (1 : Int)))) ∧ (¬(i122 < (IntKind.i64.wrap ((l0.length : Int) - (1 : Int)))) → impl_finiteList.wp out121 fun y129 y130 => ((y129 = true → K (out121) (y130)) ∧ (y129 = false → K ([] : List (Nat)) (y130))))) → X120 out121 i122) → X120 (y104) (1 : Int)) ∧ (y101 = false → K ([] : List (Nat)) (false)))
end Go.Proofs.Ytdoamcokkcoflaa.G

namespace Go.Proofs.Ytdoamcokkcoflaa.G
open Go Go.Ab
set_option maxRecDepth 100000
set_option linter.unusedVariables false
set_option linter.unusedSimpArgs false
set_option maxHeartbeats 1000000
def impl_FromSurplus.wp (l0 : List (Nat)) (K : (List (Nat)) → Bool → Prop) : Prop := impl_isGrid.wp l0 fun y101 => ((y101 = true → impl_copyOf.wp l0 fun y104 => ∀ X132 : List (Nat) → Int → Prop, (∀ (out133 : List (Nat)) (hq134 : Int), (((1 : Int) ≤ hq134 → ∀ X143 : List (Nat) → Int → Prop, (∀ (out144 : List (Nat)) (i145 : Int), ((i145 < (IntKind.i64.wrap ((l0.length : Int) - (1 : Int))) → (0 ≤ i145 ∧ i145 < (out144.length : Int)) ∧ (0 ≤ (IntKind.i64.wrap (i145 - hq134)) ∧ (IntKind.i64.wrap (i145 - hq134)) < (out144.length : Int)) ∧ (0 ≤ (IntKind.i64.wrap (i145 + hq134)) ∧ (IntKind.i64.wrap (i145 + hq134)) < (out144.length : Int)) ∧ X143 (out144.set (i145).toNat (fop .add .f32 (out144.getD (i145).toNat (0 : Nat)) (fop .quo .f32 (fop .add .f32 (out144.getD ((IntKind.i64.wrap (i145 - hq134))).toNat (0 : Nat)) (out144.getD ((IntKind.i64.wrap (i145 + hq134))).toNat (0 : Nat))) (cz .f32 1073741824)))) (IntKind.i64.wrap (i145 + (IntKind.i64.wrap ((2 : Int) * hq134))))) ∧ (¬(i145 < (IntKind.i64.wrap ((l0.length : Int) - (1 : Int)))) → X132 (out144) (IntKind.i64.wrap (Int.tdiv hq134 (2 : Int))))) → X143 out144 i145) → X143 (out133) (hq134)) ∧ (¬((1 : Int) ≤ hq134) → impl_finiteList.wp out133 fun y153 y154 => ((y153 = true → K (out133) (y154)) ∧ (y153 = false → K ([] : List (Nat)) (y154))))) → X132 out133 hq134) → X132 (y104) (IntKind.i64.wrap (Int.tdiv (IntKind.i64.wrap ((l0.length : Int) - (1 : Int))) (2 : Int)))) ∧ (y101 = false → K ([] : List (Nat)) (false)))
end Go.Proofs.Ytdoamcokkcoflaa.G

namespace Go.Proofs.Ytdoamcokkcoflaa.G
open Go Go.Ab
set_option maxRecDepth 100000
set_option linter.unusedVariables false
set_option linter.unusedSimpArgs false
set_option maxHeartbeats 1000000
def impl_isLeast.wp (a0 : Nat) (K : Bool → Prop) : Prop := impl_IsFinite.wp a0 fun y101 => ((y101 = true → K (fcmp .geq .f32 a0 (cz .f32 0))) ∧ (y101 = false → K (false)))
end Go.Proofs.Ytdoamcokkcoflaa.G

namespace Go.Proofs.Ytdoamcokkcoflaa.G
open Go Go.Ab
set_option maxRecDepth 100000
set_option linter.unusedVariables false
set_option linter.unusedSimpArgs false
set_option maxHeartbeats 1000000
def impl_size.wp (a0 : Nat) (K : Nat → Prop) : Prop := (((fcmp .lss .f32 a0 (cz .f32 0)) = true → K (fneg .f32 a0)) ∧ ((fcmp .lss .f32 a0 (cz .f32 0)) = false → (((fcmp .eql .f32 a0 (cz .f32 0)) = true → K (cz .f32 0)) ∧ ((fcmp .eql .f32 a0 (cz .f32 0)) = false → K (a0)))))
end Go.Proofs.Ytdoamcokkcoflaa.G

namespace Go.Proofs.Ytdoamcokkcoflaa.G
open Go Go.Ab
set_option maxRecDepth 100000
set_option linter.unusedVariables false
set_option linter.unusedSimpArgs false
set_option maxHeartbeats 1000000
def impl_ThinSurplus.wp (l0 : List (Nat)) (a1 : Nat) (K : (List (Nat)) → Int → Bool → Prop) : Prop := impl_SurplusOf.wp l0 fun y101 y104 => ((y104 = true → impl_isLeast.wp a1 fun y107 => ((y107 = true → ∀ X125 : List (Nat) → Int → Int → Prop, (∀ (more126 : List (Nat)) (left127 : Int) (i128 : Int), ((i128 < (IntKind.i64.wrap ((more126.length : Int) - (1 : Int))) → (0 ≤ i128 ∧ i128 < (more126.length : Int)) ∧ impl_size.wp (more126.getD (i128).toNat (0 : Nat)) fun y131 => (((fcmp .leq .f32 y131 a1) = true → X125 (more126.set (i128).toNat (cz .f32 0)) (left127) (IntKind.i64.wrap (i128 + (1 : Int)))) ∧ ((fcmp .leq .f32 y131 a1) = false → X125 (more126) (IntKind.i64.wrap (left127 + (1 : Int))) (IntKind.i64.wrap (i128 + (1 : Int)))))) ∧ (¬(i128 < (IntKind.i64.wrap ((more126.length : Int) - (1 : Int)))) → impl_FromSurplus.wp more126 fun y135 y138 => ((y138 = true → K (y135) (left127) (true)) ∧ (y138 = false → K ([] : List (Nat)) (0 : Int) (false))))) → X125 more126 left127 i128) → X125 (y101) (0 : Int) (1 : Int)) ∧ (y107 = false → K ([] : List (Nat)) (0 : Int) (false)))) ∧ (y104 = false → K ([] : List (Nat)) (0 : Int) (false)))
end Go.Proofs.Ytdoamcokkcoflaa.G

namespace Go.Proofs.Ytdoamcokkcoflaa.G
open Go Go.Ab
set_option maxRecDepth 100000
set_option linter.unusedVariables false
set_option linter.unusedSimpArgs false
set_option maxHeartbeats 1000000
def laws_b10Apart.wp (l0 : List (Nat)) (l1 : List (Nat)) (a2 : Nat) (K : Bool → Prop) : Prop := (((l0.length : Int) = (l1.length : Int) → ∀ X102 : Int → Prop, (∀ (x103 : Int), ((x103 < (l0.length : Int) → (0 ≤ x103 ∧ x103 < (l0.length : Int)) ∧ (0 ≤ x103 ∧ x103 < (l1.length : Int)) ∧ laws_b10Gap.wp (widen (l0.getD (x103).toNat (0 : Nat))) (widen (l1.getD (x103).toNat (0 : Nat))) fun y107 => (((fcmp .leq .f64 y107 a2) = true → X102 (IntKind.i64.wrap (x103 + (1 : Int)))) ∧ ((fcmp .leq .f64 y107 a2) = false → K (true)))) ∧ (¬(x103 < (l0.length : Int)) → K (false))) → X102 x103) → X102 (0 : Int)) ∧ (¬((l0.length : Int) = (l1.length : Int)) → K (true)))
end Go.Proofs.Ytdoamcokkcoflaa.G

namespace Go.Proofs.Ytdoamcokkcoflaa.G
open Go Go.Ab
set_option maxRecDepth 100000
set_option linter.unusedVariables false
set_option linter.unusedSimpArgs false
set_option maxHeartbeats 1000000
def laws_b10Long.wp (l0 : List (Int)) (l1 : List (Int)) (K : Bool → Prop) : Prop := (((1048576 : Int) < (l0.length : Int) → K (true)) ∧ (¬((1048576 : Int) < (l0.length : Int)) → K (decide ((1048576 : Int) < (l1.length : Int)))))
end Go.Proofs.Ytdoamcokkcoflaa.G

namespace Go.Proofs.Ytdoamcokkcoflaa.G
open Go Go.Ab
set_option maxRecDepth 100000
set_option linter.unusedVariables false
set_option linter.unusedSimpArgs false
set_option maxHeartbeats 1000000
def laws_b10At.wp (l0 : List (Int)) (a1 : Int) (a2 : Int) (K : Int → Prop) : Prop := ((a2 ≤ (1 : Int) → K (0 : Int)) ∧ (¬(a2 ≤ (1 : Int)) → ((a1 < (l0.length : Int) → (0 ≤ a1 ∧ a1 < (l0.length : Int)) ∧ (a2 ≠ 0) ∧ K (Int.tmod (IntKind.i64.wrap (l0.getD (a1).toNat (0 : Int))) a2)) ∧ (¬(a1 < (l0.length : Int)) → (a2 ≠ 0) ∧ K (Int.tmod (IntKind.i64.wrap ((IntKind.i64.wrap (a1 * (37 : Int))) + (11 : Int))) a2)))))
end Go.Proofs.Ytdoamcokkcoflaa.G

namespace Go.Proofs.Ytdoamcokkcoflaa.G
open Go Go.Ab
set_option maxRecDepth 100000
set_option linter.unusedVariables false
set_option linter.unusedSimpArgs false
set_option maxHeartbeats 1000000
def laws_FnSurpluses.wp (l0 : List (Int)) (l1 : List (Int)) (K : Bool → Prop) : Prop := laws_b10Long.wp l0 l1 fun y101 => ((y101 = true → K (true)) ∧ (y101 = false → laws_b10At.wp l1 (0 : Int) (5 : Int) fun y107 => (0 ≤ y107 ∧ y107 < (([(2 : Int), (3 : Int), (5 : Int), (9 : Int), (17 : Int)] : List (Int)).length : Int)) ∧ spec_B10Signal.wp l0 (([(2 : Int), (3 : Int), (5 : Int), (9 : Int), (17 : Int)] : List (Int)).getD (y107).toNat (0 : Int)) fun y110 => impl_SurplusOf.wp y110 fun y114 y117 => impl_FromSurplus.wp y114 fun y119 y122 => laws_b10At.wp l1 (1 : Int) (17 : Int) fun y124 => impl_ThinSurplus.wp y110 (fop .quo .f32 (itof .f32 y124) (cz .f32 1082130432)) fun y126 y129 y130 => laws_b10At.wp l1 (2 : Int) (17 : Int) fun y135 => ∀ X195 : List (Nat) → Int → Prop, (∀ (line196 : List (Nat)) (k198 : Int), ((k198 < (([(2 : Int), (3 : Int), (5 : Int), (9 : Int), (17 : Int)] : List (Int)).getD (y107).toNat (0 : Int)) → ((line196.length + ([(fop .add .f32 (fop .mul .f32 (fop .quo .f32 (itof .f32 (IntKind.i64.wrap (y135 - (8 : Int)))) (cz .f32 1082130432)) (itof .f32 k198)) (cz .f32 1065353216))] : List (Nat)).length) * 4 ≤ 2 ^ 40) ∧ X195 (line196 ++ ([(fop .add .f32 (fop .mul .f32 (fop .quo .f32 (itof .f32 (IntKind.i64.wrap (y135 - (8 : Int)))) (cz .f32 1082130432)) (itof .f32 k198)) (cz .f32 1065353216))] : List (Nat))) (IntKind.i64.wrap (k198 + (1 : Int)))) ∧ (¬(k198 < (([(2 : Int), (3 : Int), (5 : Int), (9 : Int), (17 : Int)] : List (Int)).getD (y107).toNat (0 : Int))) → impl_SurplusOf.wp line196 fun y206 y209 => ((y117 = true → ((y122 = true → ((y130 = true → ((y209 = true → (((y114.length : Int) = (y110.length : Int) → (((y206.length : Int) = (y110.length : Int) → (((y126.length : Int) = (y110.length : Int) → ((y129 < (0 : Int) → K (false)) ∧ (¬(y129 < (0 : Int)) → (((IntKind.i64.wrap ((([(2 : Int), (3 : Int), (5 : Int), (9 : Int), (17 : Int)] : List (Int)).getD (y107).toNat (0 : Int)) - (2 : Int))) < y129 → K (false)) ∧ (¬((IntKind.i64.wrap ((([(2 : Int), (3 : Int), (5 : Int), (9 : Int), (17 : Int)] : List (Int)).getD (y107).toNat (0 : Int)) - (2 : Int))) < y129) → laws_b10Apart.wp y119 y110 (cz .f64 4562254508917369340) fun y220 => ((y220 = true → K (false)) ∧ (y220 = false → (0 ≤ (0 : Int) ∧ (0 : Int) < (y114.length : Int)) ∧ (0 ≤ (0 : Int) ∧ (0 : Int) < (y110.length : Int)) ∧ (((fcmp .neq .f32 (y114.getD ((0 : Int)).toNat (0 : Nat)) (y110.getD ((0 : Int)).toNat (0 : Nat))) = true → K (false)) ∧ ((fcmp .neq .f32 (y114.getD ((0 : Int)).toNat (0 : Nat)) (y110.getD ((0 : Int)).toNat (0 : Nat))) = false → (0 ≤ (IntKind.i64.wrap ((([(2 : Int), (3 : Int), (5 : Int), (9 : Int), (17 : Int)] : List (Int)).getD (y107).toNat (0 : Int)) - (1 : Int))) ∧ (IntKind.i64.wrap ((([(2 : Int), (3 : Int), (5 : Int), (9 : Int), (17 : Int)] : List (Int)).getD (y107).toNat (0 : Int)) - (1 : Int))) < (y114.length : Int)) ∧ (0 ≤ (IntKind.i64.wrap ((([(2 : Int), (3 : Int), (5 : Int), (9 : Int), (17 : Int)] : List (Int)).getD (y107).toNat (0 : Int)) - (1 : Int))) ∧ (IntKind.i64.wrap ((([(2 : Int), (3 : Int), (5 : Int), (9 : Int), (17 : Int)] : List (Int)).getD (y107).toNat (0 : Int)) - (1 : Int))) < (y110.length : Int)) ∧ (((fcmp .neq .f32 (y114.getD ((IntKind.i64.wrap ((([(2 : Int), (3 : Int), (5 : Int), (9 : Int), (17 : Int)] : List (Int)).getD (y107).toNat (0 : Int)) - (1 : Int)))).toNat (0 : Nat)) (y110.getD ((IntKind.i64.wrap ((([(2 : Int), (3 : Int), (5 : Int), (9 : Int), (17 : Int)] : List (Int)).getD (y107).toNat (0 : Int)) - (1 : Int)))).toNat (0 : Nat))) = true → K (false)) ∧ ((fcmp .neq .f32 (y114.getD ((IntKind.i64.wrap ((([(2 : Int), (3 : Int), (5 : Int), (9 : Int), (17 : Int)] : List (Int)).getD (y107).toNat (0 : Int)) - (1 : Int)))).toNat (0 : Nat)) (y110.getD ((IntKind.i64.wrap ((([(2 : Int), (3 : Int), (5 : Int), (9 : Int), (17 : Int)] : List (Int)).getD (y107).toNat (0 : Int)) - (1 : Int)))).toNat (0 : Nat))) = false → ∀ X229 : Int → Int → Prop, (∀ (many230 : Int) (i231 : Int), ((i231 < (IntKind.i64.wrap ((([(2 : Int), (3 : Int), (5 : Int), (9 : Int), (17 : Int)] : List (Int)).getD (y107).toNat (0 : Int)) - (1 : Int))) → (0 ≤ i231 ∧ i231 < (y206.length : Int)) ∧ laws_b10Gap.wp (widen (y206.getD (i231).toNat (0 : Nat))) (cz .f64 0) fun y234 => (((fcmp .gtr .f64 y234 (cz .f64 4562254508917369340)) = true → K (false)) ∧ ((fcmp .gtr .f64 y234 (cz .f64 4562254508917369340)) = false → (0 ≤ i231 ∧ i231 < (y114.length : Int)) ∧ laws_b10Gap.wp (widen (y114.getD (i231).toNat (0 : Nat))) (cz .f64 0) fun y238 => (((fcmp .gtr .f64 y238 (widen (fop .quo .f32 (itof .f32 y124) (cz .f32 1082130432)))) = true → X229 (IntKind.i64.wrap (many230 + (1 : Int))) (IntKind.i64.wrap (i231 + (1 : Int)))) ∧ ((fcmp .gtr .f64 y238 (widen (fop .quo .f32 (itof .f32 y124) (cz .f32 1082130432)))) = false → X229 (many230) (IntKind.i64.wrap (i231 + (1 : Int)))))))) ∧ (¬(i231 < (IntKind.i64.wrap ((([(2 : Int), (3 : Int), (5 : Int), (9 : Int), (17 : Int)] : List (Int)).getD (y107).toNat (0 : Int)) - (1 : Int)))) → ∀ X241 : Int → Prop, (∀ (x242 : Int), ((x242 < (y110.length : Int) → (0 ≤ x242 ∧ x242 < (y126.length : Int)) ∧ (0 ≤ x242 ∧ x242 < (y110.length : Int)) ∧ laws_b10Gap.wp (widen (y126.getD (x242).toNat (0 : Nat))) (widen (y110.getD (x242).toNat (0 : Nat))) fun y246 => (((fcmp .gtr .f64 y246 (fop .add .f64 (fop .mul .f64 (cz .f64 4617315517961601024) (widen (fop .quo .f32 (itof .f32 y124) (cz .f32 1082130432)))) (cz .f64 4562254508917369340))) = true → K (false)) ∧ ((fcmp .gtr .f64 y246 (fop .add .f64 (fop .mul .f64 (cz .f64 4617315517961601024) (widen (fop .quo .f32 (itof .f32 y124) (cz .f32 1082130432)))) (cz .f64 4562254508917369340))) = false → X241 (IntKind.i64.wrap (x242 + (1 : Int)))))) ∧ (¬(x242 < (y110.length : Int)) → K (decide (many230 = y129)))) → X241 x242) → X241 (0 : Int))) → X229 many230 i231) → X229 (0 : Int) (1 : Int)))))))))))) ∧ (¬((y126.length : Int) = (y110.length : Int)) → K (false)))) ∧ (¬((y206.length : Int) = (y110.length : Int)) → K (false)))) ∧ (¬((y114.length : Int) = (y110.length : Int)) → K (false)))) ∧ (y209 = false → K (false)))) ∧ (y130 = false → K (false)))) ∧ (y122 = false → K (false)))) ∧ (y117 = false → K (false))))) → X195 line196 k198) → X195 ([] : List (Nat)) (0 : Int)))
end Go.Proofs.Ytdoamcokkcoflaa.G

namespace Go.Proofs.Ytdoamcokkcoflaa.G
open Go Go.Ab
set_option maxRecDepth 100000
set_option linter.unusedVariables false
set_option linter.unusedSimpArgs false
set_option maxHeartbeats 1000000
def impl_within.wp (a0 : Int) (a1 : Int) (a2 : Int) (K : Bool → Prop) : Prop := ((a1 ≤ a0 → K (decide (a0 ≤ a2))) ∧ (¬(a1 ≤ a0) → K (false)))
end Go.Proofs.Ytdoamcokkcoflaa.G

namespace Go.Proofs.Ytdoamcokkcoflaa.G
open Go Go.Ab
set_option maxRecDepth 100000
set_option linter.unusedVariables false
set_option linter.unusedSimpArgs false
set_option maxHeartbeats 1000000
def spec_l00In.wp (a0 : Int) (a1 : Int) (a2 : Int) (K : Bool → Prop) : Prop := ((a1 ≤ a0 → K (decide (a0 ≤ a2))) ∧ (¬(a1 ≤ a0) → K (false)))
end Go.Proofs.Ytdoamcokkcoflaa.G

namespace Go.Proofs.Ytdoamcokkcoflaa.G
open Go Go.Ab
set_option maxRecDepth 100000
set_option linter.unusedVariables false
set_option linter.unusedSimpArgs false
set_option maxHeartbeats 1000000
def spec_l01Finite.wp (a0 : Nat) (K : Bool → Prop) : Prop := K (fcmp .eql .f32 (fop .sub .f32 a0 a0) (cz .f32 0))
end Go.Proofs.Ytdoamcokkcoflaa.G

namespace Go.Proofs.Ytdoamcokkcoflaa.G
open Go Go.Ab
set_option maxRecDepth 100000
set_option linter.unusedVariables false
set_option linter.unusedSimpArgs false
set_option maxHeartbeats 1000000
def impl_IsList.wp (l0 : List (Nat)) (K : Bool → Prop) : Prop := impl_within.wp (l0.length : Int) (1 : Int) (128 : Int) fun y101 => ((y101 = true → impl_areFinite.wp ([l0] : List (List (Nat))) fun y107 => K (y107)) ∧ (y101 = false → K (false)))
end Go.Proofs.Ytdoamcokkcoflaa.G

namespace Go.Proofs.Ytdoamcokkcoflaa.G
open Go Go.Ab
set_option maxRecDepth 100000
set_option linter.unusedVariables false
set_option linter.unusedSimpArgs false
set_option maxHeartbeats 1000000
def impl_isOver.wp (a0 : Nat) (K : Bool → Prop) : Prop := impl_IsFinite.wp a0 fun y101 => ((y101 = true → K (fcmp .gtr .f32 a0 (cz .f32 0))) ∧ (y101 = false → K (false)))
end Go.Proofs.Ytdoamcokkcoflaa.G

namespace Go.Proofs.Ytdoamcokkcoflaa.G
open Go Go.Ab
set_option maxRecDepth 100000
set_option linter.unusedVariables false
set_option linter.unusedSimpArgs false
set_option maxHeartbeats 1000000
def impl_areWithin.wp (l0 : List (Int)) (a1 : Int) (K : Bool → Prop) : Prop := ∀ X101 : Int → Prop, (∀ (x102 : Int), ((x102 < (l0.length : Int) → (0 ≤ x102 ∧ x102 < (l0.length : Int)) ∧ impl_within.wp (l0.getD (x102).toNat (0 : Int)) (IntKind.i64.wrap (0 - a1)) a1 fun y105 => ((y105 = true → X101 (IntKind.i64.wrap (x102 + (1 : Int)))) ∧ (y105 = false → K (false)))) ∧ (¬(x102 < (l0.length : Int)) → K (true))) → X101 x102) → X101 (0 : Int)
end Go.Proofs.Ytdoamcokkcoflaa.G

namespace Go.Proofs.Ytdoamcokkcoflaa.G
open Go Go.Ab
set_option maxRecDepth 100000
set_option linter.unusedVariables false
set_option linter.unusedSimpArgs false
set_option maxHeartbeats 1000000
def impl_AreIntegers.wp (l0 : List (Int)) (K : Bool → Prop) : Prop := impl_within.wp (l0.length : Int) (1 : Int) (128 : Int) fun y101 => ((y101 = true → impl_areWithin.wp l0 (1000000 : Int) fun y104 => K (y104)) ∧ (y101 = false → K (false)))
end Go.Proofs.Ytdoamcokkcoflaa.G

namespace Go.Proofs.Ytdoamcokkcoflaa.G
open Go Go.Ab
set_option maxRecDepth 100000
set_option linter.unusedVariables false
set_option linter.unusedSimpArgs false
set_option maxHeartbeats 1000000
def impl_isShare.wp (a0 : Nat) (K : Bool → Prop) : Prop := (((fcmp .geq .f32 a0 (cz .f32 0)) = true → K (fcmp .leq .f32 a0 (cz .f32 1065353216))) ∧ ((fcmp .geq .f32 a0 (cz .f32 0)) = false → K (false)))
end Go.Proofs.Ytdoamcokkcoflaa.G

namespace Go.Proofs.Ytdoamcokkcoflaa.G
open Go Go.Ab
set_option maxRecDepth 100000
set_option linter.unusedVariables false
set_option linter.unusedSimpArgs false
set_option maxHeartbeats 1000000
def spec_l02Least.wp (a0 : Nat) (K : Bool → Prop) : Prop := spec_l01Finite.wp a0 fun y101 => ((y101 = true → K (fcmp .geq .f32 a0 (cz .f32 0))) ∧ (y101 = false → K (false)))
end Go.Proofs.Ytdoamcokkcoflaa.G

namespace Go.Proofs.Ytdoamcokkcoflaa.G
open Go Go.Ab
set_option maxRecDepth 100000
set_option linter.unusedVariables false
set_option linter.unusedSimpArgs false
set_option maxHeartbeats 1000000
def spec_l02Share.wp (a0 : Nat) (K : Bool → Prop) : Prop := (((fcmp .geq .f32 a0 (cz .f32 0)) = true → K (fcmp .leq .f32 a0 (cz .f32 1065353216))) ∧ ((fcmp .geq .f32 a0 (cz .f32 0)) = false → K (false)))
end Go.Proofs.Ytdoamcokkcoflaa.G

namespace Go.Proofs.Ytdoamcokkcoflaa.G
open Go Go.Ab
set_option maxRecDepth 100000
set_option linter.unusedVariables false
set_option linter.unusedSimpArgs false
set_option maxHeartbeats 1000000
def spec_l02Finite.wp (l0 : List (Nat)) (K : Bool → Prop) : Prop := ∀ X101 : Int → Prop, (∀ (i102 : Int), ((i102 < (l0.length : Int) → (0 ≤ i102 ∧ i102 < (l0.length : Int)) ∧ spec_l01Finite.wp (l0.getD (i102).toNat (0 : Nat)) fun y105 => ((y105 = true → X101 (IntKind.i64.wrap (i102 + (1 : Int)))) ∧ (y105 = false → K (false)))) ∧ (¬(i102 < (l0.length : Int)) → K (true))) → X101 i102) → X101 (0 : Int)
end Go.Proofs.Ytdoamcokkcoflaa.G

namespace Go.Proofs.Ytdoamcokkcoflaa.G
open Go Go.Ab
set_option maxRecDepth 100000
set_option linter.unusedVariables false
set_option linter.unusedSimpArgs false
set_option maxHeartbeats 1000000
def laws_r8At.wp (l0 : List (Int)) (a1 : Int) (a2 : Int) (K : Int → Prop) : Prop := ((a2 ≤ (1 : Int) → K (0 : Int)) ∧ (¬(a2 ≤ (1 : Int)) → (((l0.length : Int) ≤ a1 → K (0 : Int)) ∧ (¬((l0.length : Int) ≤ a1) → (0 ≤ a1 ∧ a1 < (l0.length : Int)) ∧ (a2 ≠ 0) ∧ K (Int.tmod (IntKind.i64.wrap (l0.getD (a1).toNat (0 : Int))) a2)))))
end Go.Proofs.Ytdoamcokkcoflaa.G

namespace Go.Proofs.Ytdoamcokkcoflaa.G
open Go Go.Ab
set_option maxRecDepth 100000
set_option linter.unusedVariables false
set_option linter.unusedSimpArgs false
set_option maxHeartbeats 1000000
def spec_l03Size.wp (a0 : Nat) (K : Nat → Prop) : Prop := (((fcmp .leq .f32 a0 (cz .f32 0)) = true → K (fop .sub .f32 (cz .f32 0) a0)) ∧ ((fcmp .leq .f32 a0 (cz .f32 0)) = false → K (a0)))
end Go.Proofs.Ytdoamcokkcoflaa.G

