/-
  FromSurplus in both packages, as contracts. By an AI agent; nothing here is trusted.
-/
import Derived.Test.YtdfihkbkldcecabGrid
namespace Go.Proofs.Ytdfihkbkldcecab.W
open Go Go.Ab Go.Proofs Go.Proofs.Ytdfihkbkldcecab
set_option maxRecDepth 100000
set_option linter.unusedSimpArgs false
set_option linter.unusedVariables false
set_option maxHeartbeats 4000000

def half (x : Nat) : Nat := fop .mul .f32 1056964608 x
theorem cz_half : cz .f32 1056964608 = 1056964608 := by decide +kernel
theorem cz_two : cz .f32 1073741824 = 1073741824 := by decide +kernel
theorem getD_in0 (l : List Nat) {i : Nat} (hi : i < l.length) : l.getD i 0 = l[i] := by simp [List.getD, List.getElem?_eq_getElem hi]

def frStep (l : List Nat) (h i : Nat) : List Nat := l.set i (fop .add .f32 (l.getD i 0) (half (fop .add .f32 (l.getD (i - h) 0) (l.getD (i + h) 0))))
def frIn (n h : Nat) : Nat → Nat → List Nat → List Nat
  | 0, _, l => l
  | f + 1, i, l => if i + 1 < n then frIn n h f (i + 2 * h) (frStep l h i) else l
def frOut (n : Nat) : Nat → Nat → List Nat → List Nat
  | 0, _, l => l
  | f + 1, h, l => if 1 ≤ h then frOut n f (h / 2) (frIn n h n h l) else l
theorem frStep_len (l : List Nat) (h i : Nat) : (frStep l h i).length = l.length := by simp [frStep]
theorem frIn_len (n h : Nat) : ∀ (f i : Nat) (l : List Nat), (frIn n h f i l).length = l.length
  | 0, _, _ => rfl
  | f + 1, i, l => by
    rw [frIn]; split
    · rw [frIn_len n h f, frStep_len]
    · rfl
theorem frOut_len (n : Nat) : ∀ (f h : Nat) (l : List Nat), (frOut n f h l).length = l.length
  | 0, _, _ => rfl
  | f + 1, h, l => by
    rw [frOut]; split
    · rw [frOut_len n f, frIn_len]
    · rfl
def fromL (l : List Nat) : List Nat := frOut l.length 64 ((l.length - 1) / 2) l
theorem fromL_len (l : List Nat) : (fromL l).length = l.length := frOut_len ..
def fromF (l : List Nat) : Option (List Nat) := if isGr l = true ∧ allFin (fromL l) = true then some (fromL l) else none
/-- The steps of a grid. -/
def isStep (n h : Nat) : Prop := (h = 1 ∨ h = 2 ∨ h = 4 ∨ h = 8 ∨ h = 16 ∨ h = 32) ∧ (n - 1) % (2 * h) = 0

end Go.Proofs.Ytdfihkbkldcecab.W
