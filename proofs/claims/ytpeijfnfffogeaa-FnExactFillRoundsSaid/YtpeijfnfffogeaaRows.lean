/-
  No cell of these rows narrows 'for every input' (looked for: loops, veiled, ifaces, maps, wideKeys, modest, calm, conditions, laid).
  DERIVED. THE GIVEN ROWS OF THIS SEAT. 9 by the template 'for every input the law returns true; each argument reads behind the call as it read before'; 0 by the template 'total and deterministic' (their statements: YtpeijfnfffogeaaTotals.lean).
  GIVEN WITH THE SEED: the statements are not yours to turn. If you find one false, say at which input.
  Laid BY PROGRAM, IN A SANDBOX (cutbox-rows.mjs): the forced cells as the released guide's own fill.sh prints them over the translation 2af4a179eed3785e… (all of the seat's roots in one cut). By AI agents, Wed Nov 11 2026. No macro, syntax, notation, axiom, sorry.
-/
import Derived.Test.YtpeijfnfffogeaaChecked
import GoSem.Claim
import GoSem.ClaimJoined
import GoSem.ClaimMapViews
import Derived.JoinedTies
import Derived.KernelRfl
namespace Go.Proofs.Ytpeijfnfffogeaa
/- THE CELL 'sum', in the pinned program and in every row, IS THE sha256 OF THE DUMP (.gsa) THAT YtpeijfnfffogeaaProg.lean LOADS. Nothing in Lean hashes anything: it is a label: what it is worth is what the hold of that sum in a sandbox is worth. -/
noncomputable def Try.pinned : Pinned := { name := "ytpeijfnfffogeaa", sum := "2af4a179eed3785e814bde07b59ba232b53bea36b48443373e21e69c4324e812", checked := Try.checked }
namespace Rows
def none {H : Type} : Left H := { results := [], args := [] }

/-- 'laws.FnExactBestCuts': WHATEVER THE INPUT: true; the input reads as it did. -/
def fnExactBestCutsSpec : ChangeSpec := { name := "fnExactBestCuts", fn := fun _ => fun
  | [d1, d2] => { results := [.lit (.bool true)], args := [d1, d2] }
  | _ => none }
def fnExactBestCutsRow : OpenClaim := { program := "ytpeijfnfffogeaa", sum := "2af4a179eed3785e814bde07b59ba232b53bea36b48443373e21e69c4324e812", func := "loop.example/g01317/laws.FnExactBestCuts", spec := "fnExactBestCuts", apart := false }
def FnExactBestCutsSaid : Prop := fnExactBestCutsRow.holds Try.pinned (OpenSpec.ofChange fnExactBestCutsSpec)

/-- ITS FALSE NEIGHBOUR: 'it returns false'. Refute it at one input. -/
def fnExactBestCutsWrong : ChangeSpec := { name := "fnExactBestCuts", fn := fun _ => fun
  | [d1, d2] => { results := [.lit (.bool false)], args := [d1, d2] }
  | _ => none }
def FnExactBestCutsWrongFalsely : Prop := fnExactBestCutsRow.holds Try.pinned (OpenSpec.ofChange fnExactBestCutsWrong)

/-- 'laws.FnExactSameDesk': WHATEVER THE INPUT: true; the input reads as it did. -/
def fnExactSameDeskSpec : ChangeSpec := { name := "fnExactSameDesk", fn := fun _ => fun
  | [d1, d2] => { results := [.lit (.bool true)], args := [d1, d2] }
  | _ => none }
def fnExactSameDeskRow : OpenClaim := { program := "ytpeijfnfffogeaa", sum := "2af4a179eed3785e814bde07b59ba232b53bea36b48443373e21e69c4324e812", func := "loop.example/g01317/laws.FnExactSameDesk", spec := "fnExactSameDesk", inPlace := ["math.Float32bits", "math.Float64bits"], apart := false }
def FnExactSameDeskSaid : Prop := fnExactSameDeskRow.holds Try.pinned (OpenSpec.ofChange fnExactSameDeskSpec)

/-- ITS FALSE NEIGHBOUR: 'it returns false'. Refute it at one input. -/
def fnExactSameDeskWrong : ChangeSpec := { name := "fnExactSameDesk", fn := fun _ => fun
  | [d1, d2] => { results := [.lit (.bool false)], args := [d1, d2] }
  | _ => none }
def FnExactSameDeskWrongFalsely : Prop := fnExactSameDeskRow.holds Try.pinned (OpenSpec.ofChange fnExactSameDeskWrong)

/-- 'laws.FnExactLoadTake': WHATEVER THE INPUT: true; the input reads as it did. -/
def fnExactLoadTakeSpec : ChangeSpec := { name := "fnExactLoadTake", fn := fun _ => fun
  | [d] => { results := [.lit (.bool true)], args := [d] }
  | _ => none }
def fnExactLoadTakeRow : OpenClaim := { program := "ytpeijfnfffogeaa", sum := "2af4a179eed3785e814bde07b59ba232b53bea36b48443373e21e69c4324e812", func := "loop.example/g01317/laws.FnExactLoadTake", spec := "fnExactLoadTake", inPlace := ["math.Float32frombits", "math.Float32bits"], apart := false }
def FnExactLoadTakeSaid : Prop := fnExactLoadTakeRow.holds Try.pinned (OpenSpec.ofChange fnExactLoadTakeSpec)

/-- ITS FALSE NEIGHBOUR: 'it returns false'. Refute it at one input. -/
def fnExactLoadTakeWrong : ChangeSpec := { name := "fnExactLoadTake", fn := fun _ => fun
  | [d] => { results := [.lit (.bool false)], args := [d] }
  | _ => none }
def FnExactLoadTakeWrongFalsely : Prop := fnExactLoadTakeRow.holds Try.pinned (OpenSpec.ofChange fnExactLoadTakeWrong)

/-- 'laws.FnExactNewDesk': WHATEVER THE INPUT: true; the input reads as it did. -/
def fnExactNewDeskSpec : ChangeSpec := { name := "fnExactNewDesk", fn := fun _ => fun
  | [] => { results := [.lit (.bool true)], args := [] }
  | _ => none }
def fnExactNewDeskRow : OpenClaim := { program := "ytpeijfnfffogeaa", sum := "2af4a179eed3785e814bde07b59ba232b53bea36b48443373e21e69c4324e812", func := "loop.example/g01317/laws.FnExactNewDesk", spec := "fnExactNewDesk", unfollowed := true, recurses := true, apart := false }
def FnExactNewDeskSaid : Prop := fnExactNewDeskRow.holds Try.pinned (OpenSpec.ofChange fnExactNewDeskSpec)

/-- ITS FALSE NEIGHBOUR: 'it returns false'. Refute it at one input. -/
def fnExactNewDeskWrong : ChangeSpec := { name := "fnExactNewDesk", fn := fun _ => fun
  | [] => { results := [.lit (.bool false)], args := [] }
  | _ => none }
def FnExactNewDeskWrongFalsely : Prop := fnExactNewDeskRow.holds Try.pinned (OpenSpec.ofChange fnExactNewDeskWrong)

/-- 'laws.FnExactRecoverTakes': WHATEVER THE INPUT: true; the input reads as it did. -/
def fnExactRecoverTakesSpec : ChangeSpec := { name := "fnExactRecoverTakes", fn := fun _ => fun
  | [d] => { results := [.lit (.bool true)], args := [d] }
  | _ => none }
def fnExactRecoverTakesRow : OpenClaim := { program := "ytpeijfnfffogeaa", sum := "2af4a179eed3785e814bde07b59ba232b53bea36b48443373e21e69c4324e812", func := "loop.example/g01317/laws.FnExactRecoverTakes", spec := "fnExactRecoverTakes", inPlace := ["math.Float32frombits", "math.Float32bits"], apart := false }
def FnExactRecoverTakesSaid : Prop := fnExactRecoverTakesRow.holds Try.pinned (OpenSpec.ofChange fnExactRecoverTakesSpec)

/-- ITS FALSE NEIGHBOUR: 'it returns false'. Refute it at one input. -/
def fnExactRecoverTakesWrong : ChangeSpec := { name := "fnExactRecoverTakes", fn := fun _ => fun
  | [d] => { results := [.lit (.bool false)], args := [d] }
  | _ => none }
def FnExactRecoverTakesWrongFalsely : Prop := fnExactRecoverTakesRow.holds Try.pinned (OpenSpec.ofChange fnExactRecoverTakesWrong)

/-- 'laws.FnExactFillRounds': WHATEVER THE INPUT: true; the input reads as it did. -/
def fnExactFillRoundsSpec : ChangeSpec := { name := "fnExactFillRounds", fn := fun _ => fun
  | [d1, d2, d3, d4, d5, d6, d7] => { results := [.lit (.bool true)], args := [d1, d2, d3, d4, d5, d6, d7] }
  | _ => none }
def fnExactFillRoundsRow : OpenClaim := { program := "ytpeijfnfffogeaa", sum := "2af4a179eed3785e814bde07b59ba232b53bea36b48443373e21e69c4324e812", func := "loop.example/g01317/laws.FnExactFillRounds", spec := "fnExactFillRounds", apart := false }
def FnExactFillRoundsSaid : Prop := fnExactFillRoundsRow.holds Try.pinned (OpenSpec.ofChange fnExactFillRoundsSpec)

/-- ITS FALSE NEIGHBOUR: 'it returns false'. Refute it at one input. -/
def fnExactFillRoundsWrong : ChangeSpec := { name := "fnExactFillRounds", fn := fun _ => fun
  | [d1, d2, d3, d4, d5, d6, d7] => { results := [.lit (.bool false)], args := [d1, d2, d3, d4, d5, d6, d7] }
  | _ => none }
def FnExactFillRoundsWrongFalsely : Prop := fnExactFillRoundsRow.holds Try.pinned (OpenSpec.ofChange fnExactFillRoundsWrong)

/-- 'laws.FnExactRateTable': WHATEVER THE INPUT: true; the input reads as it did. -/
def fnExactRateTableSpec : ChangeSpec := { name := "fnExactRateTable", fn := fun _ => fun
  | [d1, d2, d3, d4] => { results := [.lit (.bool true)], args := [d1, d2, d3, d4] }
  | _ => none }
def fnExactRateTableRow : OpenClaim := { program := "ytpeijfnfffogeaa", sum := "2af4a179eed3785e814bde07b59ba232b53bea36b48443373e21e69c4324e812", func := "loop.example/g01317/laws.FnExactRateTable", spec := "fnExactRateTable", inPlace := ["math.sqrt"], unfollowed := true, recurses := true, apart := false }
def FnExactRateTableSaid : Prop := fnExactRateTableRow.holds Try.pinned (OpenSpec.ofChange fnExactRateTableSpec)

/-- ITS FALSE NEIGHBOUR: 'it returns false'. Refute it at one input. -/
def fnExactRateTableWrong : ChangeSpec := { name := "fnExactRateTable", fn := fun _ => fun
  | [d1, d2, d3, d4] => { results := [.lit (.bool false)], args := [d1, d2, d3, d4] }
  | _ => none }
def FnExactRateTableWrongFalsely : Prop := fnExactRateTableRow.holds Try.pinned (OpenSpec.ofChange fnExactRateTableWrong)

/-- 'laws.FnExactEntropyOf': WHATEVER THE INPUT: true; the input reads as it did. -/
def fnExactEntropyOfSpec : ChangeSpec := { name := "fnExactEntropyOf", fn := fun _ => fun
  | [d] => { results := [.lit (.bool true)], args := [d] }
  | _ => none }
def fnExactEntropyOfRow : OpenClaim := { program := "ytpeijfnfffogeaa", sum := "2af4a179eed3785e814bde07b59ba232b53bea36b48443373e21e69c4324e812", func := "loop.example/g01317/laws.FnExactEntropyOf", spec := "fnExactEntropyOf", inPlace := ["math.Float64frombits", "math.Float64bits"], apart := false }
def FnExactEntropyOfSaid : Prop := fnExactEntropyOfRow.holds Try.pinned (OpenSpec.ofChange fnExactEntropyOfSpec)

/-- ITS FALSE NEIGHBOUR: 'it returns false'. Refute it at one input. -/
def fnExactEntropyOfWrong : ChangeSpec := { name := "fnExactEntropyOf", fn := fun _ => fun
  | [d] => { results := [.lit (.bool false)], args := [d] }
  | _ => none }
def FnExactEntropyOfWrongFalsely : Prop := fnExactEntropyOfRow.holds Try.pinned (OpenSpec.ofChange fnExactEntropyOfWrong)

/-- 'laws.FnTakes': WHATEVER THE INPUT: true; the input reads as it did. -/
def fnTakesSpec : ChangeSpec := { name := "fnTakes", fn := fun _ => fun
  | [d1, d2] => { results := [.lit (.bool true)], args := [d1, d2] }
  | _ => none }
def fnTakesRow : OpenClaim := { program := "ytpeijfnfffogeaa", sum := "2af4a179eed3785e814bde07b59ba232b53bea36b48443373e21e69c4324e812", func := "loop.example/g01317/laws.FnTakes", spec := "fnTakes", inPlace := ["math.Float32frombits", "math.Float32bits", "math.Float64bits"], unfollowed := true, recurses := true, apart := false }
def FnTakesSaid : Prop := fnTakesRow.holds Try.pinned (OpenSpec.ofChange fnTakesSpec)

/-- ITS FALSE NEIGHBOUR: 'it returns false'. Refute it at one input. -/
def fnTakesWrong : ChangeSpec := { name := "fnTakes", fn := fun _ => fun
  | [d1, d2] => { results := [.lit (.bool false)], args := [d1, d2] }
  | _ => none }
def FnTakesWrongFalsely : Prop := fnTakesRow.holds Try.pinned (OpenSpec.ofChange fnTakesWrong)

/- THE SECOND FORM. 'bulk': how many values and letters a reading holds, each counted each time it is reached (what is shared counts as often as it is met; a slice's spare places count too). A statement '..UptoSaid' is the law's where the arguments, and the package variables that the reading takes, are together of bulk at most 1048576: NARROWER than '..Said'. Prove '..Said' where nothing that the law and all that it calls make is longer than what came in: it says more and counts as full. Else prove '..UptoSaid'. A law counts once. -/
mutual
def uptoBulk {H : Type} : DataW H → Nat
  | .lit (.string bytes) => bytes.length + 1
  | .lit _ => 1
  | .nil => 1
  | .ptr d => uptoBulk d + 1
  | .slice elems spare => uptoBulkAll elems + uptoBulkAll spare + 1
  | .agg parts => uptoBulkAll parts + 1
  | .iface _ d => uptoBulk d + 1
  | .map entries => uptoBulkEntries entries + 1
  | .held _ => 1
def uptoBulkAll {H : Type} : List (DataW H) → Nat
  | [] => 0
  | d :: r => uptoBulk d + uptoBulkAll r
def uptoBulkEntries {H : Type} : List (Lit × DataW H) → Nat
  | [] => 0
  | x :: r => uptoBulkEntry x + uptoBulkEntries r
def uptoBulkEntry {H : Type} : Lit × DataW H → Nat
  | (.string bytes, d) => bytes.length + uptoBulk d + 1
  | (_, d) => uptoBulk d + 1
 end
def uptoSmall : (H : Type) → List (DataW H) → Bool := fun _ ds => decide (uptoBulkAll ds ≤ 1048576)
def OpenSpec.upto (s : _root_.Go.ChangeSpec) : _root_.Go.OpenSpec := { _root_.Go.OpenSpec.ofChange s with cond := some uptoSmall }

/-- 'laws.FnExactBestCuts', WHERE WHAT IT READS IS OF BULK AT MOST 1048576: true; the input reads as it did. -/
def fnExactBestCutsUptoRow : OpenClaim := { program := "ytpeijfnfffogeaa", sum := "2af4a179eed3785e814bde07b59ba232b53bea36b48443373e21e69c4324e812", func := "loop.example/g01317/laws.FnExactBestCuts", spec := "fnExactBestCuts", apart := false, narrowed := true }
def FnExactBestCutsUptoSaid : Prop := fnExactBestCutsUptoRow.holds Try.pinned (OpenSpec.upto fnExactBestCutsSpec)

/-- 'laws.FnExactSameDesk', WHERE WHAT IT READS IS OF BULK AT MOST 1048576: true; the input reads as it did. -/
def fnExactSameDeskUptoRow : OpenClaim := { program := "ytpeijfnfffogeaa", sum := "2af4a179eed3785e814bde07b59ba232b53bea36b48443373e21e69c4324e812", func := "loop.example/g01317/laws.FnExactSameDesk", spec := "fnExactSameDesk", inPlace := ["math.Float32bits", "math.Float64bits"], apart := false, narrowed := true }
def FnExactSameDeskUptoSaid : Prop := fnExactSameDeskUptoRow.holds Try.pinned (OpenSpec.upto fnExactSameDeskSpec)

/-- 'laws.FnExactLoadTake', WHERE WHAT IT READS IS OF BULK AT MOST 1048576: true; the input reads as it did. -/
def fnExactLoadTakeUptoRow : OpenClaim := { program := "ytpeijfnfffogeaa", sum := "2af4a179eed3785e814bde07b59ba232b53bea36b48443373e21e69c4324e812", func := "loop.example/g01317/laws.FnExactLoadTake", spec := "fnExactLoadTake", inPlace := ["math.Float32frombits", "math.Float32bits"], apart := false, narrowed := true }
def FnExactLoadTakeUptoSaid : Prop := fnExactLoadTakeUptoRow.holds Try.pinned (OpenSpec.upto fnExactLoadTakeSpec)

/-- 'laws.FnExactNewDesk', WHERE WHAT IT READS IS OF BULK AT MOST 1048576: true; the input reads as it did. -/
def fnExactNewDeskUptoRow : OpenClaim := { program := "ytpeijfnfffogeaa", sum := "2af4a179eed3785e814bde07b59ba232b53bea36b48443373e21e69c4324e812", func := "loop.example/g01317/laws.FnExactNewDesk", spec := "fnExactNewDesk", unfollowed := true, recurses := true, apart := false, narrowed := true }
def FnExactNewDeskUptoSaid : Prop := fnExactNewDeskUptoRow.holds Try.pinned (OpenSpec.upto fnExactNewDeskSpec)

/-- 'laws.FnExactRecoverTakes', WHERE WHAT IT READS IS OF BULK AT MOST 1048576: true; the input reads as it did. -/
def fnExactRecoverTakesUptoRow : OpenClaim := { program := "ytpeijfnfffogeaa", sum := "2af4a179eed3785e814bde07b59ba232b53bea36b48443373e21e69c4324e812", func := "loop.example/g01317/laws.FnExactRecoverTakes", spec := "fnExactRecoverTakes", inPlace := ["math.Float32frombits", "math.Float32bits"], apart := false, narrowed := true }
def FnExactRecoverTakesUptoSaid : Prop := fnExactRecoverTakesUptoRow.holds Try.pinned (OpenSpec.upto fnExactRecoverTakesSpec)

/-- 'laws.FnExactFillRounds', WHERE WHAT IT READS IS OF BULK AT MOST 1048576: true; the input reads as it did. -/
def fnExactFillRoundsUptoRow : OpenClaim := { program := "ytpeijfnfffogeaa", sum := "2af4a179eed3785e814bde07b59ba232b53bea36b48443373e21e69c4324e812", func := "loop.example/g01317/laws.FnExactFillRounds", spec := "fnExactFillRounds", apart := false, narrowed := true }
def FnExactFillRoundsUptoSaid : Prop := fnExactFillRoundsUptoRow.holds Try.pinned (OpenSpec.upto fnExactFillRoundsSpec)

/-- 'laws.FnExactRateTable', WHERE WHAT IT READS IS OF BULK AT MOST 1048576: true; the input reads as it did. -/
def fnExactRateTableUptoRow : OpenClaim := { program := "ytpeijfnfffogeaa", sum := "2af4a179eed3785e814bde07b59ba232b53bea36b48443373e21e69c4324e812", func := "loop.example/g01317/laws.FnExactRateTable", spec := "fnExactRateTable", inPlace := ["math.sqrt"], unfollowed := true, recurses := true, apart := false, narrowed := true }
def FnExactRateTableUptoSaid : Prop := fnExactRateTableUptoRow.holds Try.pinned (OpenSpec.upto fnExactRateTableSpec)

/-- 'laws.FnExactEntropyOf', WHERE WHAT IT READS IS OF BULK AT MOST 1048576: true; the input reads as it did. -/
def fnExactEntropyOfUptoRow : OpenClaim := { program := "ytpeijfnfffogeaa", sum := "2af4a179eed3785e814bde07b59ba232b53bea36b48443373e21e69c4324e812", func := "loop.example/g01317/laws.FnExactEntropyOf", spec := "fnExactEntropyOf", inPlace := ["math.Float64frombits", "math.Float64bits"], apart := false, narrowed := true }
def FnExactEntropyOfUptoSaid : Prop := fnExactEntropyOfUptoRow.holds Try.pinned (OpenSpec.upto fnExactEntropyOfSpec)

/-- 'laws.FnTakes', WHERE WHAT IT READS IS OF BULK AT MOST 1048576: true; the input reads as it did. -/
def fnTakesUptoRow : OpenClaim := { program := "ytpeijfnfffogeaa", sum := "2af4a179eed3785e814bde07b59ba232b53bea36b48443373e21e69c4324e812", func := "loop.example/g01317/laws.FnTakes", spec := "fnTakes", inPlace := ["math.Float32frombits", "math.Float32bits", "math.Float64bits"], unfollowed := true, recurses := true, apart := false, narrowed := true }
def FnTakesUptoSaid : Prop := fnTakesUptoRow.holds Try.pinned (OpenSpec.upto fnTakesSpec)

end Rows
end Go.Proofs.Ytpeijfnfffogeaa
