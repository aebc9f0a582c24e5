/-
  No cell of these rows narrows 'for every input' (looked for: loops, veiled, ifaces, maps, wideKeys, modest, calm, conditions, laid).
  DERIVED. THE GIVEN ROWS OF THIS SEAT. 12 by the template 'for every input the law returns true; each argument reads behind the call as it read before'; 0 by the template 'total and deterministic' (their statements: YtfieljajhmpbiaaTotals.lean).
  GIVEN WITH THE SEED: the statements are not yours to turn. If you find one false, say at which input.
  Laid BY PROGRAM, IN A SANDBOX (cutbox-rows.mjs): the forced cells as the released guide's own fill.sh prints them over the translation c7fd307980605ad4… (all of the seat's roots in one cut). By AI agents, Wed Nov 11 2026. No macro, syntax, notation, axiom, sorry.
-/
import Derived.Test.YtfieljajhmpbiaaChecked
import GoSem.Claim
import GoSem.ClaimJoined
import GoSem.ClaimMapViews
import Derived.JoinedTies
import Derived.KernelRfl
namespace Go.Proofs.Ytfieljajhmpbiaa
/- THE CELL 'sum', in the pinned program and in every row, IS THE sha256 OF THE DUMP (.gsa) THAT YtfieljajhmpbiaaProg.lean LOADS. Nothing in Lean hashes anything: it is a label: what it is worth is what the hold of that sum in a sandbox is worth. -/
noncomputable def Try.pinned : Pinned := { name := "ytfieljajhmpbiaa", sum := "c7fd307980605ad43d19c3afdc4318030c289c6e70e0a3873e0b904818c2ccd8", checked := Try.checked }
namespace Rows
def none {H : Type} : Left H := { results := [], args := [] }

/-- 'laws.FnExactValidTake': WHATEVER THE INPUT: true; the input reads as it did. -/
def fnExactValidTakeSpec : ChangeSpec := { name := "fnExactValidTake", fn := fun _ => fun
  | [d] => { results := [.lit (.bool true)], args := [d] }
  | _ => none }
def fnExactValidTakeRow : OpenClaim := { program := "ytfieljajhmpbiaa", sum := "c7fd307980605ad43d19c3afdc4318030c289c6e70e0a3873e0b904818c2ccd8", func := "loop.example/g01317/laws.FnExactValidTake", spec := "fnExactValidTake", apart := false }
def FnExactValidTakeSaid : Prop := fnExactValidTakeRow.holds Try.pinned (OpenSpec.ofChange fnExactValidTakeSpec)

/-- ITS FALSE NEIGHBOUR: 'it returns false'. Refute it at one input. -/
def fnExactValidTakeWrong : ChangeSpec := { name := "fnExactValidTake", fn := fun _ => fun
  | [d] => { results := [.lit (.bool false)], args := [d] }
  | _ => none }
def FnExactValidTakeWrongFalsely : Prop := fnExactValidTakeRow.holds Try.pinned (OpenSpec.ofChange fnExactValidTakeWrong)

/-- 'laws.FnExactPackTake': WHATEVER THE INPUT: true; the input reads as it did. -/
def fnExactPackTakeSpec : ChangeSpec := { name := "fnExactPackTake", fn := fun _ => fun
  | [d] => { results := [.lit (.bool true)], args := [d] }
  | _ => none }
def fnExactPackTakeRow : OpenClaim := { program := "ytfieljajhmpbiaa", sum := "c7fd307980605ad43d19c3afdc4318030c289c6e70e0a3873e0b904818c2ccd8", func := "loop.example/g01317/laws.FnExactPackTake", spec := "fnExactPackTake", inPlace := ["math.Float32bits"], apart := false }
def FnExactPackTakeSaid : Prop := fnExactPackTakeRow.holds Try.pinned (OpenSpec.ofChange fnExactPackTakeSpec)

/-- ITS FALSE NEIGHBOUR: 'it returns false'. Refute it at one input. -/
def fnExactPackTakeWrong : ChangeSpec := { name := "fnExactPackTake", fn := fun _ => fun
  | [d] => { results := [.lit (.bool false)], args := [d] }
  | _ => none }
def FnExactPackTakeWrongFalsely : Prop := fnExactPackTakeRow.holds Try.pinned (OpenSpec.ofChange fnExactPackTakeWrong)

/-- 'laws.FnExactSolveLine': WHATEVER THE INPUT: true; the input reads as it did. -/
def fnExactSolveLineSpec : ChangeSpec := { name := "fnExactSolveLine", fn := fun _ => fun
  | [d1, d2] => { results := [.lit (.bool true)], args := [d1, d2] }
  | _ => none }
def fnExactSolveLineRow : OpenClaim := { program := "ytfieljajhmpbiaa", sum := "c7fd307980605ad43d19c3afdc4318030c289c6e70e0a3873e0b904818c2ccd8", func := "loop.example/g01317/laws.FnExactSolveLine", spec := "fnExactSolveLine", apart := false }
def FnExactSolveLineSaid : Prop := fnExactSolveLineRow.holds Try.pinned (OpenSpec.ofChange fnExactSolveLineSpec)

/-- ITS FALSE NEIGHBOUR: 'it returns false'. Refute it at one input. -/
def fnExactSolveLineWrong : ChangeSpec := { name := "fnExactSolveLine", fn := fun _ => fun
  | [d1, d2] => { results := [.lit (.bool false)], args := [d1, d2] }
  | _ => none }
def FnExactSolveLineWrongFalsely : Prop := fnExactSolveLineRow.holds Try.pinned (OpenSpec.ofChange fnExactSolveLineWrong)

/-- 'laws.FnExactUnpackTake': WHATEVER THE INPUT: true; the input reads as it did. -/
def fnExactUnpackTakeSpec : ChangeSpec := { name := "fnExactUnpackTake", fn := fun _ => fun
  | [d] => { results := [.lit (.bool true)], args := [d] }
  | _ => none }
def fnExactUnpackTakeRow : OpenClaim := { program := "ytfieljajhmpbiaa", sum := "c7fd307980605ad43d19c3afdc4318030c289c6e70e0a3873e0b904818c2ccd8", func := "loop.example/g01317/laws.FnExactUnpackTake", spec := "fnExactUnpackTake", inPlace := ["math.Float32frombits", "math.Float32bits"], apart := false }
def FnExactUnpackTakeSaid : Prop := fnExactUnpackTakeRow.holds Try.pinned (OpenSpec.ofChange fnExactUnpackTakeSpec)

/-- ITS FALSE NEIGHBOUR: 'it returns false'. Refute it at one input. -/
def fnExactUnpackTakeWrong : ChangeSpec := { name := "fnExactUnpackTake", fn := fun _ => fun
  | [d] => { results := [.lit (.bool false)], args := [d] }
  | _ => none }
def FnExactUnpackTakeWrongFalsely : Prop := fnExactUnpackTakeRow.holds Try.pinned (OpenSpec.ofChange fnExactUnpackTakeWrong)

/-- 'laws.FnExactScaleList': WHATEVER THE INPUT: true; the input reads as it did. -/
def fnExactScaleListSpec : ChangeSpec := { name := "fnExactScaleList", fn := fun _ => fun
  | [d1, d2] => { results := [.lit (.bool true)], args := [d1, d2] }
  | _ => none }
def fnExactScaleListRow : OpenClaim := { program := "ytfieljajhmpbiaa", sum := "c7fd307980605ad43d19c3afdc4318030c289c6e70e0a3873e0b904818c2ccd8", func := "loop.example/g01317/laws.FnExactScaleList", spec := "fnExactScaleList", apart := false }
def FnExactScaleListSaid : Prop := fnExactScaleListRow.holds Try.pinned (OpenSpec.ofChange fnExactScaleListSpec)

/-- ITS FALSE NEIGHBOUR: 'it returns false'. Refute it at one input. -/
def fnExactScaleListWrong : ChangeSpec := { name := "fnExactScaleList", fn := fun _ => fun
  | [d1, d2] => { results := [.lit (.bool false)], args := [d1, d2] }
  | _ => none }
def FnExactScaleListWrongFalsely : Prop := fnExactScaleListRow.holds Try.pinned (OpenSpec.ofChange fnExactScaleListWrong)

/-- 'laws.FnExactListOfScale': WHATEVER THE INPUT: true; the input reads as it did. -/
def fnExactListOfScaleSpec : ChangeSpec := { name := "fnExactListOfScale", fn := fun _ => fun
  | [d1, d2, d3] => { results := [.lit (.bool true)], args := [d1, d2, d3] }
  | _ => none }
def fnExactListOfScaleRow : OpenClaim := { program := "ytfieljajhmpbiaa", sum := "c7fd307980605ad43d19c3afdc4318030c289c6e70e0a3873e0b904818c2ccd8", func := "loop.example/g01317/laws.FnExactListOfScale", spec := "fnExactListOfScale", apart := false }
def FnExactListOfScaleSaid : Prop := fnExactListOfScaleRow.holds Try.pinned (OpenSpec.ofChange fnExactListOfScaleSpec)

/-- ITS FALSE NEIGHBOUR: 'it returns false'. Refute it at one input. -/
def fnExactListOfScaleWrong : ChangeSpec := { name := "fnExactListOfScale", fn := fun _ => fun
  | [d1, d2, d3] => { results := [.lit (.bool false)], args := [d1, d2, d3] }
  | _ => none }
def FnExactListOfScaleWrongFalsely : Prop := fnExactListOfScaleRow.holds Try.pinned (OpenSpec.ofChange fnExactListOfScaleWrong)

/-- 'laws.FnExactEdgeCosts': WHATEVER THE INPUT: true; the input reads as it did. -/
def fnExactEdgeCostsSpec : ChangeSpec := { name := "fnExactEdgeCosts", fn := fun _ => fun
  | [d] => { results := [.lit (.bool true)], args := [d] }
  | _ => none }
def fnExactEdgeCostsRow : OpenClaim := { program := "ytfieljajhmpbiaa", sum := "c7fd307980605ad43d19c3afdc4318030c289c6e70e0a3873e0b904818c2ccd8", func := "loop.example/g01317/laws.FnExactEdgeCosts", spec := "fnExactEdgeCosts", apart := false }
def FnExactEdgeCostsSaid : Prop := fnExactEdgeCostsRow.holds Try.pinned (OpenSpec.ofChange fnExactEdgeCostsSpec)

/-- ITS FALSE NEIGHBOUR: 'it returns false'. Refute it at one input. -/
def fnExactEdgeCostsWrong : ChangeSpec := { name := "fnExactEdgeCosts", fn := fun _ => fun
  | [d] => { results := [.lit (.bool false)], args := [d] }
  | _ => none }
def FnExactEdgeCostsWrongFalsely : Prop := fnExactEdgeCostsRow.holds Try.pinned (OpenSpec.ofChange fnExactEdgeCostsWrong)

/-- 'laws.FnExactSameTakes': WHATEVER THE INPUT: true; the input reads as it did. -/
def fnExactSameTakesSpec : ChangeSpec := { name := "fnExactSameTakes", fn := fun _ => fun
  | [d1, d2] => { results := [.lit (.bool true)], args := [d1, d2] }
  | _ => none }
def fnExactSameTakesRow : OpenClaim := { program := "ytfieljajhmpbiaa", sum := "c7fd307980605ad43d19c3afdc4318030c289c6e70e0a3873e0b904818c2ccd8", func := "loop.example/g01317/laws.FnExactSameTakes", spec := "fnExactSameTakes", inPlace := ["math.Float32bits", "math.Float64bits"], unfollowed := true, recurses := true, apart := false }
def FnExactSameTakesSaid : Prop := fnExactSameTakesRow.holds Try.pinned (OpenSpec.ofChange fnExactSameTakesSpec)

/-- ITS FALSE NEIGHBOUR: 'it returns false'. Refute it at one input. -/
def fnExactSameTakesWrong : ChangeSpec := { name := "fnExactSameTakes", fn := fun _ => fun
  | [d1, d2] => { results := [.lit (.bool false)], args := [d1, d2] }
  | _ => none }
def FnExactSameTakesWrongFalsely : Prop := fnExactSameTakesRow.holds Try.pinned (OpenSpec.ofChange fnExactSameTakesWrong)

/-- 'laws.FnExactStoreTake': WHATEVER THE INPUT: true; the input reads as it did. -/
def fnExactStoreTakeSpec : ChangeSpec := { name := "fnExactStoreTake", fn := fun _ => fun
  | [d] => { results := [.lit (.bool true)], args := [d] }
  | _ => none }
def fnExactStoreTakeRow : OpenClaim := { program := "ytfieljajhmpbiaa", sum := "c7fd307980605ad43d19c3afdc4318030c289c6e70e0a3873e0b904818c2ccd8", func := "loop.example/g01317/laws.FnExactStoreTake", spec := "fnExactStoreTake", inPlace := ["math.Float32bits"], apart := false }
def FnExactStoreTakeSaid : Prop := fnExactStoreTakeRow.holds Try.pinned (OpenSpec.ofChange fnExactStoreTakeSpec)

/-- ITS FALSE NEIGHBOUR: 'it returns false'. Refute it at one input. -/
def fnExactStoreTakeWrong : ChangeSpec := { name := "fnExactStoreTake", fn := fun _ => fun
  | [d] => { results := [.lit (.bool false)], args := [d] }
  | _ => none }
def FnExactStoreTakeWrongFalsely : Prop := fnExactStoreTakeRow.holds Try.pinned (OpenSpec.ofChange fnExactStoreTakeWrong)

/-- 'laws.FnExactThinSurplus': WHATEVER THE INPUT: true; the input reads as it did. -/
def fnExactThinSurplusSpec : ChangeSpec := { name := "fnExactThinSurplus", fn := fun _ => fun
  | [d1, d2] => { results := [.lit (.bool true)], args := [d1, d2] }
  | _ => none }
def fnExactThinSurplusRow : OpenClaim := { program := "ytfieljajhmpbiaa", sum := "c7fd307980605ad43d19c3afdc4318030c289c6e70e0a3873e0b904818c2ccd8", func := "loop.example/g01317/laws.FnExactThinSurplus", spec := "fnExactThinSurplus", apart := false }
def FnExactThinSurplusSaid : Prop := fnExactThinSurplusRow.holds Try.pinned (OpenSpec.ofChange fnExactThinSurplusSpec)

/-- ITS FALSE NEIGHBOUR: 'it returns false'. Refute it at one input. -/
def fnExactThinSurplusWrong : ChangeSpec := { name := "fnExactThinSurplus", fn := fun _ => fun
  | [d1, d2] => { results := [.lit (.bool false)], args := [d1, d2] }
  | _ => none }
def FnExactThinSurplusWrongFalsely : Prop := fnExactThinSurplusRow.holds Try.pinned (OpenSpec.ofChange fnExactThinSurplusWrong)

/-- 'laws.FnExactValidDesk': WHATEVER THE INPUT: true; the input reads as it did. -/
def fnExactValidDeskSpec : ChangeSpec := { name := "fnExactValidDesk", fn := fun _ => fun
  | [d] => { results := [.lit (.bool true)], args := [d] }
  | _ => none }
def fnExactValidDeskRow : OpenClaim := { program := "ytfieljajhmpbiaa", sum := "c7fd307980605ad43d19c3afdc4318030c289c6e70e0a3873e0b904818c2ccd8", func := "loop.example/g01317/laws.FnExactValidDesk", spec := "fnExactValidDesk", apart := false }
def FnExactValidDeskSaid : Prop := fnExactValidDeskRow.holds Try.pinned (OpenSpec.ofChange fnExactValidDeskSpec)

/-- ITS FALSE NEIGHBOUR: 'it returns false'. Refute it at one input. -/
def fnExactValidDeskWrong : ChangeSpec := { name := "fnExactValidDesk", fn := fun _ => fun
  | [d] => { results := [.lit (.bool false)], args := [d] }
  | _ => none }
def FnExactValidDeskWrongFalsely : Prop := fnExactValidDeskRow.holds Try.pinned (OpenSpec.ofChange fnExactValidDeskWrong)

/-- 'laws.FnExactStoreTakes': WHATEVER THE INPUT: true; the input reads as it did. -/
def fnExactStoreTakesSpec : ChangeSpec := { name := "fnExactStoreTakes", fn := fun _ => fun
  | [d] => { results := [.lit (.bool true)], args := [d] }
  | _ => none }
def fnExactStoreTakesRow : OpenClaim := { program := "ytfieljajhmpbiaa", sum := "c7fd307980605ad43d19c3afdc4318030c289c6e70e0a3873e0b904818c2ccd8", func := "loop.example/g01317/laws.FnExactStoreTakes", spec := "fnExactStoreTakes", inPlace := ["math.Float32bits"], apart := false }
def FnExactStoreTakesSaid : Prop := fnExactStoreTakesRow.holds Try.pinned (OpenSpec.ofChange fnExactStoreTakesSpec)

/-- ITS FALSE NEIGHBOUR: 'it returns false'. Refute it at one input. -/
def fnExactStoreTakesWrong : ChangeSpec := { name := "fnExactStoreTakes", fn := fun _ => fun
  | [d] => { results := [.lit (.bool false)], args := [d] }
  | _ => none }
def FnExactStoreTakesWrongFalsely : Prop := fnExactStoreTakesRow.holds Try.pinned (OpenSpec.ofChange fnExactStoreTakesWrong)

/- THE SECOND FORM. 'bulk': how many values and letters a reading holds, each counted each time it is reached (what is shared counts as often as it is met; a slice's spare places count too). A statement '..UptoSaid' is the law's where the arguments, and the package variables that the reading takes, are together of bulk at most 1048576: NARROWER than '..Said'. Prove '..Said' where nothing that the law and all that it calls make is longer than what came in: it says more and counts as full. Else prove '..UptoSaid'. A law counts once. -/
mutual
def uptoBulk {H : Type} : DataW H → Nat
  | .lit (.string bytes) => bytes.length + 1
  | .lit _ => 1
  | .nil => 1
  | .ptr d => uptoBulk d + 1
  | .slice elems spare => uptoBulkAll elems + uptoBulkAll spare + 1
  | .agg parts => uptoBulkAll parts + 1
  | .iface _ d => uptoBulk d + 1
  | .map entries => uptoBulkEntries entries + 1
  | .held _ => 1
def uptoBulkAll {H : Type} : List (DataW H) → Nat
  | [] => 0
  | d :: r => uptoBulk d + uptoBulkAll r
def uptoBulkEntries {H : Type} : List (Lit × DataW H) → Nat
  | [] => 0
  | x :: r => uptoBulkEntry x + uptoBulkEntries r
def uptoBulkEntry {H : Type} : Lit × DataW H → Nat
  | (.string bytes, d) => bytes.length + uptoBulk d + 1
  | (_, d) => uptoBulk d + 1
 end
def uptoSmall : (H : Type) → List (DataW H) → Bool := fun _ ds => decide (uptoBulkAll ds ≤ 1048576)
def OpenSpec.upto (s : _root_.Go.ChangeSpec) : _root_.Go.OpenSpec := { _root_.Go.OpenSpec.ofChange s with cond := some uptoSmall }

/-- 'laws.FnExactValidTake', WHERE WHAT IT READS IS OF BULK AT MOST 1048576: true; the input reads as it did. -/
def fnExactValidTakeUptoRow : OpenClaim := { program := "ytfieljajhmpbiaa", sum := "c7fd307980605ad43d19c3afdc4318030c289c6e70e0a3873e0b904818c2ccd8", func := "loop.example/g01317/laws.FnExactValidTake", spec := "fnExactValidTake", apart := false, narrowed := true }
def FnExactValidTakeUptoSaid : Prop := fnExactValidTakeUptoRow.holds Try.pinned (OpenSpec.upto fnExactValidTakeSpec)

/-- 'laws.FnExactPackTake', WHERE WHAT IT READS IS OF BULK AT MOST 1048576: true; the input reads as it did. -/
def fnExactPackTakeUptoRow : OpenClaim := { program := "ytfieljajhmpbiaa", sum := "c7fd307980605ad43d19c3afdc4318030c289c6e70e0a3873e0b904818c2ccd8", func := "loop.example/g01317/laws.FnExactPackTake", spec := "fnExactPackTake", inPlace := ["math.Float32bits"], apart := false, narrowed := true }
def FnExactPackTakeUptoSaid : Prop := fnExactPackTakeUptoRow.holds Try.pinned (OpenSpec.upto fnExactPackTakeSpec)

/-- 'laws.FnExactSolveLine', WHERE WHAT IT READS IS OF BULK AT MOST 1048576: true; the input reads as it did. -/
def fnExactSolveLineUptoRow : OpenClaim := { program := "ytfieljajhmpbiaa", sum := "c7fd307980605ad43d19c3afdc4318030c289c6e70e0a3873e0b904818c2ccd8", func := "loop.example/g01317/laws.FnExactSolveLine", spec := "fnExactSolveLine", apart := false, narrowed := true }
def FnExactSolveLineUptoSaid : Prop := fnExactSolveLineUptoRow.holds Try.pinned (OpenSpec.upto fnExactSolveLineSpec)

/-- 'laws.FnExactUnpackTake', WHERE WHAT IT READS IS OF BULK AT MOST 1048576: true; the input reads as it did. -/
def fnExactUnpackTakeUptoRow : OpenClaim := { program := "ytfieljajhmpbiaa", sum := "c7fd307980605ad43d19c3afdc4318030c289c6e70e0a3873e0b904818c2ccd8", func := "loop.example/g01317/laws.FnExactUnpackTake", spec := "fnExactUnpackTake", inPlace := ["math.Float32frombits", "math.Float32bits"], apart := false, narrowed := true }
def FnExactUnpackTakeUptoSaid : Prop := fnExactUnpackTakeUptoRow.holds Try.pinned (OpenSpec.upto fnExactUnpackTakeSpec)

/-- 'laws.FnExactScaleList', WHERE WHAT IT READS IS OF BULK AT MOST 1048576: true; the input reads as it did. -/
def fnExactScaleListUptoRow : OpenClaim := { program := "ytfieljajhmpbiaa", sum := "c7fd307980605ad43d19c3afdc4318030c289c6e70e0a3873e0b904818c2ccd8", func := "loop.example/g01317/laws.FnExactScaleList", spec := "fnExactScaleList", apart := false, narrowed := true }
def FnExactScaleListUptoSaid : Prop := fnExactScaleListUptoRow.holds Try.pinned (OpenSpec.upto fnExactScaleListSpec)

/-- 'laws.FnExactListOfScale', WHERE WHAT IT READS IS OF BULK AT MOST 1048576: true; the input reads as it did. -/
def fnExactListOfScaleUptoRow : OpenClaim := { program := "ytfieljajhmpbiaa", sum := "c7fd307980605ad43d19c3afdc4318030c289c6e70e0a3873e0b904818c2ccd8", func := "loop.example/g01317/laws.FnExactListOfScale", spec := "fnExactListOfScale", apart := false, narrowed := true }
def FnExactListOfScaleUptoSaid : Prop := fnExactListOfScaleUptoRow.holds Try.pinned (OpenSpec.upto fnExactListOfScaleSpec)

/-- 'laws.FnExactEdgeCosts', WHERE WHAT IT READS IS OF BULK AT MOST 1048576: true; the input reads as it did. -/
def fnExactEdgeCostsUptoRow : OpenClaim := { program := "ytfieljajhmpbiaa", sum := "c7fd307980605ad43d19c3afdc4318030c289c6e70e0a3873e0b904818c2ccd8", func := "loop.example/g01317/laws.FnExactEdgeCosts", spec := "fnExactEdgeCosts", apart := false, narrowed := true }
def FnExactEdgeCostsUptoSaid : Prop := fnExactEdgeCostsUptoRow.holds Try.pinned (OpenSpec.upto fnExactEdgeCostsSpec)

/-- 'laws.FnExactSameTakes', WHERE WHAT IT READS IS OF BULK AT MOST 1048576: true; the input reads as it did. -/
def fnExactSameTakesUptoRow : OpenClaim := { program := "ytfieljajhmpbiaa", sum := "c7fd307980605ad43d19c3afdc4318030c289c6e70e0a3873e0b904818c2ccd8", func := "loop.example/g01317/laws.FnExactSameTakes", spec := "fnExactSameTakes", inPlace := ["math.Float32bits", "math.Float64bits"], unfollowed := true, recurses := true, apart := false, narrowed := true }
def FnExactSameTakesUptoSaid : Prop := fnExactSameTakesUptoRow.holds Try.pinned (OpenSpec.upto fnExactSameTakesSpec)

/-- 'laws.FnExactStoreTake', WHERE WHAT IT READS IS OF BULK AT MOST 1048576: true; the input reads as it did. -/
def fnExactStoreTakeUptoRow : OpenClaim := { program := "ytfieljajhmpbiaa", sum := "c7fd307980605ad43d19c3afdc4318030c289c6e70e0a3873e0b904818c2ccd8", func := "loop.example/g01317/laws.FnExactStoreTake", spec := "fnExactStoreTake", inPlace := ["math.Float32bits"], apart := false, narrowed := true }
def FnExactStoreTakeUptoSaid : Prop := fnExactStoreTakeUptoRow.holds Try.pinned (OpenSpec.upto fnExactStoreTakeSpec)

/-- 'laws.FnExactThinSurplus', WHERE WHAT IT READS IS OF BULK AT MOST 1048576: true; the input reads as it did. -/
def fnExactThinSurplusUptoRow : OpenClaim := { program := "ytfieljajhmpbiaa", sum := "c7fd307980605ad43d19c3afdc4318030c289c6e70e0a3873e0b904818c2ccd8", func := "loop.example/g01317/laws.FnExactThinSurplus", spec := "fnExactThinSurplus", apart := false, narrowed := true }
def FnExactThinSurplusUptoSaid : Prop := fnExactThinSurplusUptoRow.holds Try.pinned (OpenSpec.upto fnExactThinSurplusSpec)

/-- 'laws.FnExactValidDesk', WHERE WHAT IT READS IS OF BULK AT MOST 1048576: true; the input reads as it did. -/
def fnExactValidDeskUptoRow : OpenClaim := { program := "ytfieljajhmpbiaa", sum := "c7fd307980605ad43d19c3afdc4318030c289c6e70e0a3873e0b904818c2ccd8", func := "loop.example/g01317/laws.FnExactValidDesk", spec := "fnExactValidDesk", apart := false, narrowed := true }
def FnExactValidDeskUptoSaid : Prop := fnExactValidDeskUptoRow.holds Try.pinned (OpenSpec.upto fnExactValidDeskSpec)

/-- 'laws.FnExactStoreTakes', WHERE WHAT IT READS IS OF BULK AT MOST 1048576: true; the input reads as it did. -/
def fnExactStoreTakesUptoRow : OpenClaim := { program := "ytfieljajhmpbiaa", sum := "c7fd307980605ad43d19c3afdc4318030c289c6e70e0a3873e0b904818c2ccd8", func := "loop.example/g01317/laws.FnExactStoreTakes", spec := "fnExactStoreTakes", inPlace := ["math.Float32bits"], apart := false, narrowed := true }
def FnExactStoreTakesUptoSaid : Prop := fnExactStoreTakesUptoRow.holds Try.pinned (OpenSpec.upto fnExactStoreTakesSpec)

end Rows
end Go.Proofs.Ytfieljajhmpbiaa
