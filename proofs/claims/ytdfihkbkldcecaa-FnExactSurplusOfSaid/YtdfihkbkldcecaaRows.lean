/-
  No cell of these rows narrows 'for every input' (looked for: loops, veiled, ifaces, maps, wideKeys, modest, calm, conditions, laid).
  DERIVED. THE GIVEN ROWS OF THIS SEAT. 6 by the template 'for every input the law returns true; each argument reads behind the call as it read before'; 0 by the template 'total and deterministic' (their statements: YtdfihkbkldcecaaTotals.lean).
  GIVEN WITH THE SEED: the statements are not yours to turn. If you find one false, say at which input.
  Laid BY PROGRAM, IN A SANDBOX (cutbox-rows.mjs): the forced cells as the released guide's own fill.sh prints them over the translation 2b9f169aed8e496d… (all of the seat's roots in one cut). By AI agents, Wed Nov 11 2026. No macro, syntax, notation, axiom, sorry.
-/
import Derived.Test.YtdfihkbkldcecaaChecked
import GoSem.Claim
import GoSem.ClaimJoined
import GoSem.ClaimMapViews
import Derived.JoinedTies
import Derived.KernelRfl
namespace Go.Proofs.Ytdfihkbkldcecaa
/- THE CELL 'sum', in the pinned program and in every row, IS THE sha256 OF THE DUMP (.gsa) THAT YtdfihkbkldcecaaProg.lean LOADS. Nothing in Lean hashes anything: it is a label: what it is worth is what the hold of that sum in a sandbox is worth. -/
noncomputable def Try.pinned : Pinned := { name := "ytdfihkbkldcecaa", sum := "2b9f169aed8e496de893add7839b8d10ea8f46bcb4105fdd35826a93ee3e2f0b", checked := Try.checked }
namespace Rows
def none {H : Type} : Left H := { results := [], args := [] }

/-- 'laws.FnExactAreCosts': WHATEVER THE INPUT: true; the input reads as it did. -/
def fnExactAreCostsSpec : ChangeSpec := { name := "fnExactAreCosts", fn := fun _ => fun
  | [d] => { results := [.lit (.bool true)], args := [d] }
  | _ => none }
def fnExactAreCostsRow : OpenClaim := { program := "ytdfihkbkldcecaa", sum := "2b9f169aed8e496de893add7839b8d10ea8f46bcb4105fdd35826a93ee3e2f0b", func := "loop.example/g01317/laws.FnExactAreCosts", spec := "fnExactAreCosts", apart := false }
def FnExactAreCostsSaid : Prop := fnExactAreCostsRow.holds Try.pinned (OpenSpec.ofChange fnExactAreCostsSpec)

/-- ITS FALSE NEIGHBOUR: 'it returns false'. Refute it at one input. -/
def fnExactAreCostsWrong : ChangeSpec := { name := "fnExactAreCosts", fn := fun _ => fun
  | [d] => { results := [.lit (.bool false)], args := [d] }
  | _ => none }
def FnExactAreCostsWrongFalsely : Prop := fnExactAreCostsRow.holds Try.pinned (OpenSpec.ofChange fnExactAreCostsWrong)

/-- 'laws.FnExactValidTake': WHATEVER THE INPUT: true; the input reads as it did. -/
def fnExactValidTakeSpec : ChangeSpec := { name := "fnExactValidTake", fn := fun _ => fun
  | [d] => { results := [.lit (.bool true)], args := [d] }
  | _ => none }
def fnExactValidTakeRow : OpenClaim := { program := "ytdfihkbkldcecaa", sum := "2b9f169aed8e496de893add7839b8d10ea8f46bcb4105fdd35826a93ee3e2f0b", func := "loop.example/g01317/laws.FnExactValidTake", spec := "fnExactValidTake", apart := false }
def FnExactValidTakeSaid : Prop := fnExactValidTakeRow.holds Try.pinned (OpenSpec.ofChange fnExactValidTakeSpec)

/-- ITS FALSE NEIGHBOUR: 'it returns false'. Refute it at one input. -/
def fnExactValidTakeWrong : ChangeSpec := { name := "fnExactValidTake", fn := fun _ => fun
  | [d] => { results := [.lit (.bool false)], args := [d] }
  | _ => none }
def FnExactValidTakeWrongFalsely : Prop := fnExactValidTakeRow.holds Try.pinned (OpenSpec.ofChange fnExactValidTakeWrong)

/-- 'laws.FnExactPackTake': WHATEVER THE INPUT: true; the input reads as it did. -/
def fnExactPackTakeSpec : ChangeSpec := { name := "fnExactPackTake", fn := fun _ => fun
  | [d] => { results := [.lit (.bool true)], args := [d] }
  | _ => none }
def fnExactPackTakeRow : OpenClaim := { program := "ytdfihkbkldcecaa", sum := "2b9f169aed8e496de893add7839b8d10ea8f46bcb4105fdd35826a93ee3e2f0b", func := "loop.example/g01317/laws.FnExactPackTake", spec := "fnExactPackTake", inPlace := ["math.Float32bits"], apart := false }
def FnExactPackTakeSaid : Prop := fnExactPackTakeRow.holds Try.pinned (OpenSpec.ofChange fnExactPackTakeSpec)

/-- ITS FALSE NEIGHBOUR: 'it returns false'. Refute it at one input. -/
def fnExactPackTakeWrong : ChangeSpec := { name := "fnExactPackTake", fn := fun _ => fun
  | [d] => { results := [.lit (.bool false)], args := [d] }
  | _ => none }
def FnExactPackTakeWrongFalsely : Prop := fnExactPackTakeRow.holds Try.pinned (OpenSpec.ofChange fnExactPackTakeWrong)

/-- 'laws.FnExactCoarsenLine': WHATEVER THE INPUT: true; the input reads as it did. -/
def fnExactCoarsenLineSpec : ChangeSpec := { name := "fnExactCoarsenLine", fn := fun _ => fun
  | [d] => { results := [.lit (.bool true)], args := [d] }
  | _ => none }
def fnExactCoarsenLineRow : OpenClaim := { program := "ytdfihkbkldcecaa", sum := "2b9f169aed8e496de893add7839b8d10ea8f46bcb4105fdd35826a93ee3e2f0b", func := "loop.example/g01317/laws.FnExactCoarsenLine", spec := "fnExactCoarsenLine", apart := false }
def FnExactCoarsenLineSaid : Prop := fnExactCoarsenLineRow.holds Try.pinned (OpenSpec.ofChange fnExactCoarsenLineSpec)

/-- ITS FALSE NEIGHBOUR: 'it returns false'. Refute it at one input. -/
def fnExactCoarsenLineWrong : ChangeSpec := { name := "fnExactCoarsenLine", fn := fun _ => fun
  | [d] => { results := [.lit (.bool false)], args := [d] }
  | _ => none }
def FnExactCoarsenLineWrongFalsely : Prop := fnExactCoarsenLineRow.holds Try.pinned (OpenSpec.ofChange fnExactCoarsenLineWrong)

/-- 'laws.FnExactSurplusOf': WHATEVER THE INPUT: true; the input reads as it did. -/
def fnExactSurplusOfSpec : ChangeSpec := { name := "fnExactSurplusOf", fn := fun _ => fun
  | [d] => { results := [.lit (.bool true)], args := [d] }
  | _ => none }
def fnExactSurplusOfRow : OpenClaim := { program := "ytdfihkbkldcecaa", sum := "2b9f169aed8e496de893add7839b8d10ea8f46bcb4105fdd35826a93ee3e2f0b", func := "loop.example/g01317/laws.FnExactSurplusOf", spec := "fnExactSurplusOf", apart := false }
def FnExactSurplusOfSaid : Prop := fnExactSurplusOfRow.holds Try.pinned (OpenSpec.ofChange fnExactSurplusOfSpec)

/-- ITS FALSE NEIGHBOUR: 'it returns false'. Refute it at one input. -/
def fnExactSurplusOfWrong : ChangeSpec := { name := "fnExactSurplusOf", fn := fun _ => fun
  | [d] => { results := [.lit (.bool false)], args := [d] }
  | _ => none }
def FnExactSurplusOfWrongFalsely : Prop := fnExactSurplusOfRow.holds Try.pinned (OpenSpec.ofChange fnExactSurplusOfWrong)

/-- 'laws.FnExactFromSurplus': WHATEVER THE INPUT: true; the input reads as it did. -/
def fnExactFromSurplusSpec : ChangeSpec := { name := "fnExactFromSurplus", fn := fun _ => fun
  | [d] => { results := [.lit (.bool true)], args := [d] }
  | _ => none }
def fnExactFromSurplusRow : OpenClaim := { program := "ytdfihkbkldcecaa", sum := "2b9f169aed8e496de893add7839b8d10ea8f46bcb4105fdd35826a93ee3e2f0b", func := "loop.example/g01317/laws.FnExactFromSurplus", spec := "fnExactFromSurplus", apart := false }
def FnExactFromSurplusSaid : Prop := fnExactFromSurplusRow.holds Try.pinned (OpenSpec.ofChange fnExactFromSurplusSpec)

/-- ITS FALSE NEIGHBOUR: 'it returns false'. Refute it at one input. -/
def fnExactFromSurplusWrong : ChangeSpec := { name := "fnExactFromSurplus", fn := fun _ => fun
  | [d] => { results := [.lit (.bool false)], args := [d] }
  | _ => none }
def FnExactFromSurplusWrongFalsely : Prop := fnExactFromSurplusRow.holds Try.pinned (OpenSpec.ofChange fnExactFromSurplusWrong)

/- THE SECOND FORM. 'bulk': how many values and letters a reading holds, each counted each time it is reached (what is shared counts as often as it is met; a slice's spare places count too). A statement '..UptoSaid' is the law's where the arguments, and the package variables that the reading takes, are together of bulk at most 1048576: NARROWER than '..Said'. Prove '..Said' where nothing that the law and all that it calls make is longer than what came in: it says more and counts as full. Else prove '..UptoSaid'. A law counts once. -/
mutual
def uptoBulk {H : Type} : DataW H → Nat
  | .lit (.string bytes) => bytes.length + 1
  | .lit _ => 1
  | .nil => 1
  | .ptr d => uptoBulk d + 1
  | .slice elems spare => uptoBulkAll elems + uptoBulkAll spare + 1
  | .agg parts => uptoBulkAll parts + 1
  | .iface _ d => uptoBulk d + 1
  | .map entries => uptoBulkEntries entries + 1
  | .held _ => 1
def uptoBulkAll {H : Type} : List (DataW H) → Nat
  | [] => 0
  | d :: r => uptoBulk d + uptoBulkAll r
def uptoBulkEntries {H : Type} : List (Lit × DataW H) → Nat
  | [] => 0
  | x :: r => uptoBulkEntry x + uptoBulkEntries r
def uptoBulkEntry {H : Type} : Lit × DataW H → Nat
  | (.string bytes, d) => bytes.length + uptoBulk d + 1
  | (_, d) => uptoBulk d + 1
 end
def uptoSmall : (H : Type) → List (DataW H) → Bool := fun _ ds => decide (uptoBulkAll ds ≤ 1048576)
def OpenSpec.upto (s : _root_.Go.ChangeSpec) : _root_.Go.OpenSpec := { _root_.Go.OpenSpec.ofChange s with cond := some uptoSmall }

/-- 'laws.FnExactAreCosts', WHERE WHAT IT READS IS OF BULK AT MOST 1048576: true; the input reads as it did. -/
def fnExactAreCostsUptoRow : OpenClaim := { program := "ytdfihkbkldcecaa", sum := "2b9f169aed8e496de893add7839b8d10ea8f46bcb4105fdd35826a93ee3e2f0b", func := "loop.example/g01317/laws.FnExactAreCosts", spec := "fnExactAreCosts", apart := false, narrowed := true }
def FnExactAreCostsUptoSaid : Prop := fnExactAreCostsUptoRow.holds Try.pinned (OpenSpec.upto fnExactAreCostsSpec)

/-- 'laws.FnExactValidTake', WHERE WHAT IT READS IS OF BULK AT MOST 1048576: true; the input reads as it did. -/
def fnExactValidTakeUptoRow : OpenClaim := { program := "ytdfihkbkldcecaa", sum := "2b9f169aed8e496de893add7839b8d10ea8f46bcb4105fdd35826a93ee3e2f0b", func := "loop.example/g01317/laws.FnExactValidTake", spec := "fnExactValidTake", apart := false, narrowed := true }
def FnExactValidTakeUptoSaid : Prop := fnExactValidTakeUptoRow.holds Try.pinned (OpenSpec.upto fnExactValidTakeSpec)

/-- 'laws.FnExactPackTake', WHERE WHAT IT READS IS OF BULK AT MOST 1048576: true; the input reads as it did. -/
def fnExactPackTakeUptoRow : OpenClaim := { program := "ytdfihkbkldcecaa", sum := "2b9f169aed8e496de893add7839b8d10ea8f46bcb4105fdd35826a93ee3e2f0b", func := "loop.example/g01317/laws.FnExactPackTake", spec := "fnExactPackTake", inPlace := ["math.Float32bits"], apart := false, narrowed := true }
def FnExactPackTakeUptoSaid : Prop := fnExactPackTakeUptoRow.holds Try.pinned (OpenSpec.upto fnExactPackTakeSpec)

/-- 'laws.FnExactCoarsenLine', WHERE WHAT IT READS IS OF BULK AT MOST 1048576: true; the input reads as it did. -/
def fnExactCoarsenLineUptoRow : OpenClaim := { program := "ytdfihkbkldcecaa", sum := "2b9f169aed8e496de893add7839b8d10ea8f46bcb4105fdd35826a93ee3e2f0b", func := "loop.example/g01317/laws.FnExactCoarsenLine", spec := "fnExactCoarsenLine", apart := false, narrowed := true }
def FnExactCoarsenLineUptoSaid : Prop := fnExactCoarsenLineUptoRow.holds Try.pinned (OpenSpec.upto fnExactCoarsenLineSpec)

/-- 'laws.FnExactSurplusOf', WHERE WHAT IT READS IS OF BULK AT MOST 1048576: true; the input reads as it did. -/
def fnExactSurplusOfUptoRow : OpenClaim := { program := "ytdfihkbkldcecaa", sum := "2b9f169aed8e496de893add7839b8d10ea8f46bcb4105fdd35826a93ee3e2f0b", func := "loop.example/g01317/laws.FnExactSurplusOf", spec := "fnExactSurplusOf", apart := false, narrowed := true }
def FnExactSurplusOfUptoSaid : Prop := fnExactSurplusOfUptoRow.holds Try.pinned (OpenSpec.upto fnExactSurplusOfSpec)

/-- 'laws.FnExactFromSurplus', WHERE WHAT IT READS IS OF BULK AT MOST 1048576: true; the input reads as it did. -/
def fnExactFromSurplusUptoRow : OpenClaim := { program := "ytdfihkbkldcecaa", sum := "2b9f169aed8e496de893add7839b8d10ea8f46bcb4105fdd35826a93ee3e2f0b", func := "loop.example/g01317/laws.FnExactFromSurplus", spec := "fnExactFromSurplus", apart := false, narrowed := true }
def FnExactFromSurplusUptoSaid : Prop := fnExactFromSurplusUptoRow.holds Try.pinned (OpenSpec.upto fnExactFromSurplusSpec)

end Rows
end Go.Proofs.Ytdfihkbkldcecaa
