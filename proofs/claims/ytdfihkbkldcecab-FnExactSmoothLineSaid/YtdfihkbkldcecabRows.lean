/-
  No cell of these rows narrows 'for every input' (looked for: loops, veiled, ifaces, maps, wideKeys, modest, calm, conditions, laid).
  DERIVED. THE GIVEN ROWS OF THIS SEAT. 6 by the template 'for every input the law returns true; each argument reads behind the call as it read before'; 0 by the template 'total and deterministic' (their statements: YtdfihkbkldcecabTotals.lean).
  GIVEN WITH THE SEED: the statements are not yours to turn. If you find one false, say at which input.
  Laid BY PROGRAM, IN A SANDBOX (cutbox-rows.mjs): the forced cells as the released guide's own fill.sh prints them over the translation b37c601200be5038… (all of the seat's roots in one cut). By AI agents, Wed Nov 11 2026. No macro, syntax, notation, axiom, sorry.
-/
import Derived.Test.YtdfihkbkldcecabChecked
import GoSem.Claim
import GoSem.ClaimJoined
import GoSem.ClaimMapViews
import Derived.JoinedTies
import Derived.KernelRfl
namespace Go.Proofs.Ytdfihkbkldcecab
/- THE CELL 'sum', in the pinned program and in every row, IS THE sha256 OF THE DUMP (.gsa) THAT YtdfihkbkldcecabProg.lean LOADS. Nothing in Lean hashes anything: it is a label: what it is worth is what the hold of that sum in a sandbox is worth. -/
noncomputable def Try.pinned : Pinned := { name := "ytdfihkbkldcecab", sum := "b37c601200be50385aba9c7c0553b2e518919d7ae96b8f81798acab4a69137c7", checked := Try.checked }
namespace Rows
def none {H : Type} : Left H := { results := [], args := [] }

/-- 'laws.FnExactRefineLine': WHATEVER THE INPUT: true; the input reads as it did. -/
def fnExactRefineLineSpec : ChangeSpec := { name := "fnExactRefineLine", fn := fun _ => fun
  | [d] => { results := [.lit (.bool true)], args := [d] }
  | _ => none }
def fnExactRefineLineRow : OpenClaim := { program := "ytdfihkbkldcecab", sum := "b37c601200be50385aba9c7c0553b2e518919d7ae96b8f81798acab4a69137c7", func := "loop.example/g01317/laws.FnExactRefineLine", spec := "fnExactRefineLine", apart := false }
def FnExactRefineLineSaid : Prop := fnExactRefineLineRow.holds Try.pinned (OpenSpec.ofChange fnExactRefineLineSpec)

/-- ITS FALSE NEIGHBOUR: 'it returns false'. Refute it at one input. -/
def fnExactRefineLineWrong : ChangeSpec := { name := "fnExactRefineLine", fn := fun _ => fun
  | [d] => { results := [.lit (.bool false)], args := [d] }
  | _ => none }
def FnExactRefineLineWrongFalsely : Prop := fnExactRefineLineRow.holds Try.pinned (OpenSpec.ofChange fnExactRefineLineWrong)

/-- 'laws.FnExactResidualOf': WHATEVER THE INPUT: true; the input reads as it did. -/
def fnExactResidualOfSpec : ChangeSpec := { name := "fnExactResidualOf", fn := fun _ => fun
  | [d1, d2, d3] => { results := [.lit (.bool true)], args := [d1, d2, d3] }
  | _ => none }
def fnExactResidualOfRow : OpenClaim := { program := "ytdfihkbkldcecab", sum := "b37c601200be50385aba9c7c0553b2e518919d7ae96b8f81798acab4a69137c7", func := "loop.example/g01317/laws.FnExactResidualOf", spec := "fnExactResidualOf", apart := false }
def FnExactResidualOfSaid : Prop := fnExactResidualOfRow.holds Try.pinned (OpenSpec.ofChange fnExactResidualOfSpec)

/-- ITS FALSE NEIGHBOUR: 'it returns false'. Refute it at one input. -/
def fnExactResidualOfWrong : ChangeSpec := { name := "fnExactResidualOf", fn := fun _ => fun
  | [d1, d2, d3] => { results := [.lit (.bool false)], args := [d1, d2, d3] }
  | _ => none }
def FnExactResidualOfWrongFalsely : Prop := fnExactResidualOfRow.holds Try.pinned (OpenSpec.ofChange fnExactResidualOfWrong)

/-- 'laws.FnExactSolveLine': WHATEVER THE INPUT: true; the input reads as it did. -/
def fnExactSolveLineSpec : ChangeSpec := { name := "fnExactSolveLine", fn := fun _ => fun
  | [d1, d2] => { results := [.lit (.bool true)], args := [d1, d2] }
  | _ => none }
def fnExactSolveLineRow : OpenClaim := { program := "ytdfihkbkldcecab", sum := "b37c601200be50385aba9c7c0553b2e518919d7ae96b8f81798acab4a69137c7", func := "loop.example/g01317/laws.FnExactSolveLine", spec := "fnExactSolveLine", apart := false }
def FnExactSolveLineSaid : Prop := fnExactSolveLineRow.holds Try.pinned (OpenSpec.ofChange fnExactSolveLineSpec)

/-- ITS FALSE NEIGHBOUR: 'it returns false'. Refute it at one input. -/
def fnExactSolveLineWrong : ChangeSpec := { name := "fnExactSolveLine", fn := fun _ => fun
  | [d1, d2] => { results := [.lit (.bool false)], args := [d1, d2] }
  | _ => none }
def FnExactSolveLineWrongFalsely : Prop := fnExactSolveLineRow.holds Try.pinned (OpenSpec.ofChange fnExactSolveLineWrong)

/-- 'laws.FnExactSmoothLine': WHATEVER THE INPUT: true; the input reads as it did. -/
def fnExactSmoothLineSpec : ChangeSpec := { name := "fnExactSmoothLine", fn := fun _ => fun
  | [d1, d2, d3, d4] => { results := [.lit (.bool true)], args := [d1, d2, d3, d4] }
  | _ => none }
def fnExactSmoothLineRow : OpenClaim := { program := "ytdfihkbkldcecab", sum := "b37c601200be50385aba9c7c0553b2e518919d7ae96b8f81798acab4a69137c7", func := "loop.example/g01317/laws.FnExactSmoothLine", spec := "fnExactSmoothLine", apart := false }
def FnExactSmoothLineSaid : Prop := fnExactSmoothLineRow.holds Try.pinned (OpenSpec.ofChange fnExactSmoothLineSpec)

/-- ITS FALSE NEIGHBOUR: 'it returns false'. Refute it at one input. -/
def fnExactSmoothLineWrong : ChangeSpec := { name := "fnExactSmoothLine", fn := fun _ => fun
  | [d1, d2, d3, d4] => { results := [.lit (.bool false)], args := [d1, d2, d3, d4] }
  | _ => none }
def FnExactSmoothLineWrongFalsely : Prop := fnExactSmoothLineRow.holds Try.pinned (OpenSpec.ofChange fnExactSmoothLineWrong)

/-- 'laws.FnExactEdgeCosts': WHATEVER THE INPUT: true; the input reads as it did. -/
def fnExactEdgeCostsSpec : ChangeSpec := { name := "fnExactEdgeCosts", fn := fun _ => fun
  | [d] => { results := [.lit (.bool true)], args := [d] }
  | _ => none }
def fnExactEdgeCostsRow : OpenClaim := { program := "ytdfihkbkldcecab", sum := "b37c601200be50385aba9c7c0553b2e518919d7ae96b8f81798acab4a69137c7", func := "loop.example/g01317/laws.FnExactEdgeCosts", spec := "fnExactEdgeCosts", apart := false }
def FnExactEdgeCostsSaid : Prop := fnExactEdgeCostsRow.holds Try.pinned (OpenSpec.ofChange fnExactEdgeCostsSpec)

/-- ITS FALSE NEIGHBOUR: 'it returns false'. Refute it at one input. -/
def fnExactEdgeCostsWrong : ChangeSpec := { name := "fnExactEdgeCosts", fn := fun _ => fun
  | [d] => { results := [.lit (.bool false)], args := [d] }
  | _ => none }
def FnExactEdgeCostsWrongFalsely : Prop := fnExactEdgeCostsRow.holds Try.pinned (OpenSpec.ofChange fnExactEdgeCostsWrong)

/-- 'laws.FnExactUnpackTake': WHATEVER THE INPUT: true; the input reads as it did. -/
def fnExactUnpackTakeSpec : ChangeSpec := { name := "fnExactUnpackTake", fn := fun _ => fun
  | [d] => { results := [.lit (.bool true)], args := [d] }
  | _ => none }
def fnExactUnpackTakeRow : OpenClaim := { program := "ytdfihkbkldcecab", sum := "b37c601200be50385aba9c7c0553b2e518919d7ae96b8f81798acab4a69137c7", func := "loop.example/g01317/laws.FnExactUnpackTake", spec := "fnExactUnpackTake", inPlace := ["math.Float32frombits", "math.Float32bits"], apart := false }
def FnExactUnpackTakeSaid : Prop := fnExactUnpackTakeRow.holds Try.pinned (OpenSpec.ofChange fnExactUnpackTakeSpec)

/-- ITS FALSE NEIGHBOUR: 'it returns false'. Refute it at one input. -/
def fnExactUnpackTakeWrong : ChangeSpec := { name := "fnExactUnpackTake", fn := fun _ => fun
  | [d] => { results := [.lit (.bool false)], args := [d] }
  | _ => none }
def FnExactUnpackTakeWrongFalsely : Prop := fnExactUnpackTakeRow.holds Try.pinned (OpenSpec.ofChange fnExactUnpackTakeWrong)

/- THE SECOND FORM. 'bulk': how many values and letters a reading holds, each counted each time it is reached (what is shared counts as often as it is met; a slice's spare places count too). A statement '..UptoSaid' is the law's where the arguments, and the package variables that the reading takes, are together of bulk at most 1048576: NARROWER than '..Said'. Prove '..Said' where nothing that the law and all that it calls make is longer than what came in: it says more and counts as full. Else prove '..UptoSaid'. A law counts once. -/
mutual
def uptoBulk {H : Type} : DataW H → Nat
  | .lit (.string bytes) => bytes.length + 1
  | .lit _ => 1
  | .nil => 1
  | .ptr d => uptoBulk d + 1
  | .slice elems spare => uptoBulkAll elems + uptoBulkAll spare + 1
  | .agg parts => uptoBulkAll parts + 1
  | .iface _ d => uptoBulk d + 1
  | .map entries => uptoBulkEntries entries + 1
  | .held _ => 1
def uptoBulkAll {H : Type} : List (DataW H) → Nat
  | [] => 0
  | d :: r => uptoBulk d + uptoBulkAll r
def uptoBulkEntries {H : Type} : List (Lit × DataW H) → Nat
  | [] => 0
  | x :: r => uptoBulkEntry x + uptoBulkEntries r
def uptoBulkEntry {H : Type} : Lit × DataW H → Nat
  | (.string bytes, d) => bytes.length + uptoBulk d + 1
  | (_, d) => uptoBulk d + 1
 end
def uptoSmall : (H : Type) → List (DataW H) → Bool := fun _ ds => decide (uptoBulkAll ds ≤ 1048576)
def OpenSpec.upto (s : _root_.Go.ChangeSpec) : _root_.Go.OpenSpec := { _root_.Go.OpenSpec.ofChange s with cond := some uptoSmall }

/-- 'laws.FnExactRefineLine', WHERE WHAT IT READS IS OF BULK AT MOST 1048576: true; the input reads as it did. -/
def fnExactRefineLineUptoRow : OpenClaim := { program := "ytdfihkbkldcecab", sum := "b37c601200be50385aba9c7c0553b2e518919d7ae96b8f81798acab4a69137c7", func := "loop.example/g01317/laws.FnExactRefineLine", spec := "fnExactRefineLine", apart := false, narrowed := true }
def FnExactRefineLineUptoSaid : Prop := fnExactRefineLineUptoRow.holds Try.pinned (OpenSpec.upto fnExactRefineLineSpec)

/-- 'laws.FnExactResidualOf', WHERE WHAT IT READS IS OF BULK AT MOST 1048576: true; the input reads as it did. -/
def fnExactResidualOfUptoRow : OpenClaim := { program := "ytdfihkbkldcecab", sum := "b37c601200be50385aba9c7c0553b2e518919d7ae96b8f81798acab4a69137c7", func := "loop.example/g01317/laws.FnExactResidualOf", spec := "fnExactResidualOf", apart := false, narrowed := true }
def FnExactResidualOfUptoSaid : Prop := fnExactResidualOfUptoRow.holds Try.pinned (OpenSpec.upto fnExactResidualOfSpec)

/-- 'laws.FnExactSolveLine', WHERE WHAT IT READS IS OF BULK AT MOST 1048576: true; the input reads as it did. -/
def fnExactSolveLineUptoRow : OpenClaim := { program := "ytdfihkbkldcecab", sum := "b37c601200be50385aba9c7c0553b2e518919d7ae96b8f81798acab4a69137c7", func := "loop.example/g01317/laws.FnExactSolveLine", spec := "fnExactSolveLine", apart := false, narrowed := true }
def FnExactSolveLineUptoSaid : Prop := fnExactSolveLineUptoRow.holds Try.pinned (OpenSpec.upto fnExactSolveLineSpec)

/-- 'laws.FnExactSmoothLine', WHERE WHAT IT READS IS OF BULK AT MOST 1048576: true; the input reads as it did. -/
def fnExactSmoothLineUptoRow : OpenClaim := { program := "ytdfihkbkldcecab", sum := "b37c601200be50385aba9c7c0553b2e518919d7ae96b8f81798acab4a69137c7", func := "loop.example/g01317/laws.FnExactSmoothLine", spec := "fnExactSmoothLine", apart := false, narrowed := true }
def FnExactSmoothLineUptoSaid : Prop := fnExactSmoothLineUptoRow.holds Try.pinned (OpenSpec.upto fnExactSmoothLineSpec)

/-- 'laws.FnExactEdgeCosts', WHERE WHAT IT READS IS OF BULK AT MOST 1048576: true; the input reads as it did. -/
def fnExactEdgeCostsUptoRow : OpenClaim := { program := "ytdfihkbkldcecab", sum := "b37c601200be50385aba9c7c0553b2e518919d7ae96b8f81798acab4a69137c7", func := "loop.example/g01317/laws.FnExactEdgeCosts", spec := "fnExactEdgeCosts", apart := false, narrowed := true }
def FnExactEdgeCostsUptoSaid : Prop := fnExactEdgeCostsUptoRow.holds Try.pinned (OpenSpec.upto fnExactEdgeCostsSpec)

/-- 'laws.FnExactUnpackTake', WHERE WHAT IT READS IS OF BULK AT MOST 1048576: true; the input reads as it did. -/
def fnExactUnpackTakeUptoRow : OpenClaim := { program := "ytdfihkbkldcecab", sum := "b37c601200be50385aba9c7c0553b2e518919d7ae96b8f81798acab4a69137c7", func := "loop.example/g01317/laws.FnExactUnpackTake", spec := "fnExactUnpackTake", inPlace := ["math.Float32frombits", "math.Float32bits"], apart := false, narrowed := true }
def FnExactUnpackTakeUptoSaid : Prop := fnExactUnpackTakeUptoRow.holds Try.pinned (OpenSpec.upto fnExactUnpackTakeSpec)

end Rows
end Go.Proofs.Ytdfihkbkldcecab
