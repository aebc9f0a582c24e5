/-
  No cell of these rows narrows 'for every input' (looked for: loops, veiled, ifaces, maps, wideKeys, modest, calm, conditions, laid).
  DERIVED. THE GIVEN ROWS OF THIS SEAT. 4 by the template 'for every input the law returns true; each argument reads behind the call as it read before'; 0 by the template 'total and deterministic' (their statements: YtplfnchoooehgaaTotals.lean).
  GIVEN WITH THE SEED: the statements are not yours to turn. If you find one false, say at which input.
  Laid BY PROGRAM, IN A SANDBOX (cutbox-rows.mjs): the forced cells as the released guide's own fill.sh prints them over the translation 9b2c78d606d232f1… (all of the seat's roots in one cut). By AI agents, Wed Nov 11 2026. No macro, syntax, notation, axiom, sorry.
-/
import Derived.Test.YtplfnchoooehgaaChecked
import GoSem.Claim
import GoSem.ClaimJoined
import GoSem.ClaimMapViews
import Derived.JoinedTies
import Derived.KernelRfl
namespace Go.Proofs.Ytplfnchoooehgaa
/- THE CELL 'sum', in the pinned program and in every row, IS THE sha256 OF THE DUMP (.gsa) THAT YtplfnchoooehgaaProg.lean LOADS. Nothing in Lean hashes anything: it is a label: what it is worth is what the hold of that sum in a sandbox is worth. -/
noncomputable def Try.pinned : Pinned := { name := "ytplfnchoooehgaa", sum := "9b2c78d606d232f187d0778d55975a7b7842d5b7fb86924393ccaff9772b1760", checked := Try.checked }
namespace Rows
def none {H : Type} : Left H := { results := [], args := [] }

/-- 'laws.FnExactZeroTrees': WHATEVER THE INPUT: true; the input reads as it did. -/
def fnExactZeroTreesSpec : ChangeSpec := { name := "fnExactZeroTrees", fn := fun _ => fun
  | [d1, d2, d3] => { results := [.lit (.bool true)], args := [d1, d2, d3] }
  | _ => none }
def fnExactZeroTreesRow : OpenClaim := { program := "ytplfnchoooehgaa", sum := "9b2c78d606d232f187d0778d55975a7b7842d5b7fb86924393ccaff9772b1760", func := "loop.example/g01317/laws.FnExactZeroTrees", spec := "fnExactZeroTrees", apart := false }
def FnExactZeroTreesSaid : Prop := fnExactZeroTreesRow.holds Try.pinned (OpenSpec.ofChange fnExactZeroTreesSpec)

/-- ITS FALSE NEIGHBOUR: 'it returns false'. Refute it at one input. -/
def fnExactZeroTreesWrong : ChangeSpec := { name := "fnExactZeroTrees", fn := fun _ => fun
  | [d1, d2, d3] => { results := [.lit (.bool false)], args := [d1, d2, d3] }
  | _ => none }
def FnExactZeroTreesWrongFalsely : Prop := fnExactZeroTreesRow.holds Try.pinned (OpenSpec.ofChange fnExactZeroTreesWrong)

/-- 'laws.FnExactCodeList': WHATEVER THE INPUT: true; the input reads as it did. -/
def fnExactCodeListSpec : ChangeSpec := { name := "fnExactCodeList", fn := fun _ => fun
  | [d] => { results := [.lit (.bool true)], args := [d] }
  | _ => none }
def fnExactCodeListRow : OpenClaim := { program := "ytplfnchoooehgaa", sum := "9b2c78d606d232f187d0778d55975a7b7842d5b7fb86924393ccaff9772b1760", func := "loop.example/g01317/laws.FnExactCodeList", spec := "fnExactCodeList", apart := false }
def FnExactCodeListSaid : Prop := fnExactCodeListRow.holds Try.pinned (OpenSpec.ofChange fnExactCodeListSpec)

/-- ITS FALSE NEIGHBOUR: 'it returns false'. Refute it at one input. -/
def fnExactCodeListWrong : ChangeSpec := { name := "fnExactCodeList", fn := fun _ => fun
  | [d] => { results := [.lit (.bool false)], args := [d] }
  | _ => none }
def FnExactCodeListWrongFalsely : Prop := fnExactCodeListRow.holds Try.pinned (OpenSpec.ofChange fnExactCodeListWrong)

/-- 'laws.FnExactListFrom': WHATEVER THE INPUT: true; the input reads as it did. -/
def fnExactListFromSpec : ChangeSpec := { name := "fnExactListFrom", fn := fun _ => fun
  | [d] => { results := [.lit (.bool true)], args := [d] }
  | _ => none }
def fnExactListFromRow : OpenClaim := { program := "ytplfnchoooehgaa", sum := "9b2c78d606d232f187d0778d55975a7b7842d5b7fb86924393ccaff9772b1760", func := "loop.example/g01317/laws.FnExactListFrom", spec := "fnExactListFrom", apart := false }
def FnExactListFromSaid : Prop := fnExactListFromRow.holds Try.pinned (OpenSpec.ofChange fnExactListFromSpec)

/-- ITS FALSE NEIGHBOUR: 'it returns false'. Refute it at one input. -/
def fnExactListFromWrong : ChangeSpec := { name := "fnExactListFrom", fn := fun _ => fun
  | [d] => { results := [.lit (.bool false)], args := [d] }
  | _ => none }
def FnExactListFromWrongFalsely : Prop := fnExactListFromRow.holds Try.pinned (OpenSpec.ofChange fnExactListFromWrong)

/-- 'laws.FnTrees': WHATEVER THE INPUT: true; the input reads as it did. -/
def fnTreesSpec : ChangeSpec := { name := "fnTrees", fn := fun _ => fun
  | [d1, d2] => { results := [.lit (.bool true)], args := [d1, d2] }
  | _ => none }
def fnTreesRow : OpenClaim := { program := "ytplfnchoooehgaa", sum := "9b2c78d606d232f187d0778d55975a7b7842d5b7fb86924393ccaff9772b1760", func := "loop.example/g01317/laws.FnTrees", spec := "fnTrees", apart := false }
def FnTreesSaid : Prop := fnTreesRow.holds Try.pinned (OpenSpec.ofChange fnTreesSpec)

/-- ITS FALSE NEIGHBOUR: 'it returns false'. Refute it at one input. -/
def fnTreesWrong : ChangeSpec := { name := "fnTrees", fn := fun _ => fun
  | [d1, d2] => { results := [.lit (.bool false)], args := [d1, d2] }
  | _ => none }
def FnTreesWrongFalsely : Prop := fnTreesRow.holds Try.pinned (OpenSpec.ofChange fnTreesWrong)

/- THE SECOND FORM. 'bulk': how many values and letters a reading holds, each counted each time it is reached (what is shared counts as often as it is met; a slice's spare places count too). A statement '..UptoSaid' is the law's where the arguments, and the package variables that the reading takes, are together of bulk at most 1048576: NARROWER than '..Said'. Prove '..Said' where nothing that the law and all that it calls make is longer than what came in: it says more and counts as full. Else prove '..UptoSaid'. A law counts once. -/
mutual
def uptoBulk {H : Type} : DataW H → Nat
  | .lit (.string bytes) => bytes.length + 1
  | .lit _ => 1
  | .nil => 1
  | .ptr d => uptoBulk d + 1
  | .slice elems spare => uptoBulkAll elems + uptoBulkAll spare + 1
  | .agg parts => uptoBulkAll parts + 1
  | .iface _ d => uptoBulk d + 1
  | .map entries => uptoBulkEntries entries + 1
  | .held _ => 1
def uptoBulkAll {H : Type} : List (DataW H) → Nat
  | [] => 0
  | d :: r => uptoBulk d + uptoBulkAll r
def uptoBulkEntries {H : Type} : List (Lit × DataW H) → Nat
  | [] => 0
  | x :: r => uptoBulkEntry x + uptoBulkEntries r
def uptoBulkEntry {H : Type} : Lit × DataW H → Nat
  | (.string bytes, d) => bytes.length + uptoBulk d + 1
  | (_, d) => uptoBulk d + 1
 end
def uptoSmall : (H : Type) → List (DataW H) → Bool := fun _ ds => decide (uptoBulkAll ds ≤ 1048576)
def OpenSpec.upto (s : _root_.Go.ChangeSpec) : _root_.Go.OpenSpec := { _root_.Go.OpenSpec.ofChange s with cond := some uptoSmall }

/-- 'laws.FnExactZeroTrees', WHERE WHAT IT READS IS OF BULK AT MOST 1048576: true; the input reads as it did. -/
def fnExactZeroTreesUptoRow : OpenClaim := { program := "ytplfnchoooehgaa", sum := "9b2c78d606d232f187d0778d55975a7b7842d5b7fb86924393ccaff9772b1760", func := "loop.example/g01317/laws.FnExactZeroTrees", spec := "fnExactZeroTrees", apart := false, narrowed := true }
def FnExactZeroTreesUptoSaid : Prop := fnExactZeroTreesUptoRow.holds Try.pinned (OpenSpec.upto fnExactZeroTreesSpec)

/-- 'laws.FnExactCodeList', WHERE WHAT IT READS IS OF BULK AT MOST 1048576: true; the input reads as it did. -/
def fnExactCodeListUptoRow : OpenClaim := { program := "ytplfnchoooehgaa", sum := "9b2c78d606d232f187d0778d55975a7b7842d5b7fb86924393ccaff9772b1760", func := "loop.example/g01317/laws.FnExactCodeList", spec := "fnExactCodeList", apart := false, narrowed := true }
def FnExactCodeListUptoSaid : Prop := fnExactCodeListUptoRow.holds Try.pinned (OpenSpec.upto fnExactCodeListSpec)

/-- 'laws.FnExactListFrom', WHERE WHAT IT READS IS OF BULK AT MOST 1048576: true; the input reads as it did. -/
def fnExactListFromUptoRow : OpenClaim := { program := "ytplfnchoooehgaa", sum := "9b2c78d606d232f187d0778d55975a7b7842d5b7fb86924393ccaff9772b1760", func := "loop.example/g01317/laws.FnExactListFrom", spec := "fnExactListFrom", apart := false, narrowed := true }
def FnExactListFromUptoSaid : Prop := fnExactListFromUptoRow.holds Try.pinned (OpenSpec.upto fnExactListFromSpec)

/-- 'laws.FnTrees', WHERE WHAT IT READS IS OF BULK AT MOST 1048576: true; the input reads as it did. -/
def fnTreesUptoRow : OpenClaim := { program := "ytplfnchoooehgaa", sum := "9b2c78d606d232f187d0778d55975a7b7842d5b7fb86924393ccaff9772b1760", func := "loop.example/g01317/laws.FnTrees", spec := "fnTrees", apart := false, narrowed := true }
def FnTreesUptoSaid : Prop := fnTreesUptoRow.holds Try.pinned (OpenSpec.upto fnTreesSpec)

end Rows
end Go.Proofs.Ytplfnchoooehgaa
