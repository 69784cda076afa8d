/-
  No cell of these rows narrows 'for every input' (looked for: loops, veiled, ifaces, maps, wideKeys, modest, calm, conditions, laid).
  DERIVED. THE GIVEN ROWS OF THIS SEAT. 12 by the template 'for every input the law returns true; each argument reads behind the call as it read before'; 0 by the template 'total and deterministic' (their statements: YtceenhnjdnggjaaTotals.lean).
  GIVEN WITH THE SEED: the statements are not yours to turn. If you find one false, say at which input.
  Laid BY PROGRAM, IN A SANDBOX (cutbox-rows.mjs): the forced cells as the released guide's own fill.sh prints them over the translation 2a0dd7fc2a799cdf… (all of the seat's roots in one cut). By AI agents, Wed Nov 11 2026. No macro, syntax, notation, axiom, sorry.
-/
import Derived.Test.YtceenhnjdnggjaaChecked
import GoSem.Claim
import GoSem.ClaimJoined
import GoSem.ClaimMapViews
import Derived.JoinedTies
import Derived.KernelRfl
namespace Go.Proofs.Ytceenhnjdnggjaa
/- THE CELL 'sum', in the pinned program and in every row, IS THE sha256 OF THE DUMP (.gsa) THAT YtceenhnjdnggjaaProg.lean LOADS. Nothing in Lean hashes anything: it is a label: what it is worth is what the hold of that sum in a sandbox is worth. -/
noncomputable def Try.pinned : Pinned := { name := "ytceenhnjdnggjaa", sum := "2a0dd7fc2a799cdf0a945c83b9ddd599c23092e0b435042112a65fbaa0e6f7ea", checked := Try.checked }
namespace Rows
def none {H : Type} : Left H := { results := [], args := [] }

/-- 'laws.FnExactFirstUnpermuted': WHATEVER THE INPUT: true; the input reads as it did. -/
def fnExactFirstUnpermutedSpec : ChangeSpec := { name := "fnExactFirstUnpermuted", fn := fun _ => fun
  | [d1, d2, d3] => { results := [.lit (.bool true)], args := [d1, d2, d3] }
  | _ => none }
def fnExactFirstUnpermutedRow : OpenClaim := { program := "ytceenhnjdnggjaa", sum := "2a0dd7fc2a799cdf0a945c83b9ddd599c23092e0b435042112a65fbaa0e6f7ea", func := "loop.example/g01078/laws.FnExactFirstUnpermuted", spec := "fnExactFirstUnpermuted", apart := false }
def FnExactFirstUnpermutedSaid : Prop := fnExactFirstUnpermutedRow.holds Try.pinned (OpenSpec.ofChange fnExactFirstUnpermutedSpec)

/-- ITS FALSE NEIGHBOUR: 'it returns false'. Refute it at one input. -/
def fnExactFirstUnpermutedWrong : ChangeSpec := { name := "fnExactFirstUnpermuted", fn := fun _ => fun
  | [d1, d2, d3] => { results := [.lit (.bool false)], args := [d1, d2, d3] }
  | _ => none }
def FnExactFirstUnpermutedWrongFalsely : Prop := fnExactFirstUnpermutedRow.holds Try.pinned (OpenSpec.ofChange fnExactFirstUnpermutedWrong)

/-- 'laws.FnExactProductOfPartitions': WHATEVER THE INPUT: true; the input reads as it did. -/
def fnExactProductOfPartitionsSpec : ChangeSpec := { name := "fnExactProductOfPartitions", fn := fun _ => fun
  | [d1, d2, d3] => { results := [.lit (.bool true)], args := [d1, d2, d3] }
  | _ => none }
def fnExactProductOfPartitionsRow : OpenClaim := { program := "ytceenhnjdnggjaa", sum := "2a0dd7fc2a799cdf0a945c83b9ddd599c23092e0b435042112a65fbaa0e6f7ea", func := "loop.example/g01078/laws.FnExactProductOfPartitions", spec := "fnExactProductOfPartitions", apart := false }
def FnExactProductOfPartitionsSaid : Prop := fnExactProductOfPartitionsRow.holds Try.pinned (OpenSpec.ofChange fnExactProductOfPartitionsSpec)

/-- ITS FALSE NEIGHBOUR: 'it returns false'. Refute it at one input. -/
def fnExactProductOfPartitionsWrong : ChangeSpec := { name := "fnExactProductOfPartitions", fn := fun _ => fun
  | [d1, d2, d3] => { results := [.lit (.bool false)], args := [d1, d2, d3] }
  | _ => none }
def FnExactProductOfPartitionsWrongFalsely : Prop := fnExactProductOfPartitionsRow.holds Try.pinned (OpenSpec.ofChange fnExactProductOfPartitionsWrong)

/-- 'laws.FnExactIsRectangular': WHATEVER THE INPUT: true; the input reads as it did. -/
def fnExactIsRectangularSpec : ChangeSpec := { name := "fnExactIsRectangular", fn := fun _ => fun
  | [d1, d2] => { results := [.lit (.bool true)], args := [d1, d2] }
  | _ => none }
def fnExactIsRectangularRow : OpenClaim := { program := "ytceenhnjdnggjaa", sum := "2a0dd7fc2a799cdf0a945c83b9ddd599c23092e0b435042112a65fbaa0e6f7ea", func := "loop.example/g01078/laws.FnExactIsRectangular", spec := "fnExactIsRectangular", apart := false }
def FnExactIsRectangularSaid : Prop := fnExactIsRectangularRow.holds Try.pinned (OpenSpec.ofChange fnExactIsRectangularSpec)

/-- ITS FALSE NEIGHBOUR: 'it returns false'. Refute it at one input. -/
def fnExactIsRectangularWrong : ChangeSpec := { name := "fnExactIsRectangular", fn := fun _ => fun
  | [d1, d2] => { results := [.lit (.bool false)], args := [d1, d2] }
  | _ => none }
def FnExactIsRectangularWrongFalsely : Prop := fnExactIsRectangularRow.holds Try.pinned (OpenSpec.ofChange fnExactIsRectangularWrong)

/-- 'laws.FnExactIsNetwork': WHATEVER THE INPUT: true; the input reads as it did. -/
def fnExactIsNetworkSpec : ChangeSpec := { name := "fnExactIsNetwork", fn := fun _ => fun
  | [d] => { results := [.lit (.bool true)], args := [d] }
  | _ => none }
def fnExactIsNetworkRow : OpenClaim := { program := "ytceenhnjdnggjaa", sum := "2a0dd7fc2a799cdf0a945c83b9ddd599c23092e0b435042112a65fbaa0e6f7ea", func := "loop.example/g01078/laws.FnExactIsNetwork", spec := "fnExactIsNetwork", apart := false }
def FnExactIsNetworkSaid : Prop := fnExactIsNetworkRow.holds Try.pinned (OpenSpec.ofChange fnExactIsNetworkSpec)

/-- ITS FALSE NEIGHBOUR: 'it returns false'. Refute it at one input. -/
def fnExactIsNetworkWrong : ChangeSpec := { name := "fnExactIsNetwork", fn := fun _ => fun
  | [d] => { results := [.lit (.bool false)], args := [d] }
  | _ => none }
def FnExactIsNetworkWrongFalsely : Prop := fnExactIsNetworkRow.holds Try.pinned (OpenSpec.ofChange fnExactIsNetworkWrong)

/-- 'laws.FnExactPostClasses': WHATEVER THE INPUT: true; the input reads as it did. -/
def fnExactPostClassesSpec : ChangeSpec := { name := "fnExactPostClasses", fn := fun _ => fun
  | [d] => { results := [.lit (.bool true)], args := [d] }
  | _ => none }
def fnExactPostClassesRow : OpenClaim := { program := "ytceenhnjdnggjaa", sum := "2a0dd7fc2a799cdf0a945c83b9ddd599c23092e0b435042112a65fbaa0e6f7ea", func := "loop.example/g01078/laws.FnExactPostClasses", spec := "fnExactPostClasses", apart := false }
def FnExactPostClassesSaid : Prop := fnExactPostClassesRow.holds Try.pinned (OpenSpec.ofChange fnExactPostClassesSpec)

/-- ITS FALSE NEIGHBOUR: 'it returns false'. Refute it at one input. -/
def fnExactPostClassesWrong : ChangeSpec := { name := "fnExactPostClasses", fn := fun _ => fun
  | [d] => { results := [.lit (.bool false)], args := [d] }
  | _ => none }
def FnExactPostClassesWrongFalsely : Prop := fnExactPostClassesRow.holds Try.pinned (OpenSpec.ofChange fnExactPostClassesWrong)

/-- 'laws.FnExactIsSolution': WHATEVER THE INPUT: true; the input reads as it did. -/
def fnExactIsSolutionSpec : ChangeSpec := { name := "fnExactIsSolution", fn := fun _ => fun
  | [d1, d2] => { results := [.lit (.bool true)], args := [d1, d2] }
  | _ => none }
def fnExactIsSolutionRow : OpenClaim := { program := "ytceenhnjdnggjaa", sum := "2a0dd7fc2a799cdf0a945c83b9ddd599c23092e0b435042112a65fbaa0e6f7ea", func := "loop.example/g01078/laws.FnExactIsSolution", spec := "fnExactIsSolution", apart := false }
def FnExactIsSolutionSaid : Prop := fnExactIsSolutionRow.holds Try.pinned (OpenSpec.ofChange fnExactIsSolutionSpec)

/-- ITS FALSE NEIGHBOUR: 'it returns false'. Refute it at one input. -/
def fnExactIsSolutionWrong : ChangeSpec := { name := "fnExactIsSolution", fn := fun _ => fun
  | [d1, d2] => { results := [.lit (.bool false)], args := [d1, d2] }
  | _ => none }
def FnExactIsSolutionWrongFalsely : Prop := fnExactIsSolutionRow.holds Try.pinned (OpenSpec.ofChange fnExactIsSolutionWrong)

/-- 'laws.FnExactFirstUnsatisfied': WHATEVER THE INPUT: true; the input reads as it did. -/
def fnExactFirstUnsatisfiedSpec : ChangeSpec := { name := "fnExactFirstUnsatisfied", fn := fun _ => fun
  | [d1, d2] => { results := [.lit (.bool true)], args := [d1, d2] }
  | _ => none }
def fnExactFirstUnsatisfiedRow : OpenClaim := { program := "ytceenhnjdnggjaa", sum := "2a0dd7fc2a799cdf0a945c83b9ddd599c23092e0b435042112a65fbaa0e6f7ea", func := "loop.example/g01078/laws.FnExactFirstUnsatisfied", spec := "fnExactFirstUnsatisfied", apart := false }
def FnExactFirstUnsatisfiedSaid : Prop := fnExactFirstUnsatisfiedRow.holds Try.pinned (OpenSpec.ofChange fnExactFirstUnsatisfiedSpec)

/-- ITS FALSE NEIGHBOUR: 'it returns false'. Refute it at one input. -/
def fnExactFirstUnsatisfiedWrong : ChangeSpec := { name := "fnExactFirstUnsatisfied", fn := fun _ => fun
  | [d1, d2] => { results := [.lit (.bool false)], args := [d1, d2] }
  | _ => none }
def FnExactFirstUnsatisfiedWrongFalsely : Prop := fnExactFirstUnsatisfiedRow.holds Try.pinned (OpenSpec.ofChange fnExactFirstUnsatisfiedWrong)

/-- 'laws.FnExactSolveTogether': WHATEVER THE INPUT: true; the input reads as it did. -/
def fnExactSolveTogetherSpec : ChangeSpec := { name := "fnExactSolveTogether", fn := fun _ => fun
  | [d1, d2, d3] => { results := [.lit (.bool true)], args := [d1, d2, d3] }
  | _ => none }
def fnExactSolveTogetherRow : OpenClaim := { program := "ytceenhnjdnggjaa", sum := "2a0dd7fc2a799cdf0a945c83b9ddd599c23092e0b435042112a65fbaa0e6f7ea", func := "loop.example/g01078/laws.FnExactSolveTogether", spec := "fnExactSolveTogether", apart := false }
def FnExactSolveTogetherSaid : Prop := fnExactSolveTogetherRow.holds Try.pinned (OpenSpec.ofChange fnExactSolveTogetherSpec)

/-- ITS FALSE NEIGHBOUR: 'it returns false'. Refute it at one input. -/
def fnExactSolveTogetherWrong : ChangeSpec := { name := "fnExactSolveTogether", fn := fun _ => fun
  | [d1, d2, d3] => { results := [.lit (.bool false)], args := [d1, d2, d3] }
  | _ => none }
def FnExactSolveTogetherWrongFalsely : Prop := fnExactSolveTogetherRow.holds Try.pinned (OpenSpec.ofChange fnExactSolveTogetherWrong)

/-- 'laws.FnDiscriminators': WHATEVER THE INPUT: true; the input reads as it did. -/
def fnDiscriminatorsSpec : ChangeSpec := { name := "fnDiscriminators", fn := fun _ => fun
  | [d] => { results := [.lit (.bool true)], args := [d] }
  | _ => none }
def fnDiscriminatorsRow : OpenClaim := { program := "ytceenhnjdnggjaa", sum := "2a0dd7fc2a799cdf0a945c83b9ddd599c23092e0b435042112a65fbaa0e6f7ea", func := "loop.example/g01078/laws.FnDiscriminators", spec := "fnDiscriminators", unfollowed := true, recurses := true, apart := false }
def FnDiscriminatorsSaid : Prop := fnDiscriminatorsRow.holds Try.pinned (OpenSpec.ofChange fnDiscriminatorsSpec)

/-- ITS FALSE NEIGHBOUR: 'it returns false'. Refute it at one input. -/
def fnDiscriminatorsWrong : ChangeSpec := { name := "fnDiscriminators", fn := fun _ => fun
  | [d] => { results := [.lit (.bool false)], args := [d] }
  | _ => none }
def FnDiscriminatorsWrongFalsely : Prop := fnDiscriminatorsRow.holds Try.pinned (OpenSpec.ofChange fnDiscriminatorsWrong)

/-- 'laws.FnExactJoinNetworks': WHATEVER THE INPUT: true; the input reads as it did. -/
def fnExactJoinNetworksSpec : ChangeSpec := { name := "fnExactJoinNetworks", fn := fun _ => fun
  | [d1, d2] => { results := [.lit (.bool true)], args := [d1, d2] }
  | _ => none }
def fnExactJoinNetworksRow : OpenClaim := { program := "ytceenhnjdnggjaa", sum := "2a0dd7fc2a799cdf0a945c83b9ddd599c23092e0b435042112a65fbaa0e6f7ea", func := "loop.example/g01078/laws.FnExactJoinNetworks", spec := "fnExactJoinNetworks", apart := false }
def FnExactJoinNetworksSaid : Prop := fnExactJoinNetworksRow.holds Try.pinned (OpenSpec.ofChange fnExactJoinNetworksSpec)

/-- ITS FALSE NEIGHBOUR: 'it returns false'. Refute it at one input. -/
def fnExactJoinNetworksWrong : ChangeSpec := { name := "fnExactJoinNetworks", fn := fun _ => fun
  | [d1, d2] => { results := [.lit (.bool false)], args := [d1, d2] }
  | _ => none }
def FnExactJoinNetworksWrongFalsely : Prop := fnExactJoinNetworksRow.holds Try.pinned (OpenSpec.ofChange fnExactJoinNetworksWrong)

/-- 'laws.FnExactFixVariable': WHATEVER THE INPUT: true; the input reads as it did. -/
def fnExactFixVariableSpec : ChangeSpec := { name := "fnExactFixVariable", fn := fun _ => fun
  | [d1, d2, d3] => { results := [.lit (.bool true)], args := [d1, d2, d3] }
  | _ => none }
def fnExactFixVariableRow : OpenClaim := { program := "ytceenhnjdnggjaa", sum := "2a0dd7fc2a799cdf0a945c83b9ddd599c23092e0b435042112a65fbaa0e6f7ea", func := "loop.example/g01078/laws.FnExactFixVariable", spec := "fnExactFixVariable", apart := false }
def FnExactFixVariableSaid : Prop := fnExactFixVariableRow.holds Try.pinned (OpenSpec.ofChange fnExactFixVariableSpec)

/-- ITS FALSE NEIGHBOUR: 'it returns false'. Refute it at one input. -/
def fnExactFixVariableWrong : ChangeSpec := { name := "fnExactFixVariable", fn := fun _ => fun
  | [d1, d2, d3] => { results := [.lit (.bool false)], args := [d1, d2, d3] }
  | _ => none }
def FnExactFixVariableWrongFalsely : Prop := fnExactFixVariableRow.holds Try.pinned (OpenSpec.ofChange fnExactFixVariableWrong)

/-- 'laws.FnExactCountSolutions': WHATEVER THE INPUT: true; the input reads as it did. -/
def fnExactCountSolutionsSpec : ChangeSpec := { name := "fnExactCountSolutions", fn := fun _ => fun
  | [d] => { results := [.lit (.bool true)], args := [d] }
  | _ => none }
def fnExactCountSolutionsRow : OpenClaim := { program := "ytceenhnjdnggjaa", sum := "2a0dd7fc2a799cdf0a945c83b9ddd599c23092e0b435042112a65fbaa0e6f7ea", func := "loop.example/g01078/laws.FnExactCountSolutions", spec := "fnExactCountSolutions", unfollowed := true, recurses := true, apart := false }
def FnExactCountSolutionsSaid : Prop := fnExactCountSolutionsRow.holds Try.pinned (OpenSpec.ofChange fnExactCountSolutionsSpec)

/-- ITS FALSE NEIGHBOUR: 'it returns false'. Refute it at one input. -/
def fnExactCountSolutionsWrong : ChangeSpec := { name := "fnExactCountSolutions", fn := fun _ => fun
  | [d] => { results := [.lit (.bool false)], args := [d] }
  | _ => none }
def FnExactCountSolutionsWrongFalsely : Prop := fnExactCountSolutionsRow.holds Try.pinned (OpenSpec.ofChange fnExactCountSolutionsWrong)

/- THE SECOND FORM. 'bulk': how many values and letters a reading holds, each counted each time it is reached (what is shared counts as often as it is met; a slice's spare places count too). A statement '..UptoSaid' is the law's where the arguments, and the package variables that the reading takes, are together of bulk at most 1048576: NARROWER than '..Said'. Prove '..Said' where nothing that the law and all that it calls make is longer than what came in: it says more and counts as full. Else prove '..UptoSaid'. A law counts once. -/
mutual
def uptoBulk {H : Type} : DataW H → Nat
  | .lit (.string bytes) => bytes.length + 1
  | .lit _ => 1
  | .nil => 1
  | .ptr d => uptoBulk d + 1
  | .slice elems spare => uptoBulkAll elems + uptoBulkAll spare + 1
  | .agg parts => uptoBulkAll parts + 1
  | .iface _ d => uptoBulk d + 1
  | .map entries => uptoBulkEntries entries + 1
  | .held _ => 1
def uptoBulkAll {H : Type} : List (DataW H) → Nat
  | [] => 0
  | d :: r => uptoBulk d + uptoBulkAll r
def uptoBulkEntries {H : Type} : List (Lit × DataW H) → Nat
  | [] => 0
  | x :: r => uptoBulkEntry x + uptoBulkEntries r
def uptoBulkEntry {H : Type} : Lit × DataW H → Nat
  | (.string bytes, d) => bytes.length + uptoBulk d + 1
  | (_, d) => uptoBulk d + 1
 end
def uptoSmall : (H : Type) → List (DataW H) → Bool := fun _ ds => decide (uptoBulkAll ds ≤ 1048576)
def OpenSpec.upto (s : _root_.Go.ChangeSpec) : _root_.Go.OpenSpec := { _root_.Go.OpenSpec.ofChange s with cond := some uptoSmall }

/-- 'laws.FnExactFirstUnpermuted', WHERE WHAT IT READS IS OF BULK AT MOST 1048576: true; the input reads as it did. -/
def fnExactFirstUnpermutedUptoRow : OpenClaim := { program := "ytceenhnjdnggjaa", sum := "2a0dd7fc2a799cdf0a945c83b9ddd599c23092e0b435042112a65fbaa0e6f7ea", func := "loop.example/g01078/laws.FnExactFirstUnpermuted", spec := "fnExactFirstUnpermuted", apart := false, narrowed := true }
def FnExactFirstUnpermutedUptoSaid : Prop := fnExactFirstUnpermutedUptoRow.holds Try.pinned (OpenSpec.upto fnExactFirstUnpermutedSpec)

/-- 'laws.FnExactProductOfPartitions', WHERE WHAT IT READS IS OF BULK AT MOST 1048576: true; the input reads as it did. -/
def fnExactProductOfPartitionsUptoRow : OpenClaim := { program := "ytceenhnjdnggjaa", sum := "2a0dd7fc2a799cdf0a945c83b9ddd599c23092e0b435042112a65fbaa0e6f7ea", func := "loop.example/g01078/laws.FnExactProductOfPartitions", spec := "fnExactProductOfPartitions", apart := false, narrowed := true }
def FnExactProductOfPartitionsUptoSaid : Prop := fnExactProductOfPartitionsUptoRow.holds Try.pinned (OpenSpec.upto fnExactProductOfPartitionsSpec)

/-- 'laws.FnExactIsRectangular', WHERE WHAT IT READS IS OF BULK AT MOST 1048576: true; the input reads as it did. -/
def fnExactIsRectangularUptoRow : OpenClaim := { program := "ytceenhnjdnggjaa", sum := "2a0dd7fc2a799cdf0a945c83b9ddd599c23092e0b435042112a65fbaa0e6f7ea", func := "loop.example/g01078/laws.FnExactIsRectangular", spec := "fnExactIsRectangular", apart := false, narrowed := true }
def FnExactIsRectangularUptoSaid : Prop := fnExactIsRectangularUptoRow.holds Try.pinned (OpenSpec.upto fnExactIsRectangularSpec)

/-- 'laws.FnExactIsNetwork', WHERE WHAT IT READS IS OF BULK AT MOST 1048576: true; the input reads as it did. -/
def fnExactIsNetworkUptoRow : OpenClaim := { program := "ytceenhnjdnggjaa", sum := "2a0dd7fc2a799cdf0a945c83b9ddd599c23092e0b435042112a65fbaa0e6f7ea", func := "loop.example/g01078/laws.FnExactIsNetwork", spec := "fnExactIsNetwork", apart := false, narrowed := true }
def FnExactIsNetworkUptoSaid : Prop := fnExactIsNetworkUptoRow.holds Try.pinned (OpenSpec.upto fnExactIsNetworkSpec)

/-- 'laws.FnExactPostClasses', WHERE WHAT IT READS IS OF BULK AT MOST 1048576: true; the input reads as it did. -/
def fnExactPostClassesUptoRow : OpenClaim := { program := "ytceenhnjdnggjaa", sum := "2a0dd7fc2a799cdf0a945c83b9ddd599c23092e0b435042112a65fbaa0e6f7ea", func := "loop.example/g01078/laws.FnExactPostClasses", spec := "fnExactPostClasses", apart := false, narrowed := true }
def FnExactPostClassesUptoSaid : Prop := fnExactPostClassesUptoRow.holds Try.pinned (OpenSpec.upto fnExactPostClassesSpec)

/-- 'laws.FnExactIsSolution', WHERE WHAT IT READS IS OF BULK AT MOST 1048576: true; the input reads as it did. -/
def fnExactIsSolutionUptoRow : OpenClaim := { program := "ytceenhnjdnggjaa", sum := "2a0dd7fc2a799cdf0a945c83b9ddd599c23092e0b435042112a65fbaa0e6f7ea", func := "loop.example/g01078/laws.FnExactIsSolution", spec := "fnExactIsSolution", apart := false, narrowed := true }
def FnExactIsSolutionUptoSaid : Prop := fnExactIsSolutionUptoRow.holds Try.pinned (OpenSpec.upto fnExactIsSolutionSpec)

/-- 'laws.FnExactFirstUnsatisfied', WHERE WHAT IT READS IS OF BULK AT MOST 1048576: true; the input reads as it did. -/
def fnExactFirstUnsatisfiedUptoRow : OpenClaim := { program := "ytceenhnjdnggjaa", sum := "2a0dd7fc2a799cdf0a945c83b9ddd599c23092e0b435042112a65fbaa0e6f7ea", func := "loop.example/g01078/laws.FnExactFirstUnsatisfied", spec := "fnExactFirstUnsatisfied", apart := false, narrowed := true }
def FnExactFirstUnsatisfiedUptoSaid : Prop := fnExactFirstUnsatisfiedUptoRow.holds Try.pinned (OpenSpec.upto fnExactFirstUnsatisfiedSpec)

/-- 'laws.FnExactSolveTogether', WHERE WHAT IT READS IS OF BULK AT MOST 1048576: true; the input reads as it did. -/
def fnExactSolveTogetherUptoRow : OpenClaim := { program := "ytceenhnjdnggjaa", sum := "2a0dd7fc2a799cdf0a945c83b9ddd599c23092e0b435042112a65fbaa0e6f7ea", func := "loop.example/g01078/laws.FnExactSolveTogether", spec := "fnExactSolveTogether", apart := false, narrowed := true }
def FnExactSolveTogetherUptoSaid : Prop := fnExactSolveTogetherUptoRow.holds Try.pinned (OpenSpec.upto fnExactSolveTogetherSpec)

/-- 'laws.FnDiscriminators', WHERE WHAT IT READS IS OF BULK AT MOST 1048576: true; the input reads as it did. -/
def fnDiscriminatorsUptoRow : OpenClaim := { program := "ytceenhnjdnggjaa", sum := "2a0dd7fc2a799cdf0a945c83b9ddd599c23092e0b435042112a65fbaa0e6f7ea", func := "loop.example/g01078/laws.FnDiscriminators", spec := "fnDiscriminators", unfollowed := true, recurses := true, apart := false, narrowed := true }
def FnDiscriminatorsUptoSaid : Prop := fnDiscriminatorsUptoRow.holds Try.pinned (OpenSpec.upto fnDiscriminatorsSpec)

/-- 'laws.FnExactJoinNetworks', WHERE WHAT IT READS IS OF BULK AT MOST 1048576: true; the input reads as it did. -/
def fnExactJoinNetworksUptoRow : OpenClaim := { program := "ytceenhnjdnggjaa", sum := "2a0dd7fc2a799cdf0a945c83b9ddd599c23092e0b435042112a65fbaa0e6f7ea", func := "loop.example/g01078/laws.FnExactJoinNetworks", spec := "fnExactJoinNetworks", apart := false, narrowed := true }
def FnExactJoinNetworksUptoSaid : Prop := fnExactJoinNetworksUptoRow.holds Try.pinned (OpenSpec.upto fnExactJoinNetworksSpec)

/-- 'laws.FnExactFixVariable', WHERE WHAT IT READS IS OF BULK AT MOST 1048576: true; the input reads as it did. -/
def fnExactFixVariableUptoRow : OpenClaim := { program := "ytceenhnjdnggjaa", sum := "2a0dd7fc2a799cdf0a945c83b9ddd599c23092e0b435042112a65fbaa0e6f7ea", func := "loop.example/g01078/laws.FnExactFixVariable", spec := "fnExactFixVariable", apart := false, narrowed := true }
def FnExactFixVariableUptoSaid : Prop := fnExactFixVariableUptoRow.holds Try.pinned (OpenSpec.upto fnExactFixVariableSpec)

/-- 'laws.FnExactCountSolutions', WHERE WHAT IT READS IS OF BULK AT MOST 1048576: true; the input reads as it did. -/
def fnExactCountSolutionsUptoRow : OpenClaim := { program := "ytceenhnjdnggjaa", sum := "2a0dd7fc2a799cdf0a945c83b9ddd599c23092e0b435042112a65fbaa0e6f7ea", func := "loop.example/g01078/laws.FnExactCountSolutions", spec := "fnExactCountSolutions", unfollowed := true, recurses := true, apart := false, narrowed := true }
def FnExactCountSolutionsUptoSaid : Prop := fnExactCountSolutionsUptoRow.holds Try.pinned (OpenSpec.upto fnExactCountSolutionsSpec)

end Rows
end Go.Proofs.Ytceenhnjdnggjaa
