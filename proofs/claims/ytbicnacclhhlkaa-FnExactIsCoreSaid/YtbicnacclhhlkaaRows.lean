/-
  No cell of these rows narrows 'for every input' (looked for: loops, veiled, ifaces, maps, wideKeys, modest, calm, conditions, laid).
  DERIVED. THE GIVEN ROWS OF THIS SEAT. 8 by the template 'for every input the law returns true; each argument reads behind the call as it read before'; 0 by the template 'total and deterministic' (their statements: YtbicnacclhhlkaaTotals.lean).
  GIVEN WITH THE SEED: the statements are not yours to turn. If you find one false, say at which input.
  Laid BY PROGRAM, IN A SANDBOX (cutbox-rows.mjs): the forced cells as the released guide's own fill.sh prints them over the translation 5ed399b2bc08ff8e… (all of the seat's roots in one cut). By AI agents, Wed Nov 11 2026. No macro, syntax, notation, axiom, sorry.
-/
import Derived.Test.YtbicnacclhhlkaaChecked
import GoSem.Claim
import GoSem.ClaimJoined
import GoSem.ClaimMapViews
import Derived.JoinedTies
import Derived.KernelRfl
namespace Go.Proofs.Ytbicnacclhhlkaa
/- THE CELL 'sum', in the pinned program and in every row, IS THE sha256 OF THE DUMP (.gsa) THAT YtbicnacclhhlkaaProg.lean LOADS. Nothing in Lean hashes anything: it is a label: what it is worth is what the hold of that sum in a sandbox is worth. -/
noncomputable def Try.pinned : Pinned := { name := "ytbicnacclhhlkaa", sum := "5ed399b2bc08ff8e30583dcf39e3911d8319fb63b37c8167d41249fae865192f", checked := Try.checked }
namespace Rows
def none {H : Type} : Left H := { results := [], args := [] }

/-- 'laws.FnExactCountSolutions': WHATEVER THE INPUT: true; the input reads as it did. -/
def fnExactCountSolutionsSpec : ChangeSpec := { name := "fnExactCountSolutions", fn := fun _ => fun
  | [d] => { results := [.lit (.bool true)], args := [d] }
  | _ => none }
def fnExactCountSolutionsRow : OpenClaim := { program := "ytbicnacclhhlkaa", sum := "5ed399b2bc08ff8e30583dcf39e3911d8319fb63b37c8167d41249fae865192f", func := "loop.example/g01078/laws.FnExactCountSolutions", spec := "fnExactCountSolutions", unfollowed := true, recurses := true, apart := false }
def FnExactCountSolutionsSaid : Prop := fnExactCountSolutionsRow.holds Try.pinned (OpenSpec.ofChange fnExactCountSolutionsSpec)

/-- ITS FALSE NEIGHBOUR: 'it returns false'. Refute it at one input. -/
def fnExactCountSolutionsWrong : ChangeSpec := { name := "fnExactCountSolutions", fn := fun _ => fun
  | [d] => { results := [.lit (.bool false)], args := [d] }
  | _ => none }
def FnExactCountSolutionsWrongFalsely : Prop := fnExactCountSolutionsRow.holds Try.pinned (OpenSpec.ofChange fnExactCountSolutionsWrong)

/-- 'laws.FnExactCountPolymorphisms': WHATEVER THE INPUT: true; the input reads as it did. -/
def fnExactCountPolymorphismsSpec : ChangeSpec := { name := "fnExactCountPolymorphisms", fn := fun _ => fun
  | [d1, d2, d3] => { results := [.lit (.bool true)], args := [d1, d2, d3] }
  | _ => none }
def fnExactCountPolymorphismsRow : OpenClaim := { program := "ytbicnacclhhlkaa", sum := "5ed399b2bc08ff8e30583dcf39e3911d8319fb63b37c8167d41249fae865192f", func := "loop.example/g01078/laws.FnExactCountPolymorphisms", spec := "fnExactCountPolymorphisms", unfollowed := true, recurses := true, apart := false }
def FnExactCountPolymorphismsSaid : Prop := fnExactCountPolymorphismsRow.holds Try.pinned (OpenSpec.ofChange fnExactCountPolymorphismsSpec)

/-- ITS FALSE NEIGHBOUR: 'it returns false'. Refute it at one input. -/
def fnExactCountPolymorphismsWrong : ChangeSpec := { name := "fnExactCountPolymorphisms", fn := fun _ => fun
  | [d1, d2, d3] => { results := [.lit (.bool false)], args := [d1, d2, d3] }
  | _ => none }
def FnExactCountPolymorphismsWrongFalsely : Prop := fnExactCountPolymorphismsRow.holds Try.pinned (OpenSpec.ofChange fnExactCountPolymorphismsWrong)

/-- 'laws.FnExactIsConflict': WHATEVER THE INPUT: true; the input reads as it did. -/
def fnExactIsConflictSpec : ChangeSpec := { name := "fnExactIsConflict", fn := fun _ => fun
  | [d1, d2] => { results := [.lit (.bool true)], args := [d1, d2] }
  | _ => none }
def fnExactIsConflictRow : OpenClaim := { program := "ytbicnacclhhlkaa", sum := "5ed399b2bc08ff8e30583dcf39e3911d8319fb63b37c8167d41249fae865192f", func := "loop.example/g01078/laws.FnExactIsConflict", spec := "fnExactIsConflict", unfollowed := true, recurses := true, apart := false }
def FnExactIsConflictSaid : Prop := fnExactIsConflictRow.holds Try.pinned (OpenSpec.ofChange fnExactIsConflictSpec)

/-- ITS FALSE NEIGHBOUR: 'it returns false'. Refute it at one input. -/
def fnExactIsConflictWrong : ChangeSpec := { name := "fnExactIsConflict", fn := fun _ => fun
  | [d1, d2] => { results := [.lit (.bool false)], args := [d1, d2] }
  | _ => none }
def FnExactIsConflictWrongFalsely : Prop := fnExactIsConflictRow.holds Try.pinned (OpenSpec.ofChange fnExactIsConflictWrong)

/-- 'laws.FnExactIsImplied': WHATEVER THE INPUT: true; the input reads as it did. -/
def fnExactIsImpliedSpec : ChangeSpec := { name := "fnExactIsImplied", fn := fun _ => fun
  | [d1, d2] => { results := [.lit (.bool true)], args := [d1, d2] }
  | _ => none }
def fnExactIsImpliedRow : OpenClaim := { program := "ytbicnacclhhlkaa", sum := "5ed399b2bc08ff8e30583dcf39e3911d8319fb63b37c8167d41249fae865192f", func := "loop.example/g01078/laws.FnExactIsImplied", spec := "fnExactIsImplied", unfollowed := true, recurses := true, apart := false }
def FnExactIsImpliedSaid : Prop := fnExactIsImpliedRow.holds Try.pinned (OpenSpec.ofChange fnExactIsImpliedSpec)

/-- ITS FALSE NEIGHBOUR: 'it returns false'. Refute it at one input. -/
def fnExactIsImpliedWrong : ChangeSpec := { name := "fnExactIsImplied", fn := fun _ => fun
  | [d1, d2] => { results := [.lit (.bool false)], args := [d1, d2] }
  | _ => none }
def FnExactIsImpliedWrongFalsely : Prop := fnExactIsImpliedRow.holds Try.pinned (OpenSpec.ofChange fnExactIsImpliedWrong)

/-- 'laws.FnExactFirstSolution': WHATEVER THE INPUT: true; the input reads as it did. -/
def fnExactFirstSolutionSpec : ChangeSpec := { name := "fnExactFirstSolution", fn := fun _ => fun
  | [d1, d2] => { results := [.lit (.bool true)], args := [d1, d2] }
  | _ => none }
def fnExactFirstSolutionRow : OpenClaim := { program := "ytbicnacclhhlkaa", sum := "5ed399b2bc08ff8e30583dcf39e3911d8319fb63b37c8167d41249fae865192f", func := "loop.example/g01078/laws.FnExactFirstSolution", spec := "fnExactFirstSolution", unfollowed := true, recurses := true, apart := false }
def FnExactFirstSolutionSaid : Prop := fnExactFirstSolutionRow.holds Try.pinned (OpenSpec.ofChange fnExactFirstSolutionSpec)

/-- ITS FALSE NEIGHBOUR: 'it returns false'. Refute it at one input. -/
def fnExactFirstSolutionWrong : ChangeSpec := { name := "fnExactFirstSolution", fn := fun _ => fun
  | [d1, d2] => { results := [.lit (.bool false)], args := [d1, d2] }
  | _ => none }
def FnExactFirstSolutionWrongFalsely : Prop := fnExactFirstSolutionRow.holds Try.pinned (OpenSpec.ofChange fnExactFirstSolutionWrong)

/-- 'laws.FnExactAllSolutions': WHATEVER THE INPUT: true; the input reads as it did. -/
def fnExactAllSolutionsSpec : ChangeSpec := { name := "fnExactAllSolutions", fn := fun _ => fun
  | [d] => { results := [.lit (.bool true)], args := [d] }
  | _ => none }
def fnExactAllSolutionsRow : OpenClaim := { program := "ytbicnacclhhlkaa", sum := "5ed399b2bc08ff8e30583dcf39e3911d8319fb63b37c8167d41249fae865192f", func := "loop.example/g01078/laws.FnExactAllSolutions", spec := "fnExactAllSolutions", unfollowed := true, recurses := true, apart := false }
def FnExactAllSolutionsSaid : Prop := fnExactAllSolutionsRow.holds Try.pinned (OpenSpec.ofChange fnExactAllSolutionsSpec)

/-- ITS FALSE NEIGHBOUR: 'it returns false'. Refute it at one input. -/
def fnExactAllSolutionsWrong : ChangeSpec := { name := "fnExactAllSolutions", fn := fun _ => fun
  | [d] => { results := [.lit (.bool false)], args := [d] }
  | _ => none }
def FnExactAllSolutionsWrongFalsely : Prop := fnExactAllSolutionsRow.holds Try.pinned (OpenSpec.ofChange fnExactAllSolutionsWrong)

/-- 'laws.FnExactNetworkOfPolymorphisms': WHATEVER THE INPUT: true; the input reads as it did. -/
def fnExactNetworkOfPolymorphismsSpec : ChangeSpec := { name := "fnExactNetworkOfPolymorphisms", fn := fun _ => fun
  | [d1, d2, d3] => { results := [.lit (.bool true)], args := [d1, d2, d3] }
  | _ => none }
def fnExactNetworkOfPolymorphismsRow : OpenClaim := { program := "ytbicnacclhhlkaa", sum := "5ed399b2bc08ff8e30583dcf39e3911d8319fb63b37c8167d41249fae865192f", func := "loop.example/g01078/laws.FnExactNetworkOfPolymorphisms", spec := "fnExactNetworkOfPolymorphisms", apart := false }
def FnExactNetworkOfPolymorphismsSaid : Prop := fnExactNetworkOfPolymorphismsRow.holds Try.pinned (OpenSpec.ofChange fnExactNetworkOfPolymorphismsSpec)

/-- ITS FALSE NEIGHBOUR: 'it returns false'. Refute it at one input. -/
def fnExactNetworkOfPolymorphismsWrong : ChangeSpec := { name := "fnExactNetworkOfPolymorphisms", fn := fun _ => fun
  | [d1, d2, d3] => { results := [.lit (.bool false)], args := [d1, d2, d3] }
  | _ => none }
def FnExactNetworkOfPolymorphismsWrongFalsely : Prop := fnExactNetworkOfPolymorphismsRow.holds Try.pinned (OpenSpec.ofChange fnExactNetworkOfPolymorphismsWrong)

/-- 'laws.FnExactIsCore': WHATEVER THE INPUT: true; the input reads as it did. -/
def fnExactIsCoreSpec : ChangeSpec := { name := "fnExactIsCore", fn := fun _ => fun
  | [d1, d2] => { results := [.lit (.bool true)], args := [d1, d2] }
  | _ => none }
def fnExactIsCoreRow : OpenClaim := { program := "ytbicnacclhhlkaa", sum := "5ed399b2bc08ff8e30583dcf39e3911d8319fb63b37c8167d41249fae865192f", func := "loop.example/g01078/laws.FnExactIsCore", spec := "fnExactIsCore", unfollowed := true, recurses := true, apart := false }
def FnExactIsCoreSaid : Prop := fnExactIsCoreRow.holds Try.pinned (OpenSpec.ofChange fnExactIsCoreSpec)

/-- ITS FALSE NEIGHBOUR: 'it returns false'. Refute it at one input. -/
def fnExactIsCoreWrong : ChangeSpec := { name := "fnExactIsCore", fn := fun _ => fun
  | [d1, d2] => { results := [.lit (.bool false)], args := [d1, d2] }
  | _ => none }
def FnExactIsCoreWrongFalsely : Prop := fnExactIsCoreRow.holds Try.pinned (OpenSpec.ofChange fnExactIsCoreWrong)

/- THE SECOND FORM. 'bulk': how many values and letters a reading holds, each counted each time it is reached (what is shared counts as often as it is met; a slice's spare places count too). A statement '..UptoSaid' is the law's where the arguments, and the package variables that the reading takes, are together of bulk at most 1048576: NARROWER than '..Said'. Prove '..Said' where nothing that the law and all that it calls make is longer than what came in: it says more and counts as full. Else prove '..UptoSaid'. A law counts once. -/
mutual
def uptoBulk {H : Type} : DataW H → Nat
  | .lit (.string bytes) => bytes.length + 1
  | .lit _ => 1
  | .nil => 1
  | .ptr d => uptoBulk d + 1
  | .slice elems spare => uptoBulkAll elems + uptoBulkAll spare + 1
  | .agg parts => uptoBulkAll parts + 1
  | .iface _ d => uptoBulk d + 1
  | .map entries => uptoBulkEntries entries + 1
  | .held _ => 1
def uptoBulkAll {H : Type} : List (DataW H) → Nat
  | [] => 0
  | d :: r => uptoBulk d + uptoBulkAll r
def uptoBulkEntries {H : Type} : List (Lit × DataW H) → Nat
  | [] => 0
  | x :: r => uptoBulkEntry x + uptoBulkEntries r
def uptoBulkEntry {H : Type} : Lit × DataW H → Nat
  | (.string bytes, d) => bytes.length + uptoBulk d + 1
  | (_, d) => uptoBulk d + 1
 end
def uptoSmall : (H : Type) → List (DataW H) → Bool := fun _ ds => decide (uptoBulkAll ds ≤ 1048576)
def OpenSpec.upto (s : _root_.Go.ChangeSpec) : _root_.Go.OpenSpec := { _root_.Go.OpenSpec.ofChange s with cond := some uptoSmall }

/-- 'laws.FnExactCountSolutions', WHERE WHAT IT READS IS OF BULK AT MOST 1048576: true; the input reads as it did. -/
def fnExactCountSolutionsUptoRow : OpenClaim := { program := "ytbicnacclhhlkaa", sum := "5ed399b2bc08ff8e30583dcf39e3911d8319fb63b37c8167d41249fae865192f", func := "loop.example/g01078/laws.FnExactCountSolutions", spec := "fnExactCountSolutions", unfollowed := true, recurses := true, apart := false, narrowed := true }
def FnExactCountSolutionsUptoSaid : Prop := fnExactCountSolutionsUptoRow.holds Try.pinned (OpenSpec.upto fnExactCountSolutionsSpec)

/-- 'laws.FnExactCountPolymorphisms', WHERE WHAT IT READS IS OF BULK AT MOST 1048576: true; the input reads as it did. -/
def fnExactCountPolymorphismsUptoRow : OpenClaim := { program := "ytbicnacclhhlkaa", sum := "5ed399b2bc08ff8e30583dcf39e3911d8319fb63b37c8167d41249fae865192f", func := "loop.example/g01078/laws.FnExactCountPolymorphisms", spec := "fnExactCountPolymorphisms", unfollowed := true, recurses := true, apart := false, narrowed := true }
def FnExactCountPolymorphismsUptoSaid : Prop := fnExactCountPolymorphismsUptoRow.holds Try.pinned (OpenSpec.upto fnExactCountPolymorphismsSpec)

/-- 'laws.FnExactIsConflict', WHERE WHAT IT READS IS OF BULK AT MOST 1048576: true; the input reads as it did. -/
def fnExactIsConflictUptoRow : OpenClaim := { program := "ytbicnacclhhlkaa", sum := "5ed399b2bc08ff8e30583dcf39e3911d8319fb63b37c8167d41249fae865192f", func := "loop.example/g01078/laws.FnExactIsConflict", spec := "fnExactIsConflict", unfollowed := true, recurses := true, apart := false, narrowed := true }
def FnExactIsConflictUptoSaid : Prop := fnExactIsConflictUptoRow.holds Try.pinned (OpenSpec.upto fnExactIsConflictSpec)

/-- 'laws.FnExactIsImplied', WHERE WHAT IT READS IS OF BULK AT MOST 1048576: true; the input reads as it did. -/
def fnExactIsImpliedUptoRow : OpenClaim := { program := "ytbicnacclhhlkaa", sum := "5ed399b2bc08ff8e30583dcf39e3911d8319fb63b37c8167d41249fae865192f", func := "loop.example/g01078/laws.FnExactIsImplied", spec := "fnExactIsImplied", unfollowed := true, recurses := true, apart := false, narrowed := true }
def FnExactIsImpliedUptoSaid : Prop := fnExactIsImpliedUptoRow.holds Try.pinned (OpenSpec.upto fnExactIsImpliedSpec)

/-- 'laws.FnExactFirstSolution', WHERE WHAT IT READS IS OF BULK AT MOST 1048576: true; the input reads as it did. -/
def fnExactFirstSolutionUptoRow : OpenClaim := { program := "ytbicnacclhhlkaa", sum := "5ed399b2bc08ff8e30583dcf39e3911d8319fb63b37c8167d41249fae865192f", func := "loop.example/g01078/laws.FnExactFirstSolution", spec := "fnExactFirstSolution", unfollowed := true, recurses := true, apart := false, narrowed := true }
def FnExactFirstSolutionUptoSaid : Prop := fnExactFirstSolutionUptoRow.holds Try.pinned (OpenSpec.upto fnExactFirstSolutionSpec)

/-- 'laws.FnExactAllSolutions', WHERE WHAT IT READS IS OF BULK AT MOST 1048576: true; the input reads as it did. -/
def fnExactAllSolutionsUptoRow : OpenClaim := { program := "ytbicnacclhhlkaa", sum := "5ed399b2bc08ff8e30583dcf39e3911d8319fb63b37c8167d41249fae865192f", func := "loop.example/g01078/laws.FnExactAllSolutions", spec := "fnExactAllSolutions", unfollowed := true, recurses := true, apart := false, narrowed := true }
def FnExactAllSolutionsUptoSaid : Prop := fnExactAllSolutionsUptoRow.holds Try.pinned (OpenSpec.upto fnExactAllSolutionsSpec)

/-- 'laws.FnExactNetworkOfPolymorphisms', WHERE WHAT IT READS IS OF BULK AT MOST 1048576: true; the input reads as it did. -/
def fnExactNetworkOfPolymorphismsUptoRow : OpenClaim := { program := "ytbicnacclhhlkaa", sum := "5ed399b2bc08ff8e30583dcf39e3911d8319fb63b37c8167d41249fae865192f", func := "loop.example/g01078/laws.FnExactNetworkOfPolymorphisms", spec := "fnExactNetworkOfPolymorphisms", apart := false, narrowed := true }
def FnExactNetworkOfPolymorphismsUptoSaid : Prop := fnExactNetworkOfPolymorphismsUptoRow.holds Try.pinned (OpenSpec.upto fnExactNetworkOfPolymorphismsSpec)

/-- 'laws.FnExactIsCore', WHERE WHAT IT READS IS OF BULK AT MOST 1048576: true; the input reads as it did. -/
def fnExactIsCoreUptoRow : OpenClaim := { program := "ytbicnacclhhlkaa", sum := "5ed399b2bc08ff8e30583dcf39e3911d8319fb63b37c8167d41249fae865192f", func := "loop.example/g01078/laws.FnExactIsCore", spec := "fnExactIsCore", unfollowed := true, recurses := true, apart := false, narrowed := true }
def FnExactIsCoreUptoSaid : Prop := fnExactIsCoreUptoRow.holds Try.pinned (OpenSpec.upto fnExactIsCoreSpec)

end Rows
end Go.Proofs.Ytbicnacclhhlkaa
