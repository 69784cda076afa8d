/-
  No cell of these rows narrows 'for every input' (looked for: loops, veiled, ifaces, maps, wideKeys, modest, calm, conditions, laid).
  DERIVED. THE GIVEN ROWS OF THIS SEAT. 2 by the template 'for every input the law returns true; each argument reads behind the call as it read before'; 0 by the template 'total and deterministic' (their statements: YtdbfekcoaappnaaTotals.lean).
  GIVEN WITH THE SEED: the statements are not yours to turn. If you find one false, say at which input.
  Laid BY PROGRAM, IN A SANDBOX (cutbox-rows.mjs): the forced cells as the released guide's own fill.sh prints them over the translation c7be38325dca164e… (all of the seat's roots in one cut). By AI agents, Wed Nov 11 2026. No macro, syntax, notation, axiom, sorry.
-/
import Derived.Test.YtdbfekcoaappnaaChecked
import GoSem.Claim
import GoSem.ClaimJoined
import GoSem.ClaimMapViews
import Derived.JoinedTies
import Derived.KernelRfl
namespace Go.Proofs.Ytdbfekcoaappnaa
/- THE CELL 'sum', in the pinned program and in every row, IS THE sha256 OF THE DUMP (.gsa) THAT YtdbfekcoaappnaaProg.lean LOADS. Nothing in Lean hashes anything: it is a label: what it is worth is what the hold of that sum in a sandbox is worth. -/
noncomputable def Try.pinned : Pinned := { name := "ytdbfekcoaappnaa", sum := "c7be38325dca164e1ea9fef50191bb01a533b9b152fdf8d99c07d2c154616b4c", checked := Try.checked }
namespace Rows
def none {H : Type} : Left H := { results := [], args := [] }

/-- 'laws.FnDiscriminators': WHATEVER THE INPUT: true; the input reads as it did. -/
def fnDiscriminatorsSpec : ChangeSpec := { name := "fnDiscriminators", fn := fun _ => fun
  | [d] => { results := [.lit (.bool true)], args := [d] }
  | _ => none }
def fnDiscriminatorsRow : OpenClaim := { program := "ytdbfekcoaappnaa", sum := "c7be38325dca164e1ea9fef50191bb01a533b9b152fdf8d99c07d2c154616b4c", func := "loop.example/g01078/laws.FnDiscriminators", spec := "fnDiscriminators", unfollowed := true, recurses := true, apart := false }
def FnDiscriminatorsSaid : Prop := fnDiscriminatorsRow.holds Try.pinned (OpenSpec.ofChange fnDiscriminatorsSpec)

/-- ITS FALSE NEIGHBOUR: 'it returns false'. Refute it at one input. -/
def fnDiscriminatorsWrong : ChangeSpec := { name := "fnDiscriminators", fn := fun _ => fun
  | [d] => { results := [.lit (.bool false)], args := [d] }
  | _ => none }
def FnDiscriminatorsWrongFalsely : Prop := fnDiscriminatorsRow.holds Try.pinned (OpenSpec.ofChange fnDiscriminatorsWrong)

/-- 'laws.FnPermuting': WHATEVER THE INPUT: true; the input reads as it did. -/
def fnPermutingSpec : ChangeSpec := { name := "fnPermuting", fn := fun _ => fun
  | [d] => { results := [.lit (.bool true)], args := [d] }
  | _ => none }
def fnPermutingRow : OpenClaim := { program := "ytdbfekcoaappnaa", sum := "c7be38325dca164e1ea9fef50191bb01a533b9b152fdf8d99c07d2c154616b4c", func := "loop.example/g01078/laws.FnPermuting", spec := "fnPermuting", inPlace := ["internal/reflectlite.ValueOf", "internal/reflectlite.Swapper", "(internal/reflectlite.Value).Len"], unfollowed := true, recurses := true, apart := false }
def FnPermutingSaid : Prop := fnPermutingRow.holds Try.pinned (OpenSpec.ofChange fnPermutingSpec)

/-- ITS FALSE NEIGHBOUR: 'it returns false'. Refute it at one input. -/
def fnPermutingWrong : ChangeSpec := { name := "fnPermuting", fn := fun _ => fun
  | [d] => { results := [.lit (.bool false)], args := [d] }
  | _ => none }
def FnPermutingWrongFalsely : Prop := fnPermutingRow.holds Try.pinned (OpenSpec.ofChange fnPermutingWrong)

/- THE SECOND FORM. 'bulk': how many values and letters a reading holds, each counted each time it is reached (what is shared counts as often as it is met; a slice's spare places count too). A statement '..UptoSaid' is the law's where the arguments, and the package variables that the reading takes, are together of bulk at most 1048576: NARROWER than '..Said'. Prove '..Said' where nothing that the law and all that it calls make is longer than what came in: it says more and counts as full. Else prove '..UptoSaid'. A law counts once. -/
mutual
def uptoBulk {H : Type} : DataW H → Nat
  | .lit (.string bytes) => bytes.length + 1
  | .lit _ => 1
  | .nil => 1
  | .ptr d => uptoBulk d + 1
  | .slice elems spare => uptoBulkAll elems + uptoBulkAll spare + 1
  | .agg parts => uptoBulkAll parts + 1
  | .iface _ d => uptoBulk d + 1
  | .map entries => uptoBulkEntries entries + 1
  | .held _ => 1
def uptoBulkAll {H : Type} : List (DataW H) → Nat
  | [] => 0
  | d :: r => uptoBulk d + uptoBulkAll r
def uptoBulkEntries {H : Type} : List (Lit × DataW H) → Nat
  | [] => 0
  | x :: r => uptoBulkEntry x + uptoBulkEntries r
def uptoBulkEntry {H : Type} : Lit × DataW H → Nat
  | (.string bytes, d) => bytes.length + uptoBulk d + 1
  | (_, d) => uptoBulk d + 1
 end
def uptoSmall : (H : Type) → List (DataW H) → Bool := fun _ ds => decide (uptoBulkAll ds ≤ 1048576)
def OpenSpec.upto (s : _root_.Go.ChangeSpec) : _root_.Go.OpenSpec := { _root_.Go.OpenSpec.ofChange s with cond := some uptoSmall }

/-- 'laws.FnDiscriminators', WHERE WHAT IT READS IS OF BULK AT MOST 1048576: true; the input reads as it did. -/
def fnDiscriminatorsUptoRow : OpenClaim := { program := "ytdbfekcoaappnaa", sum := "c7be38325dca164e1ea9fef50191bb01a533b9b152fdf8d99c07d2c154616b4c", func := "loop.example/g01078/laws.FnDiscriminators", spec := "fnDiscriminators", unfollowed := true, recurses := true, apart := false, narrowed := true }
def FnDiscriminatorsUptoSaid : Prop := fnDiscriminatorsUptoRow.holds Try.pinned (OpenSpec.upto fnDiscriminatorsSpec)

/-- 'laws.FnPermuting', WHERE WHAT IT READS IS OF BULK AT MOST 1048576: true; the input reads as it did. -/
def fnPermutingUptoRow : OpenClaim := { program := "ytdbfekcoaappnaa", sum := "c7be38325dca164e1ea9fef50191bb01a533b9b152fdf8d99c07d2c154616b4c", func := "loop.example/g01078/laws.FnPermuting", spec := "fnPermuting", inPlace := ["internal/reflectlite.ValueOf", "internal/reflectlite.Swapper", "(internal/reflectlite.Value).Len"], unfollowed := true, recurses := true, apart := false, narrowed := true }
def FnPermutingUptoSaid : Prop := fnPermutingUptoRow.holds Try.pinned (OpenSpec.upto fnPermutingSpec)

end Rows
end Go.Proofs.Ytdbfekcoaappnaa
