/-
  No cell of these rows narrows 'for every input' (looked for: loops, veiled, ifaces, maps, wideKeys, modest, calm, conditions, laid).
  DERIVED. THE GIVEN ROWS OF THIS SEAT. 5 by the template 'for every input the law returns true; each argument reads behind the call as it read before'; 0 by the template 'total and deterministic' (their statements: YtlfpejnpjpmejaaTotals.lean).
  GIVEN WITH THE SEED: the statements are not yours to turn. If you find one false, say at which input.
  Laid BY PROGRAM, IN A SANDBOX (cutbox-rows.mjs): the forced cells as the released guide's own fill.sh prints them over the translation a26f4811839f6395… (all of the seat's roots in one cut). By AI agents, Wed Nov 11 2026. No macro, syntax, notation, axiom, sorry.
-/
import Derived.Test.YtlfpejnpjpmejaaChecked
import GoSem.Claim
import GoSem.ClaimJoined
import GoSem.ClaimMapViews
import Derived.JoinedTies
import Derived.KernelRfl
namespace Go.Proofs.Ytlfpejnpjpmejaa
/- THE CELL 'sum', in the pinned program and in every row, IS THE sha256 OF THE DUMP (.gsa) THAT YtlfpejnpjpmejaaProg.lean LOADS. Nothing in Lean hashes anything: it is a label: what it is worth is what the hold of that sum in a sandbox is worth. -/
noncomputable def Try.pinned : Pinned := { name := "ytlfpejnpjpmejaa", sum := "a26f4811839f63959e354eec1b9bad55785c1b16f8c3120d44b26a7b055075bd", checked := Try.checked }
namespace Rows
def none {H : Type} : Left H := { results := [], args := [] }

/-- 'laws.FnExactKeepsAllPairs': WHATEVER THE INPUT: true; the input reads as it did. -/
def fnExactKeepsAllPairsSpec : ChangeSpec := { name := "fnExactKeepsAllPairs", fn := fun _ => fun
  | [d1, d2] => { results := [.lit (.bool true)], args := [d1, d2] }
  | _ => none }
def fnExactKeepsAllPairsRow : OpenClaim := { program := "ytlfpejnpjpmejaa", sum := "a26f4811839f63959e354eec1b9bad55785c1b16f8c3120d44b26a7b055075bd", func := "loop.example/g01078/laws.FnExactKeepsAllPairs", spec := "fnExactKeepsAllPairs", inPlace := ["internal/reflectlite.ValueOf", "internal/reflectlite.Swapper", "(internal/reflectlite.Value).Len"], unfollowed := true, recurses := true, apart := false }
def FnExactKeepsAllPairsSaid : Prop := fnExactKeepsAllPairsRow.holds Try.pinned (OpenSpec.ofChange fnExactKeepsAllPairsSpec)

/-- ITS FALSE NEIGHBOUR: 'it returns false'. Refute it at one input. -/
def fnExactKeepsAllPairsWrong : ChangeSpec := { name := "fnExactKeepsAllPairs", fn := fun _ => fun
  | [d1, d2] => { results := [.lit (.bool false)], args := [d1, d2] }
  | _ => none }
def FnExactKeepsAllPairsWrongFalsely : Prop := fnExactKeepsAllPairsRow.holds Try.pinned (OpenSpec.ofChange fnExactKeepsAllPairsWrong)

/-- 'laws.FnExactArePairsPlain': WHATEVER THE INPUT: true; the input reads as it did. -/
def fnExactArePairsPlainSpec : ChangeSpec := { name := "fnExactArePairsPlain", fn := fun _ => fun
  | [d] => { results := [.lit (.bool true)], args := [d] }
  | _ => none }
def fnExactArePairsPlainRow : OpenClaim := { program := "ytlfpejnpjpmejaa", sum := "a26f4811839f63959e354eec1b9bad55785c1b16f8c3120d44b26a7b055075bd", func := "loop.example/g01078/laws.FnExactArePairsPlain", spec := "fnExactArePairsPlain", inPlace := ["internal/reflectlite.ValueOf", "internal/reflectlite.Swapper", "(internal/reflectlite.Value).Len"], unfollowed := true, recurses := true, apart := false }
def FnExactArePairsPlainSaid : Prop := fnExactArePairsPlainRow.holds Try.pinned (OpenSpec.ofChange fnExactArePairsPlainSpec)

/-- ITS FALSE NEIGHBOUR: 'it returns false'. Refute it at one input. -/
def fnExactArePairsPlainWrong : ChangeSpec := { name := "fnExactArePairsPlain", fn := fun _ => fun
  | [d] => { results := [.lit (.bool false)], args := [d] }
  | _ => none }
def FnExactArePairsPlainWrongFalsely : Prop := fnExactArePairsPlainRow.holds Try.pinned (OpenSpec.ofChange fnExactArePairsPlainWrong)

/-- 'laws.FnExactPairRelations': WHATEVER THE INPUT: true; the input reads as it did. -/
def fnExactPairRelationsSpec : ChangeSpec := { name := "fnExactPairRelations", fn := fun _ => fun
  | [d] => { results := [.lit (.bool true)], args := [d] }
  | _ => none }
def fnExactPairRelationsRow : OpenClaim := { program := "ytlfpejnpjpmejaa", sum := "a26f4811839f63959e354eec1b9bad55785c1b16f8c3120d44b26a7b055075bd", func := "loop.example/g01078/laws.FnExactPairRelations", spec := "fnExactPairRelations", inPlace := ["internal/reflectlite.ValueOf", "internal/reflectlite.Swapper", "(internal/reflectlite.Value).Len"], unfollowed := true, recurses := true, apart := false }
def FnExactPairRelationsSaid : Prop := fnExactPairRelationsRow.holds Try.pinned (OpenSpec.ofChange fnExactPairRelationsSpec)

/-- ITS FALSE NEIGHBOUR: 'it returns false'. Refute it at one input. -/
def fnExactPairRelationsWrong : ChangeSpec := { name := "fnExactPairRelations", fn := fun _ => fun
  | [d] => { results := [.lit (.bool false)], args := [d] }
  | _ => none }
def FnExactPairRelationsWrongFalsely : Prop := fnExactPairRelationsRow.holds Try.pinned (OpenSpec.ofChange fnExactPairRelationsWrong)

/-- 'laws.FnExactInnerIsos': WHATEVER THE INPUT: true; the input reads as it did. -/
def fnExactInnerIsosSpec : ChangeSpec := { name := "fnExactInnerIsos", fn := fun _ => fun
  | [d] => { results := [.lit (.bool true)], args := [d] }
  | _ => none }
def fnExactInnerIsosRow : OpenClaim := { program := "ytlfpejnpjpmejaa", sum := "a26f4811839f63959e354eec1b9bad55785c1b16f8c3120d44b26a7b055075bd", func := "loop.example/g01078/laws.FnExactInnerIsos", spec := "fnExactInnerIsos", inPlace := ["internal/reflectlite.ValueOf", "internal/reflectlite.Swapper", "(internal/reflectlite.Value).Len"], unfollowed := true, recurses := true, apart := false }
def FnExactInnerIsosSaid : Prop := fnExactInnerIsosRow.holds Try.pinned (OpenSpec.ofChange fnExactInnerIsosSpec)

/-- ITS FALSE NEIGHBOUR: 'it returns false'. Refute it at one input. -/
def fnExactInnerIsosWrong : ChangeSpec := { name := "fnExactInnerIsos", fn := fun _ => fun
  | [d] => { results := [.lit (.bool false)], args := [d] }
  | _ => none }
def FnExactInnerIsosWrongFalsely : Prop := fnExactInnerIsosRow.holds Try.pinned (OpenSpec.ofChange fnExactInnerIsosWrong)

/-- 'laws.FnExactFirstPairBroken': WHATEVER THE INPUT: true; the input reads as it did. -/
def fnExactFirstPairBrokenSpec : ChangeSpec := { name := "fnExactFirstPairBroken", fn := fun _ => fun
  | [d1, d2] => { results := [.lit (.bool true)], args := [d1, d2] }
  | _ => none }
def fnExactFirstPairBrokenRow : OpenClaim := { program := "ytlfpejnpjpmejaa", sum := "a26f4811839f63959e354eec1b9bad55785c1b16f8c3120d44b26a7b055075bd", func := "loop.example/g01078/laws.FnExactFirstPairBroken", spec := "fnExactFirstPairBroken", inPlace := ["internal/reflectlite.ValueOf", "internal/reflectlite.Swapper", "(internal/reflectlite.Value).Len"], unfollowed := true, recurses := true, apart := false }
def FnExactFirstPairBrokenSaid : Prop := fnExactFirstPairBrokenRow.holds Try.pinned (OpenSpec.ofChange fnExactFirstPairBrokenSpec)

/-- ITS FALSE NEIGHBOUR: 'it returns false'. Refute it at one input. -/
def fnExactFirstPairBrokenWrong : ChangeSpec := { name := "fnExactFirstPairBroken", fn := fun _ => fun
  | [d1, d2] => { results := [.lit (.bool false)], args := [d1, d2] }
  | _ => none }
def FnExactFirstPairBrokenWrongFalsely : Prop := fnExactFirstPairBrokenRow.holds Try.pinned (OpenSpec.ofChange fnExactFirstPairBrokenWrong)

/- THE SECOND FORM. 'bulk': how many values and letters a reading holds, each counted each time it is reached (what is shared counts as often as it is met; a slice's spare places count too). A statement '..UptoSaid' is the law's where the arguments, and the package variables that the reading takes, are together of bulk at most 1048576: NARROWER than '..Said'. Prove '..Said' where nothing that the law and all that it calls make is longer than what came in: it says more and counts as full. Else prove '..UptoSaid'. A law counts once. -/
mutual
def uptoBulk {H : Type} : DataW H → Nat
  | .lit (.string bytes) => bytes.length + 1
  | .lit _ => 1
  | .nil => 1
  | .ptr d => uptoBulk d + 1
  | .slice elems spare => uptoBulkAll elems + uptoBulkAll spare + 1
  | .agg parts => uptoBulkAll parts + 1
  | .iface _ d => uptoBulk d + 1
  | .map entries => uptoBulkEntries entries + 1
  | .held _ => 1
def uptoBulkAll {H : Type} : List (DataW H) → Nat
  | [] => 0
  | d :: r => uptoBulk d + uptoBulkAll r
def uptoBulkEntries {H : Type} : List (Lit × DataW H) → Nat
  | [] => 0
  | x :: r => uptoBulkEntry x + uptoBulkEntries r
def uptoBulkEntry {H : Type} : Lit × DataW H → Nat
  | (.string bytes, d) => bytes.length + uptoBulk d + 1
  | (_, d) => uptoBulk d + 1
 end
def uptoSmall : (H : Type) → List (DataW H) → Bool := fun _ ds => decide (uptoBulkAll ds ≤ 1048576)
def OpenSpec.upto (s : _root_.Go.ChangeSpec) : _root_.Go.OpenSpec := { _root_.Go.OpenSpec.ofChange s with cond := some uptoSmall }

/-- 'laws.FnExactKeepsAllPairs', WHERE WHAT IT READS IS OF BULK AT MOST 1048576: true; the input reads as it did. -/
def fnExactKeepsAllPairsUptoRow : OpenClaim := { program := "ytlfpejnpjpmejaa", sum := "a26f4811839f63959e354eec1b9bad55785c1b16f8c3120d44b26a7b055075bd", func := "loop.example/g01078/laws.FnExactKeepsAllPairs", spec := "fnExactKeepsAllPairs", inPlace := ["internal/reflectlite.ValueOf", "internal/reflectlite.Swapper", "(internal/reflectlite.Value).Len"], unfollowed := true, recurses := true, apart := false, narrowed := true }
def FnExactKeepsAllPairsUptoSaid : Prop := fnExactKeepsAllPairsUptoRow.holds Try.pinned (OpenSpec.upto fnExactKeepsAllPairsSpec)

/-- 'laws.FnExactArePairsPlain', WHERE WHAT IT READS IS OF BULK AT MOST 1048576: true; the input reads as it did. -/
def fnExactArePairsPlainUptoRow : OpenClaim := { program := "ytlfpejnpjpmejaa", sum := "a26f4811839f63959e354eec1b9bad55785c1b16f8c3120d44b26a7b055075bd", func := "loop.example/g01078/laws.FnExactArePairsPlain", spec := "fnExactArePairsPlain", inPlace := ["internal/reflectlite.ValueOf", "internal/reflectlite.Swapper", "(internal/reflectlite.Value).Len"], unfollowed := true, recurses := true, apart := false, narrowed := true }
def FnExactArePairsPlainUptoSaid : Prop := fnExactArePairsPlainUptoRow.holds Try.pinned (OpenSpec.upto fnExactArePairsPlainSpec)

/-- 'laws.FnExactPairRelations', WHERE WHAT IT READS IS OF BULK AT MOST 1048576: true; the input reads as it did. -/
def fnExactPairRelationsUptoRow : OpenClaim := { program := "ytlfpejnpjpmejaa", sum := "a26f4811839f63959e354eec1b9bad55785c1b16f8c3120d44b26a7b055075bd", func := "loop.example/g01078/laws.FnExactPairRelations", spec := "fnExactPairRelations", inPlace := ["internal/reflectlite.ValueOf", "internal/reflectlite.Swapper", "(internal/reflectlite.Value).Len"], unfollowed := true, recurses := true, apart := false, narrowed := true }
def FnExactPairRelationsUptoSaid : Prop := fnExactPairRelationsUptoRow.holds Try.pinned (OpenSpec.upto fnExactPairRelationsSpec)

/-- 'laws.FnExactInnerIsos', WHERE WHAT IT READS IS OF BULK AT MOST 1048576: true; the input reads as it did. -/
def fnExactInnerIsosUptoRow : OpenClaim := { program := "ytlfpejnpjpmejaa", sum := "a26f4811839f63959e354eec1b9bad55785c1b16f8c3120d44b26a7b055075bd", func := "loop.example/g01078/laws.FnExactInnerIsos", spec := "fnExactInnerIsos", inPlace := ["internal/reflectlite.ValueOf", "internal/reflectlite.Swapper", "(internal/reflectlite.Value).Len"], unfollowed := true, recurses := true, apart := false, narrowed := true }
def FnExactInnerIsosUptoSaid : Prop := fnExactInnerIsosUptoRow.holds Try.pinned (OpenSpec.upto fnExactInnerIsosSpec)

/-- 'laws.FnExactFirstPairBroken', WHERE WHAT IT READS IS OF BULK AT MOST 1048576: true; the input reads as it did. -/
def fnExactFirstPairBrokenUptoRow : OpenClaim := { program := "ytlfpejnpjpmejaa", sum := "a26f4811839f63959e354eec1b9bad55785c1b16f8c3120d44b26a7b055075bd", func := "loop.example/g01078/laws.FnExactFirstPairBroken", spec := "fnExactFirstPairBroken", inPlace := ["internal/reflectlite.ValueOf", "internal/reflectlite.Swapper", "(internal/reflectlite.Value).Len"], unfollowed := true, recurses := true, apart := false, narrowed := true }
def FnExactFirstPairBrokenUptoSaid : Prop := fnExactFirstPairBrokenUptoRow.holds Try.pinned (OpenSpec.upto fnExactFirstPairBrokenSpec)

end Rows
end Go.Proofs.Ytlfpejnpjpmejaa
