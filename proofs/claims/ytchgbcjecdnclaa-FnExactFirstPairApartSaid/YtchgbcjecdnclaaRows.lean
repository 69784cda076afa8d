/-
  No cell of these rows narrows 'for every input' (looked for: loops, veiled, ifaces, maps, wideKeys, modest, calm, conditions, laid).
  DERIVED. THE GIVEN ROWS OF THIS SEAT. 10 by the template 'for every input the law returns true; each argument reads behind the call as it read before'; 0 by the template 'total and deterministic' (their statements: YtchgbcjecdnclaaTotals.lean).
  GIVEN WITH THE SEED: the statements are not yours to turn. If you find one false, say at which input.
  Laid BY PROGRAM, IN A SANDBOX (cutbox-rows.mjs): the forced cells as the released guide's own fill.sh prints them over the translation 906177d151cf26fc… (all of the seat's roots in one cut). By AI agents, Wed Nov 11 2026. No macro, syntax, notation, axiom, sorry.
-/
import Derived.Test.YtchgbcjecdnclaaChecked
import GoSem.Claim
import GoSem.ClaimJoined
import GoSem.ClaimMapViews
import Derived.JoinedTies
import Derived.KernelRfl
namespace Go.Proofs.Ytchgbcjecdnclaa
/- THE CELL 'sum', in the pinned program and in every row, IS THE sha256 OF THE DUMP (.gsa) THAT YtchgbcjecdnclaaProg.lean LOADS. Nothing in Lean hashes anything: it is a label: what it is worth is what the hold of that sum in a sandbox is worth. -/
noncomputable def Try.pinned : Pinned := { name := "ytchgbcjecdnclaa", sum := "906177d151cf26fc28da02f0b785ac5842c1cf786eb0f03ca23b44d90469597a", checked := Try.checked }
namespace Rows
def none {H : Type} : Left H := { results := [], args := [] }

/-- 'laws.FnExactFactorsToJoin': WHATEVER THE INPUT: true; the input reads as it did. -/
def fnExactFactorsToJoinSpec : ChangeSpec := { name := "fnExactFactorsToJoin", fn := fun _ => fun
  | [d1, d2, d3] => { results := [.lit (.bool true)], args := [d1, d2, d3] }
  | _ => none }
def fnExactFactorsToJoinRow : OpenClaim := { program := "ytchgbcjecdnclaa", sum := "906177d151cf26fc28da02f0b785ac5842c1cf786eb0f03ca23b44d90469597a", func := "loop.example/g01078/laws.FnExactFactorsToJoin", spec := "fnExactFactorsToJoin", inPlace := ["internal/reflectlite.ValueOf", "internal/reflectlite.Swapper", "(internal/reflectlite.Value).Len"], unfollowed := true, recurses := true, apart := false }
def FnExactFactorsToJoinSaid : Prop := fnExactFactorsToJoinRow.holds Try.pinned (OpenSpec.ofChange fnExactFactorsToJoinSpec)

/-- ITS FALSE NEIGHBOUR: 'it returns false'. Refute it at one input. -/
def fnExactFactorsToJoinWrong : ChangeSpec := { name := "fnExactFactorsToJoin", fn := fun _ => fun
  | [d1, d2, d3] => { results := [.lit (.bool false)], args := [d1, d2, d3] }
  | _ => none }
def FnExactFactorsToJoinWrongFalsely : Prop := fnExactFactorsToJoinRow.holds Try.pinned (OpenSpec.ofChange fnExactFactorsToJoinWrong)

/-- 'laws.FnExactCongruenceHeight': WHATEVER THE INPUT: true; the input reads as it did. -/
def fnExactCongruenceHeightSpec : ChangeSpec := { name := "fnExactCongruenceHeight", fn := fun _ => fun
  | [d] => { results := [.lit (.bool true)], args := [d] }
  | _ => none }
def fnExactCongruenceHeightRow : OpenClaim := { program := "ytchgbcjecdnclaa", sum := "906177d151cf26fc28da02f0b785ac5842c1cf786eb0f03ca23b44d90469597a", func := "loop.example/g01078/laws.FnExactCongruenceHeight", spec := "fnExactCongruenceHeight", inPlace := ["internal/reflectlite.ValueOf", "internal/reflectlite.Swapper", "(internal/reflectlite.Value).Len"], unfollowed := true, recurses := true, apart := false }
def FnExactCongruenceHeightSaid : Prop := fnExactCongruenceHeightRow.holds Try.pinned (OpenSpec.ofChange fnExactCongruenceHeightSpec)

/-- ITS FALSE NEIGHBOUR: 'it returns false'. Refute it at one input. -/
def fnExactCongruenceHeightWrong : ChangeSpec := { name := "fnExactCongruenceHeight", fn := fun _ => fun
  | [d] => { results := [.lit (.bool false)], args := [d] }
  | _ => none }
def FnExactCongruenceHeightWrongFalsely : Prop := fnExactCongruenceHeightRow.holds Try.pinned (OpenSpec.ofChange fnExactCongruenceHeightWrong)

/-- 'laws.FnExactAreDistributive': WHATEVER THE INPUT: true; the input reads as it did. -/
def fnExactAreDistributiveSpec : ChangeSpec := { name := "fnExactAreDistributive", fn := fun _ => fun
  | [d] => { results := [.lit (.bool true)], args := [d] }
  | _ => none }
def fnExactAreDistributiveRow : OpenClaim := { program := "ytchgbcjecdnclaa", sum := "906177d151cf26fc28da02f0b785ac5842c1cf786eb0f03ca23b44d90469597a", func := "loop.example/g01078/laws.FnExactAreDistributive", spec := "fnExactAreDistributive", inPlace := ["internal/reflectlite.ValueOf", "internal/reflectlite.Swapper", "(internal/reflectlite.Value).Len"], unfollowed := true, recurses := true, apart := false }
def FnExactAreDistributiveSaid : Prop := fnExactAreDistributiveRow.holds Try.pinned (OpenSpec.ofChange fnExactAreDistributiveSpec)

/-- ITS FALSE NEIGHBOUR: 'it returns false'. Refute it at one input. -/
def fnExactAreDistributiveWrong : ChangeSpec := { name := "fnExactAreDistributive", fn := fun _ => fun
  | [d] => { results := [.lit (.bool false)], args := [d] }
  | _ => none }
def FnExactAreDistributiveWrongFalsely : Prop := fnExactAreDistributiveRow.holds Try.pinned (OpenSpec.ofChange fnExactAreDistributiveWrong)

/-- 'laws.FnExactAreModular': WHATEVER THE INPUT: true; the input reads as it did. -/
def fnExactAreModularSpec : ChangeSpec := { name := "fnExactAreModular", fn := fun _ => fun
  | [d] => { results := [.lit (.bool true)], args := [d] }
  | _ => none }
def fnExactAreModularRow : OpenClaim := { program := "ytchgbcjecdnclaa", sum := "906177d151cf26fc28da02f0b785ac5842c1cf786eb0f03ca23b44d90469597a", func := "loop.example/g01078/laws.FnExactAreModular", spec := "fnExactAreModular", inPlace := ["internal/reflectlite.ValueOf", "internal/reflectlite.Swapper", "(internal/reflectlite.Value).Len"], unfollowed := true, recurses := true, apart := false }
def FnExactAreModularSaid : Prop := fnExactAreModularRow.holds Try.pinned (OpenSpec.ofChange fnExactAreModularSpec)

/-- ITS FALSE NEIGHBOUR: 'it returns false'. Refute it at one input. -/
def fnExactAreModularWrong : ChangeSpec := { name := "fnExactAreModular", fn := fun _ => fun
  | [d] => { results := [.lit (.bool false)], args := [d] }
  | _ => none }
def FnExactAreModularWrongFalsely : Prop := fnExactAreModularRow.holds Try.pinned (OpenSpec.ofChange fnExactAreModularWrong)

/-- 'laws.FnExactArePermutable': WHATEVER THE INPUT: true; the input reads as it did. -/
def fnExactArePermutableSpec : ChangeSpec := { name := "fnExactArePermutable", fn := fun _ => fun
  | [d] => { results := [.lit (.bool true)], args := [d] }
  | _ => none }
def fnExactArePermutableRow : OpenClaim := { program := "ytchgbcjecdnclaa", sum := "906177d151cf26fc28da02f0b785ac5842c1cf786eb0f03ca23b44d90469597a", func := "loop.example/g01078/laws.FnExactArePermutable", spec := "fnExactArePermutable", inPlace := ["internal/reflectlite.ValueOf", "internal/reflectlite.Swapper", "(internal/reflectlite.Value).Len"], unfollowed := true, recurses := true, apart := false }
def FnExactArePermutableSaid : Prop := fnExactArePermutableRow.holds Try.pinned (OpenSpec.ofChange fnExactArePermutableSpec)

/-- ITS FALSE NEIGHBOUR: 'it returns false'. Refute it at one input. -/
def fnExactArePermutableWrong : ChangeSpec := { name := "fnExactArePermutable", fn := fun _ => fun
  | [d] => { results := [.lit (.bool false)], args := [d] }
  | _ => none }
def FnExactArePermutableWrongFalsely : Prop := fnExactArePermutableRow.holds Try.pinned (OpenSpec.ofChange fnExactArePermutableWrong)

/-- 'laws.FnExactComplementsOf': WHATEVER THE INPUT: true; the input reads as it did. -/
def fnExactComplementsOfSpec : ChangeSpec := { name := "fnExactComplementsOf", fn := fun _ => fun
  | [d1, d2] => { results := [.lit (.bool true)], args := [d1, d2] }
  | _ => none }
def fnExactComplementsOfRow : OpenClaim := { program := "ytchgbcjecdnclaa", sum := "906177d151cf26fc28da02f0b785ac5842c1cf786eb0f03ca23b44d90469597a", func := "loop.example/g01078/laws.FnExactComplementsOf", spec := "fnExactComplementsOf", inPlace := ["internal/reflectlite.ValueOf", "internal/reflectlite.Swapper", "(internal/reflectlite.Value).Len"], unfollowed := true, recurses := true, apart := false }
def FnExactComplementsOfSaid : Prop := fnExactComplementsOfRow.holds Try.pinned (OpenSpec.ofChange fnExactComplementsOfSpec)

/-- ITS FALSE NEIGHBOUR: 'it returns false'. Refute it at one input. -/
def fnExactComplementsOfWrong : ChangeSpec := { name := "fnExactComplementsOf", fn := fun _ => fun
  | [d1, d2] => { results := [.lit (.bool false)], args := [d1, d2] }
  | _ => none }
def FnExactComplementsOfWrongFalsely : Prop := fnExactComplementsOfRow.holds Try.pinned (OpenSpec.ofChange fnExactComplementsOfWrong)

/-- 'laws.FnExactFirstPairApart': WHATEVER THE INPUT: true; the input reads as it did. -/
def fnExactFirstPairApartSpec : ChangeSpec := { name := "fnExactFirstPairApart", fn := fun _ => fun
  | [d] => { results := [.lit (.bool true)], args := [d] }
  | _ => none }
def fnExactFirstPairApartRow : OpenClaim := { program := "ytchgbcjecdnclaa", sum := "906177d151cf26fc28da02f0b785ac5842c1cf786eb0f03ca23b44d90469597a", func := "loop.example/g01078/laws.FnExactFirstPairApart", spec := "fnExactFirstPairApart", inPlace := ["internal/reflectlite.ValueOf", "internal/reflectlite.Swapper", "(internal/reflectlite.Value).Len"], unfollowed := true, recurses := true, apart := false }
def FnExactFirstPairApartSaid : Prop := fnExactFirstPairApartRow.holds Try.pinned (OpenSpec.ofChange fnExactFirstPairApartSpec)

/-- ITS FALSE NEIGHBOUR: 'it returns false'. Refute it at one input. -/
def fnExactFirstPairApartWrong : ChangeSpec := { name := "fnExactFirstPairApart", fn := fun _ => fun
  | [d] => { results := [.lit (.bool false)], args := [d] }
  | _ => none }
def FnExactFirstPairApartWrongFalsely : Prop := fnExactFirstPairApartRow.holds Try.pinned (OpenSpec.ofChange fnExactFirstPairApartWrong)

/-- 'laws.FnExactFirstUndistributed': WHATEVER THE INPUT: true; the input reads as it did. -/
def fnExactFirstUndistributedSpec : ChangeSpec := { name := "fnExactFirstUndistributed", fn := fun _ => fun
  | [d] => { results := [.lit (.bool true)], args := [d] }
  | _ => none }
def fnExactFirstUndistributedRow : OpenClaim := { program := "ytchgbcjecdnclaa", sum := "906177d151cf26fc28da02f0b785ac5842c1cf786eb0f03ca23b44d90469597a", func := "loop.example/g01078/laws.FnExactFirstUndistributed", spec := "fnExactFirstUndistributed", inPlace := ["internal/reflectlite.ValueOf", "internal/reflectlite.Swapper", "(internal/reflectlite.Value).Len"], unfollowed := true, recurses := true, apart := false }
def FnExactFirstUndistributedSaid : Prop := fnExactFirstUndistributedRow.holds Try.pinned (OpenSpec.ofChange fnExactFirstUndistributedSpec)

/-- ITS FALSE NEIGHBOUR: 'it returns false'. Refute it at one input. -/
def fnExactFirstUndistributedWrong : ChangeSpec := { name := "fnExactFirstUndistributed", fn := fun _ => fun
  | [d] => { results := [.lit (.bool false)], args := [d] }
  | _ => none }
def FnExactFirstUndistributedWrongFalsely : Prop := fnExactFirstUndistributedRow.holds Try.pinned (OpenSpec.ofChange fnExactFirstUndistributedWrong)

/-- 'laws.FnExactPermutingRank': WHATEVER THE INPUT: true; the input reads as it did. -/
def fnExactPermutingRankSpec : ChangeSpec := { name := "fnExactPermutingRank", fn := fun _ => fun
  | [d] => { results := [.lit (.bool true)], args := [d] }
  | _ => none }
def fnExactPermutingRankRow : OpenClaim := { program := "ytchgbcjecdnclaa", sum := "906177d151cf26fc28da02f0b785ac5842c1cf786eb0f03ca23b44d90469597a", func := "loop.example/g01078/laws.FnExactPermutingRank", spec := "fnExactPermutingRank", inPlace := ["internal/reflectlite.ValueOf", "internal/reflectlite.Swapper", "(internal/reflectlite.Value).Len"], unfollowed := true, recurses := true, apart := false }
def FnExactPermutingRankSaid : Prop := fnExactPermutingRankRow.holds Try.pinned (OpenSpec.ofChange fnExactPermutingRankSpec)

/-- ITS FALSE NEIGHBOUR: 'it returns false'. Refute it at one input. -/
def fnExactPermutingRankWrong : ChangeSpec := { name := "fnExactPermutingRank", fn := fun _ => fun
  | [d] => { results := [.lit (.bool false)], args := [d] }
  | _ => none }
def FnExactPermutingRankWrongFalsely : Prop := fnExactPermutingRankRow.holds Try.pinned (OpenSpec.ofChange fnExactPermutingRankWrong)

/-- 'laws.FnExactFirstUnmodular': WHATEVER THE INPUT: true; the input reads as it did. -/
def fnExactFirstUnmodularSpec : ChangeSpec := { name := "fnExactFirstUnmodular", fn := fun _ => fun
  | [d] => { results := [.lit (.bool true)], args := [d] }
  | _ => none }
def fnExactFirstUnmodularRow : OpenClaim := { program := "ytchgbcjecdnclaa", sum := "906177d151cf26fc28da02f0b785ac5842c1cf786eb0f03ca23b44d90469597a", func := "loop.example/g01078/laws.FnExactFirstUnmodular", spec := "fnExactFirstUnmodular", inPlace := ["internal/reflectlite.ValueOf", "internal/reflectlite.Swapper", "(internal/reflectlite.Value).Len"], unfollowed := true, recurses := true, apart := false }
def FnExactFirstUnmodularSaid : Prop := fnExactFirstUnmodularRow.holds Try.pinned (OpenSpec.ofChange fnExactFirstUnmodularSpec)

/-- ITS FALSE NEIGHBOUR: 'it returns false'. Refute it at one input. -/
def fnExactFirstUnmodularWrong : ChangeSpec := { name := "fnExactFirstUnmodular", fn := fun _ => fun
  | [d] => { results := [.lit (.bool false)], args := [d] }
  | _ => none }
def FnExactFirstUnmodularWrongFalsely : Prop := fnExactFirstUnmodularRow.holds Try.pinned (OpenSpec.ofChange fnExactFirstUnmodularWrong)

/- THE SECOND FORM. 'bulk': how many values and letters a reading holds, each counted each time it is reached (what is shared counts as often as it is met; a slice's spare places count too). A statement '..UptoSaid' is the law's where the arguments, and the package variables that the reading takes, are together of bulk at most 1048576: NARROWER than '..Said'. Prove '..Said' where nothing that the law and all that it calls make is longer than what came in: it says more and counts as full. Else prove '..UptoSaid'. A law counts once. -/
mutual
def uptoBulk {H : Type} : DataW H → Nat
  | .lit (.string bytes) => bytes.length + 1
  | .lit _ => 1
  | .nil => 1
  | .ptr d => uptoBulk d + 1
  | .slice elems spare => uptoBulkAll elems + uptoBulkAll spare + 1
  | .agg parts => uptoBulkAll parts + 1
  | .iface _ d => uptoBulk d + 1
  | .map entries => uptoBulkEntries entries + 1
  | .held _ => 1
def uptoBulkAll {H : Type} : List (DataW H) → Nat
  | [] => 0
  | d :: r => uptoBulk d + uptoBulkAll r
def uptoBulkEntries {H : Type} : List (Lit × DataW H) → Nat
  | [] => 0
  | x :: r => uptoBulkEntry x + uptoBulkEntries r
def uptoBulkEntry {H : Type} : Lit × DataW H → Nat
  | (.string bytes, d) => bytes.length + uptoBulk d + 1
  | (_, d) => uptoBulk d + 1
 end
def uptoSmall : (H : Type) → List (DataW H) → Bool := fun _ ds => decide (uptoBulkAll ds ≤ 1048576)
def OpenSpec.upto (s : _root_.Go.ChangeSpec) : _root_.Go.OpenSpec := { _root_.Go.OpenSpec.ofChange s with cond := some uptoSmall }

/-- 'laws.FnExactFactorsToJoin', WHERE WHAT IT READS IS OF BULK AT MOST 1048576: true; the input reads as it did. -/
def fnExactFactorsToJoinUptoRow : OpenClaim := { program := "ytchgbcjecdnclaa", sum := "906177d151cf26fc28da02f0b785ac5842c1cf786eb0f03ca23b44d90469597a", func := "loop.example/g01078/laws.FnExactFactorsToJoin", spec := "fnExactFactorsToJoin", inPlace := ["internal/reflectlite.ValueOf", "internal/reflectlite.Swapper", "(internal/reflectlite.Value).Len"], unfollowed := true, recurses := true, apart := false, narrowed := true }
def FnExactFactorsToJoinUptoSaid : Prop := fnExactFactorsToJoinUptoRow.holds Try.pinned (OpenSpec.upto fnExactFactorsToJoinSpec)

/-- 'laws.FnExactCongruenceHeight', WHERE WHAT IT READS IS OF BULK AT MOST 1048576: true; the input reads as it did. -/
def fnExactCongruenceHeightUptoRow : OpenClaim := { program := "ytchgbcjecdnclaa", sum := "906177d151cf26fc28da02f0b785ac5842c1cf786eb0f03ca23b44d90469597a", func := "loop.example/g01078/laws.FnExactCongruenceHeight", spec := "fnExactCongruenceHeight", inPlace := ["internal/reflectlite.ValueOf", "internal/reflectlite.Swapper", "(internal/reflectlite.Value).Len"], unfollowed := true, recurses := true, apart := false, narrowed := true }
def FnExactCongruenceHeightUptoSaid : Prop := fnExactCongruenceHeightUptoRow.holds Try.pinned (OpenSpec.upto fnExactCongruenceHeightSpec)

/-- 'laws.FnExactAreDistributive', WHERE WHAT IT READS IS OF BULK AT MOST 1048576: true; the input reads as it did. -/
def fnExactAreDistributiveUptoRow : OpenClaim := { program := "ytchgbcjecdnclaa", sum := "906177d151cf26fc28da02f0b785ac5842c1cf786eb0f03ca23b44d90469597a", func := "loop.example/g01078/laws.FnExactAreDistributive", spec := "fnExactAreDistributive", inPlace := ["internal/reflectlite.ValueOf", "internal/reflectlite.Swapper", "(internal/reflectlite.Value).Len"], unfollowed := true, recurses := true, apart := false, narrowed := true }
def FnExactAreDistributiveUptoSaid : Prop := fnExactAreDistributiveUptoRow.holds Try.pinned (OpenSpec.upto fnExactAreDistributiveSpec)

/-- 'laws.FnExactAreModular', WHERE WHAT IT READS IS OF BULK AT MOST 1048576: true; the input reads as it did. -/
def fnExactAreModularUptoRow : OpenClaim := { program := "ytchgbcjecdnclaa", sum := "906177d151cf26fc28da02f0b785ac5842c1cf786eb0f03ca23b44d90469597a", func := "loop.example/g01078/laws.FnExactAreModular", spec := "fnExactAreModular", inPlace := ["internal/reflectlite.ValueOf", "internal/reflectlite.Swapper", "(internal/reflectlite.Value).Len"], unfollowed := true, recurses := true, apart := false, narrowed := true }
def FnExactAreModularUptoSaid : Prop := fnExactAreModularUptoRow.holds Try.pinned (OpenSpec.upto fnExactAreModularSpec)

/-- 'laws.FnExactArePermutable', WHERE WHAT IT READS IS OF BULK AT MOST 1048576: true; the input reads as it did. -/
def fnExactArePermutableUptoRow : OpenClaim := { program := "ytchgbcjecdnclaa", sum := "906177d151cf26fc28da02f0b785ac5842c1cf786eb0f03ca23b44d90469597a", func := "loop.example/g01078/laws.FnExactArePermutable", spec := "fnExactArePermutable", inPlace := ["internal/reflectlite.ValueOf", "internal/reflectlite.Swapper", "(internal/reflectlite.Value).Len"], unfollowed := true, recurses := true, apart := false, narrowed := true }
def FnExactArePermutableUptoSaid : Prop := fnExactArePermutableUptoRow.holds Try.pinned (OpenSpec.upto fnExactArePermutableSpec)

/-- 'laws.FnExactComplementsOf', WHERE WHAT IT READS IS OF BULK AT MOST 1048576: true; the input reads as it did. -/
def fnExactComplementsOfUptoRow : OpenClaim := { program := "ytchgbcjecdnclaa", sum := "906177d151cf26fc28da02f0b785ac5842c1cf786eb0f03ca23b44d90469597a", func := "loop.example/g01078/laws.FnExactComplementsOf", spec := "fnExactComplementsOf", inPlace := ["internal/reflectlite.ValueOf", "internal/reflectlite.Swapper", "(internal/reflectlite.Value).Len"], unfollowed := true, recurses := true, apart := false, narrowed := true }
def FnExactComplementsOfUptoSaid : Prop := fnExactComplementsOfUptoRow.holds Try.pinned (OpenSpec.upto fnExactComplementsOfSpec)

/-- 'laws.FnExactFirstPairApart', WHERE WHAT IT READS IS OF BULK AT MOST 1048576: true; the input reads as it did. -/
def fnExactFirstPairApartUptoRow : OpenClaim := { program := "ytchgbcjecdnclaa", sum := "906177d151cf26fc28da02f0b785ac5842c1cf786eb0f03ca23b44d90469597a", func := "loop.example/g01078/laws.FnExactFirstPairApart", spec := "fnExactFirstPairApart", inPlace := ["internal/reflectlite.ValueOf", "internal/reflectlite.Swapper", "(internal/reflectlite.Value).Len"], unfollowed := true, recurses := true, apart := false, narrowed := true }
def FnExactFirstPairApartUptoSaid : Prop := fnExactFirstPairApartUptoRow.holds Try.pinned (OpenSpec.upto fnExactFirstPairApartSpec)

/-- 'laws.FnExactFirstUndistributed', WHERE WHAT IT READS IS OF BULK AT MOST 1048576: true; the input reads as it did. -/
def fnExactFirstUndistributedUptoRow : OpenClaim := { program := "ytchgbcjecdnclaa", sum := "906177d151cf26fc28da02f0b785ac5842c1cf786eb0f03ca23b44d90469597a", func := "loop.example/g01078/laws.FnExactFirstUndistributed", spec := "fnExactFirstUndistributed", inPlace := ["internal/reflectlite.ValueOf", "internal/reflectlite.Swapper", "(internal/reflectlite.Value).Len"], unfollowed := true, recurses := true, apart := false, narrowed := true }
def FnExactFirstUndistributedUptoSaid : Prop := fnExactFirstUndistributedUptoRow.holds Try.pinned (OpenSpec.upto fnExactFirstUndistributedSpec)

/-- 'laws.FnExactPermutingRank', WHERE WHAT IT READS IS OF BULK AT MOST 1048576: true; the input reads as it did. -/
def fnExactPermutingRankUptoRow : OpenClaim := { program := "ytchgbcjecdnclaa", sum := "906177d151cf26fc28da02f0b785ac5842c1cf786eb0f03ca23b44d90469597a", func := "loop.example/g01078/laws.FnExactPermutingRank", spec := "fnExactPermutingRank", inPlace := ["internal/reflectlite.ValueOf", "internal/reflectlite.Swapper", "(internal/reflectlite.Value).Len"], unfollowed := true, recurses := true, apart := false, narrowed := true }
def FnExactPermutingRankUptoSaid : Prop := fnExactPermutingRankUptoRow.holds Try.pinned (OpenSpec.upto fnExactPermutingRankSpec)

/-- 'laws.FnExactFirstUnmodular', WHERE WHAT IT READS IS OF BULK AT MOST 1048576: true; the input reads as it did. -/
def fnExactFirstUnmodularUptoRow : OpenClaim := { program := "ytchgbcjecdnclaa", sum := "906177d151cf26fc28da02f0b785ac5842c1cf786eb0f03ca23b44d90469597a", func := "loop.example/g01078/laws.FnExactFirstUnmodular", spec := "fnExactFirstUnmodular", inPlace := ["internal/reflectlite.ValueOf", "internal/reflectlite.Swapper", "(internal/reflectlite.Value).Len"], unfollowed := true, recurses := true, apart := false, narrowed := true }
def FnExactFirstUnmodularUptoSaid : Prop := fnExactFirstUnmodularUptoRow.holds Try.pinned (OpenSpec.upto fnExactFirstUnmodularSpec)

end Rows
end Go.Proofs.Ytchgbcjecdnclaa
