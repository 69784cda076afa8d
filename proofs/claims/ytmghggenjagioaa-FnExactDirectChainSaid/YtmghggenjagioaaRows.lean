/-
  No cell of these rows narrows 'for every input' (looked for: loops, veiled, ifaces, maps, wideKeys, modest, calm, conditions, laid).
  DERIVED. THE GIVEN ROWS OF THIS SEAT. 8 by the template 'for every input the law returns true; each argument reads behind the call as it read before'; 0 by the template 'total and deterministic' (their statements: YtmghggenjagioaaTotals.lean).
  GIVEN WITH THE SEED: the statements are not yours to turn. If you find one false, say at which input.
  Laid BY PROGRAM, IN A SANDBOX (cutbox-rows.mjs): the forced cells as the released guide's own fill.sh prints them over the translation 68253714b3352761… (all of the seat's roots in one cut). By AI agents, Wed Nov 11 2026. No macro, syntax, notation, axiom, sorry.
-/
import Derived.Test.YtmghggenjagioaaChecked
import GoSem.Claim
import GoSem.ClaimJoined
import GoSem.ClaimMapViews
import Derived.JoinedTies
import Derived.KernelRfl
namespace Go.Proofs.Ytmghggenjagioaa
/- THE CELL 'sum', in the pinned program and in every row, IS THE sha256 OF THE DUMP (.gsa) THAT YtmghggenjagioaaProg.lean LOADS. Nothing in Lean hashes anything: it is a label: what it is worth is what the hold of that sum in a sandbox is worth. -/
noncomputable def Try.pinned : Pinned := { name := "ytmghggenjagioaa", sum := "68253714b3352761b0e6896e64cad4c2fad16d9460d4ef2088af5ed44b737dcf", checked := Try.checked }
namespace Rows
def none {H : Type} : Left H := { results := [], args := [] }

/-- 'laws.FnExactMajorityTerms': WHATEVER THE INPUT: true; the input reads as it did. -/
def fnExactMajorityTermsSpec : ChangeSpec := { name := "fnExactMajorityTerms", fn := fun _ => fun
  | [d] => { results := [.lit (.bool true)], args := [d] }
  | _ => none }
def fnExactMajorityTermsRow : OpenClaim := { program := "ytmghggenjagioaa", sum := "68253714b3352761b0e6896e64cad4c2fad16d9460d4ef2088af5ed44b737dcf", func := "loop.example/g01078/laws.FnExactMajorityTerms", spec := "fnExactMajorityTerms", unfollowed := true, recurses := true, apart := false }
def FnExactMajorityTermsSaid : Prop := fnExactMajorityTermsRow.holds Try.pinned (OpenSpec.ofChange fnExactMajorityTermsSpec)

/-- ITS FALSE NEIGHBOUR: 'it returns false'. Refute it at one input. -/
def fnExactMajorityTermsWrong : ChangeSpec := { name := "fnExactMajorityTerms", fn := fun _ => fun
  | [d] => { results := [.lit (.bool false)], args := [d] }
  | _ => none }
def FnExactMajorityTermsWrongFalsely : Prop := fnExactMajorityTermsRow.holds Try.pinned (OpenSpec.ofChange fnExactMajorityTermsWrong)

/-- 'laws.FnExactMalcevTerms': WHATEVER THE INPUT: true; the input reads as it did. -/
def fnExactMalcevTermsSpec : ChangeSpec := { name := "fnExactMalcevTerms", fn := fun _ => fun
  | [d] => { results := [.lit (.bool true)], args := [d] }
  | _ => none }
def fnExactMalcevTermsRow : OpenClaim := { program := "ytmghggenjagioaa", sum := "68253714b3352761b0e6896e64cad4c2fad16d9460d4ef2088af5ed44b737dcf", func := "loop.example/g01078/laws.FnExactMalcevTerms", spec := "fnExactMalcevTerms", unfollowed := true, recurses := true, apart := false }
def FnExactMalcevTermsSaid : Prop := fnExactMalcevTermsRow.holds Try.pinned (OpenSpec.ofChange fnExactMalcevTermsSpec)

/-- ITS FALSE NEIGHBOUR: 'it returns false'. Refute it at one input. -/
def fnExactMalcevTermsWrong : ChangeSpec := { name := "fnExactMalcevTerms", fn := fun _ => fun
  | [d] => { results := [.lit (.bool false)], args := [d] }
  | _ => none }
def FnExactMalcevTermsWrongFalsely : Prop := fnExactMalcevTermsRow.holds Try.pinned (OpenSpec.ofChange fnExactMalcevTermsWrong)

/-- 'laws.FnExactPixleyTerms': WHATEVER THE INPUT: true; the input reads as it did. -/
def fnExactPixleyTermsSpec : ChangeSpec := { name := "fnExactPixleyTerms", fn := fun _ => fun
  | [d] => { results := [.lit (.bool true)], args := [d] }
  | _ => none }
def fnExactPixleyTermsRow : OpenClaim := { program := "ytmghggenjagioaa", sum := "68253714b3352761b0e6896e64cad4c2fad16d9460d4ef2088af5ed44b737dcf", func := "loop.example/g01078/laws.FnExactPixleyTerms", spec := "fnExactPixleyTerms", unfollowed := true, recurses := true, apart := false }
def FnExactPixleyTermsSaid : Prop := fnExactPixleyTermsRow.holds Try.pinned (OpenSpec.ofChange fnExactPixleyTermsSpec)

/-- ITS FALSE NEIGHBOUR: 'it returns false'. Refute it at one input. -/
def fnExactPixleyTermsWrong : ChangeSpec := { name := "fnExactPixleyTerms", fn := fun _ => fun
  | [d] => { results := [.lit (.bool false)], args := [d] }
  | _ => none }
def FnExactPixleyTermsWrongFalsely : Prop := fnExactPixleyTermsRow.holds Try.pinned (OpenSpec.ofChange fnExactPixleyTermsWrong)

/-- 'laws.FnExactIsUnreachableSet': WHATEVER THE INPUT: true; the input reads as it did. -/
def fnExactIsUnreachableSetSpec : ChangeSpec := { name := "fnExactIsUnreachableSet", fn := fun _ => fun
  | [d1, d2] => { results := [.lit (.bool true)], args := [d1, d2] }
  | _ => none }
def fnExactIsUnreachableSetRow : OpenClaim := { program := "ytmghggenjagioaa", sum := "68253714b3352761b0e6896e64cad4c2fad16d9460d4ef2088af5ed44b737dcf", func := "loop.example/g01078/laws.FnExactIsUnreachableSet", spec := "fnExactIsUnreachableSet", apart := false }
def FnExactIsUnreachableSetSaid : Prop := fnExactIsUnreachableSetRow.holds Try.pinned (OpenSpec.ofChange fnExactIsUnreachableSetSpec)

/-- ITS FALSE NEIGHBOUR: 'it returns false'. Refute it at one input. -/
def fnExactIsUnreachableSetWrong : ChangeSpec := { name := "fnExactIsUnreachableSet", fn := fun _ => fun
  | [d1, d2] => { results := [.lit (.bool false)], args := [d1, d2] }
  | _ => none }
def FnExactIsUnreachableSetWrongFalsely : Prop := fnExactIsUnreachableSetRow.holds Try.pinned (OpenSpec.ofChange fnExactIsUnreachableSetWrong)

/-- 'laws.FnExactIsPermutingChain': WHATEVER THE INPUT: true; the input reads as it did. -/
def fnExactIsPermutingChainSpec : ChangeSpec := { name := "fnExactIsPermutingChain", fn := fun _ => fun
  | [d1, d2] => { results := [.lit (.bool true)], args := [d1, d2] }
  | _ => none }
def fnExactIsPermutingChainRow : OpenClaim := { program := "ytmghggenjagioaa", sum := "68253714b3352761b0e6896e64cad4c2fad16d9460d4ef2088af5ed44b737dcf", func := "loop.example/g01078/laws.FnExactIsPermutingChain", spec := "fnExactIsPermutingChain", unfollowed := true, recurses := true, apart := false }
def FnExactIsPermutingChainSaid : Prop := fnExactIsPermutingChainRow.holds Try.pinned (OpenSpec.ofChange fnExactIsPermutingChainSpec)

/-- ITS FALSE NEIGHBOUR: 'it returns false'. Refute it at one input. -/
def fnExactIsPermutingChainWrong : ChangeSpec := { name := "fnExactIsPermutingChain", fn := fun _ => fun
  | [d1, d2] => { results := [.lit (.bool false)], args := [d1, d2] }
  | _ => none }
def FnExactIsPermutingChainWrongFalsely : Prop := fnExactIsPermutingChainRow.holds Try.pinned (OpenSpec.ofChange fnExactIsPermutingChainWrong)

/-- 'laws.FnExactIsDirectChain': WHATEVER THE INPUT: true; the input reads as it did. -/
def fnExactIsDirectChainSpec : ChangeSpec := { name := "fnExactIsDirectChain", fn := fun _ => fun
  | [d1, d2] => { results := [.lit (.bool true)], args := [d1, d2] }
  | _ => none }
def fnExactIsDirectChainRow : OpenClaim := { program := "ytmghggenjagioaa", sum := "68253714b3352761b0e6896e64cad4c2fad16d9460d4ef2088af5ed44b737dcf", func := "loop.example/g01078/laws.FnExactIsDirectChain", spec := "fnExactIsDirectChain", unfollowed := true, recurses := true, apart := false }
def FnExactIsDirectChainSaid : Prop := fnExactIsDirectChainRow.holds Try.pinned (OpenSpec.ofChange fnExactIsDirectChainSpec)

/-- ITS FALSE NEIGHBOUR: 'it returns false'. Refute it at one input. -/
def fnExactIsDirectChainWrong : ChangeSpec := { name := "fnExactIsDirectChain", fn := fun _ => fun
  | [d1, d2] => { results := [.lit (.bool false)], args := [d1, d2] }
  | _ => none }
def FnExactIsDirectChainWrongFalsely : Prop := fnExactIsDirectChainRow.holds Try.pinned (OpenSpec.ofChange fnExactIsDirectChainWrong)

/-- 'laws.FnExactPermutingChain': WHATEVER THE INPUT: true; the input reads as it did. -/
def fnExactPermutingChainSpec : ChangeSpec := { name := "fnExactPermutingChain", fn := fun _ => fun
  | [d] => { results := [.lit (.bool true)], args := [d] }
  | _ => none }
def fnExactPermutingChainRow : OpenClaim := { program := "ytmghggenjagioaa", sum := "68253714b3352761b0e6896e64cad4c2fad16d9460d4ef2088af5ed44b737dcf", func := "loop.example/g01078/laws.FnExactPermutingChain", spec := "fnExactPermutingChain", unfollowed := true, recurses := true, apart := false }
def FnExactPermutingChainSaid : Prop := fnExactPermutingChainRow.holds Try.pinned (OpenSpec.ofChange fnExactPermutingChainSpec)

/-- ITS FALSE NEIGHBOUR: 'it returns false'. Refute it at one input. -/
def fnExactPermutingChainWrong : ChangeSpec := { name := "fnExactPermutingChain", fn := fun _ => fun
  | [d] => { results := [.lit (.bool false)], args := [d] }
  | _ => none }
def FnExactPermutingChainWrongFalsely : Prop := fnExactPermutingChainRow.holds Try.pinned (OpenSpec.ofChange fnExactPermutingChainWrong)

/-- 'laws.FnExactDirectChain': WHATEVER THE INPUT: true; the input reads as it did. -/
def fnExactDirectChainSpec : ChangeSpec := { name := "fnExactDirectChain", fn := fun _ => fun
  | [d] => { results := [.lit (.bool true)], args := [d] }
  | _ => none }
def fnExactDirectChainRow : OpenClaim := { program := "ytmghggenjagioaa", sum := "68253714b3352761b0e6896e64cad4c2fad16d9460d4ef2088af5ed44b737dcf", func := "loop.example/g01078/laws.FnExactDirectChain", spec := "fnExactDirectChain", unfollowed := true, recurses := true, apart := false }
def FnExactDirectChainSaid : Prop := fnExactDirectChainRow.holds Try.pinned (OpenSpec.ofChange fnExactDirectChainSpec)

/-- ITS FALSE NEIGHBOUR: 'it returns false'. Refute it at one input. -/
def fnExactDirectChainWrong : ChangeSpec := { name := "fnExactDirectChain", fn := fun _ => fun
  | [d] => { results := [.lit (.bool false)], args := [d] }
  | _ => none }
def FnExactDirectChainWrongFalsely : Prop := fnExactDirectChainRow.holds Try.pinned (OpenSpec.ofChange fnExactDirectChainWrong)

/- THE SECOND FORM. 'bulk': how many values and letters a reading holds, each counted each time it is reached (what is shared counts as often as it is met; a slice's spare places count too). A statement '..UptoSaid' is the law's where the arguments, and the package variables that the reading takes, are together of bulk at most 1048576: NARROWER than '..Said'. Prove '..Said' where nothing that the law and all that it calls make is longer than what came in: it says more and counts as full. Else prove '..UptoSaid'. A law counts once. -/
mutual
def uptoBulk {H : Type} : DataW H → Nat
  | .lit (.string bytes) => bytes.length + 1
  | .lit _ => 1
  | .nil => 1
  | .ptr d => uptoBulk d + 1
  | .slice elems spare => uptoBulkAll elems + uptoBulkAll spare + 1
  | .agg parts => uptoBulkAll parts + 1
  | .iface _ d => uptoBulk d + 1
  | .map entries => uptoBulkEntries entries + 1
  | .held _ => 1
def uptoBulkAll {H : Type} : List (DataW H) → Nat
  | [] => 0
  | d :: r => uptoBulk d + uptoBulkAll r
def uptoBulkEntries {H : Type} : List (Lit × DataW H) → Nat
  | [] => 0
  | x :: r => uptoBulkEntry x + uptoBulkEntries r
def uptoBulkEntry {H : Type} : Lit × DataW H → Nat
  | (.string bytes, d) => bytes.length + uptoBulk d + 1
  | (_, d) => uptoBulk d + 1
 end
def uptoSmall : (H : Type) → List (DataW H) → Bool := fun _ ds => decide (uptoBulkAll ds ≤ 1048576)
def OpenSpec.upto (s : _root_.Go.ChangeSpec) : _root_.Go.OpenSpec := { _root_.Go.OpenSpec.ofChange s with cond := some uptoSmall }

/-- 'laws.FnExactMajorityTerms', WHERE WHAT IT READS IS OF BULK AT MOST 1048576: true; the input reads as it did. -/
def fnExactMajorityTermsUptoRow : OpenClaim := { program := "ytmghggenjagioaa", sum := "68253714b3352761b0e6896e64cad4c2fad16d9460d4ef2088af5ed44b737dcf", func := "loop.example/g01078/laws.FnExactMajorityTerms", spec := "fnExactMajorityTerms", unfollowed := true, recurses := true, apart := false, narrowed := true }
def FnExactMajorityTermsUptoSaid : Prop := fnExactMajorityTermsUptoRow.holds Try.pinned (OpenSpec.upto fnExactMajorityTermsSpec)

/-- 'laws.FnExactMalcevTerms', WHERE WHAT IT READS IS OF BULK AT MOST 1048576: true; the input reads as it did. -/
def fnExactMalcevTermsUptoRow : OpenClaim := { program := "ytmghggenjagioaa", sum := "68253714b3352761b0e6896e64cad4c2fad16d9460d4ef2088af5ed44b737dcf", func := "loop.example/g01078/laws.FnExactMalcevTerms", spec := "fnExactMalcevTerms", unfollowed := true, recurses := true, apart := false, narrowed := true }
def FnExactMalcevTermsUptoSaid : Prop := fnExactMalcevTermsUptoRow.holds Try.pinned (OpenSpec.upto fnExactMalcevTermsSpec)

/-- 'laws.FnExactPixleyTerms', WHERE WHAT IT READS IS OF BULK AT MOST 1048576: true; the input reads as it did. -/
def fnExactPixleyTermsUptoRow : OpenClaim := { program := "ytmghggenjagioaa", sum := "68253714b3352761b0e6896e64cad4c2fad16d9460d4ef2088af5ed44b737dcf", func := "loop.example/g01078/laws.FnExactPixleyTerms", spec := "fnExactPixleyTerms", unfollowed := true, recurses := true, apart := false, narrowed := true }
def FnExactPixleyTermsUptoSaid : Prop := fnExactPixleyTermsUptoRow.holds Try.pinned (OpenSpec.upto fnExactPixleyTermsSpec)

/-- 'laws.FnExactIsUnreachableSet', WHERE WHAT IT READS IS OF BULK AT MOST 1048576: true; the input reads as it did. -/
def fnExactIsUnreachableSetUptoRow : OpenClaim := { program := "ytmghggenjagioaa", sum := "68253714b3352761b0e6896e64cad4c2fad16d9460d4ef2088af5ed44b737dcf", func := "loop.example/g01078/laws.FnExactIsUnreachableSet", spec := "fnExactIsUnreachableSet", apart := false, narrowed := true }
def FnExactIsUnreachableSetUptoSaid : Prop := fnExactIsUnreachableSetUptoRow.holds Try.pinned (OpenSpec.upto fnExactIsUnreachableSetSpec)

/-- 'laws.FnExactIsPermutingChain', WHERE WHAT IT READS IS OF BULK AT MOST 1048576: true; the input reads as it did. -/
def fnExactIsPermutingChainUptoRow : OpenClaim := { program := "ytmghggenjagioaa", sum := "68253714b3352761b0e6896e64cad4c2fad16d9460d4ef2088af5ed44b737dcf", func := "loop.example/g01078/laws.FnExactIsPermutingChain", spec := "fnExactIsPermutingChain", unfollowed := true, recurses := true, apart := false, narrowed := true }
def FnExactIsPermutingChainUptoSaid : Prop := fnExactIsPermutingChainUptoRow.holds Try.pinned (OpenSpec.upto fnExactIsPermutingChainSpec)

/-- 'laws.FnExactIsDirectChain', WHERE WHAT IT READS IS OF BULK AT MOST 1048576: true; the input reads as it did. -/
def fnExactIsDirectChainUptoRow : OpenClaim := { program := "ytmghggenjagioaa", sum := "68253714b3352761b0e6896e64cad4c2fad16d9460d4ef2088af5ed44b737dcf", func := "loop.example/g01078/laws.FnExactIsDirectChain", spec := "fnExactIsDirectChain", unfollowed := true, recurses := true, apart := false, narrowed := true }
def FnExactIsDirectChainUptoSaid : Prop := fnExactIsDirectChainUptoRow.holds Try.pinned (OpenSpec.upto fnExactIsDirectChainSpec)

/-- 'laws.FnExactPermutingChain', WHERE WHAT IT READS IS OF BULK AT MOST 1048576: true; the input reads as it did. -/
def fnExactPermutingChainUptoRow : OpenClaim := { program := "ytmghggenjagioaa", sum := "68253714b3352761b0e6896e64cad4c2fad16d9460d4ef2088af5ed44b737dcf", func := "loop.example/g01078/laws.FnExactPermutingChain", spec := "fnExactPermutingChain", unfollowed := true, recurses := true, apart := false, narrowed := true }
def FnExactPermutingChainUptoSaid : Prop := fnExactPermutingChainUptoRow.holds Try.pinned (OpenSpec.upto fnExactPermutingChainSpec)

/-- 'laws.FnExactDirectChain', WHERE WHAT IT READS IS OF BULK AT MOST 1048576: true; the input reads as it did. -/
def fnExactDirectChainUptoRow : OpenClaim := { program := "ytmghggenjagioaa", sum := "68253714b3352761b0e6896e64cad4c2fad16d9460d4ef2088af5ed44b737dcf", func := "loop.example/g01078/laws.FnExactDirectChain", spec := "fnExactDirectChain", unfollowed := true, recurses := true, apart := false, narrowed := true }
def FnExactDirectChainUptoSaid : Prop := fnExactDirectChainUptoRow.holds Try.pinned (OpenSpec.upto fnExactDirectChainSpec)

end Rows
end Go.Proofs.Ytmghggenjagioaa
