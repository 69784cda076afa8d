/-
  No cell of these rows narrows 'for every input' (looked for: loops, veiled, ifaces, maps, wideKeys, modest, calm, conditions, laid).
  DERIVED. THE GIVEN ROWS OF THIS SEAT. 5 by the template 'for every input the law returns true; each argument reads behind the call as it read before'; 0 by the template 'total and deterministic' (their statements: YtkbacbikbndakaaTotals.lean).
  GIVEN WITH THE SEED: the statements are not yours to turn. If you find one false, say at which input.
  Laid BY PROGRAM, IN A SANDBOX (cutbox-rows.mjs): the forced cells as the released guide's own fill.sh prints them over the translation 7eab8c9051b671de… (all of the seat's roots in one cut). By AI agents, Wed Nov 11 2026. No macro, syntax, notation, axiom, sorry.
-/
import Derived.Test.YtkbacbikbndakaaChecked
import GoSem.Claim
import GoSem.ClaimJoined
import GoSem.ClaimMapViews
import Derived.JoinedTies
import Derived.KernelRfl
namespace Go.Proofs.Ytkbacbikbndakaa
/- THE CELL 'sum', in the pinned program and in every row, IS THE sha256 OF THE DUMP (.gsa) THAT YtkbacbikbndakaaProg.lean LOADS. Nothing in Lean hashes anything: it is a label: what it is worth is what the hold of that sum in a sandbox is worth. -/
noncomputable def Try.pinned : Pinned := { name := "ytkbacbikbndakaa", sum := "7eab8c9051b671de14d0df6137b474e0c420e085d1934c87f56e3d13e0f4c9aa", checked := Try.checked }
namespace Rows
def none {H : Type} : Left H := { results := [], args := [] }

/-- 'laws.FnExactGeneratedRelation': WHATEVER THE INPUT: true; the input reads as it did. -/
def fnExactGeneratedRelationSpec : ChangeSpec := { name := "fnExactGeneratedRelation", fn := fun _ => fun
  | [d1, d2] => { results := [.lit (.bool true)], args := [d1, d2] }
  | _ => none }
def fnExactGeneratedRelationRow : OpenClaim := { program := "ytkbacbikbndakaa", sum := "7eab8c9051b671de14d0df6137b474e0c420e085d1934c87f56e3d13e0f4c9aa", func := "loop.example/g01078/laws.FnExactGeneratedRelation", spec := "fnExactGeneratedRelation", inPlace := ["internal/reflectlite.ValueOf", "internal/reflectlite.Swapper", "(internal/reflectlite.Value).Len"], unfollowed := true, recurses := true, apart := false }
def FnExactGeneratedRelationSaid : Prop := fnExactGeneratedRelationRow.holds Try.pinned (OpenSpec.ofChange fnExactGeneratedRelationSpec)

/-- ITS FALSE NEIGHBOUR: 'it returns false'. Refute it at one input. -/
def fnExactGeneratedRelationWrong : ChangeSpec := { name := "fnExactGeneratedRelation", fn := fun _ => fun
  | [d1, d2] => { results := [.lit (.bool false)], args := [d1, d2] }
  | _ => none }
def FnExactGeneratedRelationWrongFalsely : Prop := fnExactGeneratedRelationRow.holds Try.pinned (OpenSpec.ofChange fnExactGeneratedRelationWrong)

/-- 'laws.FnExactFreeElementOf': WHATEVER THE INPUT: true; the input reads as it did. -/
def fnExactFreeElementOfSpec : ChangeSpec := { name := "fnExactFreeElementOf", fn := fun _ => fun
  | [d1, d2, d3] => { results := [.lit (.bool true)], args := [d1, d2, d3] }
  | _ => none }
def fnExactFreeElementOfRow : OpenClaim := { program := "ytkbacbikbndakaa", sum := "7eab8c9051b671de14d0df6137b474e0c420e085d1934c87f56e3d13e0f4c9aa", func := "loop.example/g01078/laws.FnExactFreeElementOf", spec := "fnExactFreeElementOf", inPlace := ["internal/reflectlite.ValueOf", "internal/reflectlite.Swapper", "(internal/reflectlite.Value).Len"], unfollowed := true, recurses := true, apart := false }
def FnExactFreeElementOfSaid : Prop := fnExactFreeElementOfRow.holds Try.pinned (OpenSpec.ofChange fnExactFreeElementOfSpec)

/-- ITS FALSE NEIGHBOUR: 'it returns false'. Refute it at one input. -/
def fnExactFreeElementOfWrong : ChangeSpec := { name := "fnExactFreeElementOf", fn := fun _ => fun
  | [d1, d2, d3] => { results := [.lit (.bool false)], args := [d1, d2, d3] }
  | _ => none }
def FnExactFreeElementOfWrongFalsely : Prop := fnExactFreeElementOfRow.holds Try.pinned (OpenSpec.ofChange fnExactFreeElementOfWrong)

/-- 'laws.FnExactAreEqualTerms': WHATEVER THE INPUT: true; the input reads as it did. -/
def fnExactAreEqualTermsSpec : ChangeSpec := { name := "fnExactAreEqualTerms", fn := fun _ => fun
  | [d1, d2, d3, d4] => { results := [.lit (.bool true)], args := [d1, d2, d3, d4] }
  | _ => none }
def fnExactAreEqualTermsRow : OpenClaim := { program := "ytkbacbikbndakaa", sum := "7eab8c9051b671de14d0df6137b474e0c420e085d1934c87f56e3d13e0f4c9aa", func := "loop.example/g01078/laws.FnExactAreEqualTerms", spec := "fnExactAreEqualTerms", inPlace := ["internal/reflectlite.ValueOf", "internal/reflectlite.Swapper", "(internal/reflectlite.Value).Len"], unfollowed := true, recurses := true, apart := false }
def FnExactAreEqualTermsSaid : Prop := fnExactAreEqualTermsRow.holds Try.pinned (OpenSpec.ofChange fnExactAreEqualTermsSpec)

/-- ITS FALSE NEIGHBOUR: 'it returns false'. Refute it at one input. -/
def fnExactAreEqualTermsWrong : ChangeSpec := { name := "fnExactAreEqualTerms", fn := fun _ => fun
  | [d1, d2, d3, d4] => { results := [.lit (.bool false)], args := [d1, d2, d3, d4] }
  | _ => none }
def FnExactAreEqualTermsWrongFalsely : Prop := fnExactAreEqualTermsRow.holds Try.pinned (OpenSpec.ofChange fnExactAreEqualTermsWrong)

/-- 'laws.FnExactTermsFor': WHATEVER THE INPUT: true; the input reads as it did. -/
def fnExactTermsForSpec : ChangeSpec := { name := "fnExactTermsFor", fn := fun _ => fun
  | [d1, d2, d3] => { results := [.lit (.bool true)], args := [d1, d2, d3] }
  | _ => none }
def fnExactTermsForRow : OpenClaim := { program := "ytkbacbikbndakaa", sum := "7eab8c9051b671de14d0df6137b474e0c420e085d1934c87f56e3d13e0f4c9aa", func := "loop.example/g01078/laws.FnExactTermsFor", spec := "fnExactTermsFor", inPlace := ["internal/reflectlite.ValueOf", "internal/reflectlite.Swapper", "(internal/reflectlite.Value).Len"], unfollowed := true, recurses := true, apart := false }
def FnExactTermsForSaid : Prop := fnExactTermsForRow.holds Try.pinned (OpenSpec.ofChange fnExactTermsForSpec)

/-- ITS FALSE NEIGHBOUR: 'it returns false'. Refute it at one input. -/
def fnExactTermsForWrong : ChangeSpec := { name := "fnExactTermsFor", fn := fun _ => fun
  | [d1, d2, d3] => { results := [.lit (.bool false)], args := [d1, d2, d3] }
  | _ => none }
def FnExactTermsForWrongFalsely : Prop := fnExactTermsForRow.holds Try.pinned (OpenSpec.ofChange fnExactTermsForWrong)

/-- 'laws.FnExactFreeTerms': WHATEVER THE INPUT: true; the input reads as it did. -/
def fnExactFreeTermsSpec : ChangeSpec := { name := "fnExactFreeTerms", fn := fun _ => fun
  | [d1, d2] => { results := [.lit (.bool true)], args := [d1, d2] }
  | _ => none }
def fnExactFreeTermsRow : OpenClaim := { program := "ytkbacbikbndakaa", sum := "7eab8c9051b671de14d0df6137b474e0c420e085d1934c87f56e3d13e0f4c9aa", func := "loop.example/g01078/laws.FnExactFreeTerms", spec := "fnExactFreeTerms", inPlace := ["internal/reflectlite.ValueOf", "internal/reflectlite.Swapper", "(internal/reflectlite.Value).Len"], unfollowed := true, recurses := true, apart := false }
def FnExactFreeTermsSaid : Prop := fnExactFreeTermsRow.holds Try.pinned (OpenSpec.ofChange fnExactFreeTermsSpec)

/-- ITS FALSE NEIGHBOUR: 'it returns false'. Refute it at one input. -/
def fnExactFreeTermsWrong : ChangeSpec := { name := "fnExactFreeTerms", fn := fun _ => fun
  | [d1, d2] => { results := [.lit (.bool false)], args := [d1, d2] }
  | _ => none }
def FnExactFreeTermsWrongFalsely : Prop := fnExactFreeTermsRow.holds Try.pinned (OpenSpec.ofChange fnExactFreeTermsWrong)

/- THE SECOND FORM. 'bulk': how many values and letters a reading holds, each counted each time it is reached (what is shared counts as often as it is met; a slice's spare places count too). A statement '..UptoSaid' is the law's where the arguments, and the package variables that the reading takes, are together of bulk at most 1048576: NARROWER than '..Said'. Prove '..Said' where nothing that the law and all that it calls make is longer than what came in: it says more and counts as full. Else prove '..UptoSaid'. A law counts once. -/
mutual
def uptoBulk {H : Type} : DataW H → Nat
  | .lit (.string bytes) => bytes.length + 1
  | .lit _ => 1
  | .nil => 1
  | .ptr d => uptoBulk d + 1
  | .slice elems spare => uptoBulkAll elems + uptoBulkAll spare + 1
  | .agg parts => uptoBulkAll parts + 1
  | .iface _ d => uptoBulk d + 1
  | .map entries => uptoBulkEntries entries + 1
  | .held _ => 1
def uptoBulkAll {H : Type} : List (DataW H) → Nat
  | [] => 0
  | d :: r => uptoBulk d + uptoBulkAll r
def uptoBulkEntries {H : Type} : List (Lit × DataW H) → Nat
  | [] => 0
  | x :: r => uptoBulkEntry x + uptoBulkEntries r
def uptoBulkEntry {H : Type} : Lit × DataW H → Nat
  | (.string bytes, d) => bytes.length + uptoBulk d + 1
  | (_, d) => uptoBulk d + 1
 end
def uptoSmall : (H : Type) → List (DataW H) → Bool := fun _ ds => decide (uptoBulkAll ds ≤ 1048576)
def OpenSpec.upto (s : _root_.Go.ChangeSpec) : _root_.Go.OpenSpec := { _root_.Go.OpenSpec.ofChange s with cond := some uptoSmall }

/-- 'laws.FnExactGeneratedRelation', WHERE WHAT IT READS IS OF BULK AT MOST 1048576: true; the input reads as it did. -/
def fnExactGeneratedRelationUptoRow : OpenClaim := { program := "ytkbacbikbndakaa", sum := "7eab8c9051b671de14d0df6137b474e0c420e085d1934c87f56e3d13e0f4c9aa", func := "loop.example/g01078/laws.FnExactGeneratedRelation", spec := "fnExactGeneratedRelation", inPlace := ["internal/reflectlite.ValueOf", "internal/reflectlite.Swapper", "(internal/reflectlite.Value).Len"], unfollowed := true, recurses := true, apart := false, narrowed := true }
def FnExactGeneratedRelationUptoSaid : Prop := fnExactGeneratedRelationUptoRow.holds Try.pinned (OpenSpec.upto fnExactGeneratedRelationSpec)

/-- 'laws.FnExactFreeElementOf', WHERE WHAT IT READS IS OF BULK AT MOST 1048576: true; the input reads as it did. -/
def fnExactFreeElementOfUptoRow : OpenClaim := { program := "ytkbacbikbndakaa", sum := "7eab8c9051b671de14d0df6137b474e0c420e085d1934c87f56e3d13e0f4c9aa", func := "loop.example/g01078/laws.FnExactFreeElementOf", spec := "fnExactFreeElementOf", inPlace := ["internal/reflectlite.ValueOf", "internal/reflectlite.Swapper", "(internal/reflectlite.Value).Len"], unfollowed := true, recurses := true, apart := false, narrowed := true }
def FnExactFreeElementOfUptoSaid : Prop := fnExactFreeElementOfUptoRow.holds Try.pinned (OpenSpec.upto fnExactFreeElementOfSpec)

/-- 'laws.FnExactAreEqualTerms', WHERE WHAT IT READS IS OF BULK AT MOST 1048576: true; the input reads as it did. -/
def fnExactAreEqualTermsUptoRow : OpenClaim := { program := "ytkbacbikbndakaa", sum := "7eab8c9051b671de14d0df6137b474e0c420e085d1934c87f56e3d13e0f4c9aa", func := "loop.example/g01078/laws.FnExactAreEqualTerms", spec := "fnExactAreEqualTerms", inPlace := ["internal/reflectlite.ValueOf", "internal/reflectlite.Swapper", "(internal/reflectlite.Value).Len"], unfollowed := true, recurses := true, apart := false, narrowed := true }
def FnExactAreEqualTermsUptoSaid : Prop := fnExactAreEqualTermsUptoRow.holds Try.pinned (OpenSpec.upto fnExactAreEqualTermsSpec)

/-- 'laws.FnExactTermsFor', WHERE WHAT IT READS IS OF BULK AT MOST 1048576: true; the input reads as it did. -/
def fnExactTermsForUptoRow : OpenClaim := { program := "ytkbacbikbndakaa", sum := "7eab8c9051b671de14d0df6137b474e0c420e085d1934c87f56e3d13e0f4c9aa", func := "loop.example/g01078/laws.FnExactTermsFor", spec := "fnExactTermsFor", inPlace := ["internal/reflectlite.ValueOf", "internal/reflectlite.Swapper", "(internal/reflectlite.Value).Len"], unfollowed := true, recurses := true, apart := false, narrowed := true }
def FnExactTermsForUptoSaid : Prop := fnExactTermsForUptoRow.holds Try.pinned (OpenSpec.upto fnExactTermsForSpec)

/-- 'laws.FnExactFreeTerms', WHERE WHAT IT READS IS OF BULK AT MOST 1048576: true; the input reads as it did. -/
def fnExactFreeTermsUptoRow : OpenClaim := { program := "ytkbacbikbndakaa", sum := "7eab8c9051b671de14d0df6137b474e0c420e085d1934c87f56e3d13e0f4c9aa", func := "loop.example/g01078/laws.FnExactFreeTerms", spec := "fnExactFreeTerms", inPlace := ["internal/reflectlite.ValueOf", "internal/reflectlite.Swapper", "(internal/reflectlite.Value).Len"], unfollowed := true, recurses := true, apart := false, narrowed := true }
def FnExactFreeTermsUptoSaid : Prop := fnExactFreeTermsUptoRow.holds Try.pinned (OpenSpec.upto fnExactFreeTermsSpec)

end Rows
end Go.Proofs.Ytkbacbikbndakaa
