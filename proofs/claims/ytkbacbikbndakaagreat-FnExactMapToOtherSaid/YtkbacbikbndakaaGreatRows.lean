/-
  No cell of these rows narrows 'for every input' (looked for: loops, veiled, ifaces, maps, wideKeys, modest, calm, conditions, laid).
  DERIVED. THE GIVEN ROWS OF THIS SEAT. 3 by the template 'for every input the law returns true; each argument reads behind the call as it read before'; 0 by the template 'total and deterministic' (their statements: YtkbacbikbndakaaGreatTotals.lean).
  GIVEN WITH THE SEED: the statements are not yours to turn. If you find one false, say at which input.
  Laid BY PROGRAM, IN A SANDBOX (cutbox-rows.mjs): the forced cells as the released guide's own fill.sh prints them over the translation 8f1ab348c6aaf0d0… (all of the seat's roots in one cut). By AI agents, Wed Nov 11 2026. No macro, syntax, notation, axiom, sorry.
-/
import Derived.Test.YtkbacbikbndakaaGreatChecked
import GoSem.Claim
import GoSem.ClaimJoined
import GoSem.ClaimMapViews
import Derived.JoinedTies
import Derived.KernelRfl
namespace Go.Proofs.YtkbacbikbndakaaGreat
/- THE CELL 'sum', in the pinned program and in every row, IS THE sha256 OF THE DUMP (.gsa) THAT YtkbacbikbndakaaGreatProg.lean LOADS. Nothing in Lean hashes anything: it is a label: what it is worth is what the hold of that sum in a sandbox is worth. -/
noncomputable def Tryz.pinned : Pinned := { name := "ytkbacbikbndakaagreat", sum := "8f1ab348c6aaf0d0d881a29acbf0cbea06e04745122080c75b64c2d8ff91d410", checked := Tryz.checked }
namespace Rows
def none {H : Type} : Left H := { results := [], args := [] }

/-- 'laws.FnExactHoldsWhereverHere': WHATEVER THE INPUT: true; the input reads as it did. -/
def fnExactHoldsWhereverHereSpec : ChangeSpec := { name := "fnExactHoldsWhereverHere", fn := fun _ => fun
  | [d1, d2, d3] => { results := [.lit (.bool true)], args := [d1, d2, d3] }
  | _ => none }
def fnExactHoldsWhereverHereRow : OpenClaim := { program := "ytkbacbikbndakaagreat", sum := "8f1ab348c6aaf0d0d881a29acbf0cbea06e04745122080c75b64c2d8ff91d410", func := "loop.example/g01078/laws.FnExactHoldsWhereverHere", spec := "fnExactHoldsWhereverHere", inPlace := ["internal/reflectlite.ValueOf", "internal/reflectlite.Swapper", "(internal/reflectlite.Value).Len"], unfollowed := true, recurses := true, apart := false }
def FnExactHoldsWhereverHereSaid : Prop := fnExactHoldsWhereverHereRow.holds Tryz.pinned (OpenSpec.ofChange fnExactHoldsWhereverHereSpec)

/-- ITS FALSE NEIGHBOUR: 'it returns false'. Refute it at one input. -/
def fnExactHoldsWhereverHereWrong : ChangeSpec := { name := "fnExactHoldsWhereverHere", fn := fun _ => fun
  | [d1, d2, d3] => { results := [.lit (.bool false)], args := [d1, d2, d3] }
  | _ => none }
def FnExactHoldsWhereverHereWrongFalsely : Prop := fnExactHoldsWhereverHereRow.holds Tryz.pinned (OpenSpec.ofChange fnExactHoldsWhereverHereWrong)

/-- 'laws.FnExactNormalTerm': WHATEVER THE INPUT: true; the input reads as it did. -/
def fnExactNormalTermSpec : ChangeSpec := { name := "fnExactNormalTerm", fn := fun _ => fun
  | [d1, d2, d3] => { results := [.lit (.bool true)], args := [d1, d2, d3] }
  | _ => none }
def fnExactNormalTermRow : OpenClaim := { program := "ytkbacbikbndakaagreat", sum := "8f1ab348c6aaf0d0d881a29acbf0cbea06e04745122080c75b64c2d8ff91d410", func := "loop.example/g01078/laws.FnExactNormalTerm", spec := "fnExactNormalTerm", inPlace := ["internal/reflectlite.ValueOf", "internal/reflectlite.Swapper", "(internal/reflectlite.Value).Len"], unfollowed := true, recurses := true, apart := false }
def FnExactNormalTermSaid : Prop := fnExactNormalTermRow.holds Tryz.pinned (OpenSpec.ofChange fnExactNormalTermSpec)

/-- ITS FALSE NEIGHBOUR: 'it returns false'. Refute it at one input. -/
def fnExactNormalTermWrong : ChangeSpec := { name := "fnExactNormalTerm", fn := fun _ => fun
  | [d1, d2, d3] => { results := [.lit (.bool false)], args := [d1, d2, d3] }
  | _ => none }
def FnExactNormalTermWrongFalsely : Prop := fnExactNormalTermRow.holds Tryz.pinned (OpenSpec.ofChange fnExactNormalTermWrong)

/-- 'laws.FnExactMapToOther': WHATEVER THE INPUT: true; the input reads as it did. -/
def fnExactMapToOtherSpec : ChangeSpec := { name := "fnExactMapToOther", fn := fun _ => fun
  | [d1, d2, d3, d4] => { results := [.lit (.bool true)], args := [d1, d2, d3, d4] }
  | _ => none }
def fnExactMapToOtherRow : OpenClaim := { program := "ytkbacbikbndakaagreat", sum := "8f1ab348c6aaf0d0d881a29acbf0cbea06e04745122080c75b64c2d8ff91d410", func := "loop.example/g01078/laws.FnExactMapToOther", spec := "fnExactMapToOther", inPlace := ["internal/reflectlite.ValueOf", "internal/reflectlite.Swapper", "(internal/reflectlite.Value).Len"], unfollowed := true, recurses := true, apart := false }
def FnExactMapToOtherSaid : Prop := fnExactMapToOtherRow.holds Tryz.pinned (OpenSpec.ofChange fnExactMapToOtherSpec)

/-- ITS FALSE NEIGHBOUR: 'it returns false'. Refute it at one input. -/
def fnExactMapToOtherWrong : ChangeSpec := { name := "fnExactMapToOther", fn := fun _ => fun
  | [d1, d2, d3, d4] => { results := [.lit (.bool false)], args := [d1, d2, d3, d4] }
  | _ => none }
def FnExactMapToOtherWrongFalsely : Prop := fnExactMapToOtherRow.holds Tryz.pinned (OpenSpec.ofChange fnExactMapToOtherWrong)

/- THE SECOND FORM. 'bulk': how many values and letters a reading holds, each counted each time it is reached (what is shared counts as often as it is met; a slice's spare places count too). A statement '..UptoSaid' is the law's where the arguments, and the package variables that the reading takes, are together of bulk at most 1048576: NARROWER than '..Said'. Prove '..Said' where nothing that the law and all that it calls make is longer than what came in: it says more and counts as full. Else prove '..UptoSaid'. A law counts once. -/
mutual
def uptoBulk {H : Type} : DataW H → Nat
  | .lit (.string bytes) => bytes.length + 1
  | .lit _ => 1
  | .nil => 1
  | .ptr d => uptoBulk d + 1
  | .slice elems spare => uptoBulkAll elems + uptoBulkAll spare + 1
  | .agg parts => uptoBulkAll parts + 1
  | .iface _ d => uptoBulk d + 1
  | .map entries => uptoBulkEntries entries + 1
  | .held _ => 1
def uptoBulkAll {H : Type} : List (DataW H) → Nat
  | [] => 0
  | d :: r => uptoBulk d + uptoBulkAll r
def uptoBulkEntries {H : Type} : List (Lit × DataW H) → Nat
  | [] => 0
  | x :: r => uptoBulkEntry x + uptoBulkEntries r
def uptoBulkEntry {H : Type} : Lit × DataW H → Nat
  | (.string bytes, d) => bytes.length + uptoBulk d + 1
  | (_, d) => uptoBulk d + 1
 end
def uptoSmall : (H : Type) → List (DataW H) → Bool := fun _ ds => decide (uptoBulkAll ds ≤ 1048576)
def OpenSpec.upto (s : _root_.Go.ChangeSpec) : _root_.Go.OpenSpec := { _root_.Go.OpenSpec.ofChange s with cond := some uptoSmall }

/-- 'laws.FnExactHoldsWhereverHere', WHERE WHAT IT READS IS OF BULK AT MOST 1048576: true; the input reads as it did. -/
def fnExactHoldsWhereverHereUptoRow : OpenClaim := { program := "ytkbacbikbndakaagreat", sum := "8f1ab348c6aaf0d0d881a29acbf0cbea06e04745122080c75b64c2d8ff91d410", func := "loop.example/g01078/laws.FnExactHoldsWhereverHere", spec := "fnExactHoldsWhereverHere", inPlace := ["internal/reflectlite.ValueOf", "internal/reflectlite.Swapper", "(internal/reflectlite.Value).Len"], unfollowed := true, recurses := true, apart := false, narrowed := true }
def FnExactHoldsWhereverHereUptoSaid : Prop := fnExactHoldsWhereverHereUptoRow.holds Tryz.pinned (OpenSpec.upto fnExactHoldsWhereverHereSpec)

/-- 'laws.FnExactNormalTerm', WHERE WHAT IT READS IS OF BULK AT MOST 1048576: true; the input reads as it did. -/
def fnExactNormalTermUptoRow : OpenClaim := { program := "ytkbacbikbndakaagreat", sum := "8f1ab348c6aaf0d0d881a29acbf0cbea06e04745122080c75b64c2d8ff91d410", func := "loop.example/g01078/laws.FnExactNormalTerm", spec := "fnExactNormalTerm", inPlace := ["internal/reflectlite.ValueOf", "internal/reflectlite.Swapper", "(internal/reflectlite.Value).Len"], unfollowed := true, recurses := true, apart := false, narrowed := true }
def FnExactNormalTermUptoSaid : Prop := fnExactNormalTermUptoRow.holds Tryz.pinned (OpenSpec.upto fnExactNormalTermSpec)

/-- 'laws.FnExactMapToOther', WHERE WHAT IT READS IS OF BULK AT MOST 1048576: true; the input reads as it did. -/
def fnExactMapToOtherUptoRow : OpenClaim := { program := "ytkbacbikbndakaagreat", sum := "8f1ab348c6aaf0d0d881a29acbf0cbea06e04745122080c75b64c2d8ff91d410", func := "loop.example/g01078/laws.FnExactMapToOther", spec := "fnExactMapToOther", inPlace := ["internal/reflectlite.ValueOf", "internal/reflectlite.Swapper", "(internal/reflectlite.Value).Len"], unfollowed := true, recurses := true, apart := false, narrowed := true }
def FnExactMapToOtherUptoSaid : Prop := fnExactMapToOtherUptoRow.holds Tryz.pinned (OpenSpec.upto fnExactMapToOtherSpec)

end Rows
end Go.Proofs.YtkbacbikbndakaaGreat
