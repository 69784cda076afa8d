/-
  No cell of these rows narrows 'for every input' (looked for: loops, veiled, ifaces, maps, wideKeys, modest, calm, conditions, laid).
  DERIVED. THE GIVEN ROWS OF THIS SEAT. 7 by the template 'for every input the law returns true; each argument reads behind the call as it read before'; 0 by the template 'total and deterministic' (their statements: YtlflgcnolmojfaaTotals.lean).
  GIVEN WITH THE SEED: the statements are not yours to turn. If you find one false, say at which input.
  Laid BY PROGRAM, IN A SANDBOX (cutbox-rows.mjs): the forced cells as the released guide's own fill.sh prints them over the translation e01d9cb84a334202… (all of the seat's roots in one cut). By AI agents, Wed Nov 11 2026. No macro, syntax, notation, axiom, sorry.
-/
import Derived.Test.YtlflgcnolmojfaaChecked
import GoSem.Claim
import GoSem.ClaimJoined
import GoSem.ClaimMapViews
import Derived.JoinedTies
import Derived.KernelRfl
namespace Go.Proofs.Ytlflgcnolmojfaa
/- THE CELL 'sum', in the pinned program and in every row, IS THE sha256 OF THE DUMP (.gsa) THAT YtlflgcnolmojfaaProg.lean LOADS. Nothing in Lean hashes anything: it is a label: what it is worth is what the hold of that sum in a sandbox is worth. -/
noncomputable def Try.pinned : Pinned := { name := "ytlflgcnolmojfaa", sum := "e01d9cb84a334202717c02f5b54f9873ecbb9aa94671d91f378339cdd6a7a84e", checked := Try.checked }
namespace Rows
def none {H : Type} : Left H := { results := [], args := [] }

/-- 'laws.FnExactDualDiscriminatorOp': WHATEVER THE INPUT: true; the input reads as it did. -/
def fnExactDualDiscriminatorOpSpec : ChangeSpec := { name := "fnExactDualDiscriminatorOp", fn := fun _ => fun
  | [d] => { results := [.lit (.bool true)], args := [d] }
  | _ => none }
def fnExactDualDiscriminatorOpRow : OpenClaim := { program := "ytlflgcnolmojfaa", sum := "e01d9cb84a334202717c02f5b54f9873ecbb9aa94671d91f378339cdd6a7a84e", func := "loop.example/g01078/laws.FnExactDualDiscriminatorOp", spec := "fnExactDualDiscriminatorOp", unfollowed := true, recurses := true, apart := false }
def FnExactDualDiscriminatorOpSaid : Prop := fnExactDualDiscriminatorOpRow.holds Try.pinned (OpenSpec.ofChange fnExactDualDiscriminatorOpSpec)

/-- ITS FALSE NEIGHBOUR: 'it returns false'. Refute it at one input. -/
def fnExactDualDiscriminatorOpWrong : ChangeSpec := { name := "fnExactDualDiscriminatorOp", fn := fun _ => fun
  | [d] => { results := [.lit (.bool false)], args := [d] }
  | _ => none }
def FnExactDualDiscriminatorOpWrongFalsely : Prop := fnExactDualDiscriminatorOpRow.holds Try.pinned (OpenSpec.ofChange fnExactDualDiscriminatorOpWrong)

/-- 'laws.FnExactDiscriminatorOp': WHATEVER THE INPUT: true; the input reads as it did. -/
def fnExactDiscriminatorOpSpec : ChangeSpec := { name := "fnExactDiscriminatorOp", fn := fun _ => fun
  | [d] => { results := [.lit (.bool true)], args := [d] }
  | _ => none }
def fnExactDiscriminatorOpRow : OpenClaim := { program := "ytlflgcnolmojfaa", sum := "e01d9cb84a334202717c02f5b54f9873ecbb9aa94671d91f378339cdd6a7a84e", func := "loop.example/g01078/laws.FnExactDiscriminatorOp", spec := "fnExactDiscriminatorOp", unfollowed := true, recurses := true, apart := false }
def FnExactDiscriminatorOpSaid : Prop := fnExactDiscriminatorOpRow.holds Try.pinned (OpenSpec.ofChange fnExactDiscriminatorOpSpec)

/-- ITS FALSE NEIGHBOUR: 'it returns false'. Refute it at one input. -/
def fnExactDiscriminatorOpWrong : ChangeSpec := { name := "fnExactDiscriminatorOp", fn := fun _ => fun
  | [d] => { results := [.lit (.bool false)], args := [d] }
  | _ => none }
def FnExactDiscriminatorOpWrongFalsely : Prop := fnExactDiscriminatorOpRow.holds Try.pinned (OpenSpec.ofChange fnExactDiscriminatorOpWrong)

/-- 'laws.FnExactIsDiscriminatorOp': WHATEVER THE INPUT: true; the input reads as it did. -/
def fnExactIsDiscriminatorOpSpec : ChangeSpec := { name := "fnExactIsDiscriminatorOp", fn := fun _ => fun
  | [d1, d2] => { results := [.lit (.bool true)], args := [d1, d2] }
  | _ => none }
def fnExactIsDiscriminatorOpRow : OpenClaim := { program := "ytlflgcnolmojfaa", sum := "e01d9cb84a334202717c02f5b54f9873ecbb9aa94671d91f378339cdd6a7a84e", func := "loop.example/g01078/laws.FnExactIsDiscriminatorOp", spec := "fnExactIsDiscriminatorOp", unfollowed := true, recurses := true, apart := false }
def FnExactIsDiscriminatorOpSaid : Prop := fnExactIsDiscriminatorOpRow.holds Try.pinned (OpenSpec.ofChange fnExactIsDiscriminatorOpSpec)

/-- ITS FALSE NEIGHBOUR: 'it returns false'. Refute it at one input. -/
def fnExactIsDiscriminatorOpWrong : ChangeSpec := { name := "fnExactIsDiscriminatorOp", fn := fun _ => fun
  | [d1, d2] => { results := [.lit (.bool false)], args := [d1, d2] }
  | _ => none }
def FnExactIsDiscriminatorOpWrongFalsely : Prop := fnExactIsDiscriminatorOpRow.holds Try.pinned (OpenSpec.ofChange fnExactIsDiscriminatorOpWrong)

/-- 'laws.FnExactPixleyFrom': WHATEVER THE INPUT: true; the input reads as it did. -/
def fnExactPixleyFromSpec : ChangeSpec := { name := "fnExactPixleyFrom", fn := fun _ => fun
  | [d1, d2, d3] => { results := [.lit (.bool true)], args := [d1, d2, d3] }
  | _ => none }
def fnExactPixleyFromRow : OpenClaim := { program := "ytlflgcnolmojfaa", sum := "e01d9cb84a334202717c02f5b54f9873ecbb9aa94671d91f378339cdd6a7a84e", func := "loop.example/g01078/laws.FnExactPixleyFrom", spec := "fnExactPixleyFrom", apart := false }
def FnExactPixleyFromSaid : Prop := fnExactPixleyFromRow.holds Try.pinned (OpenSpec.ofChange fnExactPixleyFromSpec)

/-- ITS FALSE NEIGHBOUR: 'it returns false'. Refute it at one input. -/
def fnExactPixleyFromWrong : ChangeSpec := { name := "fnExactPixleyFrom", fn := fun _ => fun
  | [d1, d2, d3] => { results := [.lit (.bool false)], args := [d1, d2, d3] }
  | _ => none }
def FnExactPixleyFromWrongFalsely : Prop := fnExactPixleyFromRow.holds Try.pinned (OpenSpec.ofChange fnExactPixleyFromWrong)

/-- 'laws.FnExactDoPermute': WHATEVER THE INPUT: true; the input reads as it did. -/
def fnExactDoPermuteSpec : ChangeSpec := { name := "fnExactDoPermute", fn := fun _ => fun
  | [d1, d2, d3] => { results := [.lit (.bool true)], args := [d1, d2, d3] }
  | _ => none }
def fnExactDoPermuteRow : OpenClaim := { program := "ytlflgcnolmojfaa", sum := "e01d9cb84a334202717c02f5b54f9873ecbb9aa94671d91f378339cdd6a7a84e", func := "loop.example/g01078/laws.FnExactDoPermute", spec := "fnExactDoPermute", apart := false }
def FnExactDoPermuteSaid : Prop := fnExactDoPermuteRow.holds Try.pinned (OpenSpec.ofChange fnExactDoPermuteSpec)

/-- ITS FALSE NEIGHBOUR: 'it returns false'. Refute it at one input. -/
def fnExactDoPermuteWrong : ChangeSpec := { name := "fnExactDoPermute", fn := fun _ => fun
  | [d1, d2, d3] => { results := [.lit (.bool false)], args := [d1, d2, d3] }
  | _ => none }
def FnExactDoPermuteWrongFalsely : Prop := fnExactDoPermuteRow.holds Try.pinned (OpenSpec.ofChange fnExactDoPermuteWrong)

/-- 'laws.FnExactIsUnanimityOp': WHATEVER THE INPUT: true; the input reads as it did. -/
def fnExactIsUnanimityOpSpec : ChangeSpec := { name := "fnExactIsUnanimityOp", fn := fun _ => fun
  | [d1, d2] => { results := [.lit (.bool true)], args := [d1, d2] }
  | _ => none }
def fnExactIsUnanimityOpRow : OpenClaim := { program := "ytlflgcnolmojfaa", sum := "e01d9cb84a334202717c02f5b54f9873ecbb9aa94671d91f378339cdd6a7a84e", func := "loop.example/g01078/laws.FnExactIsUnanimityOp", spec := "fnExactIsUnanimityOp", apart := false }
def FnExactIsUnanimityOpSaid : Prop := fnExactIsUnanimityOpRow.holds Try.pinned (OpenSpec.ofChange fnExactIsUnanimityOpSpec)

/-- ITS FALSE NEIGHBOUR: 'it returns false'. Refute it at one input. -/
def fnExactIsUnanimityOpWrong : ChangeSpec := { name := "fnExactIsUnanimityOp", fn := fun _ => fun
  | [d1, d2] => { results := [.lit (.bool false)], args := [d1, d2] }
  | _ => none }
def FnExactIsUnanimityOpWrongFalsely : Prop := fnExactIsUnanimityOpRow.holds Try.pinned (OpenSpec.ofChange fnExactIsUnanimityOpWrong)

/-- 'laws.FnExactIsPixleyOp': WHATEVER THE INPUT: true; the input reads as it did. -/
def fnExactIsPixleyOpSpec : ChangeSpec := { name := "fnExactIsPixleyOp", fn := fun _ => fun
  | [d1, d2] => { results := [.lit (.bool true)], args := [d1, d2] }
  | _ => none }
def fnExactIsPixleyOpRow : OpenClaim := { program := "ytlflgcnolmojfaa", sum := "e01d9cb84a334202717c02f5b54f9873ecbb9aa94671d91f378339cdd6a7a84e", func := "loop.example/g01078/laws.FnExactIsPixleyOp", spec := "fnExactIsPixleyOp", apart := false }
def FnExactIsPixleyOpSaid : Prop := fnExactIsPixleyOpRow.holds Try.pinned (OpenSpec.ofChange fnExactIsPixleyOpSpec)

/-- ITS FALSE NEIGHBOUR: 'it returns false'. Refute it at one input. -/
def fnExactIsPixleyOpWrong : ChangeSpec := { name := "fnExactIsPixleyOp", fn := fun _ => fun
  | [d1, d2] => { results := [.lit (.bool false)], args := [d1, d2] }
  | _ => none }
def FnExactIsPixleyOpWrongFalsely : Prop := fnExactIsPixleyOpRow.holds Try.pinned (OpenSpec.ofChange fnExactIsPixleyOpWrong)

/- THE SECOND FORM. 'bulk': how many values and letters a reading holds, each counted each time it is reached (what is shared counts as often as it is met; a slice's spare places count too). A statement '..UptoSaid' is the law's where the arguments, and the package variables that the reading takes, are together of bulk at most 1048576: NARROWER than '..Said'. Prove '..Said' where nothing that the law and all that it calls make is longer than what came in: it says more and counts as full. Else prove '..UptoSaid'. A law counts once. -/
mutual
def uptoBulk {H : Type} : DataW H → Nat
  | .lit (.string bytes) => bytes.length + 1
  | .lit _ => 1
  | .nil => 1
  | .ptr d => uptoBulk d + 1
  | .slice elems spare => uptoBulkAll elems + uptoBulkAll spare + 1
  | .agg parts => uptoBulkAll parts + 1
  | .iface _ d => uptoBulk d + 1
  | .map entries => uptoBulkEntries entries + 1
  | .held _ => 1
def uptoBulkAll {H : Type} : List (DataW H) → Nat
  | [] => 0
  | d :: r => uptoBulk d + uptoBulkAll r
def uptoBulkEntries {H : Type} : List (Lit × DataW H) → Nat
  | [] => 0
  | x :: r => uptoBulkEntry x + uptoBulkEntries r
def uptoBulkEntry {H : Type} : Lit × DataW H → Nat
  | (.string bytes, d) => bytes.length + uptoBulk d + 1
  | (_, d) => uptoBulk d + 1
 end
def uptoSmall : (H : Type) → List (DataW H) → Bool := fun _ ds => decide (uptoBulkAll ds ≤ 1048576)
def OpenSpec.upto (s : _root_.Go.ChangeSpec) : _root_.Go.OpenSpec := { _root_.Go.OpenSpec.ofChange s with cond := some uptoSmall }

/-- 'laws.FnExactDualDiscriminatorOp', WHERE WHAT IT READS IS OF BULK AT MOST 1048576: true; the input reads as it did. -/
def fnExactDualDiscriminatorOpUptoRow : OpenClaim := { program := "ytlflgcnolmojfaa", sum := "e01d9cb84a334202717c02f5b54f9873ecbb9aa94671d91f378339cdd6a7a84e", func := "loop.example/g01078/laws.FnExactDualDiscriminatorOp", spec := "fnExactDualDiscriminatorOp", unfollowed := true, recurses := true, apart := false, narrowed := true }
def FnExactDualDiscriminatorOpUptoSaid : Prop := fnExactDualDiscriminatorOpUptoRow.holds Try.pinned (OpenSpec.upto fnExactDualDiscriminatorOpSpec)

/-- 'laws.FnExactDiscriminatorOp', WHERE WHAT IT READS IS OF BULK AT MOST 1048576: true; the input reads as it did. -/
def fnExactDiscriminatorOpUptoRow : OpenClaim := { program := "ytlflgcnolmojfaa", sum := "e01d9cb84a334202717c02f5b54f9873ecbb9aa94671d91f378339cdd6a7a84e", func := "loop.example/g01078/laws.FnExactDiscriminatorOp", spec := "fnExactDiscriminatorOp", unfollowed := true, recurses := true, apart := false, narrowed := true }
def FnExactDiscriminatorOpUptoSaid : Prop := fnExactDiscriminatorOpUptoRow.holds Try.pinned (OpenSpec.upto fnExactDiscriminatorOpSpec)

/-- 'laws.FnExactIsDiscriminatorOp', WHERE WHAT IT READS IS OF BULK AT MOST 1048576: true; the input reads as it did. -/
def fnExactIsDiscriminatorOpUptoRow : OpenClaim := { program := "ytlflgcnolmojfaa", sum := "e01d9cb84a334202717c02f5b54f9873ecbb9aa94671d91f378339cdd6a7a84e", func := "loop.example/g01078/laws.FnExactIsDiscriminatorOp", spec := "fnExactIsDiscriminatorOp", unfollowed := true, recurses := true, apart := false, narrowed := true }
def FnExactIsDiscriminatorOpUptoSaid : Prop := fnExactIsDiscriminatorOpUptoRow.holds Try.pinned (OpenSpec.upto fnExactIsDiscriminatorOpSpec)

/-- 'laws.FnExactPixleyFrom', WHERE WHAT IT READS IS OF BULK AT MOST 1048576: true; the input reads as it did. -/
def fnExactPixleyFromUptoRow : OpenClaim := { program := "ytlflgcnolmojfaa", sum := "e01d9cb84a334202717c02f5b54f9873ecbb9aa94671d91f378339cdd6a7a84e", func := "loop.example/g01078/laws.FnExactPixleyFrom", spec := "fnExactPixleyFrom", apart := false, narrowed := true }
def FnExactPixleyFromUptoSaid : Prop := fnExactPixleyFromUptoRow.holds Try.pinned (OpenSpec.upto fnExactPixleyFromSpec)

/-- 'laws.FnExactDoPermute', WHERE WHAT IT READS IS OF BULK AT MOST 1048576: true; the input reads as it did. -/
def fnExactDoPermuteUptoRow : OpenClaim := { program := "ytlflgcnolmojfaa", sum := "e01d9cb84a334202717c02f5b54f9873ecbb9aa94671d91f378339cdd6a7a84e", func := "loop.example/g01078/laws.FnExactDoPermute", spec := "fnExactDoPermute", apart := false, narrowed := true }
def FnExactDoPermuteUptoSaid : Prop := fnExactDoPermuteUptoRow.holds Try.pinned (OpenSpec.upto fnExactDoPermuteSpec)

/-- 'laws.FnExactIsUnanimityOp', WHERE WHAT IT READS IS OF BULK AT MOST 1048576: true; the input reads as it did. -/
def fnExactIsUnanimityOpUptoRow : OpenClaim := { program := "ytlflgcnolmojfaa", sum := "e01d9cb84a334202717c02f5b54f9873ecbb9aa94671d91f378339cdd6a7a84e", func := "loop.example/g01078/laws.FnExactIsUnanimityOp", spec := "fnExactIsUnanimityOp", apart := false, narrowed := true }
def FnExactIsUnanimityOpUptoSaid : Prop := fnExactIsUnanimityOpUptoRow.holds Try.pinned (OpenSpec.upto fnExactIsUnanimityOpSpec)

/-- 'laws.FnExactIsPixleyOp', WHERE WHAT IT READS IS OF BULK AT MOST 1048576: true; the input reads as it did. -/
def fnExactIsPixleyOpUptoRow : OpenClaim := { program := "ytlflgcnolmojfaa", sum := "e01d9cb84a334202717c02f5b54f9873ecbb9aa94671d91f378339cdd6a7a84e", func := "loop.example/g01078/laws.FnExactIsPixleyOp", spec := "fnExactIsPixleyOp", apart := false, narrowed := true }
def FnExactIsPixleyOpUptoSaid : Prop := fnExactIsPixleyOpUptoRow.holds Try.pinned (OpenSpec.upto fnExactIsPixleyOpSpec)

end Rows
end Go.Proofs.Ytlflgcnolmojfaa
