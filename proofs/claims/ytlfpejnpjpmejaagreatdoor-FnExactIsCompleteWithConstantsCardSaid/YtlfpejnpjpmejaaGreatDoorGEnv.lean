/- Lemmas on the model and on plain lists: a part of the proof. No conditions. -/
import Derived.Test.YtlfpejnpjpmejaaGreatDoorGFoc
set_option linter.unusedVariables false
namespace Go.G
open Go.RowKit

section
variable {P : Program} {ops : Array Oper} {Q : Exit → Act → World → Prop} {n : Nat} {σ : Nat → Value} {w : World}
theorem zax {ρ : Operand → Value} {X : Operand} {f : FuncId} {lb : Array Value} {xs : Array Operand} {ats : Array TypeId} {dst : Option Tmp} {ty : TypeId} {pos : String} {af : Array Edge} {g : Option (Nat × Bool)} {args : List Value} (h : ρ X = .func (.func f) #[] lb) (hb : zK P f) (ha : xs.toList.map ρ ++ lb.toList = args) :
    (execOp ρ ⟨dst, .call { callee := .value X, args := xs, argTypes := ats }, ty, pos, af, g⟩).run P w = .ok (.enter f args.toArray) w := by
  have e : xs.map ρ ++ lb = args.toArray := by rw [← ha]; apply Array.ext'; simp
  have hb' := hb args.toArray w;simp [execOp, resolve, Deferred.ofValue, h, invoke, e, hb']
theorem Wa {X : Operand} {f : FuncId} {lb : Array Value} {d : Nat} {xs : Array Operand} {ats : Array TypeId} {ty : TypeId} {pos : String} {af : Array Edge} {rest : List Oper} {args : List Value} {R : Value → World → Prop} (h : ev n σ X = .func (.func f) #[] lb) (hb : zK P f)
    (ha : xs.toList.map (ev n σ) ++ lb.toList = args) (hc : Gives P f args w R) (k : ∀ v w', R v w' → WL P ops Q rest (fr n (upd σ d v)) w') :
    WL P ops Q (⟨some d, .call { callee := .value X, args := xs, argTypes := ats }, ty, pos, af, none⟩ :: rest) (fr n σ) w := by
  refine ⟨wpList_plain rfl fun K hK => ?_⟩;unfold Oper.wp;rw [yL, zax h hb ha];simp only [Oper.upon];refine Calls.mono hc fun e w' ⟨v, he, hR⟩ => ?_
  subst he;show K _ _;rw [YP];exact hK _ _ (k v w' hR).out
theorem pl_callby {X : Operand} {f : FuncId} {lb : Array Value} {d : Nat} {xs : Array Operand} {ats : Array TypeId} {ty : TypeId} {pos : String} {af : Array Edge} {rest : List Oper} {args : List Value} {R : Value → World → Prop} {j tg : Nat} {want : Bool} (hj : (ops[j]?).bind (·.dst) = some tg) (hg : ev n σ (.tmp tg) = .bool want) (h : ev n σ X = .func (.func f) #[] lb) (hb : zK P f)
    (ha : xs.toList.map (ev n σ) ++ lb.toList = args) (hc : Gives P f args w R) (k : ∀ v w', R v w' → WL P ops Q rest (fr n (upd σ d v)) w') :
    WL P ops Q (⟨some d, .call { callee := .value X, args := xs, argTypes := ats }, ty, pos, af, some (j, want)⟩ :: rest) (fr n σ) w := by
  refine ⟨wpList_step fun K hK => ?_⟩;rw [if_pos (by simp [Region.wanted, Yw hj hg])];unfold Oper.wp;rw [yL, zax h hb ha];simp only [Oper.upon];refine Calls.mono hc fun e w' ⟨v, he, hR⟩ => ?_
  subst he;show K _ _;rw [YP];exact hK _ _ (k v w' hR).out
theorem VK {ρ : Operand → Value} {X : Operand} {f : FuncId} {lb : Array Value} {xs : Array Operand} {ats : Array TypeId} {dst : Option Tmp} {ty : TypeId} {pos : String} {af : Array Edge} {g : Option (Nat × Bool)} {args : List Value} {v : Value} {w' : World} (h : ρ X = .func (.func f) #[] lb)
    (ha : xs.toList.map ρ = args) (hr : (callFunc f (args.toArray ++ lb)).run P w = .ok (.value v) w') : Yv P ρ ⟨dst, .call { callee := .value X, args := xs, argTypes := ats }, ty, pos, af, g⟩ w v w' := by
  have e : xs.map ρ = args.toArray := by rw [← ha]; apply Array.ext'; simp
  unfold Yv;simp [execOp, resolve, Deferred.ofValue, h, invoke, e, hr]
end

def lsx {α : Type} (ls : α → α → Option Bool) (d : List α) (i j : Int) : Option Bool := (idx d i).bind fun x => (idx d j).bind fun y => ls x y
def swx {α : Type} (d : List α) (i j : Int) : Option (List α) := (idx d i).bind fun x => (idx d j).bind fun y => some ((d.set i.toNat y).set j.toNat x)
structure Env (P : Program) {α : Type} (n0 : Nat) (I : World → List α → Prop) (G : List Nat) (ls : α → α → Option Bool) (g : Nat) (lb : Array Value) (sf : Nat) (sb : Array Value) : Prop where
  ext : ∀ {w w' d X}, I w d → Chg X w w' → (∀ q ∈ X, n0 ≤ q) → I w' d
  bod : zK P g
  less : ∀ {w d} {i j : Int} {b : Bool}, I w d → lsx ls d i j = some b → Gives P g ([.int .i64 i, .int .i64 j] ++ lb.toList) w (fun v w' => v = .bool b ∧ Chg [] w w')
  swap : ∀ {w d d'} {i j : Int}, I w d → swx d i j = some d' → ∃ w', (callFunc sf ([.int .i64 i, .int .i64 j].toArray ++ sb)).run P w = .ok (.value (.tuple #[])) w' ∧ Chg G w w' ∧ I w' d'

def WM (K : Act → World → Prop) : Exit → Act → World → Prop
  | .ret, a, w => K a w
  | .normal, a, w => K a w
  | _, _, _ => False
theorem uA {P : Program} {n : Nat} {σ : Nat → Value} {w : World} {fn : Func} {R : Value → World → Prop} (hr : fn.results = #[]) (h : R (.tuple #[]) w) :
    bodyPost P fn (fun e w' => ∃ v, e = .returned v ∧ R v w') .ret (fr n σ) w := ⟨rfl, .tuple #[], by simp [results, hr], _, rfl, h⟩
theorem ur {P : Program} {n : Nat} {σ : Nat → Value} {w : World} {fn : Func} {R : Value → World → Prop} (hr : fn.results = #[]) (h : R (.tuple #[]) w) :
    bodyPost P fn (fun e w' => ∃ v, e = .returned v ∧ R v w') .normal (fr n σ) w := ⟨rfl, .tuple #[], by simp [results, hr], _, rfl, h⟩

theorem ZU {L : List Nat} : ∀ g, g ∈ L ++ [] → g ∈ L := fun g h => by rwa [List.append_nil] at h
theorem Yh {P : Program} {ρ : Operand → Value} {w : World} {d : Option Tmp} {ty : TypeId} {pos : String} {af : Array Edge} {g : Option (Nat × Bool)} {x : Operand} {s t : TypeId} {a : Int} {k k' : IntKind} {ds : TypeDesc} (hs : P.underlying s = some ds) (ht : P.underlying t = some (.int k')) (h : ρ x = .int k a) :
    Yv P ρ ⟨d, .convert s t x, ty, pos, af, g⟩ w (.int k' (k'.wrap a)) w := by
  unfold Yv;simp only [execOp, convert, h, Sem.run_bind, run_underlying hs, run_underlying ht, Result.andThen_ok];cases ds <;> simp [Conv.intToInt]

section
variable {P : Program} {ρ : Operand → Value} {w : World} {d : Option Tmp} {ty : TypeId} {pos : String} {af : Array Edge} {g : Option (Nat × Bool)} {x y : Operand} {t t' : TypeId} {a b : Int} {k : IntKind}
end
end Go.G
