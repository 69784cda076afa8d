/- Lemmas on the model and on plain lists: a part of the proof. No conditions. -/
import Derived.WalkKit
import Derived.KernelRfl
set_option linter.unusedVariables false
namespace Go.G
open Go.RowKit

def upd (σ : Nat → Value) (d : Nat) (v : Value) : Nat → Value := fun t => bif Nat.beq t d then v else σ t
def fr (n : Nat) (σ : Nat → Value) : Act := ⟨((List.range n).map σ).toArray, []⟩
def ev (n : Nat) (σ : Nat → Value) : Operand → Value
  | .tmp t => bif Nat.blt t n then σ t else undef
  | .const v => v
  | .global g => .pointer (some ⟨g, 0, none⟩)
  | .func f => .func (.func f) #[] #[]

theorem UP (n : Nat) (σ : Nat → Value) (t : Nat) : (fr n σ).tmps[t]? = bif Nat.blt t n then some (σ t) else none := by
  unfold fr;by_cases h : t < n
  · have hb : Nat.blt t n = true := by rw [Nat.blt_eq]; exact h
    simp [h, hb]
  · have hb : Nat.blt t n = false := by
      cases hc : Nat.blt t n with
      | false => rfl
      | true => rw [Nat.blt_eq] at hc; exact absurd hc h
    simp [h, hb]

theorem yL (n : Nat) (σ : Nat → Value) : (fr n σ).eval = ev n σ := by
  funext x
  cases x with
  | tmp t =>
    have h := UP n σ t;simp only [Act.eval, ev, Array.getD_eq_getD_getElem?, h];cases Nat.blt t n <;> rfl
  | _ => rfl

theorem beq_ne {a b : Nat} (h : a ≠ b) : Nat.beq a b = false := by
  cases hc : Nat.beq a b with
  | false => rfl
  | true => exact absurd (Nat.eq_of_beq_eq_true hc) h

theorem fr_size (n : Nat) (σ : Nat → Value) : (fr n σ).tmps.size = n := by simp [fr]

theorem YP (n : Nat) (σ : Nat → Value) (d : Nat) (v : Value) : (fr n σ).put (some d) v = fr n (upd σ d v) := by
  show (⟨(fr n σ).tmps.setIfInBounds d v, []⟩ : Act) = ⟨(fr n (upd σ d v)).tmps, []⟩;congr 1;apply Array.ext_getElem?;intro t;rw [Array.getElem?_setIfInBounds, UP, UP, fr_size];by_cases hd : d = t
  · subst hd;simp only [if_true, upd, Nat.beq_refl, cond_true];by_cases ht : d < n
    · have hb : Nat.blt d n = true := by rw [Nat.blt_eq]; exact ht
      simp [ht, hb]
    · have hb : Nat.blt d n = false := by
        cases hc : Nat.blt d n with
        | false => rfl
        | true => rw [Nat.blt_eq] at hc; exact absurd hc ht
      simp [ht, hb]
  · simp only [hd, if_false, upd, beq_ne (fun e => hd e.symm), cond_false]

def ovl (σ : Nat → Value) : List (Nat × Value) → Nat → Value
  | [], t => σ t
  | (d, v) :: l, t => bif Nat.beq t d then v else ovl σ l t
def AllEq (σ : Nat → Value) : List (Nat × Value) → Prop
  | [] => True
  | (d, v) :: l => σ d = v ∧ AllEq σ l
theorem ovl_eq {σ : Nat → Value} : ∀ {l : List (Nat × Value)}, AllEq σ l → ovl σ l = σ
  | [], _ => rfl
  | (d, v) :: l, h => by
    funext t
    show (bif Nat.beq t d then v else ovl σ l t) = σ t;rw [ovl_eq h.2];cases hb : Nat.beq t d with
    | false => rfl
    | true => rw [Nat.eq_of_beq_eq_true hb]; exact h.1.symm
theorem zF (n : Nat) {σ : Nat → Value} {l : List (Nat × Value)} (h : AllEq σ l) : fr n σ = fr n (ovl σ l) := by rw [ovl_eq h]

theorem fr_enter (args : List Value) (n : Nat) (h : args.length ≤ n) :
    (⟨args.toArray ++ Array.replicate (n - args.toArray.size) undef, []⟩ : Act) = fr n (fun t => args.getD t undef) := by
  unfold fr;congr 1;apply Array.ext_getElem?;intro t;simp only [Array.getElem?_append, List.size_toArray, List.getElem?_toArray, Array.getElem?_replicate, List.getElem?_map];by_cases ht : t < args.length
  · have hn : t < n := by omega
    simp [ht, hn]
  · by_cases hn : t < n
    · have : t - args.length < n - args.length := by omega
      simp [ht, hn, this]
    · have : ¬ (t - args.length < n - args.length) := by omega
      simp [ht, hn, this]

theorem zx {P : Program} {f : FuncId} {fn : Func} {c : Code} {n : Nat} {args : List Value} {w : World} {R : Ending → World → Prop}
    (hf : P.funcs[f]? = some fn) (hb : fn.body = some c) (hn : fn.ntmps = n) (hl : args.length ≤ n)
    (h : c.wp P (bodyPost P fn R) (fr n (fun t => args.getD t undef)) w) : Calls P f args.toArray w R := by
  refine calls_of_wp hf hb ?_;rw [hn, fr_enter args n hl];exact h

section
variable {P : Program} {ops : Array Oper} {Q : Exit → Act → World → Prop} {n : Nat} {σ : Nat → Value} {w : World}

structure WL (P : Program) (ops : Array Oper) (Q : Exit → Act → World → Prop) (l : List Oper) (a : Act) (w : World) : Prop where
  out : wpList P ops Q l a w

def Yv (P : Program) (ρ : Operand → Value) (o : Oper) (w : World) (v : Value) (w' : World) : Prop := (execOp ρ o).run P w = .ok (.value v) w'
def Ys (P : Program) (ρ : Operand → Value) (o : Oper) (w : World) (w' : World) : Prop := (execOp ρ o).run P w = .ok .skip w'

theorem za {d : Nat} {op : Op} {ty : TypeId} {pos : String} {af : Array Edge} {rest : List Oper} (v : Value) {w' : World}
    (hr : Yv P (ev n σ) ⟨some d, op, ty, pos, af, none⟩ w v w') (k : WL P ops Q rest (fr n (upd σ d v)) w') :
    WL P ops Q (⟨some d, op, ty, pos, af, none⟩ :: rest) (fr n σ) w := by
  refine ⟨wpList_plain rfl fun K hK => ?_⟩;unfold Oper.wp;rw [yL, hr];simp only [Oper.upon];rw [YP];exact hK _ _ k.out

theorem zS {op : Op} {ty : TypeId} {pos : String} {af : Array Edge} {rest : List Oper} {w' : World}
    (hr : Ys P (ev n σ) ⟨none, op, ty, pos, af, none⟩ w w') (k : WL P ops Q rest (fr n σ) w') :
    WL P ops Q (⟨none, op, ty, pos, af, none⟩ :: rest) (fr n σ) w := by
  refine ⟨wpList_plain rfl fun K hK => ?_⟩;unfold Oper.wp;rw [yL, hr];simp only [Oper.upon];exact hK _ _ k.out

def gd (n : Nat) (σ : Nat → Value) (ops : Array Oper) (j : Nat) : Value :=
  match (ops[j]?).bind (·.dst) with
  | some t => ev n σ (.tmp t)
  | none => undef

theorem zdm {j : Nat} {b : Bool} (h : gd n σ ops j = .bool b) : yielded ops (fr n σ).tmps j = some b := by
  unfold yielded gd at *;cases hd : (ops[j]?).bind (·.dst) with
  | none => rw [hd] at h; cases h
  | some t =>
    rw [hd] at h;simp only [ev] at h;simp only [Option.bind_some, UP];cases hb : Nat.blt t n with
    | false => rw [hb] at h; cases h
    | true => rw [hb] at h; simp only [cond_true] at h ⊢; rw [h]

theorem Yw {j t : Nat} {b : Bool} (hj : (ops[j]?).bind (·.dst) = some t) (h : ev n σ (.tmp t) = .bool b) : yielded ops (fr n σ).tmps j = some b :=
  zdm (by unfold gd; rw [hj]; exact h)

theorem pl_not {d : Nat} {op : Op} {ty : TypeId} {pos : String} {af : Array Edge} {j tg : Nat} {want : Bool} {rest : List Oper}
    (hj : (ops[j]?).bind (·.dst) = some tg) (hg : ev n σ (.tmp tg) = .bool (!want)) (k : WL P ops Q rest (fr n (upd σ d undef)) w) :
    WL P ops Q (⟨some d, op, ty, pos, af, some (j, want)⟩ :: rest) (fr n σ) w := by
  refine ⟨wpList_step fun K hK => ?_⟩;rw [if_neg (by simp [Region.wanted, Yw hj hg])];rw [YP];exact hK _ _ k.out

theorem pl_yes {d : Nat} {op : Op} {ty : TypeId} {pos : String} {af : Array Edge} {j tg : Nat} {want : Bool} {rest : List Oper} (v : Value) {w' : World}
    (hj : (ops[j]?).bind (·.dst) = some tg) (hg : ev n σ (.tmp tg) = .bool want) (hr : Yv P (ev n σ) ⟨some d, op, ty, pos, af, some (j, want)⟩ w v w') (k : WL P ops Q rest (fr n (upd σ d v)) w') :
    WL P ops Q (⟨some d, op, ty, pos, af, some (j, want)⟩ :: rest) (fr n σ) w := by
  refine ⟨wpList_step fun K hK => ?_⟩;rw [if_pos (by simp [Region.wanted, Yw hj hg])];unfold Oper.wp;rw [yL, hr];simp only [Oper.upon];rw [YP];exact hK _ _ k.out

end
end Go.G
