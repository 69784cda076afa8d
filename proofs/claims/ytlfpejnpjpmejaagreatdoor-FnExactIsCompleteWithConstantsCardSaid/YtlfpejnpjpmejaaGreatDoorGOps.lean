/- Lemmas on the model and on plain lists: a part of the proof. No conditions. -/
import Derived.Test.YtlfpejnpjpmejaaGreatDoorGBase
set_option linter.unusedVariables false
namespace Go.G
open Go.RowKit

abbrev w64 (x : Int) : Int := IntKind.i64.wrap x

section
variable {P : Program} {ρ : Operand → Value} {w : World} {d : Option Tmp} {ty : TypeId} {pos : String} {af : Array Edge} {g : Option (Nat × Bool)}
  {x y z : Operand} {t t' : TypeId} {a b : Int} {p q : Bool} {v : Value} {k : IntKind}

theorem zD (h : ρ x = v) : Yv P ρ ⟨d, .move x, ty, pos, af, g⟩ w v w := by subst h; rfl
theorem zG (h : ρ x = v) : Yv P ρ ⟨d, .assign x, ty, pos, af, g⟩ w v w := by subst h; rfl
theorem yF (h : ρ x = .bool true) (h' : ρ y = v) : Yv P ρ ⟨d, .pick x y z, ty, pos, af, g⟩ w v w := by subst h'; unfold Yv execOp; simp [h, asBool]
theorem yH (h : ρ x = .bool false) (h' : ρ z = v) : Yv P ρ ⟨d, .pick x y z, ty, pos, af, g⟩ w v w := by subst h'; unfold Yv execOp; simp [h, asBool]
theorem yc (h : ρ x = .bool p) : Yv P ρ ⟨d, .unOp .not t x, ty, pos, af, g⟩ w (.bool (!p)) w := by unfold Yv execOp; simp [h, Op.unary]
theorem yr {op : BinOp} {t : TypeId} {x y : Operand} {k k' : IntKind} {a b : Int} : (eqGuard op t x y (.int k a) (.int k' b)).run P w = .ok () w := by
  unfold eqGuard;split <;> simp
theorem Vx {op : BinOp} {t : TypeId} {x y : Operand} {a b : Bool} : (eqGuard op t x y (.bool a) (.bool b)).run P w = .ok () w := by
  unfold eqGuard;split <;> simp

theorem y_add (h : ρ x = .int k a) (h' : ρ y = .int k b) : Yv P ρ ⟨d, .binOp .add t x y t', ty, pos, af, g⟩ w (.int k (k.wrap (a + b))) w := by
  unfold Yv execOp; simp [h, h', yr, binOp, Op.intArith]
theorem y_sub (h : ρ x = .int k a) (h' : ρ y = .int k b) : Yv P ρ ⟨d, .binOp .sub t x y t', ty, pos, af, g⟩ w (.int k (k.wrap (a - b))) w := by
  unfold Yv execOp; simp [h, h', yr, binOp, Op.intArith]
theorem y_mul (h : ρ x = .int k a) (h' : ρ y = .int k b) : Yv P ρ ⟨d, .binOp .mul t x y t', ty, pos, af, g⟩ w (.int k (k.wrap (a * b))) w := by
  unfold Yv execOp; simp [h, h', yr, binOp, Op.intArith]
theorem UH (h : ρ x = .int k a) (h' : ρ y = .int k b) (hb : b ≠ 0) : Yv P ρ ⟨d, .binOp .quo t x y t', ty, pos, af, g⟩ w (.int k (k.wrap (a.tdiv b))) w := by
  unfold Yv execOp; simp [h, h', yr, binOp, Op.intDiv, hb]
theorem zaL (h : ρ x = .int k a) (h' : ρ y = .int k b) (hb : b ≠ 0) : Yv P ρ ⟨d, .binOp .rem t x y t', ty, pos, af, g⟩ w (.int k (a.tmod b)) w := by
  unfold Yv execOp; simp [h, h', yr, binOp, Op.intDiv, hb]
theorem zA (h : ρ x = .int k a) (h' : ρ y = .int k b) : Yv P ρ ⟨d, .binOp .lss t x y t', ty, pos, af, g⟩ w (.bool (decide (a < b))) w := by
  unfold Yv execOp; simp [h, h', yr, binOp, Op.intCmp]
theorem vv (h : ρ x = .int k a) (h' : ρ y = .int k b) : Yv P ρ ⟨d, .binOp .leq t x y t', ty, pos, af, g⟩ w (.bool (decide (a ≤ b))) w := by
  unfold Yv execOp; simp [h, h', yr, binOp, Op.intCmp]
theorem xg (h : ρ x = .int k a) (h' : ρ y = .int k b) : Yv P ρ ⟨d, .binOp .gtr t x y t', ty, pos, af, g⟩ w (.bool (decide (b < a))) w := by
  unfold Yv execOp; simp [h, h', yr, binOp, Op.intCmp]
theorem WU (h : ρ x = .int k a) (h' : ρ y = .int k b) : Yv P ρ ⟨d, .binOp .geq t x y t', ty, pos, af, g⟩ w (.bool (decide (b ≤ a))) w := by
  unfold Yv execOp; simp [h, h', yr, binOp, Op.intCmp]
theorem xn (h : ρ x = .int k a) (h' : ρ y = .int k b) : Yv P ρ ⟨d, .binOp .eql t x y t', ty, pos, af, g⟩ w (.bool (a == b)) w := by
  unfold Yv execOp; simp [h, h', yr, binOp, Op.intCmp]
theorem Xp (h : ρ x = .int k a) (h' : ρ y = .int k b) : Yv P ρ ⟨d, .binOp .neq t x y t', ty, pos, af, g⟩ w (.bool (a != b)) w := by
  unfold Yv execOp; simp [h, h', yr, binOp, Op.intCmp]
theorem y_beql (ht : P.underlying t = some .bool) (h : ρ x = .bool p) (h' : ρ y = .bool q) : Yv P ρ ⟨d, .binOp .eql t x y t', ty, pos, af, g⟩ w (.bool (p == q)) w := by
  unfold Yv execOp; simp only [h, h', Sem.run_bind, Vx, Result.andThen_ok, run_eql_bool w t p q ht]; rfl
theorem y_bneq (ht : P.underlying t = some .bool) (h : ρ x = .bool p) (h' : ρ y = .bool q) : Yv P ρ ⟨d, .binOp .neq t x y t', ty, pos, af, g⟩ w (.bool (!(p == q))) w := by
  unfold Yv execOp; simp only [h, h', Sem.run_bind, Vx, Result.andThen_ok, run_neq_bool w t p q ht]; rfl
end

section
variable {P : Program} {ρ : Operand → Value} {w : World} {d : Option Tmp} {ty : TypeId} {pos : String} {af : Array Edge} {g : Option (Nat × Bool)} {x y z : Operand} {t e : TypeId}

theorem y_len {a : Option Addr} {n c : Nat} (ht : P.underlying t = some (.slice e)) (h : ρ x = .slice a n c) :
    Yv P ρ ⟨d, .call { callee := .builtin .len, args := #[x], argTypes := #[t] }, ty, pos, af, g⟩ w (.int .i64 n) w := by
  unfold Yv execOp;simp [resolve, invoke, builtin, h, Builtin.len_, run_underlying ht, goInt]

theorem ut {gb off n c i : Nat} {j : TypeInfo} (ht : P.underlying t = some (.slice e)) (hj : P.info? e = some j) (h : ρ x = .slice (some ⟨gb, off, none⟩) n c) (h' : ρ y = .int .i64 (i : Int)) (hi : i < n) :
    Yv P ρ ⟨d, .indexAddr t x y, ty, pos, af, g⟩ w (.pointer (some ⟨gb, off + i * j.size, none⟩)) w := by
  unfold Yv execOp;simp [h, h', Instr.indexAt, asIntOf, run_underlying ht, sizeOf, typeInfo, hj, hi, Addr.add_lit]
end
end Go.G
