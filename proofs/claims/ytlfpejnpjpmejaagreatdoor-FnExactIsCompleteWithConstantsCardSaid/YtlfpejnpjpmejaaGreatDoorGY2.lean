/- Lemmas on the model and on plain lists: a part of the proof. No conditions. -/
import Derived.Test.YtlfpejnpjpmejaaGreatDoorGSt
set_option linter.unusedVariables false
namespace Go.G
open Go.RowKit

section
variable {P : Program} {ρ : Operand → Value} {w w' : World} {d : Option Tmp} {ty : TypeId} {pos : String} {af : Array Edge} {g : Option (Nat × Bool)} {x y : Operand} {t : TypeId} {u v : Value}

theorem Zy (h : (Instr.alloc t true (.tuple #[])).run P w = .ok v w') : Yv P ρ ⟨d, .alloc t, ty, pos, af, g⟩ w v w' := by unfold Yv execOp; simp [h]
theorem Zx (hx : ρ x = u) (h : (Instr.box t u).run P w = .ok v w') : Yv P ρ ⟨d, .box t x, ty, pos, af, g⟩ w v w' := by unfold Yv execOp; simp [hx, h]
theorem yj {ps : Array (Nat × Operand)} {qs : Array (Nat × Value)} (hp : (ps.map fun (i, x) => (i, ρ x)) = qs) (h : (Instr.build t qs).run P w = .ok v w) : Yv P ρ ⟨d, .build t ps, ty, pos, af, g⟩ w v w := by
  unfold Yv execOp; simp only [hp, Sem.run_bind, h, Result.andThen_ok]; rfl
theorem zy {n : Nat} {ps : Array (Nat × Operand)} {qs : Array (Nat × Value)} (hp : (ps.map fun (i, x) => (i, ρ x)) = qs) (h : (Instr.buildSlice t n qs).run P w = .ok v w') : Yv P ρ ⟨d, .buildSlice t n ps, ty, pos, af, g⟩ w v w' := by
  unfold Yv execOp; simp only [hp, Sem.run_bind, h, Result.andThen_ok]; rfl
theorem Xf {a b : Value} (hx : ρ x = a) (hy : ρ y = b) (h : (Instr.makeSlice t a b).run P w = .ok v w') : Yv P ρ ⟨d, .makeSlice t x y, ty, pos, af, g⟩ w v w' := by unfold Yv execOp; simp [hx, hy, h]
theorem zj {i o k b : Nat} (hx : ρ x = .pointer (some ⟨b, o, none⟩)) (h : ∀ (a : Addr) (w : World), (Instr.fieldAt t (.pointer (some a)) i).run P w = .ok (.pointer (some (a.add k))) w) :
    Yv P ρ ⟨d, .fieldAddr t x i, ty, pos, af, g⟩ w (.pointer (some ⟨b, o + k, none⟩)) w := by unfold Yv execOp; simp [hx, h, Addr.add_lit]
theorem zE {i : Nat} (hx : ρ x = u) (h : (Instr.extract u i).run P w = .ok v w) : Yv P ρ ⟨d, .extract x i, ty, pos, af, g⟩ w v w := by unfold Yv execOp; simp [hx, h]
theorem zJ {t' : TypeId} {a b : Value} (hx : ρ x = a) (hy : ρ y = b) (h : (Builtin.append_ #[t, t'] ty #[a, b]).run P w = .ok v w') :
    Yv P ρ ⟨d, .call { callee := .builtin .append, args := #[x, y], argTypes := #[t, t'] }, ty, pos, af, g⟩ w v w' := by
  unfold Yv execOp;simp [resolve, invoke, builtin, hx, hy, h]
end

section
variable {α β : Type} {r : RT α} {s : RT β} {M : Nat → Prop} {w : World} {cs : List Value} {fp : List Nat} {e : TypeId} {v : Value} {b o : Nat}
theorem YG {x : α × β} (h : (RT.pr r s).rel M w cs x []) : ∃ c d, cs = c ++ d ∧ r.rel M w c x.1 [] ∧ s.rel M w d x.2 [] := by
  obtain ⟨c, d, f, g, h1, h2, h3, h4⟩ := h;obtain ⟨rfl, rfl⟩ := List.append_eq_nil_iff.1 h2.symm;exact ⟨c, d, h1, h3, h4⟩
theorem xy {k : IntKind} {n : Int} (h : (RT.int k).rel M w cs n fp) : cs = [.int k n] := h.1
theorem xb {xs : List α} (h : (RT.rs r).rel M w cs xs []) : ∃ a n c, cs = [.slice a n c] ∧ (RT.rs r).val M w (.slice a n c) xs [] := by
  have h' := h;obtain ⟨a, cap, css, rfl, _⟩ := h;exact ⟨a, _, cap, rfl, _, rfl, h'⟩
theorem ZX {xs : List α} (h : (RT.rs r).val M w v xs fp) : (RT.rs r).rel M w [v] xs fp := by
  obtain ⟨cs, rfl, h⟩ := h;obtain ⟨a, cap, css, rfl, _⟩ := id h;exact h
theorem Zc {xs : List α} (h : (RT.os e r).val M w v xs fp) : (RT.os e r).rel M w [v] xs fp := by
  obtain ⟨cs, rfl, h⟩ := h;obtain ⟨v, css, fps, rfl, _⟩ := id h;exact h
theorem XH {x : α × β} (h : (RT.pr r s).at_ M w ⟨b, o, none⟩ x []) : r.at_ M w ⟨b, o, none⟩ x.1 [] ∧ s.at_ M w ⟨b, o + r.sz, none⟩ x.2 [] := by
  obtain ⟨_, cs, hrow, hr⟩ := h;obtain ⟨c, d, rfl, h1, h2⟩ := YG hr;have hd := hrow.app_right;rw [r.len h1] at hd;exact ⟨⟨rfl, c, hrow.app_left, h1⟩, ⟨rfl, d, hd, h2⟩⟩
end

section
variable {P : Program} {n : Nat} {σ : Nat → Value} {w : World} {a : Act} {v u z : Value}
def ResV (P : Program) (a : Act) (w : World) : ResultVar → Value → Prop
  | .tmp t, v => a.tmps.getD t undef = v
  | .cell b T, v => ∃ p, a.tmps.getD b undef = .pointer (some p) ∧ (loadVar T p).run P w = .ok v w
theorem fr_getD (n : Nat) (σ : Nat → Value) (t : Nat) : (fr n σ).tmps.getD t undef = ev n σ (.tmp t) := congrFun (yL n σ) (.tmp t)
theorem zH {t : Nat} (h : ev n σ (.tmp t) = v) : ResV P (fr n σ) w (.tmp t) v := (fr_getD n σ t).trans h
theorem xu {b : Nat} {T : TypeId} {p : Addr} (h : ev n σ (.tmp b) = .pointer (some p)) (hl : wG P T w p v) : ResV P (fr n σ) w (.cell b T) v :=
  ⟨p, (fr_getD n σ b).trans h, hl w (Chg.refl _ _)⟩

def KPost (K : Act → World → Prop) : Exit → Act → World → Prop
  | .ret, a, w => K a w
  | _, _, _ => False

theorem ResV.tmp' {t : Nat} (h : ResV P a w (.tmp t) v) : a.tmps[t]?.getD undef = v := by simpa [ResV, Array.getD_eq_getD_getElem?] using h
theorem ResV.cell' {b : Nat} {T : TypeId} (h : ResV P a w (.cell b T) v) : ∃ p, a.tmps[b]?.getD undef = .pointer (some p) ∧ (loadVar T p).run P w = .ok v w := by simpa [ResV, Array.getD_eq_getD_getElem?] using h

theorem Zd {fn : Func} {r1 : ResultVar} {R : Value → World → Prop} (hr : fn.results = #[r1]) (h1 : ResV P (fr n σ) w r1 v) (h : R v w) :
    bodyPost P fn (fun e w' => ∃ v, e = .returned v ∧ R v w') .ret (fr n σ) w := by
  refine ⟨rfl, v, ?_, v, rfl, h⟩;cases r1
  case tmp t => simp [results, hr, h1.tmp']
  case cell b T => obtain ⟨p, e1, e2⟩ := h1.cell'; simp [results, hr, e1, asAddr, e2]
theorem WN {fn : Func} {r1 r2 : ResultVar} {R : Value → World → Prop} (hr : fn.results = #[r1, r2]) (h1 : ResV P (fr n σ) w r1 v) (h2 : ResV P (fr n σ) w r2 u) (h : R (.tuple #[v, u]) w) :
    bodyPost P fn (fun e w' => ∃ v, e = .returned v ∧ R v w') .ret (fr n σ) w := by
  refine ⟨rfl, _, ?_, _, rfl, h⟩;cases r1
  case tmp t =>
    cases r2
    case tmp s => simp [results, hr, h1.tmp', h2.tmp']
    case cell b T => obtain ⟨p, e1, e2⟩ := h2.cell'; simp [results, hr, h1.tmp', e1, asAddr, e2]
  case cell b T =>
    obtain ⟨p, e1, e2⟩ := h1.cell';cases r2
    case tmp s => simp [results, hr, e1, asAddr, e2, h2.tmp']
    case cell b' T' => obtain ⟨p', e3, e4⟩ := h2.cell'; simp [results, hr, e1, asAddr, e2, e3, e4]
theorem ret3x {fn : Func} {r1 r2 r3 : ResultVar} {R : Value → World → Prop} (hr : fn.results = #[r1, r2, r3]) (h1 : ResV P (fr n σ) w r1 v) (h2 : ResV P (fr n σ) w r2 u) (h3 : ResV P (fr n σ) w r3 z) (h : R (.tuple #[v, u, z]) w) :
    bodyPost P fn (fun e w' => ∃ v, e = .returned v ∧ R v w') .ret (fr n σ) w := by
  refine ⟨rfl, _, ?_, _, rfl, h⟩;cases r1
  case tmp t =>
    cases r2
    case tmp s =>
      cases r3
      case tmp q => simp [results, hr, h1.tmp', h2.tmp', h3.tmp']
      case cell b T => obtain ⟨p, e1, e2⟩ := h3.cell'; simp [results, hr, h1.tmp', h2.tmp', e1, asAddr, e2]
    case cell b T =>
      obtain ⟨p, e1, e2⟩ := h2.cell';cases r3
      case tmp q => simp [results, hr, h1.tmp', e1, asAddr, e2, h3.tmp']
      case cell b' T' => obtain ⟨p', e3, e4⟩ := h3.cell'; simp [results, hr, h1.tmp', e1, asAddr, e2, e3, e4]
  case cell b T =>
    obtain ⟨p, e1, e2⟩ := h1.cell';cases r2
    case tmp s =>
      cases r3
      case tmp q => simp [results, hr, e1, asAddr, e2, h2.tmp', h3.tmp']
      case cell b T => obtain ⟨p', e3, e4⟩ := h3.cell'; simp [results, hr, e1, asAddr, e2, h2.tmp', e3, e4]
    case cell b' T' =>
      obtain ⟨p', e3, e4⟩ := h2.cell';cases r3
      case tmp q => simp [results, hr, e1, asAddr, e2, e3, e4, h3.tmp']
      case cell b'' T'' => obtain ⟨p'', e5, e6⟩ := h3.cell'; simp [results, hr, e1, asAddr, e2, e3, e4, e5, e6]
end
end Go.G
