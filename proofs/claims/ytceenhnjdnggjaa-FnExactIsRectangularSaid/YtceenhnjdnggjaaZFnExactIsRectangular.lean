/-
  The statement FnExactIsRectangularSaid is proved: for every input the law of this name returns true and every argument reads as before. No conditions.
-/
import Derived.Test.YtceenhnjdnggjaaL0
namespace Go.Proofs.Ytceenhnjdnggjaa.fnExactIsRectangular
open Go.ChangeShapes Go.WideShapes Go.ChangeAt Go.RowKit Go.G
open Go.Proofs
open Go.ChangeMaps (open_string shut_string)
set_option linter.unusedVariables false

theorem own : ownKnob Try.prog.godebug = none := by kernel_rfl
theorem laidOut : laidOutB Try.prog = true := by kernel_rfl
theorem op3 : Opens Try.prog 3 ((RT.int .i64)) OkI := opens_int Try.underlying3 (by kernel_rfl)
theorem op22 : Opens Try.prog 22 ((RT.rs (RT.int .i64))) (OkL OkI) := opens_rs Try.underlying22 (by kernel_rfl) op3 (by decide)
theorem op29 : Opens Try.prog 29 ((RT.rs (RT.rs (RT.int .i64)))) (OkL (OkL OkI)) := opens_rs Try.underlying29 (by kernel_rfl) op22 (by decide)
theorem op36 : Opens Try.prog 36 ((RT.pr (RT.int .i64) (RT.rs (RT.rs (RT.int .i64))))) (OkP OkI (OkL (OkL OkI))) := opens_struct Try.underlying36 (by kernel_rfl) (opensF_cons rfl op3 (opensF_one rfl op29))
set_option maxRecDepth 100000 in
theorem lifted (os : Os) (started : os.Started) (H : Type) (enc : TypeId × Value → H) :
    ReturnsInHanded {} Try.checked os 5 .any (Rows.fnExactIsRectangularSpec.pre6 enc Try.prog Try.f5 Rows.fnExactIsRectangularRow.domain false) (Rows.fnExactIsRectangularSpec.post enc Try.prog Try.f5 false true false false) := by
  refine returnsInHanded_of_change (C := Try.checked) own started (by kernel_rfl) Try.func5
    (ChangeSpec.witness6 (enc := enc) (C := Try.checked) false ⟨#[], #[.int .i64 0, .agg #[.int .i64 0, .slice none 0 0]], []⟩ 8 (by kernel_rfl) (by kernel_rfl) (by kernel_rfl) (by kernel_rfl)) ?_
  intro W base args ds gs before hval0 hW hcnd _
  have hval : ∀ (j : Nat) t v, Try.f5.params[j]? = some t → args[j]? = some v → Value.okWide Try.prog W .any base t v := hval0
  have hW' := hW
  obtain ⟨p, q, hA0, hV, rfl, hfz, hnd⟩ := hW
  have hA : DataW.TrodAll enc Try.prog W 0 (fun _ => true) true Try.f5.params.toList args.toList ds p := hA0
  rw [Try.params5] at hA hval
  obtain ⟨v0, vs0, d0, ds0, p0, q0, hargs, rfl, rfl, h0, r0⟩ := trodAll_cons hA
  obtain ⟨v1, vs1, d1, ds1, p1, q1, rfl, rfl, rfl, h1, r1⟩ := trodAll_cons r0
  obtain ⟨rfl, rfl, rfl⟩ := trodAll_nil r1
  obtain rfl : args = #[v0, v1] := by cases args; simp_all
  obtain ⟨rfl, rfl⟩ := trodVars_none hV
  obtain ⟨a0, rfl, rfl, rfl, w0⟩ := open_int Try.underlying3 (hval 0 3 v0 rfl rfl) h0
  obtain ⟨cs1, rfl, _⟩ := okWide_struct Try.underlying36 (hval 1 36 v1 rfl rfl)
  have lt1 : ∀ x ∈ p1, x.block < W.heap.size := by obtain ⟨m, hm⟩ := h1; exact DataW.trod_lt m _ _ _ hm
  obtain ⟨x1, k1, w1⟩ := open_st op36 rfl h1
  obtain ⟨c1, ev1, k1⟩ := k1
  obtain ⟨cc1, cd1, ec1, hh1, ht1⟩ := pr_open k1
  have ei1x0 := int_rel hh1
  obtain ⟨sa1x1x1, sn1x1x1, sc1x1x1, ei1x1, hv1x1x1⟩ := rs_rel ht1
  simp only [ec1, ei1x0, ei1x1, List.cons_append, List.nil_append] at ev1
  have ev1 : Value.agg cs1 = Value.agg #[_, _] := ev1
  obtain rfl := Value.agg.inj ev1
  clear hA0 hval0
  refine Calls.mono (c_laws_FnExactIsRectangular (M := fun g => W.heap.size ≤ g) a0 x1 hv1x1x1 (fun _ h => h) (s_laws_FnExactIsRectangular_ok a0 x1 w0 w1)) fun e W' ⟨v, he, hv, hc⟩ => ?_
  subst he; subst hv
  have bel := hc.below
  exact ⟨_, rfl, _, _, _, [], _, [], hW', trodAll_mk1 (shut_bool Try.underlying4 _), (trodAll_cons_mk (shut_int Try.underlying3 w0) (trodAll_cons_mk (Below.trod laidOut (by kernel_rfl) (of_decide_eq_true (by kernel_rfl)) h1 bel lt1) trodAll_mk0)), rfl, bel.frame _, fun h => by cases h⟩

theorem over : Rows.fnExactIsRectangularRow.holds Try.pinned (OpenSpec.ofChange Rows.fnExactIsRectangularSpec) :=
  OpenClaim.holds_of_wide 5 Try.f5 rfl rfl rfl rfl rfl rfl rfl ⟨rfl, rfl, rfl, rfl, rfl⟩ rfl rfl rfl rfl rfl (by kernel_rfl) Try.func5 (by kernel_rfl)
    (of_decide_eq_true (by kernel_rfl)) (by unfold Func.isWrapper; first | (rw [if_pos (by decide +kernel)]; kernel_rfl) | (rw [if_neg (by decide +kernel)]; exact ⟨rfl, rfl⟩))
    (fun os started H enc _ => lifted os started H enc)

theorem proved : Rows.FnExactIsRectangularSaid := over
#print axioms proved
end Go.Proofs.Ytceenhnjdnggjaa.fnExactIsRectangular
