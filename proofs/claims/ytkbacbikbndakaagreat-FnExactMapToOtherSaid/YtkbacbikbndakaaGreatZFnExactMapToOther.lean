/-
  The statement FnExactMapToOtherSaid is proved: for every input the law of this name returns true and every argument reads as before. No conditions.
-/
import Derived.Test.YtkbacbikbndakaaGreatL2
namespace Go.Proofs.YtkbacbikbndakaaGreat.fnExactMapToOther
open Go.ChangeShapes Go.WideShapes Go.ChangeAt Go.RowKit Go.G
open Go.Proofs
open Go.ChangeMaps (open_string shut_string)
set_option linter.unusedVariables false

theorem own : ownKnob Tryz.prog.godebug = none := by kernel_rfl
theorem laidOut : laidOutB Tryz.prog = true := by kernel_rfl
theorem op3 : wd Tryz.prog 3 ((RT.int .i64)) OkI := opens_int Tryz.underlying3 (by kernel_rfl)
theorem op34 : wd Tryz.prog 34 ((RT.rs (RT.int .i64))) (OkL OkI) := zbc Tryz.underlying34 (by kernel_rfl) op3 (by decide)
theorem op70 : wd Tryz.prog 70 ((RT.pr (RT.int .i64) (RT.rs (RT.int .i64)))) (OkP OkI (OkL OkI)) := vy Tryz.underlying70 (by kernel_rfl) (VF rfl op3 (uv rfl op34))
theorem op22 : wd Tryz.prog 22 ((RT.rs (RT.pr (RT.int .i64) (RT.rs (RT.int .i64))))) (OkL (OkP OkI (OkL OkI))) := zbc Tryz.underlying22 (by kernel_rfl) op70 (by decide)
theorem op24 : wd Tryz.prog 24 ((RT.pr (RT.int .i64) (RT.rs (RT.pr (RT.int .i64) (RT.rs (RT.int .i64)))))) (OkP OkI (OkL (OkP OkI (OkL OkI)))) := vy Tryz.underlying24 (by kernel_rfl) (VF rfl op3 (uv rfl op22))
set_option maxRecDepth 100000 in
theorem lifted (os : Os) (started : os.Started) (H : Type) (enc : TypeId × Value → H) :
    ReturnsInHanded {} Tryz.checked os 5 .any (Rows.fnExactMapToOtherSpec.pre6 enc Tryz.prog Tryz.f5 Rows.fnExactMapToOtherRow.domain false) (Rows.fnExactMapToOtherSpec.post enc Tryz.prog Tryz.f5 false true false false) := by
  refine returnsInHanded_of_change (C := Tryz.checked) own started (by kernel_rfl) Tryz.func5
    (ChangeSpec.witness6 (enc := enc) (C := Tryz.checked) false ⟨#[], #[.agg #[.int .i64 0, .slice none 0 0], .int .i64 0, .agg #[.int .i64 0, .slice none 0 0], .slice none 0 0], []⟩ 8 (by kernel_rfl) (by kernel_rfl) (by kernel_rfl) (by kernel_rfl)) ?_
  intro W base args ds gs before hval0 hW hcnd _
  have hval : ∀ (j : Nat) t v, Tryz.f5.params[j]? = some t → args[j]? = some v → Value.okWide Tryz.prog W .any base t v := hval0
  have hW' := hW
  obtain ⟨p, q, hA0, hV, rfl, hfz, hnd⟩ := hW
  have hA : DataW.TrodAll enc Tryz.prog W 0 (fun _ => true) true Tryz.f5.params.toList args.toList ds p := hA0
  rw [Tryz.params5] at hA hval
  obtain ⟨v0, vs0, d0, ds0, p0, q0, hargs, rfl, rfl, h0, r0⟩ := trodAll_cons hA
  obtain ⟨v1, vs1, d1, ds1, p1, q1, rfl, rfl, rfl, h1, r1⟩ := trodAll_cons r0
  obtain ⟨v2, vs2, d2, ds2, p2, q2, rfl, rfl, rfl, h2, r2⟩ := trodAll_cons r1
  obtain ⟨v3, vs3, d3, ds3, p3, q3, rfl, rfl, rfl, h3, r3⟩ := trodAll_cons r2
  obtain ⟨rfl, rfl, rfl⟩ := trodAll_nil r3
  obtain rfl : args = #[v0, v1, v2, v3] := by cases args; simp_all
  obtain ⟨rfl, rfl⟩ := trodVars_none hV
  obtain ⟨cs0, rfl, _⟩ := okWide_struct Tryz.underlying24 (hval 0 24 v0 rfl rfl)
  have lt0 : ∀ x ∈ p0, x.block < W.heap.size := by obtain ⟨m, hm⟩ := h0; exact DataW.trod_lt m _ _ _ hm
  obtain ⟨x0, k0, w0⟩ := open_st op24 rfl h0
  obtain ⟨c0, ev0, k0⟩ := k0
  obtain ⟨cc1, cd1, ec1, hh1, ht1⟩ := Yn k0
  have ei1x0 := Yx hh1
  obtain ⟨sa0x1x1, sn0x1x1, sc0x1x1, ei1x1, hv0x1x1⟩ := YV ht1
  simp only [ec1, ei1x0, ei1x1, List.cons_append, List.nil_append] at ev0
  have ev0 : Value.agg cs0 = Value.agg #[_, _] := ev0
  obtain rfl := Value.agg.inj ev0
  obtain ⟨a1, rfl, rfl, rfl, w1⟩ := open_int Tryz.underlying3 (hval 1 3 v1 rfl rfl) h1
  obtain ⟨cs2, rfl, _⟩ := okWide_struct Tryz.underlying24 (hval 2 24 v2 rfl rfl)
  have lt2 : ∀ x ∈ p2, x.block < W.heap.size := by obtain ⟨m, hm⟩ := h2; exact DataW.trod_lt m _ _ _ hm
  obtain ⟨x2, k2, w2⟩ := open_st op24 rfl h2
  obtain ⟨c2, ev2, k2⟩ := k2
  obtain ⟨cc2, cd2, ec2, hh2, ht2⟩ := Yn k2
  have ei2x0 := Yx hh2
  obtain ⟨sa2x2x1, sn2x2x1, sc2x2x1, ei2x1, hv2x2x1⟩ := YV ht2
  simp only [ec2, ei2x0, ei2x1, List.cons_append, List.nil_append] at ev2
  have ev2 : Value.agg cs2 = Value.agg #[_, _] := ev2
  obtain rfl := Value.agg.inj ev2
  obtain ⟨a3, len3, cap3, rfl⟩ := okWide_slice Tryz.underlying34 (hval 3 34 v3 rfl rfl)
  have lt3 : ∀ x ∈ p3, x.block < W.heap.size := by obtain ⟨m, hm⟩ := h3; exact DataW.trod_lt m _ _ _ hm
  obtain ⟨x3, k3, w3⟩ := open_rs op34 h3
  clear hA0 hval0
  refine Calls.mono (wm (M := fun g => W.heap.size ≤ g) x0 a1 x2 x3 hv0x1x1 hv2x2x1 k3 (fun _ h => h) (Xz x0 a1 x2 x3 w0 w1 w2 w3)) fun e W' ⟨v, he, hv, hc⟩ => ?_
  subst he; subst hv
  have bel := hc.below
  exact ⟨_, rfl, _, _, _, [], _, [], hW', trodAll_mk1 (shut_bool Tryz.underlying4 _), (trodAll_cons_mk (Below.trod laidOut (by kernel_rfl) (of_decide_eq_true (by kernel_rfl)) h0 bel lt0) (trodAll_cons_mk (shut_int Tryz.underlying3 w1) (trodAll_cons_mk (Below.trod laidOut (by kernel_rfl) (of_decide_eq_true (by kernel_rfl)) h2 bel lt2) (trodAll_cons_mk (Below.trod laidOut (by kernel_rfl) (of_decide_eq_true (by kernel_rfl)) h3 bel lt3) trodAll_mk0)))), rfl, bel.frame _, fun h => by cases h⟩

theorem band {a b : Bool} (h : a = true) (h' : b = true) : (a && b) = true := by rw [h, h']; rfl
theorem band4 {x a b c d : Bool} (h : x = true) (h' : (a && b && c && d) = true) : (x && a && b && c && d) = true := by subst h; simpa using h'
set_option maxHeartbeats 0 in
theorem facts : joinedFacts Tryz.pinned.checked.prog 5 Tryz.f5 Rows.fnExactMapToOtherSpec Rows.fnExactMapToOtherRow = true := by
  unfold joinedFacts
  iterate 4 refine band ?_ ?_
  refine band4 ?_ ?_
  all_goals as_aux_lemma => kernel_rfl
theorem over : Rows.fnExactMapToOtherRow.holds Tryz.pinned (OpenSpec.ofChange Rows.fnExactMapToOtherSpec) :=
  OpenClaim.holds_of_wide 5 Tryz.f5 rfl rfl rfl rfl rfl rfl rfl ⟨rfl, rfl, rfl, rfl, rfl⟩ rfl rfl rfl rfl rfl (by kernel_rfl) Tryz.func5 facts
    (of_decide_eq_true (by kernel_rfl)) (by unfold Func.isWrapper; first | (rw [if_pos (by decide +kernel)]; kernel_rfl) | (rw [if_neg (by decide +kernel)]; exact ⟨rfl, rfl⟩))
    (fun os started H enc _ => lifted os started H enc)

theorem proved : Rows.FnExactMapToOtherSaid := over
#print axioms proved
end Go.Proofs.YtkbacbikbndakaaGreat.fnExactMapToOther
