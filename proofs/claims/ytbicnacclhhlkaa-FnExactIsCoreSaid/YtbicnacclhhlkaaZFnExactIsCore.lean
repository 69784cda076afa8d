/-
  The statement FnExactIsCoreSaid is proved: for every input the law of this name returns true and every argument reads as before. No conditions.
-/
import Derived.Test.YtbicnacclhhlkaaL0
namespace Go.Proofs.Ytbicnacclhhlkaa.fnExactIsCore
open Go.ChangeShapes Go.WideShapes Go.ChangeAt Go.RowKit Go.G
open Go.Proofs
open Go.ChangeMaps (open_string shut_string)
set_option linter.unusedVariables false

theorem own : ownKnob Try.prog.godebug = none := by kernel_rfl
theorem laidOut : laidOutB Try.prog = true := by kernel_rfl
theorem op3 : Opens Try.prog 3 ((RT.int .i64)) OkI := opens_int Try.underlying3 (by kernel_rfl)
theorem op41 : Opens Try.prog 41 ((RT.rs (RT.int .i64))) (OkL OkI) := opens_rs Try.underlying41 (by kernel_rfl) op3 (by decide)
theorem op47 : Opens Try.prog 47 ((RT.rs (RT.rs (RT.int .i64)))) (OkL (OkL OkI)) := opens_rs Try.underlying47 (by kernel_rfl) op41 (by decide)
theorem op49 : Opens Try.prog 49 ((RT.pr (RT.int .i64) (RT.rs (RT.rs (RT.int .i64))))) (OkP OkI (OkL (OkL OkI))) := opens_struct Try.underlying49 (by kernel_rfl) (opensF_cons rfl op3 (opensF_one rfl op47))
theorem op34 : Opens Try.prog 34 ((RT.rs (RT.pr (RT.int .i64) (RT.rs (RT.rs (RT.int .i64)))))) (OkL (OkP OkI (OkL (OkL OkI)))) := opens_rs Try.underlying34 (by kernel_rfl) op49 (by decide)
set_option maxRecDepth 100000 in
theorem lifted (os : Os) (started : os.Started) (H : Type) (enc : TypeId × Value → H) :
    ReturnsInHanded {} Try.checked os 10 .any (Rows.fnExactIsCoreSpec.pre6 enc Try.prog Try.f10 Rows.fnExactIsCoreRow.domain false) (Rows.fnExactIsCoreSpec.post enc Try.prog Try.f10 false true false false) := by
  refine returnsInHanded_of_change (C := Try.checked) own started (by kernel_rfl) Try.func10
    (ChangeSpec.witness6 (enc := enc) (C := Try.checked) false ⟨#[], #[.int .i64 0, .slice none 0 0], []⟩ 8 (by kernel_rfl) (by kernel_rfl) (by kernel_rfl) (by kernel_rfl)) ?_
  intro W base args ds gs before hval0 hW hcnd _
  have hval : ∀ (j : Nat) t v, Try.f10.params[j]? = some t → args[j]? = some v → Value.okWide Try.prog W .any base t v := hval0
  have hW' := hW
  obtain ⟨p, q, hA0, hV, rfl, hfz, hnd⟩ := hW
  have hA : DataW.TrodAll enc Try.prog W 0 (fun _ => true) true Try.f10.params.toList args.toList ds p := hA0
  rw [Try.params10] at hA hval
  obtain ⟨v0, vs0, d0, ds0, p0, q0, hargs, rfl, rfl, h0, r0⟩ := trodAll_cons hA
  obtain ⟨v1, vs1, d1, ds1, p1, q1, rfl, rfl, rfl, h1, r1⟩ := trodAll_cons r0
  obtain ⟨rfl, rfl, rfl⟩ := trodAll_nil r1
  obtain rfl : args = #[v0, v1] := by cases args; simp_all
  obtain ⟨rfl, rfl⟩ := trodVars_none hV
  obtain ⟨a0, rfl, rfl, rfl, w0⟩ := open_int Try.underlying3 (hval 0 3 v0 rfl rfl) h0
  obtain ⟨a1, len1, cap1, rfl⟩ := okWide_slice Try.underlying34 (hval 1 34 v1 rfl rfl)
  have lt1 : ∀ x ∈ p1, x.block < W.heap.size := by obtain ⟨m, hm⟩ := h1; exact DataW.trod_lt m _ _ _ hm
  obtain ⟨x1, k1, w1⟩ := open_rs op34 h1
  clear hA0 hval0
  refine Calls.mono (c_laws_FnExactIsCore (M := fun g => W.heap.size ≤ g) a0 x1 k1 (fun _ h => h) (s_laws_FnExactIsCore_ok a0 x1 w0 w1)) fun e W' ⟨v, he, hv, hc⟩ => ?_
  subst he; subst hv
  have bel := hc.below
  exact ⟨_, rfl, _, _, _, [], _, [], hW', trodAll_mk1 (shut_bool Try.underlying4 _), (trodAll_cons_mk (shut_int Try.underlying3 w0) (trodAll_cons_mk (Below.trod laidOut (by kernel_rfl) (of_decide_eq_true (by kernel_rfl)) h1 bel lt1) trodAll_mk0)), rfl, bel.frame _, fun h => by cases h⟩

theorem band {a b : Bool} (h : a = true) (h' : b = true) : (a && b) = true := by rw [h, h']; rfl
theorem band4 {x a b c d : Bool} (h : x = true) (h' : (a && b && c && d) = true) : (x && a && b && c && d) = true := by subst h; simpa using h'
set_option maxHeartbeats 0 in
theorem facts : joinedFacts Try.pinned.checked.prog 10 Try.f10 Rows.fnExactIsCoreSpec Rows.fnExactIsCoreRow = true := by
  unfold joinedFacts
  iterate 4 refine band ?_ ?_
  refine band4 ?_ ?_
  all_goals as_aux_lemma => kernel_rfl
theorem over : Rows.fnExactIsCoreRow.holds Try.pinned (OpenSpec.ofChange Rows.fnExactIsCoreSpec) :=
  OpenClaim.holds_of_wide 10 Try.f10 rfl rfl rfl rfl rfl rfl rfl ⟨rfl, rfl, rfl, rfl, rfl⟩ rfl rfl rfl rfl rfl (by kernel_rfl) Try.func10 facts
    (of_decide_eq_true (by kernel_rfl)) (by unfold Func.isWrapper; first | (rw [if_pos (by decide +kernel)]; kernel_rfl) | (rw [if_neg (by decide +kernel)]; exact ⟨rfl, rfl⟩))
    (fun os started H enc _ => lifted os started H enc)

theorem proved : Rows.FnExactIsCoreSaid := over
#print axioms proved
end Go.Proofs.Ytbicnacclhhlkaa.fnExactIsCore
