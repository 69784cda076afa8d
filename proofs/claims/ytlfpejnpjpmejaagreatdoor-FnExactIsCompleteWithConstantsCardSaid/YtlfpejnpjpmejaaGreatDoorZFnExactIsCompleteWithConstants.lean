/-
  The statement FnExactIsCompleteWithConstantsSaid is proved: for every input the law of this name returns true and every argument reads as before. No conditions.
-/
import Derived.Test.YtlfpejnpjpmejaaGreatDoorL1
import Derived.Test.YtlfpejnpjpmejaaGreatDoorCards
import Derived.Test.YtlfpejnpjpmejaaGreatDoorTie
namespace Go.Proofs.YtlfpejnpjpmejaaGreatDoor.fnExactIsCompleteWithConstants
open Go.ChangeShapes Go.WideShapes Go.ChangeAt Go.RowKit Go.G
open Go.Proofs
open Go.ChangeMaps (open_string shut_string)
set_option linter.unusedVariables false

theorem own : ownKnob Tryz.prog.godebug = none := by kernel_rfl
theorem laidOut : laidOutB Tryz.prog = true := by kernel_rfl
theorem op3 : wQ Tryz.prog 3 ((RT.int .i64)) OkI := opens_int Tryz.underlying3 (by kernel_rfl)
theorem op48 : wQ Tryz.prog 48 ((RT.rs (RT.int .i64))) (OkL OkI) := zbQ Tryz.underlying48 (by kernel_rfl) op3 (by decide)
theorem op55 : wQ Tryz.prog 55 ((RT.pr (RT.int .i64) (RT.rs (RT.int .i64)))) (OkP OkI (OkL OkI)) := VD Tryz.underlying55 (by kernel_rfl) (uq rfl op3 (UV rfl op48))
theorem op22 : wQ Tryz.prog 22 ((RT.rs (RT.pr (RT.int .i64) (RT.rs (RT.int .i64))))) (OkL (OkP OkI (OkL OkI))) := zbQ Tryz.underlying22 (by kernel_rfl) op55 (by decide)
theorem op24 : wQ Tryz.prog 24 ((RT.pr (RT.int .i64) (RT.rs (RT.pr (RT.int .i64) (RT.rs (RT.int .i64)))))) (OkP OkI (OkL (OkP OkI (OkL OkI)))) := VD Tryz.underlying24 (by kernel_rfl) (uq rfl op3 (UV rfl op22))
set_option maxRecDepth 100000 in
theorem lifted (os : Os) (started : os.Started) (H : Type) (enc : TypeId × Value → H) :
    ReturnsInHanded {} Tryz.checked os 5 .any (fun w args => (Rows.fnExactIsCompleteWithConstantsSpec.pre enc Tryz.prog Tryz.f5 Rows.fnExactIsCompleteWithConstantsRow.domain false w args ∧ laidMetH Tryz.prog Rows.fnExactIsCompleteWithConstantsRow.laid w) ∧ sizedMet enc Tryz.prog Tryz.f5 (OpenSpec.ofChange Rows.fnExactIsCompleteWithConstantsSpec) false w args) (Rows.fnExactIsCompleteWithConstantsSpec.post enc Tryz.prog Tryz.f5 false true false false) := by
  refine hand_laid (C := Tryz.checked) (X := fun w _ => laidMetH Tryz.prog Rows.fnExactIsCompleteWithConstantsRow.laid w) own started (by kernel_rfl) Tryz.func5
    (ChangeSpec.witness_at (enc := enc) (C := Tryz.checked) (os := os) (X := fun w _ => laidMetH Tryz.prog Rows.fnExactIsCompleteWithConstantsRow.laid w) false (laidW Tryz.prog os 1 2 Go.Pinned.utf8FirstZ ([128, 191, 160, 191, 128, 159, 144, 191, 128, 143] ++ List.replicate 22 0)) #[.agg #[.int .i64 0, .slice none 0 0]] 8 rfl (by kernel_rfl) (by kernel_rfl) (by kernel_rfl) (by kernel_rfl) (by kernel_rfl) (laidMet_of_run' 8 (by kernel_rfl) (by kernel_rfl))) ?_
  intro W base args ds gs before hval0 hW hsh
  have hG : Glo 0 W := cell_of_shapedOpen_int (zero := #[.int .i64 0]) (t := 3) hsh (of_decide_eq_true (by kernel_rfl)) (by kernel_rfl) rfl (by kernel_rfl) (by kernel_rfl) Tryz.underlying3
  have hval : ∀ (j : Nat) t v, Tryz.f5.params[j]? = some t → args[j]? = some v → Value.okWide Tryz.prog W .any base t v := hval0
  have hW' := hW
  obtain ⟨p, q, hA0, hV, rfl, hfz, hnd⟩ := hW
  have hA : DataW.TrodAll enc Tryz.prog W 0 (fun _ => true) true Tryz.f5.params.toList args.toList ds p := hA0
  rw [Tryz.params5] at hA hval
  obtain ⟨v0, vs0, d0, ds0, p0, q0, hargs, rfl, rfl, h0, r0⟩ := trodAll_cons hA
  obtain ⟨rfl, rfl, rfl⟩ := trodAll_nil r0
  obtain rfl : args = #[v0] := by cases args; simp_all
  obtain ⟨rfl, rfl⟩ := trodVars_none hV
  obtain ⟨cs0, rfl, _⟩ := okWide_struct Tryz.underlying24 (hval 0 24 v0 rfl rfl)
  have lt0 : ∀ x ∈ p0, x.block < W.heap.size := by obtain ⟨m, hm⟩ := h0; exact DataW.trod_lt m _ _ _ hm
  obtain ⟨x0, k0, w0⟩ := open_st op24 rfl h0
  obtain ⟨c0, ev0, k0⟩ := k0
  obtain ⟨cc1, cd1, ec1, hh1, ht1⟩ := YG k0
  have ei1x0 := xy hh1
  obtain ⟨sa0x1x1, sn0x1x1, sc0x1x1, ei1x1, hv0x1x1⟩ := xb ht1
  simp only [ec1, ei1x0, ei1x1, List.cons_append, List.nil_append] at ev0
  have ev0 : Value.agg cs0 = Value.agg #[_, _] := ev0
  obtain rfl := Value.agg.inj ev0
  clear hA0 hval0
  refine Calls.mono (xz (M := fun g => W.heap.size ≤ g) x0 hv0x1x1 (fun _ h => h) hG (xf x0 w0)) fun e W' ⟨v, he, hv, hc⟩ => ?_
  subst he; subst hv
  have bel := hc.below
  exact ⟨_, rfl, _, _, _, [], _, [], hW', trodAll_mk1 (shut_bool Tryz.underlying4 _), (trodAll_cons_mk (Below.trod laidOut (by kernel_rfl) (of_decide_eq_true (by kernel_rfl)) h0 bel lt0) trodAll_mk0), rfl, bel.frame _, fun h => by cases h⟩

theorem band {a b : Bool} (h : a = true) (h' : b = true) : (a && b) = true := by rw [h, h']; rfl
theorem band4 {x a b c d : Bool} (h : x = true) (h' : (a && b && c && d) = true) : (x && a && b && c && d) = true := by subst h; simpa using h'
set_option maxHeartbeats 0 in
theorem facts : joinedFacts Tryz.pinned.checked.prog 5 Tryz.f5 Rows.fnExactIsCompleteWithConstantsSpec Rows.fnExactIsCompleteWithConstantsRow = true := by
  unfold joinedFacts
  iterate 4 refine band ?_ ?_
  refine band4 ?_ ?_
  all_goals as_aux_lemma => kernel_rfl
theorem over : Rows.fnExactIsCompleteWithConstantsRow.holds Tryz.pinned (OpenSpec.ofChange Rows.fnExactIsCompleteWithConstantsSpec) :=
  OpenClaim.holds_of_wide 5 Tryz.f5 rfl rfl rfl rfl rfl rfl rfl ⟨rfl, rfl, rfl, rfl, rfl⟩ rfl rfl rfl rfl rfl (by kernel_rfl) Tryz.func5 facts
    (of_decide_eq_true (by kernel_rfl)) (by unfold Func.isWrapper; first | (rw [if_pos (by decide +kernel)]; kernel_rfl) | (rw [if_neg (by decide +kernel)]; exact ⟨rfl, rfl⟩))
    (fun os started H enc _ => lifted os started H enc)

theorem proved : Rows.FnExactIsCompleteWithConstantsCardSaid :=
  Claim7.holds_tied_plain_at .later [] [.data, .pinned] true (true, "3a4c442088b5cda630f127d9edae90c0c619b6f8d585e6b5bf716be15a3ac789") false over (fun _ h => by cases h) (by kernel_rfl) (fun _ h => by cases h) fnExactIsCompleteWithConstants_row_tie rfl ⟨rfl, rfl⟩ (by kernel_rfl) rfl
    (fun f fn hf hfn => by
      obtain rfl : f = 5 := Option.some.inj ((show Tryz.prog.funcNamed Rows.fnExactIsCompleteWithConstantsRow.func = some 5 by kernel_rfl).symm.trans hf) |>.symm
      obtain rfl : fn = Tryz.f5 := (Option.some.inj (Tryz.func5.symm.trans hfn)).symm
      exact ⟨by kernel_rfl, fun j t ht => by
        rw [Tryz.params5] at ht
        have h3 : t = 24 := by
          rcases j with _ | j
          · simpa using ht.symm
          · simp at ht
        subst h3
        exact (show Tryz.prog.wantsStandIn 24 = false by kernel_rfl)⟩)
    (by kernel_rfl)
#print axioms proved
end Go.Proofs.YtlfpejnpjpmejaaGreatDoor.fnExactIsCompleteWithConstants
