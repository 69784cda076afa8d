/- What functions of the program compute, as plain functions, and that a call gives just that. Conditions: those named in each theorem. -/
import Derived.Test.YtceenhnjdnggjaaF2
set_option linter.unusedVariables false
namespace Go.Proofs
open Go.G Go.RowKit
set_option maxRecDepth 100000

def k_laws_FnExactFixVariable (M : Nat → Prop) (w0 : World) (r : Bool) (a : Act) (w : World) : Prop :=
  ∃ (σ : Nat → Value) , a = fr 106 (ovl σ [(6, (.bool r))]) ∧ Chg [] w0 w
def s_laws_FnExactFixVariable (aNet : Int × Int × (List ((List Int) × (Int × (List (List Int)))))) (aV : Int) (aValue : Int) : Option (Bool) :=
  (s_laws_szNetwork (aNet.1, aNet.2.1, aNet.2.2) 1048576).bind fun r4 =>
  (bif (decide (r4 < 0)) then some true else (s_laws_toNetwork (aNet.1, aNet.2.1, aNet.2.2)).bind fun r7 =>
  (s_spec_FixVariable (r7.1, r7.2.1, r7.2.2) aV aValue).bind fun r10 =>
  (s_laws_toNetwork (aNet.1, aNet.2.1, aNet.2.2)).bind fun r15 =>
  (s_impl_FixVariable (r15.1, r15.2.1, r15.2.2) aV aValue).bind fun r20 =>
  ((s_laws_eqNetwork (r20.1.1, r20.1.2.1, r20.1.2.2) (r10.1.1, r10.1.2.1, r10.1.2.2)).bind fun r28 =>
  (bif (!r28) then some true else some (!(r20.2 == r10.2)))).bind fun s24 =>
  (bif s24 then some false else (s_laws_toNetwork (aNet.1, aNet.2.1, aNet.2.2)).bind fun r39 =>
  (s_laws_eqNetwork (r15.1, r15.2.1, r15.2.2) (r39.1, r39.2.1, r39.2.2)).bind fun r42 =>
  (bif (!r42) then some false else (s_laws_markNetwork (r15.1, r15.2.1, r15.2.2) 1).bind fun r45 =>
  ((bif (decide (r45.1 < 0)) then some true else (s_laws_eqNetwork (r20.1.1, r20.1.2.1, r20.1.2.2) (r10.1.1, r10.1.2.1, r10.1.2.2)).bind fun r51 =>
  (bif (!r51) then some true else some (!(r20.2 == r10.2))))).bind fun s46 =>
  (bif s46 then some false else (s_laws_markNetwork (r20.1.1, r20.1.2.1, r20.1.2.2) 1).bind fun r55 =>
  (s_laws_heldNetwork (r20.1.1, r20.1.2.1, r55.2) 1).bind fun r57 =>
  (bif (decide (r57 < 0)) then some false else (bif (r57 != r55.1) then some false else (s_laws_toNetwork (aNet.1, aNet.2.1, aNet.2.2)).bind fun r61 =>
  (s_impl_FixVariable (r61.1, r61.2.1, r61.2.2) aV aValue).bind fun r64 =>
  ((s_laws_eqNetwork (r64.1.1, r64.1.2.1, r64.1.2.2) (r10.1.1, r10.1.2.1, r10.1.2.2)).bind fun r72 =>
  (bif (!r72) then some true else some (!(r64.2 == r10.2)))).bind fun s68 =>
  (bif s68 then some false else (s_laws_heldNetwork (r20.1.1, r20.1.2.1, r55.2) 1).bind fun r76 =>
  (bif (decide (r76 < 0)) then some false else (bif (r76 != r55.1) then some false else some true)))))))))
set_option maxHeartbeats 4000000 in
theorem c_laws_FnExactFixVariable {M : Nat → Prop} {w : World} {pa0 : Option Addr} {pn0 pc0 : Nat} (aNet : Int × Int × (List ((List Int) × (Int × (List (List Int)))))) (aV : Int) (aValue : Int) (h0 : (RT.rs (RT.pr (RT.rs (RT.int .i64)) (RT.pr (RT.int .i64) (RT.rs (RT.rs (RT.int .i64)))))).val M w (.slice pa0 pn0 pc0) aNet.2.2 ([])) (hM : ∀ g, w.heap.size ≤ g → M g) {r : Bool} (hs : s_laws_FnExactFixVariable aNet aV aValue = some r) :
    Gives Try.prog 13 [(.agg #[(.int .i64 aNet.1), (.int .i64 aNet.2.1), (.slice pa0 pn0 pc0)]), (.int .i64 aV), (.int .i64 aValue)] w (fun v w' => v = (.bool r) ∧ Chg [] w w') := by
  refine calls_fr Try.func13 rfl Try.ntmps13 (Nat.le_of_ble_eq_true rfl) ?_
  have hO := Own.start (N := Nw w []) hM Nw.fut
  have hC := Chg.refl [] w
  unfold s_laws_FnExactFixVariable at hs
  refine wp_mono (Q := KPost (k_laws_FnExactFixVariable M w r)) ?_ (fun e a w1 h => ?_)
  rotate_left
  · cases e
    case ret =>
      obtain ⟨σ, rfl, hrest⟩ := h
      exact ret1x Try.results13 (res_tmp rfl) ⟨rfl, hrest⟩
    all_goals exact (h : False).elim
  refine c_seq ?_
  refine c_region ?_
  obtain ⟨w2, g2, ew2, eg2, hC2, hb2⟩ := new_block w [(.int .i64 aNet.1), (.int .i64 aNet.2.1), (.slice pa0 pn0 pc0)] 44
  refine pl_val (w' := w2) (.pointer (some ⟨g2, 0, none⟩)) (y_box rfl (by rw [ew2, eg2]; kernel_rfl)) ?_
  have h0 := h0.ext hC2
  have hC := hC.ext hC2
  have hO := hO.new (X' := [g2]) hC2 (fun q hq => by rw [List.mem_singleton.1 hq, eg2]; exact Nat.le_refl _) (List.nodup_cons.2 ⟨(fun h => nomatch h), List.nodup_nil⟩) (fun q hq => by rw [List.mem_singleton.1 hq]; exact hb2.lt)
  refine pl_val (.bool false) (y_assign rfl) ?_
  refine c_nil ?_
  refine c_seq ?_
  refine c_region ?_
  refine pl_val (.int .i64 1048576) (y_assign rfl) ?_
  refine c_nil ?_
  refine c_seq ?_
  refine c_region ?_
  refine pl_val (.agg #[(.int .i64 aNet.1), (.int .i64 aNet.2.1), (.slice pa0 pn0 pc0)]) (y_load rfl ((box_load Ag44 Sz44 hb2 [] [(.int .i64 aNet.1), (.int .i64 aNet.2.1), (.slice pa0 pn0 pc0)] [] rfl rfl (fun h => nomatch h)) _ (Chg.refl _ _))) ?_
  refine pl_val (.int .i64 1048576) (y_move rfl) ?_
  obtain ⟨r4, hr4, hs⟩ := bind_some hs
  refine pl_call Bd30 rfl (c_laws_szNetwork (M := M) (aNet.1, aNet.2.1, aNet.2.2) 1048576 h0 hO.fut hr4) ?_
  rintro _ w3 ⟨rfl, hC3⟩
  have h0 := h0.ext hC3
  have hb2 := hb2.chg hC3 (fun h => nomatch h)
  have hC := hC.ext hC3
  have hO := hO.ext hC3
  refine pl_val (.int .i64 r4) (y_assign rfl) ?_
  refine c_nil ?_
  refine c_seq ?_
  refine c_seq ?_
  refine c_region ?_
  refine pl_val (.int .i64 r4) (y_move rfl) ?_
  refine pl_val (.bool (decide (r4 < 0))) (y_lss rfl rfl) ?_
  refine c_nil ?_
  rcases bif_some hs with ⟨hc5, hs⟩ | ⟨hc5, hs⟩
  · skip
    refine c_condT (congrArg Value.bool hc5) ?_
    refine c_seq ?_
    refine c_region ?_
    refine pl_val (.bool true) (y_assign rfl) ?_
    refine c_nil ?_
    refine wp_ret ?_
    cases hs
    exact ⟨_, fr_ovl 106 ⟨rfl, trivial⟩, hC⟩
  · skip
    refine c_condF (congrArg Value.bool hc5) ?_
    refine wp_skip ?_
    refine c_seq ?_
    refine c_region ?_
    refine pl_val (.agg #[(.int .i64 aNet.1), (.int .i64 aNet.2.1), (.slice pa0 pn0 pc0)]) (y_load rfl ((box_load Ag44 Sz44 hb2 [] [(.int .i64 aNet.1), (.int .i64 aNet.2.1), (.slice pa0 pn0 pc0)] [] rfl rfl (fun h => nomatch h)) _ (Chg.refl _ _))) ?_
    obtain ⟨r7, hr7, hs⟩ := bind_some hs
    refine pl_call Bd32 rfl (c_laws_toNetwork (M := M) (aNet.1, aNet.2.1, aNet.2.2) h0 hO.fut hr7) ?_
    rintro _ w6 ⟨a6x0, n6x0, c6x0, f6x0, rfl, hC6, hv6x0, hOc6⟩
    have h0 := h0.ext hC6
    have hb2 := hb2.chg hC6 (fun h => nomatch h)
    have hC := hC.ext hC6
    have hO := Own.join0 hO hC6 hOc6
    have hO := hO.perm (R := f6x0 ++ (([g2]) ++ ([]))) (by simp)
    refine pl_val (.int .i64 aV) (y_move rfl) ?_
    refine pl_val (.int .i64 aValue) (y_move rfl) ?_
    obtain ⟨r10, hr10, hs⟩ := bind_some hs
    refine pl_call Bd71 rfl (c_spec_FixVariable (M := (Less M f6x0)) (r7.1, r7.2.1, r7.2.2) aV aValue (((Frz.os (Frz.pr (Frz.os Frz.int) (Frz.pr Frz.int (Frz.os (Frz.os Frz.int)))))).val hv6x0 Less.sub Less.not) hO.less.fut hr10) ?_
    rintro _ w9 ⟨a9x0, n9x0, c9x0, f9x0, rfl, hC9, hv9x0, hOc9⟩
    have h0 := h0.ext hC9
    have hb2 := hb2.chg hC9 (fun h => nomatch h)
    have hv6x0 := hv6x0.ext hC9
    have hC := hC.ext hC9
    have hO := Own.join0 hO hC9 hOc9
    have hO := hO.perm (R := f9x0 ++ (f6x0 ++ (([g2]) ++ ([])))) (by simp)
    have hv9x0 := hv9x0.free (M' := M) (Free.os (Free.pr (Free.os Free.int) (Free.pr Free.int (Free.os (Free.os Free.int)))))
    refine pl_val (.tuple #[(.agg #[(.int .i64 r10.1.1), (.int .i64 r10.1.2.1), (.slice a9x0 n9x0 c9x0)]), (.bool r10.2)]) (y_move rfl) ?_
    refine pl_val (.agg #[(.int .i64 r10.1.1), (.int .i64 r10.1.2.1), (.slice a9x0 n9x0 c9x0)]) (y_extract rfl (by kernel_rfl)) ?_
    refine pl_val (.bool r10.2) (y_extract rfl (by kernel_rfl)) ?_
    obtain ⟨w12, g12, ew12, eg12, hC12, hb12⟩ := new_block w9 [(.int .i64 0), (.int .i64 0), (.slice none 0 0)] 49
    refine pl_val (w' := w12) (.pointer (some ⟨g12, 0, none⟩)) (y_alloc (by rw [ew12, eg12]; kernel_rfl)) ?_
    have h0 := h0.ext hC12
    have hb2 := hb2.chg hC12 (fun h => nomatch h)
    have hv6x0 := hv6x0.ext hC12
    have hv9x0 := hv9x0.ext hC12
    have hC := hC.ext hC12
    have hO := hO.new (X' := [g12]) hC12 (fun q hq => by rw [List.mem_singleton.1 hq, eg12]; exact Nat.le_refl _) (List.nodup_cons.2 ⟨(fun h => nomatch h), List.nodup_nil⟩) (fun q hq => by rw [List.mem_singleton.1 hq]; exact hb12.lt)
    obtain ⟨w13, hst13, hC13, hb13⟩ := box_store (P := Try.prog) hb12 [] [(.int .i64 0), (.int .i64 0), (.slice none 0 0)] [] [(.int .i64 r10.1.1), (.int .i64 r10.1.2.1), (.slice a9x0 n9x0 c9x0)] rfl rfl (by intro u hu; simp only [List.mem_cons, List.not_mem_nil, or_false] at hu; rcases hu with rfl | rfl | rfl <;> rfl)
    refine pl_skip (w' := w13) (ys_store rfl rfl (hst13 _ _ rfl Sz49)) ?_
    have h0 := h0.mut hC13 (fun g hg => hO.inM g ((fun _ h => h) g hg)) (fun _ _ h => nomatch h)
    have hb2 := hb2.chg hC13 (fun hg => hO.apart _ ((fun _ h => h) _ hg) (mem_r (mem_r (mem_l (List.mem_singleton.2 rfl)))))
    have hv6x0 := hv6x0.mut hC13 (fun g hg => hO.inM g ((fun _ h => h) g hg)) (fun g hg e => hO.apart g ((fun _ h => h) g hg) (mem_r (mem_l (e))))
    have hv9x0 := hv9x0.mut hC13 (fun g hg => hO.inM g ((fun _ h => h) g hg)) (fun g hg e => hO.apart g ((fun _ h => h) g hg) (mem_l (e)))
    have hC := hC.step hC13 (fun g hg => hO.inN g ((fun _ h => h) g hg))
    have hO := hO.ext hC13
    have hb13 : BoxV w13 g12 49 [(.int .i64 r10.1.1), (.int .i64 r10.1.2.1), (.slice a9x0 n9x0 c9x0)] := hb13
    refine pl_val (.bool r10.2) (y_assign rfl) ?_
    refine c_nil ?_
    refine c_seq ?_
    refine c_region ?_
    refine pl_val (.agg #[(.int .i64 aNet.1), (.int .i64 aNet.2.1), (.slice pa0 pn0 pc0)]) (y_load rfl ((box_load Ag44 Sz44 hb2 [] [(.int .i64 aNet.1), (.int .i64 aNet.2.1), (.slice pa0 pn0 pc0)] [] rfl rfl (fun h => nomatch h)) _ (Chg.refl _ _))) ?_
    obtain ⟨r15, hr15, hs⟩ := bind_some hs
    refine pl_call Bd32 rfl (c_laws_toNetwork (M := M) (aNet.1, aNet.2.1, aNet.2.2) h0 hO.fut hr15) ?_
    rintro _ w14 ⟨a14x0, n14x0, c14x0, f14x0, rfl, hC14, hv14x0, hOc14⟩
    have h0 := h0.ext hC14
    have hb2 := hb2.chg hC14 (fun h => nomatch h)
    have hv6x0 := hv6x0.ext hC14
    have hv9x0 := hv9x0.ext hC14
    have hb13 := hb13.chg hC14 (fun h => nomatch h)
    have hC := hC.ext hC14
    have hO := Own.join0 hO hC14 hOc14
    have hO := hO.perm (R := f14x0 ++ (([g12]) ++ (f9x0 ++ (f6x0 ++ (([g2]) ++ ([])))))) (by simp)
    obtain ⟨w17, g17, ew17, eg17, hC17, hb17⟩ := new_block w14 [(.int .i64 0), (.int .i64 0), (.slice none 0 0)] 49
    refine pl_val (w' := w17) (.pointer (some ⟨g17, 0, none⟩)) (y_alloc (by rw [ew17, eg17]; kernel_rfl)) ?_
    have h0 := h0.ext hC17
    have hb2 := hb2.chg hC17 (fun h => nomatch h)
    have hv6x0 := hv6x0.ext hC17
    have hv9x0 := hv9x0.ext hC17
    have hb13 := hb13.chg hC17 (fun h => nomatch h)
    have hv14x0 := hv14x0.ext hC17
    have hC := hC.ext hC17
    have hO := hO.new (X' := [g17]) hC17 (fun q hq => by rw [List.mem_singleton.1 hq, eg17]; exact Nat.le_refl _) (List.nodup_cons.2 ⟨(fun h => nomatch h), List.nodup_nil⟩) (fun q hq => by rw [List.mem_singleton.1 hq]; exact hb17.lt)
    obtain ⟨w18, hst18, hC18, hb18⟩ := box_store (P := Try.prog) hb17 [] [(.int .i64 0), (.int .i64 0), (.slice none 0 0)] [] [(.int .i64 r15.1), (.int .i64 r15.2.1), (.slice a14x0 n14x0 c14x0)] rfl rfl (by intro u hu; simp only [List.mem_cons, List.not_mem_nil, or_false] at hu; rcases hu with rfl | rfl | rfl <;> rfl)
    refine pl_skip (w' := w18) (ys_store rfl rfl (hst18 _ _ rfl Sz49)) ?_
    have h0 := h0.mut hC18 (fun g hg => hO.inM g ((fun _ h => h) g hg)) (fun _ _ h => nomatch h)
    have hb2 := hb2.chg hC18 (fun hg => hO.apart _ ((fun _ h => h) _ hg) (mem_r (mem_r (mem_r (mem_r (mem_l (List.mem_singleton.2 rfl)))))))
    have hv6x0 := hv6x0.mut hC18 (fun g hg => hO.inM g ((fun _ h => h) g hg)) (fun g hg e => hO.apart g ((fun _ h => h) g hg) (mem_r (mem_r (mem_r (mem_l (e))))))
    have hv9x0 := hv9x0.mut hC18 (fun g hg => hO.inM g ((fun _ h => h) g hg)) (fun g hg e => hO.apart g ((fun _ h => h) g hg) (mem_r (mem_r (mem_l (e)))))
    have hb13 := hb13.chg hC18 (fun hg => hO.apart _ ((fun _ h => h) _ hg) (mem_r (mem_l (List.mem_singleton.2 rfl))))
    have hv14x0 := hv14x0.mut hC18 (fun g hg => hO.inM g ((fun _ h => h) g hg)) (fun g hg e => hO.apart g ((fun _ h => h) g hg) (mem_l (e)))
    have hC := hC.step hC18 (fun g hg => hO.inN g ((fun _ h => h) g hg))
    have hO := hO.ext hC18
    have hb18 : BoxV w18 g17 49 [(.int .i64 r15.1), (.int .i64 r15.2.1), (.slice a14x0 n14x0 c14x0)] := hb18
    refine c_nil ?_
    refine c_seq ?_
    refine c_region ?_
    refine pl_val (.agg #[(.int .i64 r15.1), (.int .i64 r15.2.1), (.slice a14x0 n14x0 c14x0)]) (y_load rfl ((box_load Ag49 Sz49 hb18 [] [(.int .i64 r15.1), (.int .i64 r15.2.1), (.slice a14x0 n14x0 c14x0)] [] rfl rfl (fun h => nomatch h)) _ (Chg.refl _ _))) ?_
    refine pl_val (.int .i64 aV) (y_move rfl) ?_
    refine pl_val (.int .i64 aValue) (y_move rfl) ?_
    have hO := hO.fr1
    obtain ⟨r20, hr20, hs⟩ := bind_some hs
    refine pl_call Bd72 rfl (c_impl_FixVariable (M := (Less M f14x0)) (r15.1, r15.2.1, r15.2.2) aV aValue (((Frz.os (Frz.pr (Frz.os Frz.int) (Frz.pr Frz.int (Frz.os (Frz.os Frz.int)))))).val hv14x0 Less.sub Less.not) hO.less.fut hr20) ?_
    rintro _ w19 ⟨a19x0, n19x0, c19x0, f19x0, rfl, hC19, hv19x0, hOc19⟩
    have h0 := h0.ext hC19
    have hb2 := hb2.chg hC19 (fun h => nomatch h)
    have hv6x0 := hv6x0.ext hC19
    have hv9x0 := hv9x0.ext hC19
    have hb13 := hb13.chg hC19 (fun h => nomatch h)
    have hv14x0 := hv14x0.ext hC19
    have hb18 := hb18.chg hC19 (fun h => nomatch h)
    have hC := hC.ext hC19
    have hO := Own.join0 hO hC19 hOc19
    have hO := hO.perm (R := f19x0 ++ (f14x0 ++ (([g17]) ++ (([g12]) ++ (f9x0 ++ (f6x0 ++ (([g2]) ++ ([])))))))) (by simp)
    have hv19x0 := hv19x0.free (M' := M) (Free.os (Free.pr (Free.os Free.int) (Free.pr Free.int (Free.os (Free.os Free.int)))))
    refine pl_val (.tuple #[(.agg #[(.int .i64 r20.1.1), (.int .i64 r20.1.2.1), (.slice a19x0 n19x0 c19x0)]), (.bool r20.2)]) (y_move rfl) ?_
    refine pl_val (.agg #[(.int .i64 r20.1.1), (.int .i64 r20.1.2.1), (.slice a19x0 n19x0 c19x0)]) (y_extract rfl (by kernel_rfl)) ?_
    refine pl_val (.bool r20.2) (y_extract rfl (by kernel_rfl)) ?_
    obtain ⟨w22, g22, ew22, eg22, hC22, hb22⟩ := new_block w19 [(.int .i64 0), (.int .i64 0), (.slice none 0 0)] 49
    refine pl_val (w' := w22) (.pointer (some ⟨g22, 0, none⟩)) (y_alloc (by rw [ew22, eg22]; kernel_rfl)) ?_
    have h0 := h0.ext hC22
    have hb2 := hb2.chg hC22 (fun h => nomatch h)
    have hv6x0 := hv6x0.ext hC22
    have hv9x0 := hv9x0.ext hC22
    have hb13 := hb13.chg hC22 (fun h => nomatch h)
    have hv14x0 := hv14x0.ext hC22
    have hb18 := hb18.chg hC22 (fun h => nomatch h)
    have hv19x0 := hv19x0.ext hC22
    have hC := hC.ext hC22
    have hO := hO.new (X' := [g22]) hC22 (fun q hq => by rw [List.mem_singleton.1 hq, eg22]; exact Nat.le_refl _) (List.nodup_cons.2 ⟨(fun h => nomatch h), List.nodup_nil⟩) (fun q hq => by rw [List.mem_singleton.1 hq]; exact hb22.lt)
    obtain ⟨w23, hst23, hC23, hb23⟩ := box_store (P := Try.prog) hb22 [] [(.int .i64 0), (.int .i64 0), (.slice none 0 0)] [] [(.int .i64 r20.1.1), (.int .i64 r20.1.2.1), (.slice a19x0 n19x0 c19x0)] rfl rfl (by intro u hu; simp only [List.mem_cons, List.not_mem_nil, or_false] at hu; rcases hu with rfl | rfl | rfl <;> rfl)
    refine pl_skip (w' := w23) (ys_store rfl rfl (hst23 _ _ rfl Sz49)) ?_
    have h0 := h0.mut hC23 (fun g hg => hO.inM g ((fun _ h => h) g hg)) (fun _ _ h => nomatch h)
    have hb2 := hb2.chg hC23 (fun hg => hO.apart _ ((fun _ h => h) _ hg) (mem_r (mem_r (mem_r (mem_r (mem_r (mem_r (mem_l (List.mem_singleton.2 rfl)))))))))
    have hv6x0 := hv6x0.mut hC23 (fun g hg => hO.inM g ((fun _ h => h) g hg)) (fun g hg e => hO.apart g ((fun _ h => h) g hg) (mem_r (mem_r (mem_r (mem_r (mem_r (mem_l (e))))))))
    have hv9x0 := hv9x0.mut hC23 (fun g hg => hO.inM g ((fun _ h => h) g hg)) (fun g hg e => hO.apart g ((fun _ h => h) g hg) (mem_r (mem_r (mem_r (mem_r (mem_l (e)))))))
    have hb13 := hb13.chg hC23 (fun hg => hO.apart _ ((fun _ h => h) _ hg) (mem_r (mem_r (mem_r (mem_l (List.mem_singleton.2 rfl))))))
    have hv14x0 := hv14x0.mut hC23 (fun g hg => hO.inM g ((fun _ h => h) g hg)) (fun g hg e => hO.apart g ((fun _ h => h) g hg) (mem_r (mem_l (e))))
    have hb18 := hb18.chg hC23 (fun hg => hO.apart _ ((fun _ h => h) _ hg) (mem_r (mem_r (mem_l (List.mem_singleton.2 rfl)))))
    have hv19x0 := hv19x0.mut hC23 (fun g hg => hO.inM g ((fun _ h => h) g hg)) (fun g hg e => hO.apart g ((fun _ h => h) g hg) (mem_l (e)))
    have hC := hC.step hC23 (fun g hg => hO.inN g ((fun _ h => h) g hg))
    have hO := hO.ext hC23
    have hb23 : BoxV w23 g22 49 [(.int .i64 r20.1.1), (.int .i64 r20.1.2.1), (.slice a19x0 n19x0 c19x0)] := hb23
    refine pl_val (.bool r20.2) (y_assign rfl) ?_
    refine c_nil ?_
    refine c_seq ?_
    refine c_seq ?_
    obtain ⟨s24, hm26, hs⟩ := bind_some hs
    refine c_mid (I := fun a w25 => ∃ (σ : Nat → Value), a = fr 106 (ovl σ [(1, (.int .i64 aV)), (2, (.int .i64 aValue)), (3, (.pointer (some ⟨g2, 0, none⟩))), (6, (.bool false)), (8, (.pointer (some ⟨g12, 0, none⟩))), (9, (.bool r10.2)), (10, (.pointer (some ⟨g17, 0, none⟩))), (11, (.pointer (some ⟨g22, 0, none⟩))), (12, (.bool r20.2)), (48, (.bool s24))]) ∧ Chg [] w23 w25) ?_ ?_
    · replace hs := hm26
      have hMid := Chg.refl [] w23
      refine c_region ?_
      refine pl_val (.agg #[(.int .i64 r20.1.1), (.int .i64 r20.1.2.1), (.slice a19x0 n19x0 c19x0)]) (y_load rfl ((box_load Ag49 Sz49 hb23 [] [(.int .i64 r20.1.1), (.int .i64 r20.1.2.1), (.slice a19x0 n19x0 c19x0)] [] rfl rfl (fun h => nomatch h)) _ (Chg.refl _ _))) ?_
      refine pl_val (.agg #[(.int .i64 r10.1.1), (.int .i64 r10.1.2.1), (.slice a9x0 n9x0 c9x0)]) (y_load rfl ((box_load Ag49 Sz49 hb13 [] [(.int .i64 r10.1.1), (.int .i64 r10.1.2.1), (.slice a9x0 n9x0 c9x0)] [] rfl rfl (fun h => nomatch h)) _ (Chg.refl _ _))) ?_
      have hO := hO.fr5
      have hO := hO.fr2
      obtain ⟨r28, hr28, hs⟩ := bind_some hs
      refine pl_call Bd34 rfl (c_laws_eqNetwork (M := (Less (Less M f19x0) f9x0)) (r20.1.1, r20.1.2.1, r20.1.2.2) (r10.1.1, r10.1.2.1, r10.1.2.2) ((((Frz.os (Frz.pr (Frz.os Frz.int) (Frz.pr Frz.int (Frz.os (Frz.os Frz.int)))))).val hv19x0 Less.sub Less.not).sub Less.sub) (((Frz.os (Frz.pr (Frz.os Frz.int) (Frz.pr Frz.int (Frz.os (Frz.os Frz.int)))))).val (hv9x0.sub Less.sub) Less.sub Less.not) (hO.less).less.fut hr28) ?_
      rintro _ w27 ⟨rfl, hC27⟩
      have h0 := h0.ext hC27
      have hb2 := hb2.chg hC27 (fun h => nomatch h)
      have hv6x0 := hv6x0.ext hC27
      have hv9x0 := hv9x0.ext hC27
      have hb13 := hb13.chg hC27 (fun h => nomatch h)
      have hv14x0 := hv14x0.ext hC27
      have hb18 := hb18.chg hC27 (fun h => nomatch h)
      have hv19x0 := hv19x0.ext hC27
      have hb23 := hb23.chg hC27 (fun h => nomatch h)
      have hMid := hMid.ext hC27
      have hC := hC.ext hC27
      have hO := hO.ext hC27
      refine pl_val (.bool (!r28)) (y_not rfl) ?_
      refine pl_val (.bool (!r28)) (y_move rfl) ?_
      rcases bif_some hs with ⟨hc29, hs⟩ | ⟨hc29, hs⟩
      · skip
        refine pl_not (tg := 44) (by kernel_rfl) (congrArg Value.bool hc29) ?_
        refine pl_not (tg := 44) (by kernel_rfl) (congrArg Value.bool hc29) ?_
        refine pl_not (tg := 44) (by kernel_rfl) (congrArg Value.bool hc29) ?_
        refine pl_val (.bool true) (y_pick_t (congrArg Value.bool hc29) rfl) ?_
        refine c_nil ?_
        cases hs
        exact ⟨_, fr_ovl 106 ⟨rfl, rfl, rfl, rfl, rfl, rfl, rfl, rfl, rfl, rfl, trivial⟩, hMid⟩
      · skip
        refine pl_yes (.bool r20.2) (tg := 44) (by kernel_rfl) (congrArg Value.bool hc29) (y_move rfl) ?_
        refine pl_yes (.bool r10.2) (tg := 44) (by kernel_rfl) (congrArg Value.bool hc29) (y_move rfl) ?_
        refine pl_yes (.bool (!(r20.2 == r10.2))) (tg := 44) (by kernel_rfl) (congrArg Value.bool hc29) (y_bneq Try.underlying4 rfl rfl) ?_
        refine pl_val (.bool (!(r20.2 == r10.2))) (y_pick_f (congrArg Value.bool hc29) rfl) ?_
        refine c_nil ?_
        cases hs
        exact ⟨_, fr_ovl 106 ⟨rfl, rfl, rfl, rfl, rfl, rfl, rfl, rfl, rfl, rfl, trivial⟩, hMid⟩
    · rintro a1 w25 ⟨σ, rfl, hCs24⟩
      have h0 := h0.ext hCs24
      have hb2 := hb2.chg hCs24 (fun h => nomatch h)
      have hv6x0 := hv6x0.ext hCs24
      have hv9x0 := hv9x0.ext hCs24
      have hb13 := hb13.chg hCs24 (fun h => nomatch h)
      have hv14x0 := hv14x0.ext hCs24
      have hb18 := hb18.chg hCs24 (fun h => nomatch h)
      have hv19x0 := hv19x0.ext hCs24
      have hb23 := hb23.chg hCs24 (fun h => nomatch h)
      have hC := hC.ext hCs24
      have hO := hO.ext hCs24
      rcases bif_some hs with ⟨hc30, hs⟩ | ⟨hc30, hs⟩
      · skip
        refine c_condT (congrArg Value.bool hc30) ?_
        refine c_seq ?_
        refine c_region ?_
        refine pl_val (.bool false) (y_assign rfl) ?_
        refine c_nil ?_
        refine wp_ret ?_
        cases hs
        exact ⟨_, fr_ovl 106 ⟨rfl, trivial⟩, hC⟩
      · skip
        refine c_condF (congrArg Value.bool hc30) ?_
        refine wp_skip ?_
        refine c_seq ?_
        refine c_seq ?_
        refine x_start [] Mx rfl ?_
        have hCw37 := Chg.drew w25
        generalize World.drew w25 = w37 at hCw37 ⊢
        have h0 := h0.ext hCw37
        have hb2 := hb2.chg hCw37 (fun h => nomatch h)
        have hv6x0 := hv6x0.ext hCw37
        have hv9x0 := hv9x0.ext hCw37
        have hb13 := hb13.chg hCw37 (fun h => nomatch h)
        have hv14x0 := hv14x0.ext hCw37
        have hb18 := hb18.chg hCw37 (fun h => nomatch h)
        have hv19x0 := hv19x0.ext hCw37
        have hb23 := hb23.chg hCw37 (fun h => nomatch h)
        have hC := hC.ext hCw37
        have hO := hO.ext hCw37
        have hS := Chg.refl [] w37
        refine x_l 0 (.agg #[(.int .i64 r15.1), (.int .i64 r15.2.1), (.slice a14x0 n14x0 c14x0)]) rfl (by kernel_rfl)  (fun w' hw' => y_load rfl ((box_load Ag49 Sz49 hb18 [] [(.int .i64 r15.1), (.int .i64 r15.2.1), (.slice a14x0 n14x0 c14x0)] [] rfl rfl (fun h => nomatch h)) w' hw')) hS ?_
        refine x_l 1 (.agg #[(.int .i64 aNet.1), (.int .i64 aNet.2.1), (.slice pa0 pn0 pc0)]) rfl (by kernel_rfl)  (fun w' hw' => y_load rfl ((box_load Ag44 Sz44 hb2 [] [(.int .i64 aNet.1), (.int .i64 aNet.2.1), (.slice pa0 pn0 pc0)] [] rfl rfl (fun h => nomatch h)) w' hw')) hS ?_
        refine x_one (i := 2) (by kernel_rfl) ?_
        obtain ⟨r39, hr39, hs⟩ := bind_some hs
        refine xk_call (b := false) rfl  Bd32 rfl (c_laws_toNetwork (M := M) (aNet.1, aNet.2.1, aNet.2.2) h0 hO.fut hr39) rfl (by rintro _ _ _ ⟨a38x0, n38x0, c38x0, f38x0, rfl, hC38, hv38x0, hOc38⟩; exact hS.ext hC38) ?_
        rintro _ w38 ⟨a38x0, n38x0, c38x0, f38x0, rfl, hC38, hv38x0, hOc38⟩
        have h0 := h0.ext hC38
        have hb2 := hb2.chg hC38 (fun h => nomatch h)
        have hv6x0 := hv6x0.ext hC38
        have hv9x0 := hv9x0.ext hC38
        have hb13 := hb13.chg hC38 (fun h => nomatch h)
        have hv14x0 := hv14x0.ext hC38
        have hb18 := hb18.chg hC38 (fun h => nomatch h)
        have hv19x0 := hv19x0.ext hC38
        have hb23 := hb23.chg hC38 (fun h => nomatch h)
        have hC := hC.ext hC38
        have hO := Own.join0 hO hC38 hOc38
        have hO := hO.perm (R := f38x0 ++ (([g22]) ++ (f19x0 ++ (f14x0 ++ (([g17]) ++ (([g12]) ++ (f9x0 ++ (f6x0 ++ (([g2]) ++ ([])))))))))) (by simp)
        have hS := hS.ext hC38
        refine x_one (i := 3) (by kernel_rfl) ?_
        have hO := hO.fr3
        obtain ⟨r42, hr42, hs⟩ := bind_some hs
        refine xk_call (b := false) rfl  Bd34 rfl (c_laws_eqNetwork (M := (Less (Less M f14x0) f38x0)) (r15.1, r15.2.1, r15.2.2) (r39.1, r39.2.1, r39.2.2) ((((Frz.os (Frz.pr (Frz.os Frz.int) (Frz.pr Frz.int (Frz.os (Frz.os Frz.int)))))).val hv14x0 Less.sub Less.not).sub Less.sub) (((Frz.os (Frz.pr (Frz.os Frz.int) (Frz.pr Frz.int (Frz.os (Frz.os Frz.int)))))).val (hv38x0.sub Less.sub) Less.sub Less.not) (hO.less).less.fut hr42) rfl (by rintro _ _ _ ⟨rfl, hC41⟩; exact hS.ext hC41) ?_
        rintro _ w41 ⟨rfl, hC41⟩
        have h0 := h0.ext hC41
        have hb2 := hb2.chg hC41 (fun h => nomatch h)
        have hv6x0 := hv6x0.ext hC41
        have hv9x0 := hv9x0.ext hC41
        have hb13 := hb13.chg hC41 (fun h => nomatch h)
        have hv14x0 := hv14x0.ext hC41
        have hb18 := hb18.chg hC41 (fun h => nomatch h)
        have hv19x0 := hv19x0.ext hC41
        have hb23 := hb23.chg hC41 (fun h => nomatch h)
        have hv38x0 := hv38x0.ext hC41
        have hC := hC.ext hC41
        have hO := hO.ext hC41
        have hS := hS.ext hC41
        refine x_p 4 (.bool (!r42)) rfl (by kernel_rfl)  (fun _ => y_not rfl) (fun _ => hS) ?_
        refine x_end (by kernel_rfl) ?_
        clear hS
        rcases bif_some hs with ⟨hc43, hs⟩ | ⟨hc43, hs⟩
        · skip
          refine c_condT (congrArg Value.bool hc43) ?_
          refine c_seq ?_
          refine c_region ?_
          refine pl_val (.bool false) (y_assign rfl) ?_
          refine c_nil ?_
          refine wp_ret ?_
          cases hs
          exact ⟨_, fr_ovl 106 ⟨rfl, trivial⟩, hC⟩
        · skip
          refine c_condF (congrArg Value.bool hc43) ?_
          refine wp_skip ?_
          refine c_seq ?_
          refine c_region ?_
          refine pl_val (.int .i64 1) (y_assign rfl) ?_
          refine c_nil ?_
          refine c_seq ?_
          refine c_region ?_
          refine pl_val (.agg #[(.int .i64 r15.1), (.int .i64 r15.2.1), (.slice a14x0 n14x0 c14x0)]) (y_load rfl ((box_load Ag49 Sz49 hb18 [] [(.int .i64 r15.1), (.int .i64 r15.2.1), (.slice a14x0 n14x0 c14x0)] [] rfl rfl (fun h => nomatch h)) _ (Chg.refl _ _))) ?_
          refine pl_val (.int .i64 1) (y_move rfl) ?_
          have hL44 := hO
          have hI44 := Own.lend (F := (f14x0 ++ ([]))) (R := f38x0 ++ (([g22]) ++ (f19x0 ++ (([g17]) ++ (([g12]) ++ (f9x0 ++ (f6x0 ++ (([g2]) ++ ([]))))))))) (Own.perm (hL44) (by simp))
          obtain ⟨r45, hr45, hs⟩ := bind_some hs
          refine pl_call Bd69 rfl (c_laws_markNetwork (M := M) (r15.1, r15.2.1, r15.2.2) 1 hv14x0 hI44 hI44.fut hr45) ?_
          rintro _ w44 ⟨fi44x0, rfl, hC44, hvi44x0, hOc44⟩
          have hO := hO.perm (R := (f14x0 ++ ([])) ++ (f38x0 ++ (([g22]) ++ (f19x0 ++ (([g17]) ++ (([g12]) ++ (f9x0 ++ (f6x0 ++ (([g2]) ++ ([])))))))))) (by simp)
          have h0 := h0.mut hC44 (fun g hg => hO.inM g ((fun _ h => h) g hg)) (fun _ _ h => nomatch h)
          have hb2 := hb2.chg hC44 (fun hg => hO.apart _ ((fun _ h => h) _ hg) (mem_r (mem_r (mem_r (mem_r (mem_r (mem_r (mem_r (mem_l (List.mem_singleton.2 rfl))))))))))
          have hv6x0 := hv6x0.mut hC44 (fun g hg => hO.inM g ((fun _ h => h) g hg)) (fun g hg e => hO.apart g ((fun _ h => h) g hg) (mem_r (mem_r (mem_r (mem_r (mem_r (mem_r (mem_l (e)))))))))
          have hv9x0 := hv9x0.mut hC44 (fun g hg => hO.inM g ((fun _ h => h) g hg)) (fun g hg e => hO.apart g ((fun _ h => h) g hg) (mem_r (mem_r (mem_r (mem_r (mem_r (mem_l (e))))))))
          have hb13 := hb13.chg hC44 (fun hg => hO.apart _ ((fun _ h => h) _ hg) (mem_r (mem_r (mem_r (mem_r (mem_l (List.mem_singleton.2 rfl)))))))
          have hb18 := hb18.chg hC44 (fun hg => hO.apart _ ((fun _ h => h) _ hg) (mem_r (mem_r (mem_r (mem_l (List.mem_singleton.2 rfl))))))
          have hv19x0 := hv19x0.mut hC44 (fun g hg => hO.inM g ((fun _ h => h) g hg)) (fun g hg e => hO.apart g ((fun _ h => h) g hg) (mem_r (mem_r (mem_l (e)))))
          have hb23 := hb23.chg hC44 (fun hg => hO.apart _ ((fun _ h => h) _ hg) (mem_r (mem_l (List.mem_singleton.2 rfl))))
          have hv38x0 := hv38x0.mut hC44 (fun g hg => hO.inM g ((fun _ h => h) g hg)) (fun g hg e => hO.apart g ((fun _ h => h) g hg) (mem_l (e)))
          have hC := hC.step hC44 (fun g hg => hO.inN g ((fun _ h => h) g hg))
          have hO := Own.join hO hC44 hOc44
          have hO := hO.perm (R := fi44x0 ++ (f38x0 ++ (([g22]) ++ (f19x0 ++ (([g17]) ++ (([g12]) ++ (f9x0 ++ (f6x0 ++ (([g2]) ++ ([])))))))))) (by simp)
          refine pl_val (.int .i64 r45.1) (y_assign rfl) ?_
          refine c_nil ?_
          refine c_seq ?_
          refine c_seq ?_
          obtain ⟨s46, hm48, hs⟩ := bind_some hs
          refine c_mid (I := fun a w47 => ∃ (σ : Nat → Value), a = fr 106 (ovl σ [(1, (.int .i64 aV)), (2, (.int .i64 aValue)), (3, (.pointer (some ⟨g2, 0, none⟩))), (6, (.bool false)), (8, (.pointer (some ⟨g12, 0, none⟩))), (9, (.bool r10.2)), (11, (.pointer (some ⟨g22, 0, none⟩))), (69, (.bool s46))]) ∧ Chg [] w44 w47) ?_ ?_
          · replace hs := hm48
            have hMid := Chg.refl [] w44
            refine c_region ?_
            refine pl_val (.int .i64 r45.1) (y_move rfl) ?_
            refine pl_val (.bool (decide (r45.1 < 0))) (y_lss rfl rfl) ?_
            refine pl_val (.bool (decide (r45.1 < 0))) (y_move rfl) ?_
            rcases bif_some hs with ⟨hc49, hs⟩ | ⟨hc49, hs⟩
            · skip
              refine pl_not (tg := 59) (by kernel_rfl) (congrArg Value.bool hc49) ?_
              refine pl_not (tg := 59) (by kernel_rfl) (congrArg Value.bool hc49) ?_
              refine pl_not (tg := 59) (by kernel_rfl) (congrArg Value.bool hc49) ?_
              refine pl_not (tg := 59) (by kernel_rfl) (congrArg Value.bool hc49) ?_
              refine pl_val (.bool true) (y_pick_t (congrArg Value.bool hc49) rfl) ?_
              refine pl_val (.bool true) (y_move rfl) ?_
              refine pl_not (tg := 65) (by kernel_rfl) (by rfl) ?_
              refine pl_not (tg := 65) (by kernel_rfl) (by rfl) ?_
              refine pl_not (tg := 65) (by kernel_rfl) (by rfl) ?_
              refine pl_val (.bool true) (y_pick_t (by rfl) rfl) ?_
              refine c_nil ?_
              cases hs
              exact ⟨_, fr_ovl 106 ⟨rfl, rfl, rfl, rfl, rfl, rfl, rfl, rfl, trivial⟩, hMid⟩
            · skip
              refine pl_yes (.agg #[(.int .i64 r20.1.1), (.int .i64 r20.1.2.1), (.slice a19x0 n19x0 c19x0)]) (tg := 59) (by kernel_rfl) (congrArg Value.bool hc49) (y_load rfl ((box_load Ag49 Sz49 hb23 [] [(.int .i64 r20.1.1), (.int .i64 r20.1.2.1), (.slice a19x0 n19x0 c19x0)] [] rfl rfl (fun h => nomatch h)) _ (Chg.refl _ _))) ?_
              refine pl_yes (.agg #[(.int .i64 r10.1.1), (.int .i64 r10.1.2.1), (.slice a9x0 n9x0 c9x0)]) (tg := 59) (by kernel_rfl) (congrArg Value.bool hc49) (y_load rfl ((box_load Ag49 Sz49 hb13 [] [(.int .i64 r10.1.1), (.int .i64 r10.1.2.1), (.slice a9x0 n9x0 c9x0)] [] rfl rfl (fun h => nomatch h)) _ (Chg.refl _ _))) ?_
              have hO := hO.fr6
              have hO := hO.fr4
              obtain ⟨r51, hr51, hs⟩ := bind_some hs
              refine pl_cally (tg := 59) (by kernel_rfl) (congrArg Value.bool hc49) Bd34 rfl (c_laws_eqNetwork (M := (Less (Less M f19x0) f9x0)) (r20.1.1, r20.1.2.1, r20.1.2.2) (r10.1.1, r10.1.2.1, r10.1.2.2) ((((Frz.os (Frz.pr (Frz.os Frz.int) (Frz.pr Frz.int (Frz.os (Frz.os Frz.int)))))).val hv19x0 Less.sub Less.not).sub Less.sub) (((Frz.os (Frz.pr (Frz.os Frz.int) (Frz.pr Frz.int (Frz.os (Frz.os Frz.int)))))).val (hv9x0.sub Less.sub) Less.sub Less.not) (hO.less).less.fut hr51) ?_
              rintro _ w50 ⟨rfl, hC50⟩
              have h0 := h0.ext hC50
              have hb2 := hb2.chg hC50 (fun h => nomatch h)
              have hv6x0 := hv6x0.ext hC50
              have hv9x0 := hv9x0.ext hC50
              have hb13 := hb13.chg hC50 (fun h => nomatch h)
              have hvi44x0 := hvi44x0.ext hC50
              have hb18 := hb18.chg hC50 (fun h => nomatch h)
              have hv19x0 := hv19x0.ext hC50
              have hb23 := hb23.chg hC50 (fun h => nomatch h)
              have hv38x0 := hv38x0.ext hC50
              have hMid := hMid.ext hC50
              have hC := hC.ext hC50
              have hO := hO.ext hC50
              refine pl_yes (.bool (!r51)) (tg := 59) (by kernel_rfl) (congrArg Value.bool hc49) (y_not rfl) ?_
              refine pl_val (.bool (!r51)) (y_pick_f (congrArg Value.bool hc49) rfl) ?_
              refine pl_val (.bool (!r51)) (y_move rfl) ?_
              rcases bif_some hs with ⟨hc52, hs⟩ | ⟨hc52, hs⟩
              · skip
                refine pl_not (tg := 65) (by kernel_rfl) (congrArg Value.bool hc52) ?_
                refine pl_not (tg := 65) (by kernel_rfl) (congrArg Value.bool hc52) ?_
                refine pl_not (tg := 65) (by kernel_rfl) (congrArg Value.bool hc52) ?_
                refine pl_val (.bool true) (y_pick_t (congrArg Value.bool hc52) rfl) ?_
                refine c_nil ?_
                cases hs
                exact ⟨_, fr_ovl 106 ⟨rfl, rfl, rfl, rfl, rfl, rfl, rfl, rfl, trivial⟩, hMid⟩
              · skip
                refine pl_yes (.bool r20.2) (tg := 65) (by kernel_rfl) (congrArg Value.bool hc52) (y_move rfl) ?_
                refine pl_yes (.bool r10.2) (tg := 65) (by kernel_rfl) (congrArg Value.bool hc52) (y_move rfl) ?_
                refine pl_yes (.bool (!(r20.2 == r10.2))) (tg := 65) (by kernel_rfl) (congrArg Value.bool hc52) (y_bneq Try.underlying4 rfl rfl) ?_
                refine pl_val (.bool (!(r20.2 == r10.2))) (y_pick_f (congrArg Value.bool hc52) rfl) ?_
                refine c_nil ?_
                cases hs
                exact ⟨_, fr_ovl 106 ⟨rfl, rfl, rfl, rfl, rfl, rfl, rfl, rfl, trivial⟩, hMid⟩
          · rintro a1 w47 ⟨σ, rfl, hCs46⟩
            have h0 := h0.ext hCs46
            have hb2 := hb2.chg hCs46 (fun h => nomatch h)
            have hv6x0 := hv6x0.ext hCs46
            have hv9x0 := hv9x0.ext hCs46
            have hb13 := hb13.chg hCs46 (fun h => nomatch h)
            have hvi44x0 := hvi44x0.ext hCs46
            have hb18 := hb18.chg hCs46 (fun h => nomatch h)
            have hv19x0 := hv19x0.ext hCs46
            have hb23 := hb23.chg hCs46 (fun h => nomatch h)
            have hv38x0 := hv38x0.ext hCs46
            have hC := hC.ext hCs46
            have hO := hO.ext hCs46
            rcases bif_some hs with ⟨hc53, hs⟩ | ⟨hc53, hs⟩
            · skip
              refine c_condT (congrArg Value.bool hc53) ?_
              refine c_seq ?_
              refine c_region ?_
              refine pl_val (.bool false) (y_assign rfl) ?_
              refine c_nil ?_
              refine wp_ret ?_
              cases hs
              exact ⟨_, fr_ovl 106 ⟨rfl, trivial⟩, hC⟩
            · skip
              refine c_condF (congrArg Value.bool hc53) ?_
              refine wp_skip ?_
              refine c_seq ?_
              refine c_region ?_
              refine pl_val (.int .i64 1) (y_assign rfl) ?_
              refine c_nil ?_
              refine c_seq ?_
              refine c_region ?_
              refine pl_val (.agg #[(.int .i64 r20.1.1), (.int .i64 r20.1.2.1), (.slice a19x0 n19x0 c19x0)]) (y_load rfl ((box_load Ag49 Sz49 hb23 [] [(.int .i64 r20.1.1), (.int .i64 r20.1.2.1), (.slice a19x0 n19x0 c19x0)] [] rfl rfl (fun h => nomatch h)) _ (Chg.refl _ _))) ?_
              refine pl_val (.int .i64 1) (y_move rfl) ?_
              have hO := hO.fr3
              have hL54 := hO
              have hI54 := Own.lend (F := (f19x0 ++ ([]))) (R := fi44x0 ++ (f38x0 ++ (([g22]) ++ (([g17]) ++ (([g12]) ++ (f9x0 ++ (f6x0 ++ (([g2]) ++ ([]))))))))) (Own.perm (hL54) (by simp))
              obtain ⟨r55, hr55, hs⟩ := bind_some hs
              refine pl_call Bd69 rfl (c_laws_markNetwork (M := M) (r20.1.1, r20.1.2.1, r20.1.2.2) 1 hv19x0 hI54 hI54.fut hr55) ?_
              rintro _ w54 ⟨fi54x0, rfl, hC54, hvi54x0, hOc54⟩
              have hO := hO.perm (R := (f19x0 ++ ([])) ++ (fi44x0 ++ (f38x0 ++ (([g22]) ++ (([g17]) ++ (([g12]) ++ (f9x0 ++ (f6x0 ++ (([g2]) ++ ([])))))))))) (by simp)
              have h0 := h0.mut hC54 (fun g hg => hO.inM g ((fun _ h => h) g hg)) (fun _ _ h => nomatch h)
              have hb2 := hb2.chg hC54 (fun hg => hO.apart _ ((fun _ h => h) _ hg) (mem_r (mem_r (mem_r (mem_r (mem_r (mem_r (mem_r (mem_l (List.mem_singleton.2 rfl))))))))))
              have hv6x0 := hv6x0.mut hC54 (fun g hg => hO.inM g ((fun _ h => h) g hg)) (fun g hg e => hO.apart g ((fun _ h => h) g hg) (mem_r (mem_r (mem_r (mem_r (mem_r (mem_r (mem_l (e)))))))))
              have hv9x0 := hv9x0.mut hC54 (fun g hg => hO.inM g ((fun _ h => h) g hg)) (fun g hg e => hO.apart g ((fun _ h => h) g hg) (mem_r (mem_r (mem_r (mem_r (mem_r (mem_l (e))))))))
              have hb13 := hb13.chg hC54 (fun hg => hO.apart _ ((fun _ h => h) _ hg) (mem_r (mem_r (mem_r (mem_r (mem_l (List.mem_singleton.2 rfl)))))))
              have hvi44x0 := hvi44x0.mut hC54 (fun g hg => hO.inM g ((fun _ h => h) g hg)) (fun g hg e => hO.apart g ((fun _ h => h) g hg) (mem_l (e)))
              have hb18 := hb18.chg hC54 (fun hg => hO.apart _ ((fun _ h => h) _ hg) (mem_r (mem_r (mem_r (mem_l (List.mem_singleton.2 rfl))))))
              have hb23 := hb23.chg hC54 (fun hg => hO.apart _ ((fun _ h => h) _ hg) (mem_r (mem_r (mem_l (List.mem_singleton.2 rfl)))))
              have hv38x0 := hv38x0.mut hC54 (fun g hg => hO.inM g ((fun _ h => h) g hg)) (fun g hg e => hO.apart g ((fun _ h => h) g hg) (mem_r (mem_l (e))))
              have hC := hC.step hC54 (fun g hg => hO.inN g ((fun _ h => h) g hg))
              have hO := Own.join hO hC54 hOc54
              have hO := hO.perm (R := fi54x0 ++ (fi44x0 ++ (f38x0 ++ (([g22]) ++ (([g17]) ++ (([g12]) ++ (f9x0 ++ (f6x0 ++ (([g2]) ++ ([])))))))))) (by simp)
              refine pl_val (.int .i64 r55.1) (y_assign rfl) ?_
              refine c_nil ?_
              refine c_seq ?_
              refine c_region ?_
              refine pl_val (.int .i64 1) (y_assign rfl) ?_
              refine c_nil ?_
              refine c_seq ?_
              refine c_region ?_
              refine pl_val (.agg #[(.int .i64 r20.1.1), (.int .i64 r20.1.2.1), (.slice a19x0 n19x0 c19x0)]) (y_load rfl ((box_load Ag49 Sz49 hb23 [] [(.int .i64 r20.1.1), (.int .i64 r20.1.2.1), (.slice a19x0 n19x0 c19x0)] [] rfl rfl (fun h => nomatch h)) _ (Chg.refl _ _))) ?_
              refine pl_val (.int .i64 1) (y_move rfl) ?_
              obtain ⟨r57, hr57, hs⟩ := bind_some hs
              refine pl_call Bd70 rfl (c_laws_heldNetwork (M := (Less M fi54x0)) (r20.1.1, r20.1.2.1, r55.2) 1 (((Frz.os (Frz.pr (Frz.os Frz.int) (Frz.pr Frz.int (Frz.os (Frz.os Frz.int)))))).val hvi54x0 Less.sub Less.not) hO.less.fut hr57) ?_
              rintro _ w56 ⟨rfl, hC56⟩
              have h0 := h0.ext hC56
              have hb2 := hb2.chg hC56 (fun h => nomatch h)
              have hv6x0 := hv6x0.ext hC56
              have hv9x0 := hv9x0.ext hC56
              have hb13 := hb13.chg hC56 (fun h => nomatch h)
              have hvi44x0 := hvi44x0.ext hC56
              have hb18 := hb18.chg hC56 (fun h => nomatch h)
              have hvi54x0 := hvi54x0.ext hC56
              have hb23 := hb23.chg hC56 (fun h => nomatch h)
              have hv38x0 := hv38x0.ext hC56
              have hC := hC.ext hC56
              have hO := hO.ext hC56
              refine pl_val (.int .i64 r57) (y_assign rfl) ?_
              refine c_nil ?_
              refine c_seq ?_
              refine c_seq ?_
              refine c_region ?_
              refine pl_val (.int .i64 r57) (y_move rfl) ?_
              refine pl_val (.bool (decide (r57 < 0))) (y_lss rfl rfl) ?_
              refine c_nil ?_
              rcases bif_some hs with ⟨hc58, hs⟩ | ⟨hc58, hs⟩
              · skip
                refine c_condT (congrArg Value.bool hc58) ?_
                refine c_seq ?_
                refine c_region ?_
                refine pl_val (.bool false) (y_assign rfl) ?_
                refine c_nil ?_
                refine wp_ret ?_
                cases hs
                exact ⟨_, fr_ovl 106 ⟨rfl, trivial⟩, hC⟩
              · skip
                refine c_condF (congrArg Value.bool hc58) ?_
                refine wp_skip ?_
                refine c_seq ?_
                refine c_seq ?_
                refine c_region ?_
                refine pl_val (.int .i64 r57) (y_move rfl) ?_
                refine pl_val (.int .i64 r55.1) (y_move rfl) ?_
                refine pl_val (.bool (r57 != r55.1)) (y_neq rfl rfl) ?_
                refine c_nil ?_
                rcases bif_some hs with ⟨hc59, hs⟩ | ⟨hc59, hs⟩
                · skip
                  refine c_condT (congrArg Value.bool hc59) ?_
                  refine c_seq ?_
                  refine c_region ?_
                  refine pl_val (.bool false) (y_assign rfl) ?_
                  refine c_nil ?_
                  refine wp_ret ?_
                  cases hs
                  exact ⟨_, fr_ovl 106 ⟨rfl, trivial⟩, hC⟩
                · skip
                  refine c_condF (congrArg Value.bool hc59) ?_
                  refine wp_skip ?_
                  refine c_seq ?_
                  refine c_region ?_
                  refine pl_val (.agg #[(.int .i64 aNet.1), (.int .i64 aNet.2.1), (.slice pa0 pn0 pc0)]) (y_load rfl ((box_load Ag44 Sz44 hb2 [] [(.int .i64 aNet.1), (.int .i64 aNet.2.1), (.slice pa0 pn0 pc0)] [] rfl rfl (fun h => nomatch h)) _ (Chg.refl _ _))) ?_
                  obtain ⟨r61, hr61, hs⟩ := bind_some hs
                  refine pl_call Bd32 rfl (c_laws_toNetwork (M := M) (aNet.1, aNet.2.1, aNet.2.2) h0 hO.fut hr61) ?_
                  rintro _ w60 ⟨a60x0, n60x0, c60x0, f60x0, rfl, hC60, hv60x0, hOc60⟩
                  have h0 := h0.ext hC60
                  have hb2 := hb2.chg hC60 (fun h => nomatch h)
                  have hv6x0 := hv6x0.ext hC60
                  have hv9x0 := hv9x0.ext hC60
                  have hb13 := hb13.chg hC60 (fun h => nomatch h)
                  have hvi44x0 := hvi44x0.ext hC60
                  have hb18 := hb18.chg hC60 (fun h => nomatch h)
                  have hvi54x0 := hvi54x0.ext hC60
                  have hb23 := hb23.chg hC60 (fun h => nomatch h)
                  have hv38x0 := hv38x0.ext hC60
                  have hC := hC.ext hC60
                  have hO := Own.join0 hO hC60 hOc60
                  have hO := hO.perm (R := f60x0 ++ (fi54x0 ++ (fi44x0 ++ (f38x0 ++ (([g22]) ++ (([g17]) ++ (([g12]) ++ (f9x0 ++ (f6x0 ++ (([g2]) ++ ([]))))))))))) (by simp)
                  refine pl_val (.int .i64 aV) (y_move rfl) ?_
                  refine pl_val (.int .i64 aValue) (y_move rfl) ?_
                  obtain ⟨r64, hr64, hs⟩ := bind_some hs
                  refine pl_call Bd72 rfl (c_impl_FixVariable (M := (Less M f60x0)) (r61.1, r61.2.1, r61.2.2) aV aValue (((Frz.os (Frz.pr (Frz.os Frz.int) (Frz.pr Frz.int (Frz.os (Frz.os Frz.int)))))).val hv60x0 Less.sub Less.not) hO.less.fut hr64) ?_
                  rintro _ w63 ⟨a63x0, n63x0, c63x0, f63x0, rfl, hC63, hv63x0, hOc63⟩
                  have h0 := h0.ext hC63
                  have hb2 := hb2.chg hC63 (fun h => nomatch h)
                  have hv6x0 := hv6x0.ext hC63
                  have hv9x0 := hv9x0.ext hC63
                  have hb13 := hb13.chg hC63 (fun h => nomatch h)
                  have hvi44x0 := hvi44x0.ext hC63
                  have hb18 := hb18.chg hC63 (fun h => nomatch h)
                  have hvi54x0 := hvi54x0.ext hC63
                  have hb23 := hb23.chg hC63 (fun h => nomatch h)
                  have hv38x0 := hv38x0.ext hC63
                  have hv60x0 := hv60x0.ext hC63
                  have hC := hC.ext hC63
                  have hO := Own.join0 hO hC63 hOc63
                  have hO := hO.perm (R := f63x0 ++ (f60x0 ++ (fi54x0 ++ (fi44x0 ++ (f38x0 ++ (([g22]) ++ (([g17]) ++ (([g12]) ++ (f9x0 ++ (f6x0 ++ (([g2]) ++ ([])))))))))))) (by simp)
                  have hv63x0 := hv63x0.free (M' := M) (Free.os (Free.pr (Free.os Free.int) (Free.pr Free.int (Free.os (Free.os Free.int)))))
                  refine pl_val (.tuple #[(.agg #[(.int .i64 r64.1.1), (.int .i64 r64.1.2.1), (.slice a63x0 n63x0 c63x0)]), (.bool r64.2)]) (y_move rfl) ?_
                  refine pl_val (.agg #[(.int .i64 r64.1.1), (.int .i64 r64.1.2.1), (.slice a63x0 n63x0 c63x0)]) (y_extract rfl (by kernel_rfl)) ?_
                  refine pl_val (.bool r64.2) (y_extract rfl (by kernel_rfl)) ?_
                  obtain ⟨w66, g66, ew66, eg66, hC66, hb66⟩ := new_block w63 [(.int .i64 0), (.int .i64 0), (.slice none 0 0)] 49
                  refine pl_val (w' := w66) (.pointer (some ⟨g66, 0, none⟩)) (y_alloc (by rw [ew66, eg66]; kernel_rfl)) ?_
                  have h0 := h0.ext hC66
                  have hb2 := hb2.chg hC66 (fun h => nomatch h)
                  have hv6x0 := hv6x0.ext hC66
                  have hv9x0 := hv9x0.ext hC66
                  have hb13 := hb13.chg hC66 (fun h => nomatch h)
                  have hvi44x0 := hvi44x0.ext hC66
                  have hb18 := hb18.chg hC66 (fun h => nomatch h)
                  have hvi54x0 := hvi54x0.ext hC66
                  have hb23 := hb23.chg hC66 (fun h => nomatch h)
                  have hv38x0 := hv38x0.ext hC66
                  have hv60x0 := hv60x0.ext hC66
                  have hv63x0 := hv63x0.ext hC66
                  have hC := hC.ext hC66
                  have hO := hO.new (X' := [g66]) hC66 (fun q hq => by rw [List.mem_singleton.1 hq, eg66]; exact Nat.le_refl _) (List.nodup_cons.2 ⟨(fun h => nomatch h), List.nodup_nil⟩) (fun q hq => by rw [List.mem_singleton.1 hq]; exact hb66.lt)
                  obtain ⟨w67, hst67, hC67, hb67⟩ := box_store (P := Try.prog) hb66 [] [(.int .i64 0), (.int .i64 0), (.slice none 0 0)] [] [(.int .i64 r64.1.1), (.int .i64 r64.1.2.1), (.slice a63x0 n63x0 c63x0)] rfl rfl (by intro u hu; simp only [List.mem_cons, List.not_mem_nil, or_false] at hu; rcases hu with rfl | rfl | rfl <;> rfl)
                  refine pl_skip (w' := w67) (ys_store rfl rfl (hst67 _ _ rfl Sz49)) ?_
                  have h0 := h0.mut hC67 (fun g hg => hO.inM g ((fun _ h => h) g hg)) (fun _ _ h => nomatch h)
                  have hb2 := hb2.chg hC67 (fun hg => hO.apart _ ((fun _ h => h) _ hg) (mem_r (mem_r (mem_r (mem_r (mem_r (mem_r (mem_r (mem_r (mem_r (mem_r (mem_l (List.mem_singleton.2 rfl)))))))))))))
                  have hv6x0 := hv6x0.mut hC67 (fun g hg => hO.inM g ((fun _ h => h) g hg)) (fun g hg e => hO.apart g ((fun _ h => h) g hg) (mem_r (mem_r (mem_r (mem_r (mem_r (mem_r (mem_r (mem_r (mem_r (mem_l (e))))))))))))
                  have hv9x0 := hv9x0.mut hC67 (fun g hg => hO.inM g ((fun _ h => h) g hg)) (fun g hg e => hO.apart g ((fun _ h => h) g hg) (mem_r (mem_r (mem_r (mem_r (mem_r (mem_r (mem_r (mem_r (mem_l (e)))))))))))
                  have hb13 := hb13.chg hC67 (fun hg => hO.apart _ ((fun _ h => h) _ hg) (mem_r (mem_r (mem_r (mem_r (mem_r (mem_r (mem_r (mem_l (List.mem_singleton.2 rfl))))))))))
                  have hvi44x0 := hvi44x0.mut hC67 (fun g hg => hO.inM g ((fun _ h => h) g hg)) (fun g hg e => hO.apart g ((fun _ h => h) g hg) (mem_r (mem_r (mem_r (mem_l (e))))))
                  have hb18 := hb18.chg hC67 (fun hg => hO.apart _ ((fun _ h => h) _ hg) (mem_r (mem_r (mem_r (mem_r (mem_r (mem_r (mem_l (List.mem_singleton.2 rfl)))))))))
                  have hvi54x0 := hvi54x0.mut hC67 (fun g hg => hO.inM g ((fun _ h => h) g hg)) (fun g hg e => hO.apart g ((fun _ h => h) g hg) (mem_r (mem_r (mem_l (e)))))
                  have hb23 := hb23.chg hC67 (fun hg => hO.apart _ ((fun _ h => h) _ hg) (mem_r (mem_r (mem_r (mem_r (mem_r (mem_l (List.mem_singleton.2 rfl))))))))
                  have hv38x0 := hv38x0.mut hC67 (fun g hg => hO.inM g ((fun _ h => h) g hg)) (fun g hg e => hO.apart g ((fun _ h => h) g hg) (mem_r (mem_r (mem_r (mem_r (mem_l (e)))))))
                  have hv60x0 := hv60x0.mut hC67 (fun g hg => hO.inM g ((fun _ h => h) g hg)) (fun g hg e => hO.apart g ((fun _ h => h) g hg) (mem_r (mem_l (e))))
                  have hv63x0 := hv63x0.mut hC67 (fun g hg => hO.inM g ((fun _ h => h) g hg)) (fun g hg e => hO.apart g ((fun _ h => h) g hg) (mem_l (e)))
                  have hC := hC.step hC67 (fun g hg => hO.inN g ((fun _ h => h) g hg))
                  have hO := hO.ext hC67
                  have hb67 : BoxV w67 g66 49 [(.int .i64 r64.1.1), (.int .i64 r64.1.2.1), (.slice a63x0 n63x0 c63x0)] := hb67
                  refine pl_val (.bool r64.2) (y_assign rfl) ?_
                  refine c_nil ?_
                  refine c_seq ?_
                  refine c_seq ?_
                  obtain ⟨s68, hm70, hs⟩ := bind_some hs
                  refine c_mid (I := fun a w69 => ∃ (σ : Nat → Value), a = fr 106 (ovl σ [(6, (.bool false)), (11, (.pointer (some ⟨g22, 0, none⟩))), (14, (.int .i64 r55.1)), (15, (.int .i64 r57)), (97, (.bool s68))]) ∧ Chg [] w67 w69) ?_ ?_
                  · replace hs := hm70
                    have hMid := Chg.refl [] w67
                    refine c_region ?_
                    refine pl_val (.agg #[(.int .i64 r64.1.1), (.int .i64 r64.1.2.1), (.slice a63x0 n63x0 c63x0)]) (y_load rfl ((box_load Ag49 Sz49 hb67 [] [(.int .i64 r64.1.1), (.int .i64 r64.1.2.1), (.slice a63x0 n63x0 c63x0)] [] rfl rfl (fun h => nomatch h)) _ (Chg.refl _ _))) ?_
                    refine pl_val (.agg #[(.int .i64 r10.1.1), (.int .i64 r10.1.2.1), (.slice a9x0 n9x0 c9x0)]) (y_load rfl ((box_load Ag49 Sz49 hb13 [] [(.int .i64 r10.1.1), (.int .i64 r10.1.2.1), (.slice a9x0 n9x0 c9x0)] [] rfl rfl (fun h => nomatch h)) _ (Chg.refl _ _))) ?_
                    have hO := hO.fr9
                    have hO := hO.fr2
                    obtain ⟨r72, hr72, hs⟩ := bind_some hs
                    refine pl_call Bd34 rfl (c_laws_eqNetwork (M := (Less (Less M f63x0) f9x0)) (r64.1.1, r64.1.2.1, r64.1.2.2) (r10.1.1, r10.1.2.1, r10.1.2.2) ((((Frz.os (Frz.pr (Frz.os Frz.int) (Frz.pr Frz.int (Frz.os (Frz.os Frz.int)))))).val hv63x0 Less.sub Less.not).sub Less.sub) (((Frz.os (Frz.pr (Frz.os Frz.int) (Frz.pr Frz.int (Frz.os (Frz.os Frz.int)))))).val (hv9x0.sub Less.sub) Less.sub Less.not) (hO.less).less.fut hr72) ?_
                    rintro _ w71 ⟨rfl, hC71⟩
                    have hb2 := hb2.chg hC71 (fun h => nomatch h)
                    have hv6x0 := hv6x0.ext hC71
                    have hv9x0 := hv9x0.ext hC71
                    have hb13 := hb13.chg hC71 (fun h => nomatch h)
                    have hvi44x0 := hvi44x0.ext hC71
                    have hb18 := hb18.chg hC71 (fun h => nomatch h)
                    have hvi54x0 := hvi54x0.ext hC71
                    have hb23 := hb23.chg hC71 (fun h => nomatch h)
                    have hv38x0 := hv38x0.ext hC71
                    have hv60x0 := hv60x0.ext hC71
                    have hv63x0 := hv63x0.ext hC71
                    have hb67 := hb67.chg hC71 (fun h => nomatch h)
                    have hMid := hMid.ext hC71
                    have hC := hC.ext hC71
                    have hO := hO.ext hC71
                    refine pl_val (.bool (!r72)) (y_not rfl) ?_
                    refine pl_val (.bool (!r72)) (y_move rfl) ?_
                    rcases bif_some hs with ⟨hc73, hs⟩ | ⟨hc73, hs⟩
                    · skip
                      refine pl_not (tg := 93) (by kernel_rfl) (congrArg Value.bool hc73) ?_
                      refine pl_not (tg := 93) (by kernel_rfl) (congrArg Value.bool hc73) ?_
                      refine pl_not (tg := 93) (by kernel_rfl) (congrArg Value.bool hc73) ?_
                      refine pl_val (.bool true) (y_pick_t (congrArg Value.bool hc73) rfl) ?_
                      refine c_nil ?_
                      cases hs
                      exact ⟨_, fr_ovl 106 ⟨rfl, rfl, rfl, rfl, rfl, trivial⟩, hMid⟩
                    · skip
                      refine pl_yes (.bool r64.2) (tg := 93) (by kernel_rfl) (congrArg Value.bool hc73) (y_move rfl) ?_
                      refine pl_yes (.bool r10.2) (tg := 93) (by kernel_rfl) (congrArg Value.bool hc73) (y_move rfl) ?_
                      refine pl_yes (.bool (!(r64.2 == r10.2))) (tg := 93) (by kernel_rfl) (congrArg Value.bool hc73) (y_bneq Try.underlying4 rfl rfl) ?_
                      refine pl_val (.bool (!(r64.2 == r10.2))) (y_pick_f (congrArg Value.bool hc73) rfl) ?_
                      refine c_nil ?_
                      cases hs
                      exact ⟨_, fr_ovl 106 ⟨rfl, rfl, rfl, rfl, rfl, trivial⟩, hMid⟩
                  · rintro a1 w69 ⟨σ, rfl, hCs68⟩
                    have hb2 := hb2.chg hCs68 (fun h => nomatch h)
                    have hv6x0 := hv6x0.ext hCs68
                    have hv9x0 := hv9x0.ext hCs68
                    have hb13 := hb13.chg hCs68 (fun h => nomatch h)
                    have hvi44x0 := hvi44x0.ext hCs68
                    have hb18 := hb18.chg hCs68 (fun h => nomatch h)
                    have hvi54x0 := hvi54x0.ext hCs68
                    have hb23 := hb23.chg hCs68 (fun h => nomatch h)
                    have hv38x0 := hv38x0.ext hCs68
                    have hv60x0 := hv60x0.ext hCs68
                    have hv63x0 := hv63x0.ext hCs68
                    have hb67 := hb67.chg hCs68 (fun h => nomatch h)
                    have hC := hC.ext hCs68
                    have hO := hO.ext hCs68
                    rcases bif_some hs with ⟨hc74, hs⟩ | ⟨hc74, hs⟩
                    · skip
                      refine c_condT (congrArg Value.bool hc74) ?_
                      refine c_seq ?_
                      refine c_region ?_
                      refine pl_val (.bool false) (y_assign rfl) ?_
                      refine c_nil ?_
                      refine wp_ret ?_
                      cases hs
                      exact ⟨_, fr_ovl 106 ⟨rfl, trivial⟩, hC⟩
                    · skip
                      refine c_condF (congrArg Value.bool hc74) ?_
                      refine wp_skip ?_
                      refine c_seq ?_
                      refine c_region ?_
                      refine pl_val (.int .i64 1) (y_assign rfl) ?_
                      refine c_nil ?_
                      refine c_seq ?_
                      refine c_region ?_
                      refine pl_val (.agg #[(.int .i64 r20.1.1), (.int .i64 r20.1.2.1), (.slice a19x0 n19x0 c19x0)]) (y_load rfl ((box_load Ag49 Sz49 hb23 [] [(.int .i64 r20.1.1), (.int .i64 r20.1.2.1), (.slice a19x0 n19x0 c19x0)] [] rfl rfl (fun h => nomatch h)) _ (Chg.refl _ _))) ?_
                      refine pl_val (.int .i64 1) (y_move rfl) ?_
                      have hO := hO.fr3
                      obtain ⟨r76, hr76, hs⟩ := bind_some hs
                      refine pl_call Bd70 rfl (c_laws_heldNetwork (M := (Less M fi54x0)) (r20.1.1, r20.1.2.1, r55.2) 1 (((Frz.os (Frz.pr (Frz.os Frz.int) (Frz.pr Frz.int (Frz.os (Frz.os Frz.int)))))).val hvi54x0 Less.sub Less.not) hO.less.fut hr76) ?_
                      rintro _ w75 ⟨rfl, hC75⟩
                      have hb2 := hb2.chg hC75 (fun h => nomatch h)
                      have hv6x0 := hv6x0.ext hC75
                      have hv9x0 := hv9x0.ext hC75
                      have hb13 := hb13.chg hC75 (fun h => nomatch h)
                      have hvi44x0 := hvi44x0.ext hC75
                      have hb18 := hb18.chg hC75 (fun h => nomatch h)
                      have hvi54x0 := hvi54x0.ext hC75
                      have hb23 := hb23.chg hC75 (fun h => nomatch h)
                      have hv38x0 := hv38x0.ext hC75
                      have hv60x0 := hv60x0.ext hC75
                      have hv63x0 := hv63x0.ext hC75
                      have hb67 := hb67.chg hC75 (fun h => nomatch h)
                      have hC := hC.ext hC75
                      have hO := hO.ext hC75
                      refine pl_val (.int .i64 r76) (y_assign rfl) ?_
                      refine c_nil ?_
                      refine c_seq ?_
                      refine c_seq ?_
                      refine c_region ?_
                      refine pl_val (.int .i64 r76) (y_move rfl) ?_
                      refine pl_val (.bool (decide (r76 < 0))) (y_lss rfl rfl) ?_
                      refine c_nil ?_
                      rcases bif_some hs with ⟨hc77, hs⟩ | ⟨hc77, hs⟩
                      · skip
                        refine c_condT (congrArg Value.bool hc77) ?_
                        refine c_seq ?_
                        refine c_region ?_
                        refine pl_val (.bool false) (y_assign rfl) ?_
                        refine c_nil ?_
                        refine wp_ret ?_
                        cases hs
                        exact ⟨_, fr_ovl 106 ⟨rfl, trivial⟩, hC⟩
                      · skip
                        refine c_condF (congrArg Value.bool hc77) ?_
                        refine wp_skip ?_
                        refine c_seq ?_
                        refine c_seq ?_
                        refine c_region ?_
                        refine pl_val (.int .i64 r76) (y_move rfl) ?_
                        refine pl_val (.int .i64 r55.1) (y_move rfl) ?_
                        refine pl_val (.bool (r76 != r55.1)) (y_neq rfl rfl) ?_
                        refine c_nil ?_
                        rcases bif_some hs with ⟨hc78, hs⟩ | ⟨hc78, hs⟩
                        · skip
                          refine c_condT (congrArg Value.bool hc78) ?_
                          refine c_seq ?_
                          refine c_region ?_
                          refine pl_val (.bool false) (y_assign rfl) ?_
                          refine c_nil ?_
                          refine wp_ret ?_
                          cases hs
                          exact ⟨_, fr_ovl 106 ⟨rfl, trivial⟩, hC⟩
                        · skip
                          refine c_condF (congrArg Value.bool hc78) ?_
                          refine wp_skip ?_
                          refine c_seq ?_
                          refine c_region ?_
                          refine pl_val (.bool true) (y_assign rfl) ?_
                          refine c_nil ?_
                          refine wp_ret ?_
                          cases hs
                          exact ⟨_, fr_ovl 106 ⟨rfl, trivial⟩, hC⟩

end Go.Proofs
