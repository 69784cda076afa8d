/- What functions of the program compute, as plain functions, and that a call gives just that. Conditions: those named in each theorem. -/
import Derived.Test.YtceenhnjdnggjaaF2
set_option linter.unusedVariables false
namespace Go.Proofs
open Go.G Go.RowKit
set_option maxRecDepth 100000

def k_impl_IsNetwork (M : Nat → Prop) (w0 : World) (r : Bool) (a : Act) (w : World) : Prop :=
  ∃ (σ : Nat → Value) , a = fr 40 (ovl σ [(2, (.bool r))]) ∧ Chg [] w0 w
def s_impl_IsNetwork (net : Int × Int × (List ((List Int) × (Int × (List (List Int)))))) : Option (Bool) :=
  ((bif (decide (net.1 < 0)) then some true else (bif (decide (9 < net.1)) then some true else (s_impl_isTemplateSize net.2.1).bind fun r9 =>
  (bif (!r9) then some true else some (decide (40 < (net.2.2.length : Int))))))).bind fun s3 =>
  (bif s3 then some false else (forR (S := Unit) (R := Bool) (fun _ x24 s21 =>
  (s_impl_isConstraint net.1 net.2.1 (x24.1, (x24.2.1, x24.2.2))).bind fun r34 =>
  (bif (!r34) then some (.rt false) else some (.nx ()))) 0 net.2.2 ()).bind fun o25 => after o25 (fun r_ => some r_) (fun s21 =>
  some true))
set_option maxHeartbeats 4000000 in
theorem c_impl_IsNetwork {M : Nat → Prop} {w : World} {pa0 : Option Addr} {pn0 pc0 : Nat} (net : Int × Int × (List ((List Int) × (Int × (List (List Int)))))) (h0 : (RT.rs (RT.pr (RT.rs (RT.int .i64)) (RT.pr (RT.int .i64) (RT.rs (RT.rs (RT.int .i64)))))).val M w (.slice pa0 pn0 pc0) net.2.2 ([])) (hM : ∀ g, w.heap.size ≤ g → M g) {r : Bool} (hs : s_impl_IsNetwork net = some r) :
    Gives Try.prog 33 [(.agg #[(.int .i64 net.1), (.int .i64 net.2.1), (.slice pa0 pn0 pc0)])] w (fun v w' => v = (.bool r) ∧ Chg [] w w') := by
  refine calls_fr Try.func33 rfl Try.ntmps33 (Nat.le_of_ble_eq_true rfl) ?_
  have hO := Own.start (N := Nw w []) hM Nw.fut
  have hC := Chg.refl [] w
  unfold s_impl_IsNetwork at hs
  refine wp_mono (Q := KPost (k_impl_IsNetwork M w r)) ?_ (fun e a w1 h => ?_)
  rotate_left
  · cases e
    case ret =>
      obtain ⟨σ, rfl, hrest⟩ := h
      exact ret1x Try.results33 (res_tmp rfl) ⟨rfl, hrest⟩
    all_goals exact (h : False).elim
  refine c_seq ?_
  refine c_region ?_
  obtain ⟨w2, g2, ew2, eg2, hC2, hb2⟩ := new_block w [(.int .i64 net.1), (.int .i64 net.2.1), (.slice pa0 pn0 pc0)] 49
  refine pl_val (w' := w2) (.pointer (some ⟨g2, 0, none⟩)) (y_box rfl (by rw [ew2, eg2]; kernel_rfl)) ?_
  have h0 := h0.ext hC2
  have hC := hC.ext hC2
  have hO := hO.new (X' := [g2]) hC2 (fun q hq => by rw [List.mem_singleton.1 hq, eg2]; exact Nat.le_refl _) (List.nodup_cons.2 ⟨(fun h => nomatch h), List.nodup_nil⟩) (fun q hq => by rw [List.mem_singleton.1 hq]; exact hb2.lt)
  refine pl_val (.bool false) (y_assign rfl) ?_
  refine c_nil ?_
  refine c_seq ?_
  refine c_seq ?_
  obtain ⟨s3, hm5, hs⟩ := bind_some hs
  refine c_mid (I := fun a w4 => ∃ (σ : Nat → Value), a = fr 40 (ovl σ [(1, (.pointer (some ⟨g2, 0, none⟩))), (2, (.bool false)), (24, (.bool s3))]) ∧ Chg [] w2 w4) ?_ ?_
  · replace hs := hm5
    have hMid := Chg.refl [] w2
    refine c_region ?_
    refine pl_val (.pointer (some ⟨g2, 0, none⟩)) (y_faddr rfl Fa49x0) ?_
    refine pl_val (.int .i64 net.1) (y_load rfl ((box_load Ag3 Sz3 hb2 [] [(.int .i64 net.1)] [(.int .i64 net.2.1), (.slice pa0 pn0 pc0)] rfl rfl (fun _ => rfl)) _ (Chg.refl _ _))) ?_
    refine pl_val (.bool (decide (net.1 < 0))) (y_lss rfl rfl) ?_
    refine pl_val (.bool (decide (net.1 < 0))) (y_move rfl) ?_
    rcases bif_some hs with ⟨hc6, hs⟩ | ⟨hc6, hs⟩
    · skip
      refine pl_not (tg := 8) (by kernel_rfl) (congrArg Value.bool hc6) ?_
      refine pl_not (tg := 8) (by kernel_rfl) (congrArg Value.bool hc6) ?_
      refine pl_not (tg := 8) (by kernel_rfl) (congrArg Value.bool hc6) ?_
      refine pl_val (.bool true) (y_pick_t (congrArg Value.bool hc6) rfl) ?_
      refine pl_val (.bool true) (y_move rfl) ?_
      refine pl_not (tg := 13) (by kernel_rfl) (by rfl) ?_
      refine pl_not (tg := 13) (by kernel_rfl) (by rfl) ?_
      refine pl_not (tg := 13) (by kernel_rfl) (by rfl) ?_
      refine pl_not (tg := 13) (by kernel_rfl) (by rfl) ?_
      refine pl_val (.bool true) (y_pick_t (by rfl) rfl) ?_
      refine pl_val (.bool true) (y_move rfl) ?_
      refine pl_not (tg := 19) (by kernel_rfl) (by rfl) ?_
      refine pl_not (tg := 19) (by kernel_rfl) (by rfl) ?_
      refine pl_not (tg := 19) (by kernel_rfl) (by rfl) ?_
      refine pl_not (tg := 19) (by kernel_rfl) (by rfl) ?_
      refine pl_val (.bool true) (y_pick_t (by rfl) rfl) ?_
      refine c_nil ?_
      cases hs
      exact ⟨_, fr_ovl 40 ⟨rfl, rfl, rfl, trivial⟩, hMid⟩
    · skip
      refine pl_yes (.pointer (some ⟨g2, 0, none⟩)) (tg := 8) (by kernel_rfl) (congrArg Value.bool hc6) (y_faddr rfl Fa49x0) ?_
      refine pl_yes (.int .i64 net.1) (tg := 8) (by kernel_rfl) (congrArg Value.bool hc6) (y_load rfl ((box_load Ag3 Sz3 hb2 [] [(.int .i64 net.1)] [(.int .i64 net.2.1), (.slice pa0 pn0 pc0)] rfl rfl (fun _ => rfl)) _ (Chg.refl _ _))) ?_
      refine pl_yes (.bool (decide (9 < net.1))) (tg := 8) (by kernel_rfl) (congrArg Value.bool hc6) (y_gtr rfl rfl) ?_
      refine pl_val (.bool (decide (9 < net.1))) (y_pick_f (congrArg Value.bool hc6) rfl) ?_
      refine pl_val (.bool (decide (9 < net.1))) (y_move rfl) ?_
      rcases bif_some hs with ⟨hc7, hs⟩ | ⟨hc7, hs⟩
      · skip
        refine pl_not (tg := 13) (by kernel_rfl) (congrArg Value.bool hc7) ?_
        refine pl_not (tg := 13) (by kernel_rfl) (congrArg Value.bool hc7) ?_
        refine pl_not (tg := 13) (by kernel_rfl) (congrArg Value.bool hc7) ?_
        refine pl_not (tg := 13) (by kernel_rfl) (congrArg Value.bool hc7) ?_
        refine pl_val (.bool true) (y_pick_t (congrArg Value.bool hc7) rfl) ?_
        refine pl_val (.bool true) (y_move rfl) ?_
        refine pl_not (tg := 19) (by kernel_rfl) (by rfl) ?_
        refine pl_not (tg := 19) (by kernel_rfl) (by rfl) ?_
        refine pl_not (tg := 19) (by kernel_rfl) (by rfl) ?_
        refine pl_not (tg := 19) (by kernel_rfl) (by rfl) ?_
        refine pl_val (.bool true) (y_pick_t (by rfl) rfl) ?_
        refine c_nil ?_
        cases hs
        exact ⟨_, fr_ovl 40 ⟨rfl, rfl, rfl, trivial⟩, hMid⟩
      · skip
        refine pl_yes (.pointer (some ⟨g2, 1, none⟩)) (tg := 13) (by kernel_rfl) (congrArg Value.bool hc7) (y_faddr rfl Fa49x1) ?_
        refine pl_yes (.int .i64 net.2.1) (tg := 13) (by kernel_rfl) (congrArg Value.bool hc7) (y_load rfl ((box_load Ag3 Sz3 hb2 [(.int .i64 net.1)] [(.int .i64 net.2.1)] [(.slice pa0 pn0 pc0)] rfl rfl (fun _ => rfl)) _ (Chg.refl _ _))) ?_
        obtain ⟨r9, hr9, hs⟩ := bind_some hs
        refine pl_cally (tg := 13) (by kernel_rfl) (congrArg Value.bool hc7) Bd90 rfl (c_impl_isTemplateSize (M := M) net.2.1  hO.fut hr9) ?_
        rintro _ w8 ⟨rfl, hC8⟩
        have h0 := h0.ext hC8
        have hb2 := hb2.chg hC8 (fun h => nomatch h)
        have hMid := hMid.ext hC8
        have hC := hC.ext hC8
        have hO := hO.ext hC8
        refine pl_yes (.bool (!r9)) (tg := 13) (by kernel_rfl) (congrArg Value.bool hc7) (y_not rfl) ?_
        refine pl_val (.bool (!r9)) (y_pick_f (congrArg Value.bool hc7) rfl) ?_
        refine pl_val (.bool (!r9)) (y_move rfl) ?_
        rcases bif_some hs with ⟨hc10, hs⟩ | ⟨hc10, hs⟩
        · skip
          refine pl_not (tg := 19) (by kernel_rfl) (congrArg Value.bool hc10) ?_
          refine pl_not (tg := 19) (by kernel_rfl) (congrArg Value.bool hc10) ?_
          refine pl_not (tg := 19) (by kernel_rfl) (congrArg Value.bool hc10) ?_
          refine pl_not (tg := 19) (by kernel_rfl) (congrArg Value.bool hc10) ?_
          refine pl_val (.bool true) (y_pick_t (congrArg Value.bool hc10) rfl) ?_
          refine c_nil ?_
          cases hs
          exact ⟨_, fr_ovl 40 ⟨rfl, rfl, rfl, trivial⟩, hMid⟩
        · skip
          refine pl_yes (.pointer (some ⟨g2, 2, none⟩)) (tg := 19) (by kernel_rfl) (congrArg Value.bool hc10) (y_faddr rfl Fa49x2) ?_
          refine pl_yes (.slice pa0 pn0 pc0) (tg := 19) (by kernel_rfl) (congrArg Value.bool hc10) (y_load rfl ((box_load Ag47 Sz47 hb2 [(.int .i64 net.1), (.int .i64 net.2.1)] [(.slice pa0 pn0 pc0)] [] rfl rfl (fun _ => rfl)) _ (Chg.refl _ _))) ?_
          refine pl_yes (.int .i64 (net.2.2.length : Int)) (tg := 19) (by kernel_rfl) (congrArg Value.bool hc10) (y_len' Sl47 (rs_len h0) rfl) ?_
          refine pl_yes (.bool (decide (40 < (net.2.2.length : Int)))) (tg := 19) (by kernel_rfl) (congrArg Value.bool hc10) (y_gtr rfl rfl) ?_
          refine pl_val (.bool (decide (40 < (net.2.2.length : Int)))) (y_pick_f (congrArg Value.bool hc10) rfl) ?_
          refine c_nil ?_
          cases hs
          exact ⟨_, fr_ovl 40 ⟨rfl, rfl, rfl, trivial⟩, hMid⟩
  · rintro a1 w4 ⟨σ, rfl, hCs3⟩
    have h0 := h0.ext hCs3
    have hb2 := hb2.chg hCs3 (fun h => nomatch h)
    have hC := hC.ext hCs3
    have hO := hO.ext hCs3
    rcases bif_some hs with ⟨hc11, hs⟩ | ⟨hc11, hs⟩
    · skip
      refine c_condT (congrArg Value.bool hc11) ?_
      refine c_seq ?_
      refine c_region ?_
      refine pl_val (.bool false) (y_assign rfl) ?_
      refine c_nil ?_
      refine wp_ret ?_
      cases hs
      exact ⟨_, fr_ovl 40 ⟨rfl, trivial⟩, hC⟩
    · skip
      refine c_condF (congrArg Value.bool hc11) ?_
      refine wp_skip ?_
      refine c_seq ?_
      refine c_seq ?_
      refine c_region ?_
      refine pl_val (.pointer (some ⟨g2, 2, none⟩)) (y_faddr rfl Fa49x2) ?_
      refine pl_val (.slice pa0 pn0 pc0) (y_load rfl ((box_load Ag47 Sz47 hb2 [(.int .i64 net.1), (.int .i64 net.2.1)] [(.slice pa0 pn0 pc0)] [] rfl rfl (fun _ => rfl)) _ (Chg.refl _ _))) ?_
      refine pl_val (.int .i64 (net.2.2.length : Int)) (y_len' Sl47 (rs_len h0) rfl) ?_
      refine pl_val (.int .i64 0) (y_move rfl) ?_
      refine c_nil ?_
      obtain ⟨o25, hl26, hs⟩ := bind_some hs
      refine wp_block ?_
      refine wp_forR (id := 0) (I := fun i_ xs_ s21 a w22 => ∃ k23 : Nat, i_ = (k23 : Int) ∧ List.drop k23 net.2.2 = xs_ ∧ (∃ (σ : Nat → Value), a = fr 40 (ovl σ [(1, (.pointer (some ⟨g2, 0, none⟩))), (26, (.slice pa0 pn0 pc0)), (27, (.int .i64 (net.2.2.length : Int))), (28, (.int .i64 (k23 : Int)))]) ∧ Chg [] w w22 ∧ Own (Nw w []) M w22 (([g2]) ++ []) ∧ (RT.rs (RT.pr (RT.rs (RT.int .i64)) (RT.pr (RT.int .i64) (RT.rs (RT.rs (RT.int .i64)))))).val M w22 (.slice pa0 pn0 pc0) net.2.2 ([]) ∧ BoxV w22 g2 49 [(.int .i64 net.1), (.int .i64 net.2.1), (.slice pa0 pn0 pc0)])) (J := fun s21 a w22 => ∃ (σ : Nat → Value), a = fr 40 (ovl σ []) ∧ Chg [] w w22 ∧ Own (Nw w []) M w22 (([g2]) ++ []) ∧ (RT.rs (RT.pr (RT.rs (RT.int .i64)) (RT.pr (RT.int .i64) (RT.rs (RT.rs (RT.int .i64)))))).val M w22 (.slice pa0 pn0 pc0) net.2.2 ([]) ∧ BoxV w22 g2 49 [(.int .i64 net.1), (.int .i64 net.2.1), (.slice pa0 pn0 pc0)]) (K := (k_impl_IsNetwork M w)) ?_ ?_ net.2.2 0 () o25 _ _ ?_ hl26 ?_
      · rintro _ s21 a w22 ⟨k23, rfl, hd, σ, rfl, hC, hO, h0, hb2⟩
        have hlt := drop_nil_ge hd
        refine c_seq ?_
        refine c_region ?_
        refine pl_val (.bool (decide ((k23 : Int) < (net.2.2.length : Int)))) (y_lss rfl rfl) ?_
        refine c_nil ?_
        refine c_seq ?_
        refine c_condF (congrArg Value.bool (decide_eq_false hlt)) ?_
        refine wp_exit ?_
        exact ⟨rfl, _, fr_ovl 40 trivial, hC, hO, h0, hb2⟩
      · rintro _ x24 xs_ s21 o25 a w22 ⟨k23, rfl, hd, σ, rfl, hC, hO, h0, hb2⟩ hs
        have hlt := drop_cons_lt hd
        have hxk23 := drop_cons_idx hd
        refine c_seq ?_
        refine c_region ?_
        refine pl_val (.bool (decide ((k23 : Int) < (net.2.2.length : Int)))) (y_lss rfl rfl) ?_
        refine c_nil ?_
        refine c_seq ?_
        refine c_condT (congrArg Value.bool (decide_eq_true hlt)) ?_
        refine wp_skip ?_
        refine c_seq ?_
        refine wp_block ?_
        refine c_seq ?_
        refine c_region ?_
        obtain ⟨b27, o27, hp27, ha27⟩ := rs_idx Sl47 Sz108 h0 hxk23
        refine pl_val (.pointer (some ⟨b27, o27, none⟩)) (hp27 _ _ _ _ _ _ _ _ _ rfl rfl) ?_
        obtain ⟨v28, hl28, hv28⟩ := at_load Ag108 Sz108 (by intro h; cases h) ha27
        obtain ⟨cs28, rfl, hr28⟩ := hv28
        obtain ⟨cc28x1, cd28x1, rfl, hh28x1, ht28x1⟩ := pr_open hr28
        obtain ⟨a28x1, n28x1, c28x1, rfl, hv28x1⟩ := rs_rel hh28x1
        obtain ⟨cc28x3, cd28x3, rfl, hh28x3, ht28x3⟩ := pr_open ht28x1
        obtain rfl := int_rel hh28x3
        obtain ⟨a28x4, n28x4, c28x4, rfl, hv28x4⟩ := rs_rel ht28x3
        refine pl_val (.agg #[(.slice a28x1 n28x1 c28x1), (.int .i64 x24.2.1), (.slice a28x4 n28x4 c28x4)]) (y_load rfl (hl28 _ (Chg.refl _ _))) ?_
        obtain ⟨w31, g31, ew31, eg31, hC31, hb31⟩ := new_block w22 [(.slice none 0 0), (.int .i64 0), (.slice none 0 0)] 108
        refine pl_val (w' := w31) (.pointer (some ⟨g31, 0, none⟩)) (y_alloc (by rw [ew31, eg31]; kernel_rfl)) ?_
        have h0 := h0.ext hC31
        have hb2 := hb2.chg hC31 (fun h => nomatch h)
        have hv28x1 := hv28x1.ext hC31
        have hv28x4 := hv28x4.ext hC31
        have hC := hC.ext hC31
        have hO := hO.new (X' := [g31]) hC31 (fun q hq => by rw [List.mem_singleton.1 hq, eg31]; exact Nat.le_refl _) (List.nodup_cons.2 ⟨(fun h => nomatch h), List.nodup_nil⟩) (fun q hq => by rw [List.mem_singleton.1 hq]; exact hb31.lt)
        obtain ⟨w32, hst32, hC32, hb32⟩ := box_store (P := Try.prog) hb31 [] [(.slice none 0 0), (.int .i64 0), (.slice none 0 0)] [] [(.slice a28x1 n28x1 c28x1), (.int .i64 x24.2.1), (.slice a28x4 n28x4 c28x4)] rfl rfl (by intro u hu; simp only [List.mem_cons, List.not_mem_nil, or_false] at hu; rcases hu with rfl | rfl | rfl <;> rfl)
        refine pl_skip (w' := w32) (ys_store rfl rfl (hst32 _ _ rfl Sz108)) ?_
        have h0 := h0.mut hC32 (fun g hg => hO.inM g ((fun _ h => h) g hg)) (fun _ _ h => nomatch h)
        have hb2 := hb2.chg hC32 (fun hg => hO.apart _ ((fun _ h => h) _ hg) (mem_l (List.mem_singleton.2 rfl)))
        have hv28x1 := hv28x1.mut hC32 (fun g hg => hO.inM g ((fun _ h => h) g hg)) (fun _ _ h => nomatch h)
        have hv28x4 := hv28x4.mut hC32 (fun g hg => hO.inM g ((fun _ h => h) g hg)) (fun _ _ h => nomatch h)
        have hC := hC.step hC32 (fun g hg => hO.inN g ((fun _ h => h) g hg))
        have hO := hO.ext hC32
        have hb32 : BoxV w32 g31 108 [(.slice a28x1 n28x1 c28x1), (.int .i64 x24.2.1), (.slice a28x4 n28x4 c28x4)] := hb32
        refine c_nil ?_
        refine c_seq ?_
        refine c_region ?_
        refine pl_val (.pointer (some ⟨g2, 0, none⟩)) (y_faddr rfl Fa49x0) ?_
        refine pl_val (.int .i64 net.1) (y_load rfl ((box_load Ag3 Sz3 hb2 [] [(.int .i64 net.1)] [(.int .i64 net.2.1), (.slice pa0 pn0 pc0)] rfl rfl (fun _ => rfl)) _ (Chg.refl _ _))) ?_
        refine pl_val (.pointer (some ⟨g2, 1, none⟩)) (y_faddr rfl Fa49x1) ?_
        refine pl_val (.int .i64 net.2.1) (y_load rfl ((box_load Ag3 Sz3 hb2 [(.int .i64 net.1)] [(.int .i64 net.2.1)] [(.slice pa0 pn0 pc0)] rfl rfl (fun _ => rfl)) _ (Chg.refl _ _))) ?_
        refine pl_val (.agg #[(.slice a28x1 n28x1 c28x1), (.int .i64 x24.2.1), (.slice a28x4 n28x4 c28x4)]) (y_load rfl ((box_load Ag108 Sz108 hb32 [] [(.slice a28x1 n28x1 c28x1), (.int .i64 x24.2.1), (.slice a28x4 n28x4 c28x4)] [] rfl rfl (fun h => nomatch h)) _ (Chg.refl _ _))) ?_
        obtain ⟨r34, hr34, hs⟩ := bind_some hs
        refine pl_call Bd91 rfl (c_impl_isConstraint (M := M) net.1 net.2.1 (x24.1, (x24.2.1, x24.2.2)) hv28x1 hv28x4 hO.fut hr34) ?_
        rintro _ w33 ⟨rfl, hC33⟩
        have h0 := h0.ext hC33
        have hb2 := hb2.chg hC33 (fun h => nomatch h)
        have hv28x1 := hv28x1.ext hC33
        have hv28x4 := hv28x4.ext hC33
        have hb32 := hb32.chg hC33 (fun h => nomatch h)
        have hC := hC.ext hC33
        have hO := hO.ext hC33
        refine pl_val (.bool (!r34)) (y_not rfl) ?_
        refine c_nil ?_
        rcases bif_some hs with ⟨hc35, hs⟩ | ⟨hc35, hs⟩
        · skip
          refine c_condT (congrArg Value.bool hc35) ?_
          refine c_seq ?_
          refine c_region ?_
          refine pl_val (.bool false) (y_assign rfl) ?_
          refine c_nil ?_
          refine wp_ret ?_
          cases hs
          exact ⟨_, fr_ovl 40 ⟨rfl, trivial⟩, hC⟩
        · skip
          refine c_condF (congrArg Value.bool hc35) ?_
          refine wp_skip ?_
          refine c_region ?_
          refine pl_val (.int .i64 (w64 ((k23 : Int) + 1))) (y_add rfl rfl) ?_
          refine pl_val (.int .i64 (w64 ((k23 : Int) + 1))) (y_move rfl) ?_
          refine c_nil ?_
          cases hs
          have hO := hO.drop
          exact ⟨_, rfl, drop_cons_next hd, _, fr_ovl 40 ⟨rfl, rfl, rfl, congrArg (Value.int .i64) (w64_succ hlt (Int.natCast_nonneg _) (rs_max h0)), trivial⟩, hC, hO, h0, hb2⟩
      · skip
        exact ⟨0, rfl, rfl, _, fr_ovl 40 ⟨rfl, rfl, rfl, rfl, trivial⟩, hC, hO, h0, hb2⟩
      · cases o25 with
        | nx _ => exact True.intro
        | rt r_ =>
          have hs := after_rt hs
          intro a1 w1 hK
          cases hs
          exact hK
        | br s21 =>
          have hs := after_br hs
          rintro a1 w22 ⟨σ, rfl, hC, hO, h0, hb2⟩
          refine c_seq ?_
          refine c_region ?_
          refine pl_val (.bool true) (y_assign rfl) ?_
          refine c_nil ?_
          refine wp_ret ?_
          cases hs
          exact ⟨_, fr_ovl 40 ⟨rfl, trivial⟩, hC⟩

def k_impl_clone (M : Nat → Prop) (w0 : World) (r : (List Int)) (a : Act) (w : World) : Prop :=
  ∃ (σ : Nat → Value) (ra0 : Option Addr) (rn0 rc0 : Nat) (rf0 : List Nat), a = fr 6 (ovl σ [(2, (.slice ra0 rn0 rc0))]) ∧ Chg [] w0 w ∧ (RT.os 3 (RT.int .i64)).val M w (.slice ra0 rn0 rc0) r rf0 ∧ Own (Nw w0 []) (fun _ => True) w (rf0 ++ ([]))
def s_impl_clone (list : List Int) : Option ((List Int)) :=
  (app ([]) list).bind fun y5 =>
  some y5
set_option maxHeartbeats 4000000 in
theorem c_impl_clone {M : Nat → Prop} {w : World} {pa0 : Option Addr} {pn0 pc0 : Nat} (list : List Int) (h0 : (RT.rs (RT.int .i64)).val M w (.slice pa0 pn0 pc0) list ([])) (hM : ∀ g, w.heap.size ≤ g → M g) {r : (List Int)} (hs : s_impl_clone list = some r) :
    Gives Try.prog 170 [(.slice pa0 pn0 pc0)] w (fun v w' => ∃ (ra0 : Option Addr) (rn0 rc0 : Nat) (rf0 : List Nat), v = (.slice ra0 rn0 rc0) ∧ Chg [] w w' ∧ (RT.os 3 (RT.int .i64)).val M w' (.slice ra0 rn0 rc0) r rf0 ∧ Own (Nw w []) (fun _ => True) w' (rf0 ++ ([]))) := by
  refine calls_fr Try.func170 rfl Try.ntmps170 (Nat.le_of_ble_eq_true rfl) ?_
  have hO := Own.start (N := Nw w []) hM Nw.fut
  have hC := Chg.refl [] w
  unfold s_impl_clone at hs
  refine wp_mono (Q := KPost (k_impl_clone M w r)) ?_ (fun e a w1 h => ?_)
  rotate_left
  · cases e
    case ret =>
      obtain ⟨σ, ra0, rn0, rc0, rf0, rfl, hrest⟩ := h
      exact ret1x Try.results170 (res_tmp rfl) ⟨ra0, rn0, rc0, rf0, rfl, hrest⟩
    all_goals exact (h : False).elim
  refine c_seq ?_
  refine c_region ?_
  refine pl_val (.slice none 0 0) (y_assign rfl) ?_
  refine c_nil ?_
  refine c_seq ?_
  refine c_region ?_
  obtain ⟨w2, g2, ew2, eg2, hC2, hb2⟩ := new_block w [] 3
  refine pl_val (w' := w2) (.slice (some ⟨g2, 0, none⟩) 0 0) (y_bslice rfl (by rw [ew2, eg2]; kernel_rfl)) ?_
  have h0 := h0.ext hC2
  have hC := hC.ext hC2
  have hO := hO.new (X' := [g2]) hC2 (fun q hq => by rw [List.mem_singleton.1 hq, eg2]; exact Nat.le_refl _) (List.nodup_cons.2 ⟨(fun h => nomatch h), List.nodup_nil⟩) (fun q hq => by rw [List.mem_singleton.1 hq]; exact hb2.lt)
  have hv2 := os_of_box (r := (RT.int .i64)) (M := M) (css := []) (fps := []) (xs := ([] : List Int)) hb2 trivial (Nat.zero_le _) (List.nodup_cons.2 ⟨(fun h => nomatch h), List.nodup_nil⟩)
  have hv2 : (RT.os 3 (RT.int .i64)).val M w2 (.slice (some ⟨g2, 0, none⟩) 0 0) [] [g2] := hv2
  refine pl_val (.slice pa0 pn0 pc0) (y_move rfl) ?_
  obtain ⟨y5, hy5, hs⟩ := bind_some hs
  obtain ⟨a4, n4, c4, w4, f4, hr4, hC4, hf4, hv4⟩ := app_rs Rw22 hy5 hv2 h0 hO.inM
  have hG4 := os_block hv2
  refine pl_val (w' := w4) (.slice a4 n4 c4) (y_append rfl rfl (hr4 _)) ?_
  have h0 := h0.mut hC4 (fun g hg => hO.inM g (hG4 g hg)) (fun _ _ h => nomatch h)
  have hC := hC.step hC4 (fun g hg => hO.inN g (hG4 g hg))
  have hO := hO.grow hC4 hf4 (os_nodup hv4) hv4.fpl
  refine pl_val (.slice a4 n4 c4) (y_assign rfl) ?_
  refine c_nil ?_
  refine wp_ret ?_
  cases hs
  exact ⟨_, a4, n4, c4, f4, fr_ovl 6 ⟨rfl, trivial⟩, hC, hv4, hO.top⟩

theorem Bd170 : Bodied Try.prog 170 := bodied Try.func170 (by kernel_rfl) rfl

def k_impl_cloneRows (M : Nat → Prop) (w0 : World) (r : (List (List Int))) (a : Act) (w : World) : Prop :=
  ∃ (σ : Nat → Value) (ra0 : Option Addr) (rn0 rc0 : Nat) (rf0 : List Nat), a = fr 20 (ovl σ [(2, (.slice ra0 rn0 rc0))]) ∧ Chg [] w0 w ∧ (RT.os 22 (RT.os 3 (RT.int .i64))).val M w (.slice ra0 rn0 rc0) r rf0 ∧ Own (Nw w0 []) (fun _ => True) w (rf0 ++ ([]))
def s_impl_cloneRows (rows : List (List Int)) : Option ((List (List Int))) :=
  (forR (S := (List (List Int))) (R := (List (List Int))) (fun _ x20 s17 =>
  (s_impl_clone x20).bind fun r31 =>
  (app s17 ([r31])).bind fun y36 =>
  some (.nx y36)) 0 rows ([])).bind fun o21 => after o21 (fun r_ => some r_) (fun s17 =>
  some s17)
set_option maxHeartbeats 4000000 in
theorem c_impl_cloneRows {M : Nat → Prop} {w : World} {pa0 : Option Addr} {pn0 pc0 : Nat} (rows : List (List Int)) (h0 : (RT.rs (RT.rs (RT.int .i64))).val M w (.slice pa0 pn0 pc0) rows ([])) (hM : ∀ g, w.heap.size ≤ g → M g) {r : (List (List Int))} (hs : s_impl_cloneRows rows = some r) :
    Gives Try.prog 189 [(.slice pa0 pn0 pc0)] w (fun v w' => ∃ (ra0 : Option Addr) (rn0 rc0 : Nat) (rf0 : List Nat), v = (.slice ra0 rn0 rc0) ∧ Chg [] w w' ∧ (RT.os 22 (RT.os 3 (RT.int .i64))).val M w' (.slice ra0 rn0 rc0) r rf0 ∧ Own (Nw w []) (fun _ => True) w' (rf0 ++ ([]))) := by
  refine calls_fr Try.func189 rfl Try.ntmps189 (Nat.le_of_ble_eq_true rfl) ?_
  have hO := Own.start (N := Nw w []) hM Nw.fut
  have hC := Chg.refl [] w
  unfold s_impl_cloneRows at hs
  refine wp_mono (Q := KPost (k_impl_cloneRows M w r)) ?_ (fun e a w1 h => ?_)
  rotate_left
  · cases e
    case ret =>
      obtain ⟨σ, ra0, rn0, rc0, rf0, rfl, hrest⟩ := h
      exact ret1x Try.results189 (res_tmp rfl) ⟨ra0, rn0, rc0, rf0, rfl, hrest⟩
    all_goals exact (h : False).elim
  refine c_seq ?_
  refine c_region ?_
  refine pl_val (.slice none 0 0) (y_assign rfl) ?_
  refine c_nil ?_
  refine c_seq ?_
  refine c_region ?_
  obtain ⟨w2, g2, ew2, eg2, hC2, hb2⟩ := new_block w [] 22
  refine pl_val (w' := w2) (.slice (some ⟨g2, 0, none⟩) 0 0) (y_bslice rfl (by rw [ew2, eg2]; kernel_rfl)) ?_
  have h0 := h0.ext hC2
  have hC := hC.ext hC2
  have hO := hO.new (X' := [g2]) hC2 (fun q hq => by rw [List.mem_singleton.1 hq, eg2]; exact Nat.le_refl _) (List.nodup_cons.2 ⟨(fun h => nomatch h), List.nodup_nil⟩) (fun q hq => by rw [List.mem_singleton.1 hq]; exact hb2.lt)
  have hv2 := os_of_box (r := (RT.os 3 (RT.int .i64))) (M := M) (css := []) (fps := []) (xs := ([] : List (List Int))) hb2 trivial (Nat.zero_le _) (List.nodup_cons.2 ⟨(fun h => nomatch h), List.nodup_nil⟩)
  have hv2 : (RT.os 22 (RT.os 3 (RT.int .i64))).val M w2 (.slice (some ⟨g2, 0, none⟩) 0 0) [] [g2] := hv2
  refine pl_val (.slice (some ⟨g2, 0, none⟩) 0 0) (y_assign rfl) ?_
  refine c_nil ?_
  refine c_seq ?_
  refine c_seq ?_
  refine c_region ?_
  refine pl_val (.slice pa0 pn0 pc0) (y_move rfl) ?_
  refine pl_val (.int .i64 (rows.length : Int)) (y_len' Sl29 (rs_len h0) rfl) ?_
  refine pl_val (.int .i64 0) (y_move rfl) ?_
  refine c_nil ?_
  obtain ⟨o21, hl22, hs⟩ := bind_some hs
  refine wp_block ?_
  refine wp_forR (id := 0) (I := fun i_ xs_ s17 a w18 => ∃ k19 : Nat, i_ = (k19 : Int) ∧ List.drop k19 rows = xs_ ∧ (∃ (σ : Nat → Value) (a23 : Option Addr) (n23 : Nat) (c23 : Nat) (f23 : List Nat), a = fr 20 (ovl σ [(3, (.slice a23 n23 c23)), (7, (.slice pa0 pn0 pc0)), (8, (.int .i64 (rows.length : Int))), (9, (.int .i64 (k19 : Int)))]) ∧ Chg [] w w18 ∧ Own (Nw w []) M w18 (f23 ++ []) ∧ (RT.rs (RT.rs (RT.int .i64))).val M w18 (.slice pa0 pn0 pc0) rows ([]) ∧ (RT.os 22 (RT.os 3 (RT.int .i64))).val M w18 (.slice a23 n23 c23) s17 f23)) (J := fun s17 a w18 => ∃ (σ : Nat → Value) (a25 : Option Addr) (n25 : Nat) (c25 : Nat) (f25 : List Nat), a = fr 20 (ovl σ [(3, (.slice a25 n25 c25))]) ∧ Chg [] w w18 ∧ Own (Nw w []) M w18 (f25 ++ []) ∧ (RT.rs (RT.rs (RT.int .i64))).val M w18 (.slice pa0 pn0 pc0) rows ([]) ∧ (RT.os 22 (RT.os 3 (RT.int .i64))).val M w18 (.slice a25 n25 c25) s17 f25) (K := (k_impl_cloneRows M w)) ?_ ?_ rows 0 ([]) o21 _ _ ?_ hl22 ?_
  · rintro _ s17 a w18 ⟨k19, rfl, hd, σ, a23, n23, c23, f23, rfl, hC, hO, h0, hv23⟩
    have hlt := drop_nil_ge hd
    refine c_seq ?_
    refine c_region ?_
    refine pl_val (.bool (decide ((k19 : Int) < (rows.length : Int)))) (y_lss rfl rfl) ?_
    refine c_nil ?_
    refine c_seq ?_
    refine c_condF (congrArg Value.bool (decide_eq_false hlt)) ?_
    refine wp_exit ?_
    exact ⟨rfl, _, a23, n23, c23, f23, fr_ovl 20 ⟨rfl, trivial⟩, hC, hO, h0, hv23⟩
  · rintro _ x20 xs_ s17 o21 a w18 ⟨k19, rfl, hd, σ, a23, n23, c23, f23, rfl, hC, hO, h0, hv23⟩ hs
    have hlt := drop_cons_lt hd
    have hxk19 := drop_cons_idx hd
    refine c_seq ?_
    refine c_region ?_
    refine pl_val (.bool (decide ((k19 : Int) < (rows.length : Int)))) (y_lss rfl rfl) ?_
    refine c_nil ?_
    refine c_seq ?_
    refine c_condT (congrArg Value.bool (decide_eq_true hlt)) ?_
    refine wp_skip ?_
    refine c_seq ?_
    refine wp_block ?_
    refine c_seq ?_
    refine c_region ?_
    obtain ⟨b27, o27, hp27, ha27⟩ := rs_idx Sl29 Sz22 h0 hxk19
    refine pl_val (.pointer (some ⟨b27, o27, none⟩)) (hp27 _ _ _ _ _ _ _ _ _ rfl rfl) ?_
    obtain ⟨v28, hl28, hv28⟩ := at_load Ag22 Sz22 (fun _ => rfl) ha27
    obtain ⟨a28, n28, c28, rfl⟩ := rs_sl hv28
    refine pl_val (.slice a28 n28 c28) (y_load rfl (hl28 _ (Chg.refl _ _))) ?_
    refine pl_val (.slice a28 n28 c28) (y_assign rfl) ?_
    refine c_nil ?_
    refine c_region ?_
    refine pl_val (.slice a23 n23 c23) (y_move rfl) ?_
    refine pl_val (.slice a28 n28 c28) (y_move rfl) ?_
    obtain ⟨r31, hr31, hs⟩ := bind_some hs
    refine pl_call Bd170 rfl (c_impl_clone (M := M) x20 hv28 hO.fut hr31) ?_
    rintro _ w30 ⟨a30x0, n30x0, c30x0, f30x0, rfl, hC30, hv30x0, hOc30⟩
    have h0 := h0.ext hC30
    have hv23 := hv23.ext hC30
    have hv28 := hv28.ext hC30
    have hC := hC.ext hC30
    have hO := Own.join0 hO hC30 hOc30
    have hO := hO.perm (R := f30x0 ++ (f23 ++ ([]))) (by simp)
    obtain ⟨w33, g33, ew33, eg33, hC33, hb33⟩ := new_block w30 [(.slice a30x0 n30x0 c30x0)] 22
    refine pl_val (w' := w33) (.slice (some ⟨g33, 0, none⟩) 1 1) (y_bslice rfl (by rw [ew33, eg33]; kernel_rfl)) ?_
    have h0 := h0.ext hC33
    have hv23 := hv23.ext hC33
    have hv28 := hv28.ext hC33
    have hv30x0 := hv30x0.ext hC33
    have hC := hC.ext hC33
    have hO := hO.new (X' := [g33]) hC33 (fun q hq => by rw [List.mem_singleton.1 hq, eg33]; exact Nat.le_refl _) (List.nodup_cons.2 ⟨(fun h => nomatch h), List.nodup_nil⟩) (fun q hq => by rw [List.mem_singleton.1 hq]; exact hb33.lt)
    have hO := hO.perm (R := (g33 :: ((f30x0) ++ ([]))) ++ (f23 ++ ([]))) (by simp)
    have hnd33 := hO.nd
    have hv33 := os_of_box (r := (RT.os 3 (RT.int .i64))) (M := M) (css := [[(.slice a30x0 n30x0 c30x0)]]) (fps := [(f30x0 : List Nat)]) (xs := ([r31] : List (List Int))) hb33 ⟨(os_unval hv30x0), trivial⟩ (Nat.le_of_ble_eq_true rfl) hnd33
    have hv33 : (RT.os 22 (RT.os 3 (RT.int .i64))).val M w33 (.slice (some ⟨g33, 0, none⟩) 1 1) [r31] (g33 :: ((f30x0) ++ ([]))) := hv33
    obtain ⟨y36, hy36, hs⟩ := bind_some hs
    have hO := hO.fr1
    obtain ⟨a35, n35, c35, w35, f35, hr35, hC35, hf35, hv35⟩ := app_os Rw29 hy36 hv23 hv33 hO.inM (fun g hg hq => hO.apart g hq (mem_l hg))
    have hG35 := os_block hv23
    refine pl_val (w' := w35) (.slice a35 n35 c35) (y_append rfl rfl (hr35 _)) ?_
    have hO := hO.fr1
    have hO := hO.fr1
    have h0 := h0.mut hC35 (fun g hg => hO.inM g (hG35 g hg)) (fun _ _ h => nomatch h)
    have hv28 := hv28.mut hC35 (fun g hg => hO.inM g (hG35 g hg)) (fun _ _ h => nomatch h)
    have hC := hC.step hC35 (fun g hg => hO.inN g (hG35 g hg))
    have hO := hO.eat hC35 hf35 (os_nodup hv35) hv35.fpl
    refine pl_val (.slice a35 n35 c35) (y_assign rfl) ?_
    refine c_nil ?_
    refine c_region ?_
    refine pl_val (.int .i64 (w64 ((k19 : Int) + 1))) (y_add rfl rfl) ?_
    refine pl_val (.int .i64 (w64 ((k19 : Int) + 1))) (y_move rfl) ?_
    refine c_nil ?_
    cases hs
    exact ⟨_, rfl, drop_cons_next hd, _, a35, n35, c35, f35, fr_ovl 20 ⟨rfl, rfl, rfl, congrArg (Value.int .i64) (w64_succ hlt (Int.natCast_nonneg _) (rs_max h0)), trivial⟩, hC, hO, h0, hv35⟩
  · skip
    exact ⟨0, rfl, rfl, _, (some ⟨g2, 0, none⟩), 0, 0, ([g2]), fr_ovl 20 ⟨rfl, rfl, rfl, rfl, trivial⟩, hC, hO, h0, hv2⟩
  · cases o21 with
    | nx _ => exact True.intro
    | rt r_ =>
      have hs := after_rt hs
      intro a1 w1 hK
      cases hs
      exact hK
    | br s17 =>
      have hs := after_br hs
      rintro a1 w18 ⟨σ, a25, n25, c25, f25, rfl, hC, hO, h0, hv25⟩
      refine c_seq ?_
      refine c_region ?_
      refine pl_val (.slice a25 n25 c25) (y_move rfl) ?_
      refine pl_val (.slice a25 n25 c25) (y_assign rfl) ?_
      refine c_nil ?_
      refine wp_ret ?_
      cases hs
      exact ⟨_, a25, n25, c25, f25, fr_ovl 20 ⟨rfl, trivial⟩, hC, hv25, hO.top⟩

theorem Bd189 : Bodied Try.prog 189 := bodied Try.func189 (by kernel_rfl) rfl

def k_impl_cloneRelation (M : Nat → Prop) (w0 : World) (r : (Int × (List (List Int)))) (a : Act) (w : World) : Prop :=
  ∃ (σ : Nat → Value) (rg2 : Nat) (ra0 : Option Addr) (rn0 rc0 : Nat) (rf0 : List Nat), a = fr 9 (ovl σ [(2, (.pointer (some ⟨rg2, 0, none⟩)))]) ∧ BoxV w rg2 31 [(.int .i64 r.1), (.slice ra0 rn0 rc0)] ∧ Chg [] w0 w ∧ (RT.os 22 (RT.os 3 (RT.int .i64))).val M w (.slice ra0 rn0 rc0) r.2 rf0 ∧ Own (Nw w0 []) (fun _ => True) w (rf0 ++ ([]))
def s_impl_cloneRelation (r_ : Int × (List (List Int))) : Option ((Int × (List (List Int)))) :=
  (s_impl_cloneRows r_.2).bind fun r6 =>
  some (r_.1, r6)
set_option maxHeartbeats 4000000 in
theorem c_impl_cloneRelation {M : Nat → Prop} {w : World} {pa0 : Option Addr} {pn0 pc0 : Nat} (r_ : Int × (List (List Int))) (h0 : (RT.rs (RT.rs (RT.int .i64))).val M w (.slice pa0 pn0 pc0) r_.2 ([])) (hM : ∀ g, w.heap.size ≤ g → M g) {r : (Int × (List (List Int)))} (hs : s_impl_cloneRelation r_ = some r) :
    Gives Try.prog 171 [(.agg #[(.int .i64 r_.1), (.slice pa0 pn0 pc0)])] w (fun v w' => ∃ (ra0 : Option Addr) (rn0 rc0 : Nat) (rf0 : List Nat), v = (.agg #[(.int .i64 r.1), (.slice ra0 rn0 rc0)]) ∧ Chg [] w w' ∧ (RT.os 22 (RT.os 3 (RT.int .i64))).val M w' (.slice ra0 rn0 rc0) r.2 rf0 ∧ Own (Nw w []) (fun _ => True) w' (rf0 ++ ([]))) := by
  refine calls_fr Try.func171 rfl Try.ntmps171 (Nat.le_of_ble_eq_true rfl) ?_
  have hO := Own.start (N := Nw w []) hM Nw.fut
  have hC := Chg.refl [] w
  unfold s_impl_cloneRelation at hs
  refine wp_mono (Q := KPost (k_impl_cloneRelation M w r)) ?_ (fun e a w1 h => ?_)
  rotate_left
  · cases e
    case ret =>
      obtain ⟨σ, rg2, ra0, rn0, rc0, rf0, rfl, hbrg2, hrest⟩ := h
      exact ret1x Try.results171 (res_cell rfl (box_load Ag31 Sz31 hbrg2 [] _ [] rfl rfl (fun h => nomatch h))) ⟨ra0, rn0, rc0, rf0, rfl, hrest⟩
    all_goals exact (h : False).elim
  refine c_seq ?_
  refine c_region ?_
  obtain ⟨w2, g2, ew2, eg2, hC2, hb2⟩ := new_block w [(.int .i64 r_.1), (.slice pa0 pn0 pc0)] 31
  refine pl_val (w' := w2) (.pointer (some ⟨g2, 0, none⟩)) (y_box rfl (by rw [ew2, eg2]; kernel_rfl)) ?_
  have h0 := h0.ext hC2
  have hC := hC.ext hC2
  have hO := hO.new (X' := [g2]) hC2 (fun q hq => by rw [List.mem_singleton.1 hq, eg2]; exact Nat.le_refl _) (List.nodup_cons.2 ⟨(fun h => nomatch h), List.nodup_nil⟩) (fun q hq => by rw [List.mem_singleton.1 hq]; exact hb2.lt)
  obtain ⟨w3, g3, ew3, eg3, hC3, hb3⟩ := new_block w2 [(.int .i64 0), (.slice none 0 0)] 31
  refine pl_val (w' := w3) (.pointer (some ⟨g3, 0, none⟩)) (y_alloc (by rw [ew3, eg3]; kernel_rfl)) ?_
  have h0 := h0.ext hC3
  have hb2 := hb2.chg hC3 (fun h => nomatch h)
  have hC := hC.ext hC3
  have hO := hO.new (X' := [g3]) hC3 (fun q hq => by rw [List.mem_singleton.1 hq, eg3]; exact Nat.le_refl _) (List.nodup_cons.2 ⟨(fun h => nomatch h), List.nodup_nil⟩) (fun q hq => by rw [List.mem_singleton.1 hq]; exact hb3.lt)
  refine c_nil ?_
  refine c_seq ?_
  refine x_start [6] Mx rfl ?_
  have hCw4 := Chg.drew w3
  generalize World.drew w3 = w4 at hCw4 ⊢
  have h0 := h0.ext hCw4
  have hb2 := hb2.chg hCw4 (fun h => nomatch h)
  have hb3 := hb3.chg hCw4 (fun h => nomatch h)
  have hC := hC.ext hCw4
  have hO := hO.ext hCw4
  have hS := Chg.refl [] w4
  refine x_p 0 (.pointer (some ⟨g2, 0, none⟩)) rfl (by kernel_rfl)  (fun _ => y_faddr rfl Fa31x0) (fun _ => hS) ?_
  refine x_l 1 (.int .i64 r_.1) rfl (by kernel_rfl)  (fun w' hw' => y_load rfl ((box_load Ag3 Sz3 hb2 [] [(.int .i64 r_.1)] [(.slice pa0 pn0 pc0)] rfl rfl (fun _ => rfl)) w' hw')) hS ?_
  refine x_p 2 (.pointer (some ⟨g2, 1, none⟩)) rfl (by kernel_rfl)  (fun _ => y_faddr rfl Fa31x1) (fun _ => hS) ?_
  refine x_l 3 (.slice pa0 pn0 pc0) rfl (by kernel_rfl)  (fun w' hw' => y_load rfl ((box_load Ag29 Sz29 hb2 [(.int .i64 r_.1)] [(.slice pa0 pn0 pc0)] [] rfl rfl (fun _ => rfl)) w' hw')) hS ?_
  refine x_one (i := 4) (by kernel_rfl) ?_
  obtain ⟨r6, hr6, hs⟩ := bind_some hs
  refine xk_call (b := false) rfl  Bd189 rfl (c_impl_cloneRows (M := M) r_.2 h0 hO.fut hr6) rfl (by rintro _ _ _ ⟨a5x0, n5x0, c5x0, f5x0, rfl, hC5, hv5x0, hOc5⟩; exact hS.ext hC5) ?_
  rintro _ w5 ⟨a5x0, n5x0, c5x0, f5x0, rfl, hC5, hv5x0, hOc5⟩
  have h0 := h0.ext hC5
  have hb2 := hb2.chg hC5 (fun h => nomatch h)
  have hb3 := hb3.chg hC5 (fun h => nomatch h)
  have hC := hC.ext hC5
  have hO := Own.join0 hO hC5 hOc5
  have hO := hO.perm (R := f5x0 ++ (([g3]) ++ (([g2]) ++ ([])))) (by simp)
  have hS := hS.ext hC5
  refine x_p 5 (.agg #[(.int .i64 r_.1), (.slice a5x0 n5x0 c5x0)]) rfl (by kernel_rfl)  (fun _ => y_build rfl (by kernel_rfl)) (fun _ => hS) ?_
  refine x_one (i := 6) (by kernel_rfl) ?_
  obtain ⟨w8, hst8, hC8, hb8⟩ := box_store (P := Try.prog) hb3 [] [(.int .i64 0), (.slice none 0 0)] [] [(.int .i64 r_.1), (.slice a5x0 n5x0 c5x0)] rfl rfl (by intro u hu; simp only [List.mem_cons, List.not_mem_nil, or_false] at hu; rcases hu with rfl | rfl <;> rfl)
  refine xk_skip (w' := w8) (b := true) rfl (ys_store rfl rfl (hst8 _ _ rfl Sz31)) rfl (fun h => nomatch h) ?_
  have hO := hO.fr1
  have h0 := h0.mut hC8 (fun g hg => hO.inM g ((fun _ h => h) g hg)) (fun _ _ h => nomatch h)
  have hb2 := hb2.chg hC8 (fun hg => hO.apart _ ((fun _ h => h) _ hg) (mem_r (mem_l (List.mem_singleton.2 rfl))))
  have hv5x0 := hv5x0.mut hC8 (fun g hg => hO.inM g ((fun _ h => h) g hg)) (fun g hg e => hO.apart g ((fun _ h => h) g hg) (mem_l (e)))
  have hC := hC.step hC8 (fun g hg => hO.inN g ((fun _ h => h) g hg))
  have hO := hO.ext hC8
  have hb8 : BoxV w8 g3 31 [(.int .i64 r_.1), (.slice a5x0 n5x0 c5x0)] := hb8
  refine x_end (by kernel_rfl) ?_
  clear hS
  refine wp_ret ?_
  cases hs
  have hO := hO.drop
  have hO := hO.fr1
  have hO := hO.drop
  exact ⟨_, g3, a5x0, n5x0, c5x0, f5x0, fr_ovl 9 ⟨rfl, trivial⟩, hb8, hC, hv5x0, hO.top⟩

theorem Bd171 : Bodied Try.prog 171 := bodied Try.func171 (by kernel_rfl) rfl

def k_impl_cloneConstraints (M : Nat → Prop) (w0 : World) (r : (List ((List Int) × (Int × (List (List Int)))))) (a : Act) (w : World) : Prop :=
  ∃ (σ : Nat → Value) (ra0 : Option Addr) (rn0 rc0 : Nat) (rf0 : List Nat), a = fr 25 (ovl σ [(2, (.slice ra0 rn0 rc0))]) ∧ Chg [] w0 w ∧ (RT.os 108 (RT.pr (RT.os 3 (RT.int .i64)) (RT.pr (RT.int .i64) (RT.os 22 (RT.os 3 (RT.int .i64)))))).val M w (.slice ra0 rn0 rc0) r rf0 ∧ Own (Nw w0 []) (fun _ => True) w (rf0 ++ ([]))
def s_impl_cloneConstraints (list : List ((List Int) × (Int × (List (List Int))))) : Option ((List ((List Int) × (Int × (List (List Int)))))) :=
  (forR (S := (List ((List Int) × (Int × (List (List Int)))))) (R := (List ((List Int) × (Int × (List (List Int)))))) (fun _ x27 s24 =>
  (s_impl_clone x27.1).bind fun r42 =>
  (s_impl_cloneRelation (x27.2.1, x27.2.2)).bind fun r45 =>
  (app s24 ([(r42, (r45.1, r45.2))])).bind fun y50 =>
  some (.nx y50)) 0 list ([])).bind fun o28 => after o28 (fun r_ => some r_) (fun s24 =>
  some s24)
set_option maxHeartbeats 4000000 in
theorem c_impl_cloneConstraints {M : Nat → Prop} {w : World} {pa0 : Option Addr} {pn0 pc0 : Nat} (list : List ((List Int) × (Int × (List (List Int))))) (h0 : (RT.rs (RT.pr (RT.rs (RT.int .i64)) (RT.pr (RT.int .i64) (RT.rs (RT.rs (RT.int .i64)))))).val M w (.slice pa0 pn0 pc0) list ([])) (hM : ∀ g, w.heap.size ≤ g → M g) {r : (List ((List Int) × (Int × (List (List Int)))))} (hs : s_impl_cloneConstraints list = some r) :
    Gives Try.prog 134 [(.slice pa0 pn0 pc0)] w (fun v w' => ∃ (ra0 : Option Addr) (rn0 rc0 : Nat) (rf0 : List Nat), v = (.slice ra0 rn0 rc0) ∧ Chg [] w w' ∧ (RT.os 108 (RT.pr (RT.os 3 (RT.int .i64)) (RT.pr (RT.int .i64) (RT.os 22 (RT.os 3 (RT.int .i64)))))).val M w' (.slice ra0 rn0 rc0) r rf0 ∧ Own (Nw w []) (fun _ => True) w' (rf0 ++ ([]))) := by
  refine calls_fr Try.func134 rfl Try.ntmps134 (Nat.le_of_ble_eq_true rfl) ?_
  have hO := Own.start (N := Nw w []) hM Nw.fut
  have hC := Chg.refl [] w
  unfold s_impl_cloneConstraints at hs
  refine wp_mono (Q := KPost (k_impl_cloneConstraints M w r)) ?_ (fun e a w1 h => ?_)
  rotate_left
  · cases e
    case ret =>
      obtain ⟨σ, ra0, rn0, rc0, rf0, rfl, hrest⟩ := h
      exact ret1x Try.results134 (res_tmp rfl) ⟨ra0, rn0, rc0, rf0, rfl, hrest⟩
    all_goals exact (h : False).elim
  refine c_seq ?_
  refine c_region ?_
  refine pl_val (.slice none 0 0) (y_assign rfl) ?_
  refine c_nil ?_
  refine c_seq ?_
  refine c_region ?_
  obtain ⟨w2, g2, ew2, eg2, hC2, hb2⟩ := new_block w [] 108
  refine pl_val (w' := w2) (.slice (some ⟨g2, 0, none⟩) 0 0) (y_bslice rfl (by rw [ew2, eg2]; kernel_rfl)) ?_
  have h0 := h0.ext hC2
  have hC := hC.ext hC2
  have hO := hO.new (X' := [g2]) hC2 (fun q hq => by rw [List.mem_singleton.1 hq, eg2]; exact Nat.le_refl _) (List.nodup_cons.2 ⟨(fun h => nomatch h), List.nodup_nil⟩) (fun q hq => by rw [List.mem_singleton.1 hq]; exact hb2.lt)
  have hv2 := os_of_box (r := (RT.pr (RT.os 3 (RT.int .i64)) (RT.pr (RT.int .i64) (RT.os 22 (RT.os 3 (RT.int .i64)))))) (M := M) (css := []) (fps := []) (xs := ([] : List ((List Int) × (Int × (List (List Int)))))) hb2 trivial (Nat.zero_le _) (List.nodup_cons.2 ⟨(fun h => nomatch h), List.nodup_nil⟩)
  have hv2 : (RT.os 108 (RT.pr (RT.os 3 (RT.int .i64)) (RT.pr (RT.int .i64) (RT.os 22 (RT.os 3 (RT.int .i64)))))).val M w2 (.slice (some ⟨g2, 0, none⟩) 0 0) [] [g2] := hv2
  refine pl_val (.slice (some ⟨g2, 0, none⟩) 0 0) (y_assign rfl) ?_
  refine c_nil ?_
  refine c_seq ?_
  refine c_seq ?_
  refine c_region ?_
  refine pl_val (.slice pa0 pn0 pc0) (y_move rfl) ?_
  refine pl_val (.int .i64 (list.length : Int)) (y_len' Sl47 (rs_len h0) rfl) ?_
  refine pl_val (.int .i64 0) (y_move rfl) ?_
  refine c_nil ?_
  obtain ⟨o28, hl29, hs⟩ := bind_some hs
  refine wp_block ?_
  refine wp_forR (id := 0) (I := fun i_ xs_ s24 a w25 => ∃ k26 : Nat, i_ = (k26 : Int) ∧ List.drop k26 list = xs_ ∧ (∃ (σ : Nat → Value) (a30 : Option Addr) (n30 : Nat) (c30 : Nat) (f30 : List Nat), a = fr 25 (ovl σ [(3, (.slice a30 n30 c30)), (7, (.slice pa0 pn0 pc0)), (8, (.int .i64 (list.length : Int))), (9, (.int .i64 (k26 : Int)))]) ∧ Chg [] w w25 ∧ Own (Nw w []) M w25 (f30 ++ []) ∧ (RT.rs (RT.pr (RT.rs (RT.int .i64)) (RT.pr (RT.int .i64) (RT.rs (RT.rs (RT.int .i64)))))).val M w25 (.slice pa0 pn0 pc0) list ([]) ∧ (RT.os 108 (RT.pr (RT.os 3 (RT.int .i64)) (RT.pr (RT.int .i64) (RT.os 22 (RT.os 3 (RT.int .i64)))))).val M w25 (.slice a30 n30 c30) s24 f30)) (J := fun s24 a w25 => ∃ (σ : Nat → Value) (a32 : Option Addr) (n32 : Nat) (c32 : Nat) (f32 : List Nat), a = fr 25 (ovl σ [(3, (.slice a32 n32 c32))]) ∧ Chg [] w w25 ∧ Own (Nw w []) M w25 (f32 ++ []) ∧ (RT.rs (RT.pr (RT.rs (RT.int .i64)) (RT.pr (RT.int .i64) (RT.rs (RT.rs (RT.int .i64)))))).val M w25 (.slice pa0 pn0 pc0) list ([]) ∧ (RT.os 108 (RT.pr (RT.os 3 (RT.int .i64)) (RT.pr (RT.int .i64) (RT.os 22 (RT.os 3 (RT.int .i64)))))).val M w25 (.slice a32 n32 c32) s24 f32) (K := (k_impl_cloneConstraints M w)) ?_ ?_ list 0 ([]) o28 _ _ ?_ hl29 ?_
  · rintro _ s24 a w25 ⟨k26, rfl, hd, σ, a30, n30, c30, f30, rfl, hC, hO, h0, hv30⟩
    have hlt := drop_nil_ge hd
    refine c_seq ?_
    refine c_region ?_
    refine pl_val (.bool (decide ((k26 : Int) < (list.length : Int)))) (y_lss rfl rfl) ?_
    refine c_nil ?_
    refine c_seq ?_
    refine c_condF (congrArg Value.bool (decide_eq_false hlt)) ?_
    refine wp_exit ?_
    exact ⟨rfl, _, a30, n30, c30, f30, fr_ovl 25 ⟨rfl, trivial⟩, hC, hO, h0, hv30⟩
  · rintro _ x27 xs_ s24 o28 a w25 ⟨k26, rfl, hd, σ, a30, n30, c30, f30, rfl, hC, hO, h0, hv30⟩ hs
    have hlt := drop_cons_lt hd
    have hxk26 := drop_cons_idx hd
    refine c_seq ?_
    refine c_region ?_
    refine pl_val (.bool (decide ((k26 : Int) < (list.length : Int)))) (y_lss rfl rfl) ?_
    refine c_nil ?_
    refine c_seq ?_
    refine c_condT (congrArg Value.bool (decide_eq_true hlt)) ?_
    refine wp_skip ?_
    refine c_seq ?_
    refine wp_block ?_
    refine c_seq ?_
    refine c_region ?_
    obtain ⟨b34, o34, hp34, ha34⟩ := rs_idx Sl47 Sz108 h0 hxk26
    refine pl_val (.pointer (some ⟨b34, o34, none⟩)) (hp34 _ _ _ _ _ _ _ _ _ rfl rfl) ?_
    obtain ⟨v35, hl35, hv35⟩ := at_load Ag108 Sz108 (by intro h; cases h) ha34
    obtain ⟨cs35, rfl, hr35⟩ := hv35
    obtain ⟨cc35x1, cd35x1, rfl, hh35x1, ht35x1⟩ := pr_open hr35
    obtain ⟨a35x1, n35x1, c35x1, rfl, hv35x1⟩ := rs_rel hh35x1
    obtain ⟨cc35x3, cd35x3, rfl, hh35x3, ht35x3⟩ := pr_open ht35x1
    obtain rfl := int_rel hh35x3
    obtain ⟨a35x4, n35x4, c35x4, rfl, hv35x4⟩ := rs_rel ht35x3
    refine pl_val (.agg #[(.slice a35x1 n35x1 c35x1), (.int .i64 x27.2.1), (.slice a35x4 n35x4 c35x4)]) (y_load rfl (hl35 _ (Chg.refl _ _))) ?_
    obtain ⟨w38, g38, ew38, eg38, hC38, hb38⟩ := new_block w25 [(.slice none 0 0), (.int .i64 0), (.slice none 0 0)] 108
    refine pl_val (w' := w38) (.pointer (some ⟨g38, 0, none⟩)) (y_alloc (by rw [ew38, eg38]; kernel_rfl)) ?_
    have h0 := h0.ext hC38
    have hv30 := hv30.ext hC38
    have hv35x1 := hv35x1.ext hC38
    have hv35x4 := hv35x4.ext hC38
    have hC := hC.ext hC38
    have hO := hO.new (X' := [g38]) hC38 (fun q hq => by rw [List.mem_singleton.1 hq, eg38]; exact Nat.le_refl _) (List.nodup_cons.2 ⟨(fun h => nomatch h), List.nodup_nil⟩) (fun q hq => by rw [List.mem_singleton.1 hq]; exact hb38.lt)
    obtain ⟨w39, hst39, hC39, hb39⟩ := box_store (P := Try.prog) hb38 [] [(.slice none 0 0), (.int .i64 0), (.slice none 0 0)] [] [(.slice a35x1 n35x1 c35x1), (.int .i64 x27.2.1), (.slice a35x4 n35x4 c35x4)] rfl rfl (by intro u hu; simp only [List.mem_cons, List.not_mem_nil, or_false] at hu; rcases hu with rfl | rfl | rfl <;> rfl)
    refine pl_skip (w' := w39) (ys_store rfl rfl (hst39 _ _ rfl Sz108)) ?_
    have h0 := h0.mut hC39 (fun g hg => hO.inM g ((fun _ h => h) g hg)) (fun _ _ h => nomatch h)
    have hv30 := hv30.mut hC39 (fun g hg => hO.inM g ((fun _ h => h) g hg)) (fun g hg e => hO.apart g ((fun _ h => h) g hg) (mem_l (e)))
    have hv35x1 := hv35x1.mut hC39 (fun g hg => hO.inM g ((fun _ h => h) g hg)) (fun _ _ h => nomatch h)
    have hv35x4 := hv35x4.mut hC39 (fun g hg => hO.inM g ((fun _ h => h) g hg)) (fun _ _ h => nomatch h)
    have hC := hC.step hC39 (fun g hg => hO.inN g ((fun _ h => h) g hg))
    have hO := hO.ext hC39
    have hb39 : BoxV w39 g38 108 [(.slice a35x1 n35x1 c35x1), (.int .i64 x27.2.1), (.slice a35x4 n35x4 c35x4)] := hb39
    refine c_nil ?_
    refine x_start [9] Mx rfl ?_
    have hCw40 := Chg.drew w39
    generalize World.drew w39 = w40 at hCw40 ⊢
    have h0 := h0.ext hCw40
    have hv30 := hv30.ext hCw40
    have hv35x1 := hv35x1.ext hCw40
    have hv35x4 := hv35x4.ext hCw40
    have hb39 := hb39.chg hCw40 (fun h => nomatch h)
    have hC := hC.ext hCw40
    have hO := hO.ext hCw40
    have hS := Chg.refl [] w40
    refine x_p 0 (.slice a30 n30 c30) rfl (by kernel_rfl)  (fun _ => y_move rfl) (fun _ => hS) ?_
    refine x_p 1 (.pointer (some ⟨g38, 0, none⟩)) rfl (by kernel_rfl)  (fun _ => y_faddr rfl Fa108x0) (fun _ => hS) ?_
    refine x_l 2 (.slice a35x1 n35x1 c35x1) rfl (by kernel_rfl)  (fun w' hw' => y_load rfl ((box_load Ag22 Sz22 hb39 [] [(.slice a35x1 n35x1 c35x1)] [(.int .i64 x27.2.1), (.slice a35x4 n35x4 c35x4)] rfl rfl (fun _ => rfl)) w' hw')) hS ?_
    refine x_p 4 (.pointer (some ⟨g38, 1, none⟩)) rfl (by kernel_rfl)  (fun _ => y_faddr rfl Fa108x1) (fun _ => hS) ?_
    refine x_l 5 (.agg #[(.int .i64 x27.2.1), (.slice a35x4 n35x4 c35x4)]) rfl (by kernel_rfl)  (fun w' hw' => y_load rfl ((box_load Ag31 Sz31 hb39 [(.slice a35x1 n35x1 c35x1)] [(.int .i64 x27.2.1), (.slice a35x4 n35x4 c35x4)] [] rfl rfl (fun h => nomatch h)) w' hw')) hS ?_
    refine x_one (i := 3) (by kernel_rfl) ?_
    obtain ⟨r42, hr42, hs⟩ := bind_some hs
    refine xk_call (b := false) rfl  Bd170 rfl (c_impl_clone (M := M) x27.1 hv35x1 hO.fut hr42) rfl (by rintro _ _ _ ⟨a41x0, n41x0, c41x0, f41x0, rfl, hC41, hv41x0, hOc41⟩; exact hS.ext hC41) ?_
    rintro _ w41 ⟨a41x0, n41x0, c41x0, f41x0, rfl, hC41, hv41x0, hOc41⟩
    have h0 := h0.ext hC41
    have hv30 := hv30.ext hC41
    have hv35x1 := hv35x1.ext hC41
    have hv35x4 := hv35x4.ext hC41
    have hb39 := hb39.chg hC41 (fun h => nomatch h)
    have hC := hC.ext hC41
    have hO := Own.join0 hO hC41 hOc41
    have hO := hO.perm (R := f41x0 ++ (([g38]) ++ (f30 ++ ([])))) (by simp)
    have hS := hS.ext hC41
    refine x_one (i := 6) (by kernel_rfl) ?_
    obtain ⟨r45, hr45, hs⟩ := bind_some hs
    refine xk_call (b := false) rfl  Bd171 rfl (c_impl_cloneRelation (M := M) (x27.2.1, x27.2.2) hv35x4 hO.fut hr45) rfl (by rintro _ _ _ ⟨a44x0, n44x0, c44x0, f44x0, rfl, hC44, hv44x0, hOc44⟩; exact hS.ext hC44) ?_
    rintro _ w44 ⟨a44x0, n44x0, c44x0, f44x0, rfl, hC44, hv44x0, hOc44⟩
    have h0 := h0.ext hC44
    have hv30 := hv30.ext hC44
    have hv35x1 := hv35x1.ext hC44
    have hv35x4 := hv35x4.ext hC44
    have hb39 := hb39.chg hC44 (fun h => nomatch h)
    have hv41x0 := hv41x0.ext hC44
    have hC := hC.ext hC44
    have hO := Own.join0 hO hC44 hOc44
    have hO := hO.perm (R := f44x0 ++ (f41x0 ++ (([g38]) ++ (f30 ++ ([]))))) (by simp)
    have hS := hS.ext hC44
    refine x_p 7 (.agg #[(.slice a41x0 n41x0 c41x0), (.int .i64 r45.1), (.slice a44x0 n44x0 c44x0)]) rfl (by kernel_rfl)  (fun _ => y_build rfl (by kernel_rfl)) (fun _ => hS) ?_
    refine x_one (i := 8) (by kernel_rfl) ?_
    obtain ⟨w47, g47, ew47, eg47, hC47, hb47⟩ := new_block w44 [(.slice a41x0 n41x0 c41x0), (.int .i64 r45.1), (.slice a44x0 n44x0 c44x0)] 108
    refine xk_val (w' := w47) (b := false) (.slice (some ⟨g47, 0, none⟩) 1 1) rfl  (y_bslice rfl (by rw [ew47, eg47]; kernel_rfl)) rfl (fun _ => hS.ext hC47) ?_
    have h0 := h0.ext hC47
    have hv30 := hv30.ext hC47
    have hv35x1 := hv35x1.ext hC47
    have hv35x4 := hv35x4.ext hC47
    have hb39 := hb39.chg hC47 (fun h => nomatch h)
    have hv41x0 := hv41x0.ext hC47
    have hv44x0 := hv44x0.ext hC47
    have hC := hC.ext hC47
    have hO := hO.fr1
    have hO := hO.new (X' := [g47]) hC47 (fun q hq => by rw [List.mem_singleton.1 hq, eg47]; exact Nat.le_refl _) (List.nodup_cons.2 ⟨(fun h => nomatch h), List.nodup_nil⟩) (fun q hq => by rw [List.mem_singleton.1 hq]; exact hb47.lt)
    have hO := hO.perm (R := (g47 :: ((f41x0 ++ f44x0) ++ ([]))) ++ (([g38]) ++ (f30 ++ ([])))) (by simp)
    have hnd47 := hO.nd
    have hv47 := os_of_box (r := (RT.pr (RT.os 3 (RT.int .i64)) (RT.pr (RT.int .i64) (RT.os 22 (RT.os 3 (RT.int .i64)))))) (M := M) (css := [[(.slice a41x0 n41x0 c41x0), (.int .i64 r45.1), (.slice a44x0 n44x0 c44x0)]]) (fps := [(f41x0 ++ f44x0 : List Nat)]) (xs := ([(r42, (r45.1, r45.2))] : List ((List Int) × (Int × (List (List Int)))))) hb47 ⟨⟨_, _, _, _, rfl, rfl, (os_unval hv41x0), ⟨_, _, _, _, rfl, rfl, ⟨rfl, rfl⟩, (os_unval hv44x0)⟩⟩, trivial⟩ (Nat.le_of_ble_eq_true rfl) hnd47
    have hv47 : (RT.os 108 (RT.pr (RT.os 3 (RT.int .i64)) (RT.pr (RT.int .i64) (RT.os 22 (RT.os 3 (RT.int .i64)))))).val M w47 (.slice (some ⟨g47, 0, none⟩) 1 1) [(r42, (r45.1, r45.2))] (g47 :: ((f41x0 ++ f44x0) ++ ([]))) := hv47
    have hS := hS.ext hC47
    refine x_one (i := 9) (by kernel_rfl) ?_
    obtain ⟨y50, hy50, hs⟩ := bind_some hs
    have hO := hO.fr2
    obtain ⟨a49, n49, c49, w49, f49, hr49, hC49, hf49, hv49⟩ := app_os Rw47 hy50 hv30 hv47 hO.inM (fun g hg hq => hO.apart g hq (mem_l hg))
    have hG49 := os_block hv30
    refine xk_val (w' := w49) (b := true) (.slice a49 n49 c49) rfl  (y_append rfl rfl (hr49 _)) rfl (fun h => nomatch h) ?_
    have hO := hO.fr1
    have hO := hO.fr1
    have h0 := h0.mut hC49 (fun g hg => hO.inM g (hG49 g hg)) (fun _ _ h => nomatch h)
    have hv35x1 := hv35x1.mut hC49 (fun g hg => hO.inM g (hG49 g hg)) (fun _ _ h => nomatch h)
    have hv35x4 := hv35x4.mut hC49 (fun g hg => hO.inM g (hG49 g hg)) (fun _ _ h => nomatch h)
    have hb39 := hb39.chg hC49 (fun hg => hO.apart _ (hG49 _ hg) (mem_r (mem_l (List.mem_singleton.2 rfl))))
    have hC := hC.step hC49 (fun g hg => hO.inN g (hG49 g hg))
    have hO := hO.eat hC49 hf49 (os_nodup hv49) hv49.fpl
    refine x_p 10 (.slice a49 n49 c49) rfl (by kernel_rfl)  (fun _ => y_assign rfl) (fun h => nomatch h) ?_
    refine x_end (by kernel_rfl) ?_
    clear hS
    refine c_region ?_
    refine pl_val (.int .i64 (w64 ((k26 : Int) + 1))) (y_add rfl rfl) ?_
    refine pl_val (.int .i64 (w64 ((k26 : Int) + 1))) (y_move rfl) ?_
    refine c_nil ?_
    cases hs
    have hO := hO.fr1
    have hO := hO.drop
    exact ⟨_, rfl, drop_cons_next hd, _, a49, n49, c49, f49, fr_ovl 25 ⟨rfl, rfl, rfl, congrArg (Value.int .i64) (w64_succ hlt (Int.natCast_nonneg _) (rs_max h0)), trivial⟩, hC, hO, h0, hv49⟩
  · skip
    exact ⟨0, rfl, rfl, _, (some ⟨g2, 0, none⟩), 0, 0, ([g2]), fr_ovl 25 ⟨rfl, rfl, rfl, rfl, trivial⟩, hC, hO, h0, hv2⟩
  · cases o28 with
    | nx _ => exact True.intro
    | rt r_ =>
      have hs := after_rt hs
      intro a1 w1 hK
      cases hs
      exact hK
    | br s24 =>
      have hs := after_br hs
      rintro a1 w25 ⟨σ, a32, n32, c32, f32, rfl, hC, hO, h0, hv32⟩
      refine c_seq ?_
      refine c_region ?_
      refine pl_val (.slice a32 n32 c32) (y_move rfl) ?_
      refine pl_val (.slice a32 n32 c32) (y_assign rfl) ?_
      refine c_nil ?_
      refine wp_ret ?_
      cases hs
      exact ⟨_, a32, n32, c32, f32, fr_ovl 25 ⟨rfl, trivial⟩, hC, hv32, hO.top⟩

def k_impl_withConstraints (M : Nat → Prop) (w0 : World) (r : (Int × Int × (List ((List Int) × (Int × (List (List Int)))))) × Bool) (a : Act) (w : World) : Prop :=
  ∃ (σ : Nat → Value) (rg4 : Nat) (ra0 : Option Addr) (rn0 rc0 : Nat), a = fr 16 (ovl σ [(4, (.pointer (some ⟨rg4, 0, none⟩))), (5, (.bool r.2))]) ∧ BoxV w rg4 49 [(.int .i64 r.1.1), (.int .i64 r.1.2.1), (.slice ra0 rn0 rc0)] ∧ Chg [] w0 w ∧ (RT.rs (RT.pr (RT.rs (RT.int .i64)) (RT.pr (RT.int .i64) (RT.rs (RT.rs (RT.int .i64)))))).val (Past M w0 w) w (.slice ra0 rn0 rc0) r.1.2.2 []
def s_impl_withConstraints (net : Int × Int × (List ((List Int) × (Int × (List (List Int)))))) (list : List ((List Int) × (Int × (List (List Int))))) : Option ((Int × Int × (List ((List Int) × (Int × (List (List Int)))))) × Bool) :=
  (bif (decide (40 < (list.length : Int))) then some ((0, 0, []), false) else some ((net.1, net.2.1, list), true))
set_option maxHeartbeats 4000000 in
theorem c_impl_withConstraints {M : Nat → Prop} {w : World} {pa0 : Option Addr} {pn0 pc0 : Nat} {pa1 : Option Addr} {pn1 pc1 : Nat} (net : Int × Int × (List ((List Int) × (Int × (List (List Int)))))) (list : List ((List Int) × (Int × (List (List Int))))) (h0 : (RT.rs (RT.pr (RT.rs (RT.int .i64)) (RT.pr (RT.int .i64) (RT.rs (RT.rs (RT.int .i64)))))).val M w (.slice pa0 pn0 pc0) net.2.2 ([])) (h1 : (RT.rs (RT.pr (RT.rs (RT.int .i64)) (RT.pr (RT.int .i64) (RT.rs (RT.rs (RT.int .i64)))))).val M w (.slice pa1 pn1 pc1) list ([])) (hM : ∀ g, w.heap.size ≤ g → M g) {r : (Int × Int × (List ((List Int) × (Int × (List (List Int)))))) × Bool} (hs : s_impl_withConstraints net list = some r) :
    Gives Try.prog 133 [(.agg #[(.int .i64 net.1), (.int .i64 net.2.1), (.slice pa0 pn0 pc0)]), (.slice pa1 pn1 pc1)] w (fun v w' => ∃ (ra0 : Option Addr) (rn0 rc0 : Nat), v = (.tuple #[(.agg #[(.int .i64 r.1.1), (.int .i64 r.1.2.1), (.slice ra0 rn0 rc0)]), (.bool r.2)]) ∧ Chg [] w w' ∧ (RT.rs (RT.pr (RT.rs (RT.int .i64)) (RT.pr (RT.int .i64) (RT.rs (RT.rs (RT.int .i64)))))).val (Past M w w') w' (.slice ra0 rn0 rc0) r.1.2.2 []) := by
  refine calls_fr Try.func133 rfl Try.ntmps133 (Nat.le_of_ble_eq_true rfl) ?_
  have hO := Own.start (N := Nw w []) hM Nw.fut
  have hC := Chg.refl [] w
  unfold s_impl_withConstraints at hs
  refine wp_mono (Q := KPost (k_impl_withConstraints M w r)) ?_ (fun e a w1 h => ?_)
  rotate_left
  · cases e
    case ret =>
      obtain ⟨σ, rg4, ra0, rn0, rc0, rfl, hbrg4, hrest⟩ := h
      exact ret2x Try.results133 (res_cell rfl (box_load Ag49 Sz49 hbrg4 [] _ [] rfl rfl (fun h => nomatch h))) (res_tmp rfl) ⟨ra0, rn0, rc0, rfl, hrest⟩
    all_goals exact (h : False).elim
  refine c_seq ?_
  refine c_region ?_
  obtain ⟨w3, g3, ew3, eg3, hC3, hb3⟩ := new_block w [(.int .i64 net.1), (.int .i64 net.2.1), (.slice pa0 pn0 pc0)] 49
  refine pl_val (w' := w3) (.pointer (some ⟨g3, 0, none⟩)) (y_box rfl (by rw [ew3, eg3]; kernel_rfl)) ?_
  have h0 := h0.ext hC3
  have h1 := h1.ext hC3
  have hC := hC.ext hC3
  have hO := hO.new (X' := [g3]) hC3 (fun q hq => by rw [List.mem_singleton.1 hq, eg3]; exact Nat.le_refl _) (List.nodup_cons.2 ⟨(fun h => nomatch h), List.nodup_nil⟩) (fun q hq => by rw [List.mem_singleton.1 hq]; exact hb3.lt)
  obtain ⟨w4, g4, ew4, eg4, hC4, hb4⟩ := new_block w3 [(.int .i64 0), (.int .i64 0), (.slice none 0 0)] 49
  refine pl_val (w' := w4) (.pointer (some ⟨g4, 0, none⟩)) (y_alloc (by rw [ew4, eg4]; kernel_rfl)) ?_
  have h0 := h0.ext hC4
  have h1 := h1.ext hC4
  have hb3 := hb3.chg hC4 (fun h => nomatch h)
  have hC := hC.ext hC4
  have hO := hO.new (X' := [g4]) hC4 (fun q hq => by rw [List.mem_singleton.1 hq, eg4]; exact Nat.le_refl _) (List.nodup_cons.2 ⟨(fun h => nomatch h), List.nodup_nil⟩) (fun q hq => by rw [List.mem_singleton.1 hq]; exact hb4.lt)
  refine pl_val (.bool false) (y_assign rfl) ?_
  refine c_nil ?_
  refine c_seq ?_
  refine c_seq ?_
  refine c_region ?_
  refine pl_val (.slice pa1 pn1 pc1) (y_move rfl) ?_
  refine pl_val (.int .i64 (list.length : Int)) (y_len' Sl47 (rs_len h1) rfl) ?_
  refine pl_val (.bool (decide (40 < (list.length : Int)))) (y_gtr rfl rfl) ?_
  refine c_nil ?_
  rcases bif_some hs with ⟨hc5, hs⟩ | ⟨hc5, hs⟩
  · skip
    refine c_condT (congrArg Value.bool hc5) ?_
    refine c_seq ?_
    refine c_region ?_
    refine pl_val (.agg #[(.int .i64 0), (.int .i64 0), (.slice none 0 0)]) (y_build rfl (by kernel_rfl)) ?_
    obtain ⟨w6, hst6, hC6, hb6⟩ := box_store (P := Try.prog) hb4 [] [(.int .i64 0), (.int .i64 0), (.slice none 0 0)] [] [(.int .i64 0), (.int .i64 0), (.slice none 0 0)] rfl rfl (by intro u hu; simp only [List.mem_cons, List.not_mem_nil, or_false] at hu; rcases hu with rfl | rfl | rfl <;> rfl)
    refine pl_skip (w' := w6) (ys_store rfl rfl (hst6 _ _ rfl Sz49)) ?_
    have h0 := h0.mut hC6 (fun g hg => hO.inM g ((fun _ h => h) g hg)) (fun _ _ h => nomatch h)
    have h1 := h1.mut hC6 (fun g hg => hO.inM g ((fun _ h => h) g hg)) (fun _ _ h => nomatch h)
    have hb3 := hb3.chg hC6 (fun hg => hO.apart _ ((fun _ h => h) _ hg) (mem_l (List.mem_singleton.2 rfl)))
    have hC := hC.step hC6 (fun g hg => hO.inN g ((fun _ h => h) g hg))
    have hO := hO.ext hC6
    have hb6 : BoxV w6 g4 49 [(.int .i64 0), (.int .i64 0), (.slice none 0 0)] := hb6
    refine pl_val (.bool false) (y_assign rfl) ?_
    refine c_nil ?_
    refine wp_ret ?_
    cases hs
    exact ⟨_, g4, none, 0, 0, fr_ovl 16 ⟨rfl, rfl, trivial⟩, hb6, hC, rs_nil⟩
  · skip
    refine c_condF (congrArg Value.bool hc5) ?_
    refine wp_skip ?_
    refine c_seq ?_
    refine c_region ?_
    refine pl_val (.pointer (some ⟨g3, 0, none⟩)) (y_faddr rfl Fa49x0) ?_
    refine pl_val (.int .i64 net.1) (y_load rfl ((box_load Ag3 Sz3 hb3 [] [(.int .i64 net.1)] [(.int .i64 net.2.1), (.slice pa0 pn0 pc0)] rfl rfl (fun _ => rfl)) _ (Chg.refl _ _))) ?_
    refine pl_val (.pointer (some ⟨g3, 1, none⟩)) (y_faddr rfl Fa49x1) ?_
    refine pl_val (.int .i64 net.2.1) (y_load rfl ((box_load Ag3 Sz3 hb3 [(.int .i64 net.1)] [(.int .i64 net.2.1)] [(.slice pa0 pn0 pc0)] rfl rfl (fun _ => rfl)) _ (Chg.refl _ _))) ?_
    refine pl_val (.slice pa1 pn1 pc1) (y_move rfl) ?_
    refine pl_val (.agg #[(.int .i64 net.1), (.int .i64 net.2.1), (.slice pa1 pn1 pc1)]) (y_build rfl (by kernel_rfl)) ?_
    obtain ⟨w7, hst7, hC7, hb7⟩ := box_store (P := Try.prog) hb4 [] [(.int .i64 0), (.int .i64 0), (.slice none 0 0)] [] [(.int .i64 net.1), (.int .i64 net.2.1), (.slice pa1 pn1 pc1)] rfl rfl (by intro u hu; simp only [List.mem_cons, List.not_mem_nil, or_false] at hu; rcases hu with rfl | rfl | rfl <;> rfl)
    refine pl_skip (w' := w7) (ys_store rfl rfl (hst7 _ _ rfl Sz49)) ?_
    have h0 := h0.mut hC7 (fun g hg => hO.inM g ((fun _ h => h) g hg)) (fun _ _ h => nomatch h)
    have h1 := h1.mut hC7 (fun g hg => hO.inM g ((fun _ h => h) g hg)) (fun _ _ h => nomatch h)
    have hb3 := hb3.chg hC7 (fun hg => hO.apart _ ((fun _ h => h) _ hg) (mem_l (List.mem_singleton.2 rfl)))
    have hC := hC.step hC7 (fun g hg => hO.inN g ((fun _ h => h) g hg))
    have hO := hO.ext hC7
    have hb7 : BoxV w7 g4 49 [(.int .i64 net.1), (.int .i64 net.2.1), (.slice pa1 pn1 pc1)] := hb7
    refine pl_val (.bool true) (y_assign rfl) ?_
    refine c_nil ?_
    refine wp_ret ?_
    cases hs
    exact ⟨_, g4, pa1, pn1, pc1, fr_ovl 16 ⟨rfl, rfl, trivial⟩, hb7, hC, (Keeps.out Keeps.refl h1)⟩

theorem Bd33 : Bodied Try.prog 33 := bodied Try.func33 (by kernel_rfl) rfl

theorem Bd134 : Bodied Try.prog 134 := bodied Try.func134 (by kernel_rfl) rfl

def k_impl_withConstraints__take1 (M : Nat → Prop) (w0 : World) (qa0 : Option Addr) (qn0 qc0 : Nat) (qf0 : List Nat) (r : (Int × Int × (List ((List Int) × (Int × (List (List Int)))))) × Bool) (a : Act) (w : World) : Prop :=
  ∃ (σ : Nat → Value) (rg4 : Nat) (ra0 : Option Addr) (rn0 rc0 : Nat) (rf0 : List Nat), a = fr 16 (ovl σ [(4, (.pointer (some ⟨rg4, 0, none⟩))), (5, (.bool r.2))]) ∧ BoxV w rg4 49 [(.int .i64 r.1.1), (.int .i64 r.1.2.1), (.slice ra0 rn0 rc0)] ∧ Chg (qf0 ++ ([])) w0 w ∧ (RT.os 108 (RT.pr (RT.os 3 (RT.int .i64)) (RT.pr (RT.int .i64) (RT.os 22 (RT.os 3 (RT.int .i64)))))).val M w (.slice ra0 rn0 rc0) r.1.2.2 rf0 ∧ Own (Nw w0 (qf0 ++ ([]))) (fun _ => True) w (rf0 ++ ([]))
def s_impl_withConstraints__take1 (net : Int × Int × (List ((List Int) × (Int × (List (List Int)))))) (list : List ((List Int) × (Int × (List (List Int))))) : Option ((Int × Int × (List ((List Int) × (Int × (List (List Int)))))) × Bool) :=
  (bif (decide (40 < (list.length : Int))) then some ((0, 0, []), false) else some ((net.1, net.2.1, list), true))
set_option maxHeartbeats 4000000 in
theorem c_impl_withConstraints__take1 {M : Nat → Prop} {w : World} {pa0 : Option Addr} {pn0 pc0 : Nat} {pa1 : Option Addr} {pn1 pc1 : Nat} {pf1 : List Nat} (net : Int × Int × (List ((List Int) × (Int × (List (List Int)))))) (list : List ((List Int) × (Int × (List (List Int))))) (h0 : (RT.rs (RT.pr (RT.rs (RT.int .i64)) (RT.pr (RT.int .i64) (RT.rs (RT.rs (RT.int .i64)))))).val M w (.slice pa0 pn0 pc0) net.2.2 ([])) (h1 : (RT.os 108 (RT.pr (RT.os 3 (RT.int .i64)) (RT.pr (RT.int .i64) (RT.os 22 (RT.os 3 (RT.int .i64)))))).val M w (.slice pa1 pn1 pc1) list pf1) (hI : Own (Nw w (pf1 ++ ([]))) M w (pf1 ++ ([]))) (hM : ∀ g, w.heap.size ≤ g → M g) {r : (Int × Int × (List ((List Int) × (Int × (List (List Int)))))) × Bool} (hs : s_impl_withConstraints__take1 net list = some r) :
    Gives Try.prog 133 [(.agg #[(.int .i64 net.1), (.int .i64 net.2.1), (.slice pa0 pn0 pc0)]), (.slice pa1 pn1 pc1)] w (fun v w' => ∃ (ra0 : Option Addr) (rn0 rc0 : Nat) (rf0 : List Nat), v = (.tuple #[(.agg #[(.int .i64 r.1.1), (.int .i64 r.1.2.1), (.slice ra0 rn0 rc0)]), (.bool r.2)]) ∧ Chg (pf1 ++ ([])) w w' ∧ (RT.os 108 (RT.pr (RT.os 3 (RT.int .i64)) (RT.pr (RT.int .i64) (RT.os 22 (RT.os 3 (RT.int .i64)))))).val M w' (.slice ra0 rn0 rc0) r.1.2.2 rf0 ∧ Own (Nw w (pf1 ++ ([]))) (fun _ => True) w' (rf0 ++ ([]))) := by
  refine calls_fr Try.func133 rfl Try.ntmps133 (Nat.le_of_ble_eq_true rfl) ?_
  have hO := hI
  have hC := Chg.refl (pf1 ++ ([])) w
  unfold s_impl_withConstraints__take1 at hs
  refine wp_mono (Q := KPost (k_impl_withConstraints__take1 M w pa1 pn1 pc1 pf1 r)) ?_ (fun e a w1 h => ?_)
  rotate_left
  · cases e
    case ret =>
      obtain ⟨σ, rg4, ra0, rn0, rc0, rf0, rfl, hbrg4, hrest⟩ := h
      exact ret2x Try.results133 (res_cell rfl (box_load Ag49 Sz49 hbrg4 [] _ [] rfl rfl (fun h => nomatch h))) (res_tmp rfl) ⟨ra0, rn0, rc0, rf0, rfl, hrest⟩
    all_goals exact (h : False).elim
  refine c_seq ?_
  refine c_region ?_
  obtain ⟨w3, g3, ew3, eg3, hC3, hb3⟩ := new_block w [(.int .i64 net.1), (.int .i64 net.2.1), (.slice pa0 pn0 pc0)] 49
  refine pl_val (w' := w3) (.pointer (some ⟨g3, 0, none⟩)) (y_box rfl (by rw [ew3, eg3]; kernel_rfl)) ?_
  have h0 := h0.ext hC3
  have h1 := h1.ext hC3
  have hC := hC.ext hC3
  have hO := hO.new (X' := [g3]) hC3 (fun q hq => by rw [List.mem_singleton.1 hq, eg3]; exact Nat.le_refl _) (List.nodup_cons.2 ⟨(fun h => nomatch h), List.nodup_nil⟩) (fun q hq => by rw [List.mem_singleton.1 hq]; exact hb3.lt)
  obtain ⟨w4, g4, ew4, eg4, hC4, hb4⟩ := new_block w3 [(.int .i64 0), (.int .i64 0), (.slice none 0 0)] 49
  refine pl_val (w' := w4) (.pointer (some ⟨g4, 0, none⟩)) (y_alloc (by rw [ew4, eg4]; kernel_rfl)) ?_
  have h0 := h0.ext hC4
  have h1 := h1.ext hC4
  have hb3 := hb3.chg hC4 (fun h => nomatch h)
  have hC := hC.ext hC4
  have hO := hO.new (X' := [g4]) hC4 (fun q hq => by rw [List.mem_singleton.1 hq, eg4]; exact Nat.le_refl _) (List.nodup_cons.2 ⟨(fun h => nomatch h), List.nodup_nil⟩) (fun q hq => by rw [List.mem_singleton.1 hq]; exact hb4.lt)
  refine pl_val (.bool false) (y_assign rfl) ?_
  refine c_nil ?_
  refine c_seq ?_
  refine c_seq ?_
  refine c_region ?_
  refine pl_val (.slice pa1 pn1 pc1) (y_move rfl) ?_
  refine pl_val (.int .i64 (list.length : Int)) (y_len' Sl47 (os_len h1) rfl) ?_
  refine pl_val (.bool (decide (40 < (list.length : Int)))) (y_gtr rfl rfl) ?_
  refine c_nil ?_
  rcases bif_some hs with ⟨hc5, hs⟩ | ⟨hc5, hs⟩
  · skip
    refine c_condT (congrArg Value.bool hc5) ?_
    refine c_seq ?_
    refine c_region ?_
    refine pl_val (.agg #[(.int .i64 0), (.int .i64 0), (.slice none 0 0)]) (y_build rfl (by kernel_rfl)) ?_
    obtain ⟨w6, hst6, hC6, hb6⟩ := box_store (P := Try.prog) hb4 [] [(.int .i64 0), (.int .i64 0), (.slice none 0 0)] [] [(.int .i64 0), (.int .i64 0), (.slice none 0 0)] rfl rfl (by intro u hu; simp only [List.mem_cons, List.not_mem_nil, or_false] at hu; rcases hu with rfl | rfl | rfl <;> rfl)
    refine pl_skip (w' := w6) (ys_store rfl rfl (hst6 _ _ rfl Sz49)) ?_
    have h0 := h0.mut hC6 (fun g hg => hO.inM g ((fun _ h => h) g hg)) (fun _ _ h => nomatch h)
    have h1 := h1.mut hC6 (fun g hg => hO.inM g ((fun _ h => h) g hg)) (fun g hg e => hO.apart g ((fun _ h => h) g hg) (mem_r (mem_l (e))))
    have hb3 := hb3.chg hC6 (fun hg => hO.apart _ ((fun _ h => h) _ hg) (mem_l (List.mem_singleton.2 rfl)))
    have hC := hC.step hC6 (fun g hg => hO.inN g ((fun _ h => h) g hg))
    have hO := hO.ext hC6
    have hb6 : BoxV w6 g4 49 [(.int .i64 0), (.int .i64 0), (.slice none 0 0)] := hb6
    refine pl_val (.bool false) (y_assign rfl) ?_
    refine c_nil ?_
    refine wp_ret ?_
    cases hs
    have hO := hO.drop
    have hO := hO.drop
    have hO := hO.drop
    have hO := hO.nil
    exact ⟨_, g4, none, 0, 0, [], fr_ovl 16 ⟨rfl, rfl, trivial⟩, hb6, hC, os_nil, hO.top⟩
  · skip
    refine c_condF (congrArg Value.bool hc5) ?_
    refine wp_skip ?_
    refine c_seq ?_
    refine c_region ?_
    refine pl_val (.pointer (some ⟨g3, 0, none⟩)) (y_faddr rfl Fa49x0) ?_
    refine pl_val (.int .i64 net.1) (y_load rfl ((box_load Ag3 Sz3 hb3 [] [(.int .i64 net.1)] [(.int .i64 net.2.1), (.slice pa0 pn0 pc0)] rfl rfl (fun _ => rfl)) _ (Chg.refl _ _))) ?_
    refine pl_val (.pointer (some ⟨g3, 1, none⟩)) (y_faddr rfl Fa49x1) ?_
    refine pl_val (.int .i64 net.2.1) (y_load rfl ((box_load Ag3 Sz3 hb3 [(.int .i64 net.1)] [(.int .i64 net.2.1)] [(.slice pa0 pn0 pc0)] rfl rfl (fun _ => rfl)) _ (Chg.refl _ _))) ?_
    refine pl_val (.slice pa1 pn1 pc1) (y_move rfl) ?_
    refine pl_val (.agg #[(.int .i64 net.1), (.int .i64 net.2.1), (.slice pa1 pn1 pc1)]) (y_build rfl (by kernel_rfl)) ?_
    obtain ⟨w7, hst7, hC7, hb7⟩ := box_store (P := Try.prog) hb4 [] [(.int .i64 0), (.int .i64 0), (.slice none 0 0)] [] [(.int .i64 net.1), (.int .i64 net.2.1), (.slice pa1 pn1 pc1)] rfl rfl (by intro u hu; simp only [List.mem_cons, List.not_mem_nil, or_false] at hu; rcases hu with rfl | rfl | rfl <;> rfl)
    refine pl_skip (w' := w7) (ys_store rfl rfl (hst7 _ _ rfl Sz49)) ?_
    have h0 := h0.mut hC7 (fun g hg => hO.inM g ((fun _ h => h) g hg)) (fun _ _ h => nomatch h)
    have h1 := h1.mut hC7 (fun g hg => hO.inM g ((fun _ h => h) g hg)) (fun g hg e => hO.apart g ((fun _ h => h) g hg) (mem_r (mem_l (e))))
    have hb3 := hb3.chg hC7 (fun hg => hO.apart _ ((fun _ h => h) _ hg) (mem_l (List.mem_singleton.2 rfl)))
    have hC := hC.step hC7 (fun g hg => hO.inN g ((fun _ h => h) g hg))
    have hO := hO.ext hC7
    have hb7 : BoxV w7 g4 49 [(.int .i64 net.1), (.int .i64 net.2.1), (.slice pa1 pn1 pc1)] := hb7
    refine pl_val (.bool true) (y_assign rfl) ?_
    refine c_nil ?_
    refine wp_ret ?_
    cases hs
    have hO := hO.drop
    have hO := hO.drop
    exact ⟨_, g4, pa1, pn1, pc1, pf1, fr_ovl 16 ⟨rfl, rfl, trivial⟩, hb7, hC, h1, hO.top⟩

theorem Bd133 : Bodied Try.prog 133 := bodied Try.func133 (by kernel_rfl) rfl

def k_impl_JoinNetworks (M : Nat → Prop) (w0 : World) (r : (Int × Int × (List ((List Int) × (Int × (List (List Int)))))) × Bool) (a : Act) (w : World) : Prop :=
  ∃ (σ : Nat → Value) (rg4 : Nat) (ra0 : Option Addr) (rn0 rc0 : Nat) (rf0 : List Nat), a = fr 40 (ovl σ [(4, (.pointer (some ⟨rg4, 0, none⟩))), (5, (.bool r.2))]) ∧ BoxV w rg4 49 [(.int .i64 r.1.1), (.int .i64 r.1.2.1), (.slice ra0 rn0 rc0)] ∧ Chg [] w0 w ∧ (RT.os 108 (RT.pr (RT.os 3 (RT.int .i64)) (RT.pr (RT.int .i64) (RT.os 22 (RT.os 3 (RT.int .i64)))))).val M w (.slice ra0 rn0 rc0) r.1.2.2 rf0 ∧ Own (Nw w0 []) (fun _ => True) w (rf0 ++ ([]))
def s_impl_JoinNetworks (x_ : Int × Int × (List ((List Int) × (Int × (List (List Int)))))) (y : Int × Int × (List ((List Int) × (Int × (List (List Int)))))) : Option ((Int × Int × (List ((List Int) × (Int × (List (List Int)))))) × Bool) :=
  ((s_impl_IsNetwork (x_.1, x_.2.1, x_.2.2)).bind fun r10 =>
  (bif (!r10) then some true else (s_impl_IsNetwork (y.1, y.2.1, y.2.2)).bind fun r13 =>
  (bif (!r13) then some true else (bif (x_.1 != y.1) then some true else some (x_.2.1 != y.2.1))))).bind fun s6 =>
  (bif s6 then some ((0, 0, []), false) else (s_impl_cloneConstraints x_.2.2).bind fun r20 =>
  (s_impl_cloneConstraints y.2.2).bind fun r23 =>
  (app r20 r23).bind fun y26 =>
  (s_impl_withConstraints__take1 (x_.1, x_.2.1, x_.2.2) y26).bind fun r29 =>
  some ((r29.1.1, r29.1.2.1, r29.1.2.2), r29.2))
set_option maxHeartbeats 4000000 in
theorem c_impl_JoinNetworks {M : Nat → Prop} {w : World} {pa0 : Option Addr} {pn0 pc0 : Nat} {pa1 : Option Addr} {pn1 pc1 : Nat} (x_ : Int × Int × (List ((List Int) × (Int × (List (List Int)))))) (y : Int × Int × (List ((List Int) × (Int × (List (List Int)))))) (h0 : (RT.rs (RT.pr (RT.rs (RT.int .i64)) (RT.pr (RT.int .i64) (RT.rs (RT.rs (RT.int .i64)))))).val M w (.slice pa0 pn0 pc0) x_.2.2 ([])) (h1 : (RT.rs (RT.pr (RT.rs (RT.int .i64)) (RT.pr (RT.int .i64) (RT.rs (RT.rs (RT.int .i64)))))).val M w (.slice pa1 pn1 pc1) y.2.2 ([])) (hM : ∀ g, w.heap.size ≤ g → M g) {r : (Int × Int × (List ((List Int) × (Int × (List (List Int)))))) × Bool} (hs : s_impl_JoinNetworks x_ y = some r) :
    Gives Try.prog 68 [(.agg #[(.int .i64 x_.1), (.int .i64 x_.2.1), (.slice pa0 pn0 pc0)]), (.agg #[(.int .i64 y.1), (.int .i64 y.2.1), (.slice pa1 pn1 pc1)])] w (fun v w' => ∃ (ra0 : Option Addr) (rn0 rc0 : Nat) (rf0 : List Nat), v = (.tuple #[(.agg #[(.int .i64 r.1.1), (.int .i64 r.1.2.1), (.slice ra0 rn0 rc0)]), (.bool r.2)]) ∧ Chg [] w w' ∧ (RT.os 108 (RT.pr (RT.os 3 (RT.int .i64)) (RT.pr (RT.int .i64) (RT.os 22 (RT.os 3 (RT.int .i64)))))).val M w' (.slice ra0 rn0 rc0) r.1.2.2 rf0 ∧ Own (Nw w []) (fun _ => True) w' (rf0 ++ ([]))) := by
  refine calls_fr Try.func68 rfl Try.ntmps68 (Nat.le_of_ble_eq_true rfl) ?_
  have hO := Own.start (N := Nw w []) hM Nw.fut
  have hC := Chg.refl [] w
  unfold s_impl_JoinNetworks at hs
  refine wp_mono (Q := KPost (k_impl_JoinNetworks M w r)) ?_ (fun e a w1 h => ?_)
  rotate_left
  · cases e
    case ret =>
      obtain ⟨σ, rg4, ra0, rn0, rc0, rf0, rfl, hbrg4, hrest⟩ := h
      exact ret2x Try.results68 (res_cell rfl (box_load Ag49 Sz49 hbrg4 [] _ [] rfl rfl (fun h => nomatch h))) (res_tmp rfl) ⟨ra0, rn0, rc0, rf0, rfl, hrest⟩
    all_goals exact (h : False).elim
  refine c_seq ?_
  refine c_region ?_
  obtain ⟨w3, g3, ew3, eg3, hC3, hb3⟩ := new_block w [(.int .i64 x_.1), (.int .i64 x_.2.1), (.slice pa0 pn0 pc0)] 49
  refine pl_val (w' := w3) (.pointer (some ⟨g3, 0, none⟩)) (y_box rfl (by rw [ew3, eg3]; kernel_rfl)) ?_
  have h0 := h0.ext hC3
  have h1 := h1.ext hC3
  have hC := hC.ext hC3
  have hO := hO.new (X' := [g3]) hC3 (fun q hq => by rw [List.mem_singleton.1 hq, eg3]; exact Nat.le_refl _) (List.nodup_cons.2 ⟨(fun h => nomatch h), List.nodup_nil⟩) (fun q hq => by rw [List.mem_singleton.1 hq]; exact hb3.lt)
  obtain ⟨w4, g4, ew4, eg4, hC4, hb4⟩ := new_block w3 [(.int .i64 y.1), (.int .i64 y.2.1), (.slice pa1 pn1 pc1)] 49
  refine pl_val (w' := w4) (.pointer (some ⟨g4, 0, none⟩)) (y_box rfl (by rw [ew4, eg4]; kernel_rfl)) ?_
  have h0 := h0.ext hC4
  have h1 := h1.ext hC4
  have hb3 := hb3.chg hC4 (fun h => nomatch h)
  have hC := hC.ext hC4
  have hO := hO.new (X' := [g4]) hC4 (fun q hq => by rw [List.mem_singleton.1 hq, eg4]; exact Nat.le_refl _) (List.nodup_cons.2 ⟨(fun h => nomatch h), List.nodup_nil⟩) (fun q hq => by rw [List.mem_singleton.1 hq]; exact hb4.lt)
  obtain ⟨w5, g5, ew5, eg5, hC5, hb5⟩ := new_block w4 [(.int .i64 0), (.int .i64 0), (.slice none 0 0)] 49
  refine pl_val (w' := w5) (.pointer (some ⟨g5, 0, none⟩)) (y_alloc (by rw [ew5, eg5]; kernel_rfl)) ?_
  have h0 := h0.ext hC5
  have h1 := h1.ext hC5
  have hb3 := hb3.chg hC5 (fun h => nomatch h)
  have hb4 := hb4.chg hC5 (fun h => nomatch h)
  have hC := hC.ext hC5
  have hO := hO.new (X' := [g5]) hC5 (fun q hq => by rw [List.mem_singleton.1 hq, eg5]; exact Nat.le_refl _) (List.nodup_cons.2 ⟨(fun h => nomatch h), List.nodup_nil⟩) (fun q hq => by rw [List.mem_singleton.1 hq]; exact hb5.lt)
  refine pl_val (.bool false) (y_assign rfl) ?_
  refine c_nil ?_
  refine c_seq ?_
  refine c_seq ?_
  obtain ⟨s6, hm8, hs⟩ := bind_some hs
  refine c_mid (I := fun a w7 => ∃ (σ : Nat → Value), a = fr 40 (ovl σ [(2, (.pointer (some ⟨g3, 0, none⟩))), (3, (.pointer (some ⟨g4, 0, none⟩))), (4, (.pointer (some ⟨g5, 0, none⟩))), (5, (.bool false)), (27, (.bool s6))]) ∧ Chg [] w5 w7) ?_ ?_
  · replace hs := hm8
    have hMid := Chg.refl [] w5
    refine c_region ?_
    refine pl_val (.agg #[(.int .i64 x_.1), (.int .i64 x_.2.1), (.slice pa0 pn0 pc0)]) (y_load rfl ((box_load Ag49 Sz49 hb3 [] [(.int .i64 x_.1), (.int .i64 x_.2.1), (.slice pa0 pn0 pc0)] [] rfl rfl (fun h => nomatch h)) _ (Chg.refl _ _))) ?_
    obtain ⟨r10, hr10, hs⟩ := bind_some hs
    refine pl_call Bd33 rfl (c_impl_IsNetwork (M := M) (x_.1, x_.2.1, x_.2.2) h0 hO.fut hr10) ?_
    rintro _ w9 ⟨rfl, hC9⟩
    have h0 := h0.ext hC9
    have h1 := h1.ext hC9
    have hb3 := hb3.chg hC9 (fun h => nomatch h)
    have hb4 := hb4.chg hC9 (fun h => nomatch h)
    have hb5 := hb5.chg hC9 (fun h => nomatch h)
    have hMid := hMid.ext hC9
    have hC := hC.ext hC9
    have hO := hO.ext hC9
    refine pl_val (.bool (!r10)) (y_not rfl) ?_
    refine pl_val (.bool (!r10)) (y_move rfl) ?_
    rcases bif_some hs with ⟨hc11, hs⟩ | ⟨hc11, hs⟩
    · skip
      refine pl_not (tg := 9) (by kernel_rfl) (congrArg Value.bool hc11) ?_
      refine pl_not (tg := 9) (by kernel_rfl) (congrArg Value.bool hc11) ?_
      refine pl_not (tg := 9) (by kernel_rfl) (congrArg Value.bool hc11) ?_
      refine pl_val (.bool true) (y_pick_t (congrArg Value.bool hc11) rfl) ?_
      refine pl_val (.bool true) (y_move rfl) ?_
      refine pl_not (tg := 14) (by kernel_rfl) (by rfl) ?_
      refine pl_not (tg := 14) (by kernel_rfl) (by rfl) ?_
      refine pl_not (tg := 14) (by kernel_rfl) (by rfl) ?_
      refine pl_not (tg := 14) (by kernel_rfl) (by rfl) ?_
      refine pl_not (tg := 14) (by kernel_rfl) (by rfl) ?_
      refine pl_val (.bool true) (y_pick_t (by rfl) rfl) ?_
      refine pl_val (.bool true) (y_move rfl) ?_
      refine pl_not (tg := 21) (by kernel_rfl) (by rfl) ?_
      refine pl_not (tg := 21) (by kernel_rfl) (by rfl) ?_
      refine pl_not (tg := 21) (by kernel_rfl) (by rfl) ?_
      refine pl_not (tg := 21) (by kernel_rfl) (by rfl) ?_
      refine pl_not (tg := 21) (by kernel_rfl) (by rfl) ?_
      refine pl_val (.bool true) (y_pick_t (by rfl) rfl) ?_
      refine c_nil ?_
      cases hs
      exact ⟨_, fr_ovl 40 ⟨rfl, rfl, rfl, rfl, rfl, trivial⟩, hMid⟩
    · skip
      refine pl_yes (.agg #[(.int .i64 y.1), (.int .i64 y.2.1), (.slice pa1 pn1 pc1)]) (tg := 9) (by kernel_rfl) (congrArg Value.bool hc11) (y_load rfl ((box_load Ag49 Sz49 hb4 [] [(.int .i64 y.1), (.int .i64 y.2.1), (.slice pa1 pn1 pc1)] [] rfl rfl (fun h => nomatch h)) _ (Chg.refl _ _))) ?_
      obtain ⟨r13, hr13, hs⟩ := bind_some hs
      refine pl_cally (tg := 9) (by kernel_rfl) (congrArg Value.bool hc11) Bd33 rfl (c_impl_IsNetwork (M := M) (y.1, y.2.1, y.2.2) h1 hO.fut hr13) ?_
      rintro _ w12 ⟨rfl, hC12⟩
      have h0 := h0.ext hC12
      have h1 := h1.ext hC12
      have hb3 := hb3.chg hC12 (fun h => nomatch h)
      have hb4 := hb4.chg hC12 (fun h => nomatch h)
      have hb5 := hb5.chg hC12 (fun h => nomatch h)
      have hMid := hMid.ext hC12
      have hC := hC.ext hC12
      have hO := hO.ext hC12
      refine pl_yes (.bool (!r13)) (tg := 9) (by kernel_rfl) (congrArg Value.bool hc11) (y_not rfl) ?_
      refine pl_val (.bool (!r13)) (y_pick_f (congrArg Value.bool hc11) rfl) ?_
      refine pl_val (.bool (!r13)) (y_move rfl) ?_
      rcases bif_some hs with ⟨hc14, hs⟩ | ⟨hc14, hs⟩
      · skip
        refine pl_not (tg := 14) (by kernel_rfl) (congrArg Value.bool hc14) ?_
        refine pl_not (tg := 14) (by kernel_rfl) (congrArg Value.bool hc14) ?_
        refine pl_not (tg := 14) (by kernel_rfl) (congrArg Value.bool hc14) ?_
        refine pl_not (tg := 14) (by kernel_rfl) (congrArg Value.bool hc14) ?_
        refine pl_not (tg := 14) (by kernel_rfl) (congrArg Value.bool hc14) ?_
        refine pl_val (.bool true) (y_pick_t (congrArg Value.bool hc14) rfl) ?_
        refine pl_val (.bool true) (y_move rfl) ?_
        refine pl_not (tg := 21) (by kernel_rfl) (by rfl) ?_
        refine pl_not (tg := 21) (by kernel_rfl) (by rfl) ?_
        refine pl_not (tg := 21) (by kernel_rfl) (by rfl) ?_
        refine pl_not (tg := 21) (by kernel_rfl) (by rfl) ?_
        refine pl_not (tg := 21) (by kernel_rfl) (by rfl) ?_
        refine pl_val (.bool true) (y_pick_t (by rfl) rfl) ?_
        refine c_nil ?_
        cases hs
        exact ⟨_, fr_ovl 40 ⟨rfl, rfl, rfl, rfl, rfl, trivial⟩, hMid⟩
      · skip
        refine pl_yes (.pointer (some ⟨g3, 0, none⟩)) (tg := 14) (by kernel_rfl) (congrArg Value.bool hc14) (y_faddr rfl Fa49x0) ?_
        refine pl_yes (.int .i64 x_.1) (tg := 14) (by kernel_rfl) (congrArg Value.bool hc14) (y_load rfl ((box_load Ag3 Sz3 hb3 [] [(.int .i64 x_.1)] [(.int .i64 x_.2.1), (.slice pa0 pn0 pc0)] rfl rfl (fun _ => rfl)) _ (Chg.refl _ _))) ?_
        refine pl_yes (.pointer (some ⟨g4, 0, none⟩)) (tg := 14) (by kernel_rfl) (congrArg Value.bool hc14) (y_faddr rfl Fa49x0) ?_
        refine pl_yes (.int .i64 y.1) (tg := 14) (by kernel_rfl) (congrArg Value.bool hc14) (y_load rfl ((box_load Ag3 Sz3 hb4 [] [(.int .i64 y.1)] [(.int .i64 y.2.1), (.slice pa1 pn1 pc1)] rfl rfl (fun _ => rfl)) _ (Chg.refl _ _))) ?_
        refine pl_yes (.bool (x_.1 != y.1)) (tg := 14) (by kernel_rfl) (congrArg Value.bool hc14) (y_neq rfl rfl) ?_
        refine pl_val (.bool (x_.1 != y.1)) (y_pick_f (congrArg Value.bool hc14) rfl) ?_
        refine pl_val (.bool (x_.1 != y.1)) (y_move rfl) ?_
        rcases bif_some hs with ⟨hc15, hs⟩ | ⟨hc15, hs⟩
        · skip
          refine pl_not (tg := 21) (by kernel_rfl) (congrArg Value.bool hc15) ?_
          refine pl_not (tg := 21) (by kernel_rfl) (congrArg Value.bool hc15) ?_
          refine pl_not (tg := 21) (by kernel_rfl) (congrArg Value.bool hc15) ?_
          refine pl_not (tg := 21) (by kernel_rfl) (congrArg Value.bool hc15) ?_
          refine pl_not (tg := 21) (by kernel_rfl) (congrArg Value.bool hc15) ?_
          refine pl_val (.bool true) (y_pick_t (congrArg Value.bool hc15) rfl) ?_
          refine c_nil ?_
          cases hs
          exact ⟨_, fr_ovl 40 ⟨rfl, rfl, rfl, rfl, rfl, trivial⟩, hMid⟩
        · skip
          refine pl_yes (.pointer (some ⟨g3, 1, none⟩)) (tg := 21) (by kernel_rfl) (congrArg Value.bool hc15) (y_faddr rfl Fa49x1) ?_
          refine pl_yes (.int .i64 x_.2.1) (tg := 21) (by kernel_rfl) (congrArg Value.bool hc15) (y_load rfl ((box_load Ag3 Sz3 hb3 [(.int .i64 x_.1)] [(.int .i64 x_.2.1)] [(.slice pa0 pn0 pc0)] rfl rfl (fun _ => rfl)) _ (Chg.refl _ _))) ?_
          refine pl_yes (.pointer (some ⟨g4, 1, none⟩)) (tg := 21) (by kernel_rfl) (congrArg Value.bool hc15) (y_faddr rfl Fa49x1) ?_
          refine pl_yes (.int .i64 y.2.1) (tg := 21) (by kernel_rfl) (congrArg Value.bool hc15) (y_load rfl ((box_load Ag3 Sz3 hb4 [(.int .i64 y.1)] [(.int .i64 y.2.1)] [(.slice pa1 pn1 pc1)] rfl rfl (fun _ => rfl)) _ (Chg.refl _ _))) ?_
          refine pl_yes (.bool (x_.2.1 != y.2.1)) (tg := 21) (by kernel_rfl) (congrArg Value.bool hc15) (y_neq rfl rfl) ?_
          refine pl_val (.bool (x_.2.1 != y.2.1)) (y_pick_f (congrArg Value.bool hc15) rfl) ?_
          refine c_nil ?_
          cases hs
          exact ⟨_, fr_ovl 40 ⟨rfl, rfl, rfl, rfl, rfl, trivial⟩, hMid⟩
  · rintro a1 w7 ⟨σ, rfl, hCs6⟩
    have h0 := h0.ext hCs6
    have h1 := h1.ext hCs6
    have hb3 := hb3.chg hCs6 (fun h => nomatch h)
    have hb4 := hb4.chg hCs6 (fun h => nomatch h)
    have hb5 := hb5.chg hCs6 (fun h => nomatch h)
    have hC := hC.ext hCs6
    have hO := hO.ext hCs6
    rcases bif_some hs with ⟨hc16, hs⟩ | ⟨hc16, hs⟩
    · skip
      refine c_condT (congrArg Value.bool hc16) ?_
      refine c_seq ?_
      refine c_region ?_
      refine pl_val (.agg #[(.int .i64 0), (.int .i64 0), (.slice none 0 0)]) (y_build rfl (by kernel_rfl)) ?_
      obtain ⟨w17, hst17, hC17, hb17⟩ := box_store (P := Try.prog) hb5 [] [(.int .i64 0), (.int .i64 0), (.slice none 0 0)] [] [(.int .i64 0), (.int .i64 0), (.slice none 0 0)] rfl rfl (by intro u hu; simp only [List.mem_cons, List.not_mem_nil, or_false] at hu; rcases hu with rfl | rfl | rfl <;> rfl)
      refine pl_skip (w' := w17) (ys_store rfl rfl (hst17 _ _ rfl Sz49)) ?_
      have h0 := h0.mut hC17 (fun g hg => hO.inM g ((fun _ h => h) g hg)) (fun _ _ h => nomatch h)
      have h1 := h1.mut hC17 (fun g hg => hO.inM g ((fun _ h => h) g hg)) (fun _ _ h => nomatch h)
      have hb3 := hb3.chg hC17 (fun hg => hO.apart _ ((fun _ h => h) _ hg) (mem_r (mem_l (List.mem_singleton.2 rfl))))
      have hb4 := hb4.chg hC17 (fun hg => hO.apart _ ((fun _ h => h) _ hg) (mem_l (List.mem_singleton.2 rfl)))
      have hC := hC.step hC17 (fun g hg => hO.inN g ((fun _ h => h) g hg))
      have hO := hO.ext hC17
      have hb17 : BoxV w17 g5 49 [(.int .i64 0), (.int .i64 0), (.slice none 0 0)] := hb17
      refine pl_val (.bool false) (y_assign rfl) ?_
      refine c_nil ?_
      refine wp_ret ?_
      cases hs
      have hO := hO.drop
      have hO := hO.drop
      have hO := hO.drop
      have hO := hO.nil
      exact ⟨_, g5, none, 0, 0, [], fr_ovl 40 ⟨rfl, rfl, trivial⟩, hb17, hC, os_nil, hO.top⟩
    · skip
      refine c_condF (congrArg Value.bool hc16) ?_
      refine wp_skip ?_
      refine c_seq ?_
      refine x_start [7, 8, 11] Mx rfl ?_
      have hCw18 := Chg.drew w7
      generalize World.drew w7 = w18 at hCw18 ⊢
      have h0 := h0.ext hCw18
      have h1 := h1.ext hCw18
      have hb3 := hb3.chg hCw18 (fun h => nomatch h)
      have hb4 := hb4.chg hCw18 (fun h => nomatch h)
      have hb5 := hb5.chg hCw18 (fun h => nomatch h)
      have hC := hC.ext hCw18
      have hO := hO.ext hCw18
      have hS := Chg.refl [] w18
      refine x_p 1 (.pointer (some ⟨g3, 2, none⟩)) rfl (by kernel_rfl)  (fun _ => y_faddr rfl Fa49x2) (fun _ => hS) ?_
      refine x_l 2 (.slice pa0 pn0 pc0) rfl (by kernel_rfl)  (fun w' hw' => y_load rfl ((box_load Ag47 Sz47 hb3 [(.int .i64 x_.1), (.int .i64 x_.2.1)] [(.slice pa0 pn0 pc0)] [] rfl rfl (fun _ => rfl)) w' hw')) hS ?_
      refine x_p 4 (.pointer (some ⟨g4, 2, none⟩)) rfl (by kernel_rfl)  (fun _ => y_faddr rfl Fa49x2) (fun _ => hS) ?_
      refine x_l 5 (.slice pa1 pn1 pc1) rfl (by kernel_rfl)  (fun w' hw' => y_load rfl ((box_load Ag47 Sz47 hb4 [(.int .i64 y.1), (.int .i64 y.2.1)] [(.slice pa1 pn1 pc1)] [] rfl rfl (fun _ => rfl)) w' hw')) hS ?_
      refine x_two (i := 0) (j := 3) (by kernel_rfl) ?_ ?_
      · skip
        refine xk_val (b := false) (.agg #[(.int .i64 x_.1), (.int .i64 x_.2.1), (.slice pa0 pn0 pc0)]) rfl  (y_load rfl ((box_load Ag49 Sz49 hb3 [] [(.int .i64 x_.1), (.int .i64 x_.2.1), (.slice pa0 pn0 pc0)] [] rfl rfl (fun h => nomatch h)) _ (Chg.refl _ _))) rfl (fun _ => hS) ?_
        refine x_one (i := 3) (by kernel_rfl) ?_
        obtain ⟨r20, hr20, hs⟩ := bind_some hs
        refine xk_call (b := false) rfl  Bd134 rfl (c_impl_cloneConstraints (M := M) x_.2.2 h0 hO.fut hr20) rfl (by rintro _ _ _ ⟨a19x0, n19x0, c19x0, f19x0, rfl, hC19, hv19x0, hOc19⟩; exact hS.ext hC19) ?_
        rintro _ w19 ⟨a19x0, n19x0, c19x0, f19x0, rfl, hC19, hv19x0, hOc19⟩
        have h0 := h0.ext hC19
        have h1 := h1.ext hC19
        have hb3 := hb3.chg hC19 (fun h => nomatch h)
        have hb4 := hb4.chg hC19 (fun h => nomatch h)
        have hb5 := hb5.chg hC19 (fun h => nomatch h)
        have hC := hC.ext hC19
        have hO := Own.join0 hO hC19 hOc19
        have hO := hO.perm (R := f19x0 ++ (([g5]) ++ (([g4]) ++ (([g3]) ++ ([]))))) (by simp)
        have hS := hS.ext hC19
        refine x_one (i := 6) (by kernel_rfl) ?_
        obtain ⟨r23, hr23, hs⟩ := bind_some hs
        refine xk_call (b := false) rfl  Bd134 rfl (c_impl_cloneConstraints (M := M) y.2.2 h1 hO.fut hr23) rfl (by rintro _ _ _ ⟨a22x0, n22x0, c22x0, f22x0, rfl, hC22, hv22x0, hOc22⟩; exact hS.ext hC22) ?_
        rintro _ w22 ⟨a22x0, n22x0, c22x0, f22x0, rfl, hC22, hv22x0, hOc22⟩
        have h0 := h0.ext hC22
        have h1 := h1.ext hC22
        have hb3 := hb3.chg hC22 (fun h => nomatch h)
        have hb4 := hb4.chg hC22 (fun h => nomatch h)
        have hb5 := hb5.chg hC22 (fun h => nomatch h)
        have hv19x0 := hv19x0.ext hC22
        have hC := hC.ext hC22
        have hO := Own.join0 hO hC22 hOc22
        have hO := hO.perm (R := f22x0 ++ (f19x0 ++ (([g5]) ++ (([g4]) ++ (([g3]) ++ ([])))))) (by simp)
        have hS := hS.ext hC22
        refine x_one (i := 7) (by kernel_rfl) ?_
        obtain ⟨y26, hy26, hs⟩ := bind_some hs
        have hO := hO.fr1
        obtain ⟨a25, n25, c25, w25, f25, hr25, hC25, hf25, hv25⟩ := app_os Rw47 hy26 hv19x0 hv22x0 hO.inM (fun g hg hq => hO.apart g hq (mem_l hg))
        have hG25 := os_block hv19x0
        refine xk_val (w' := w25) (b := true) (.slice a25 n25 c25) rfl  (y_append rfl rfl (hr25 _)) rfl (fun h => nomatch h) ?_
        have hO := hO.fr1
        have hO := hO.fr1
        have h0 := h0.mut hC25 (fun g hg => hO.inM g (hG25 g hg)) (fun _ _ h => nomatch h)
        have h1 := h1.mut hC25 (fun g hg => hO.inM g (hG25 g hg)) (fun _ _ h => nomatch h)
        have hb3 := hb3.chg hC25 (fun hg => hO.apart _ (hG25 _ hg) (mem_r (mem_r (mem_r (mem_l (List.mem_singleton.2 rfl))))))
        have hb4 := hb4.chg hC25 (fun hg => hO.apart _ (hG25 _ hg) (mem_r (mem_r (mem_l (List.mem_singleton.2 rfl)))))
        have hb5 := hb5.chg hC25 (fun hg => hO.apart _ (hG25 _ hg) (mem_r (mem_l (List.mem_singleton.2 rfl))))
        have hC := hC.step hC25 (fun g hg => hO.inN g (hG25 g hg))
        have hO := hO.eat hC25 hf25 (os_nodup hv25) hv25.fpl
        refine x_one (i := 8) (by kernel_rfl) ?_
        have hL28 := hO
        have hI28 := Own.lend (F := (f25 ++ ([]))) (R := ([g5]) ++ (([g4]) ++ (([g3]) ++ ([])))) (Own.perm (hL28) (by simp))
        obtain ⟨r29, hr29, hs⟩ := bind_some hs
        refine xk_call (b := true) rfl  Bd133 rfl (c_impl_withConstraints__take1 (M := M) (x_.1, x_.2.1, x_.2.2) y26 h0 hv25 hI28 hI28.fut hr29) rfl (fun h => nomatch h) ?_
        rintro _ w28 ⟨a28x0, n28x0, c28x0, f28x0, rfl, hC28, hv28x0, hOc28⟩
        have hO := hO.perm (R := (f25 ++ ([])) ++ (([g5]) ++ (([g4]) ++ (([g3]) ++ ([]))))) (by simp)
        have h0 := h0.mut hC28 (fun g hg => hO.inM g ((fun _ h => h) g hg)) (fun _ _ h => nomatch h)
        have h1 := h1.mut hC28 (fun g hg => hO.inM g ((fun _ h => h) g hg)) (fun _ _ h => nomatch h)
        have hb3 := hb3.chg hC28 (fun hg => hO.apart _ ((fun _ h => h) _ hg) (mem_r (mem_r (mem_l (List.mem_singleton.2 rfl)))))
        have hb4 := hb4.chg hC28 (fun hg => hO.apart _ ((fun _ h => h) _ hg) (mem_r (mem_l (List.mem_singleton.2 rfl))))
        have hb5 := hb5.chg hC28 (fun hg => hO.apart _ ((fun _ h => h) _ hg) (mem_l (List.mem_singleton.2 rfl)))
        have hC := hC.step hC28 (fun g hg => hO.inN g ((fun _ h => h) g hg))
        have hO := Own.join hO hC28 hOc28
        have hO := hO.perm (R := f28x0 ++ (([g5]) ++ (([g4]) ++ (([g3]) ++ ([]))))) (by simp)
        refine x_p 9 (.agg #[(.int .i64 r29.1.1), (.int .i64 r29.1.2.1), (.slice a28x0 n28x0 c28x0)]) rfl (by kernel_rfl)  (fun _ => y_extract rfl (by kernel_rfl)) (fun h => nomatch h) ?_
        refine x_p 10 (.bool r29.2) rfl (by kernel_rfl)  (fun _ => y_extract rfl (by kernel_rfl)) (fun h => nomatch h) ?_
        refine x_one (i := 11) (by kernel_rfl) ?_
        obtain ⟨w31, hst31, hC31, hb31⟩ := box_store (P := Try.prog) hb5 [] [(.int .i64 0), (.int .i64 0), (.slice none 0 0)] [] [(.int .i64 r29.1.1), (.int .i64 r29.1.2.1), (.slice a28x0 n28x0 c28x0)] rfl rfl (by intro u hu; simp only [List.mem_cons, List.not_mem_nil, or_false] at hu; rcases hu with rfl | rfl | rfl <;> rfl)
        refine xk_skip (w' := w31) (b := true) rfl (ys_store rfl rfl (hst31 _ _ rfl Sz49)) rfl (fun h => nomatch h) ?_
        have hO := hO.fr1
        have h0 := h0.mut hC31 (fun g hg => hO.inM g ((fun _ h => h) g hg)) (fun _ _ h => nomatch h)
        have h1 := h1.mut hC31 (fun g hg => hO.inM g ((fun _ h => h) g hg)) (fun _ _ h => nomatch h)
        have hb3 := hb3.chg hC31 (fun hg => hO.apart _ ((fun _ h => h) _ hg) (mem_r (mem_r (mem_l (List.mem_singleton.2 rfl)))))
        have hb4 := hb4.chg hC31 (fun hg => hO.apart _ ((fun _ h => h) _ hg) (mem_r (mem_l (List.mem_singleton.2 rfl))))
        have hv28x0 := hv28x0.mut hC31 (fun g hg => hO.inM g ((fun _ h => h) g hg)) (fun g hg e => hO.apart g ((fun _ h => h) g hg) (mem_l (e)))
        have hC := hC.step hC31 (fun g hg => hO.inN g ((fun _ h => h) g hg))
        have hO := hO.ext hC31
        have hb31 : BoxV w31 g5 49 [(.int .i64 r29.1.1), (.int .i64 r29.1.2.1), (.slice a28x0 n28x0 c28x0)] := hb31
        refine x_p 12 (.bool r29.2) rfl (by kernel_rfl)  (fun _ => y_assign rfl) (fun h => nomatch h) ?_
        refine x_end (by kernel_rfl) ?_
        clear hS
        refine wp_ret ?_
        cases hs
        have hO := hO.drop
        have hO := hO.fr1
        have hO := hO.drop
        have hO := hO.fr1
        have hO := hO.drop
        exact ⟨_, g5, a28x0, n28x0, c28x0, f28x0, fr_ovl 40 ⟨rfl, rfl, trivial⟩, hb31, hC, hv28x0, hO.top⟩
      · skip
        obtain ⟨r20, hr20, hs⟩ := bind_some hs
        refine xk_call (b := false) rfl  Bd134 rfl (c_impl_cloneConstraints (M := M) x_.2.2 h0 hO.fut hr20) rfl (by rintro _ _ _ ⟨a32x0, n32x0, c32x0, f32x0, rfl, hC32, hv32x0, hOc32⟩; exact hS.ext hC32) ?_
        rintro _ w32 ⟨a32x0, n32x0, c32x0, f32x0, rfl, hC32, hv32x0, hOc32⟩
        have h0 := h0.ext hC32
        have h1 := h1.ext hC32
        have hb3 := hb3.chg hC32 (fun h => nomatch h)
        have hb4 := hb4.chg hC32 (fun h => nomatch h)
        have hb5 := hb5.chg hC32 (fun h => nomatch h)
        have hC := hC.ext hC32
        have hO := Own.join0 hO hC32 hOc32
        have hO := hO.perm (R := f32x0 ++ (([g5]) ++ (([g4]) ++ (([g3]) ++ ([]))))) (by simp)
        have hS := hS.ext hC32
        refine x_two (i := 0) (j := 6) (by kernel_rfl) ?_ ?_
        · skip
          refine xk_val (b := false) (.agg #[(.int .i64 x_.1), (.int .i64 x_.2.1), (.slice pa0 pn0 pc0)]) rfl  (y_load rfl ((box_load Ag49 Sz49 hb3 [] [(.int .i64 x_.1), (.int .i64 x_.2.1), (.slice pa0 pn0 pc0)] [] rfl rfl (fun h => nomatch h)) _ (Chg.refl _ _))) rfl (fun _ => hS) ?_
          refine x_one (i := 6) (by kernel_rfl) ?_
          obtain ⟨r23, hr23, hs⟩ := bind_some hs
          refine xk_call (b := false) rfl  Bd134 rfl (c_impl_cloneConstraints (M := M) y.2.2 h1 hO.fut hr23) rfl (by rintro _ _ _ ⟨a35x0, n35x0, c35x0, f35x0, rfl, hC35, hv35x0, hOc35⟩; exact hS.ext hC35) ?_
          rintro _ w35 ⟨a35x0, n35x0, c35x0, f35x0, rfl, hC35, hv35x0, hOc35⟩
          have h0 := h0.ext hC35
          have h1 := h1.ext hC35
          have hb3 := hb3.chg hC35 (fun h => nomatch h)
          have hb4 := hb4.chg hC35 (fun h => nomatch h)
          have hb5 := hb5.chg hC35 (fun h => nomatch h)
          have hv32x0 := hv32x0.ext hC35
          have hC := hC.ext hC35
          have hO := Own.join0 hO hC35 hOc35
          have hO := hO.perm (R := f35x0 ++ (f32x0 ++ (([g5]) ++ (([g4]) ++ (([g3]) ++ ([])))))) (by simp)
          have hS := hS.ext hC35
          refine x_one (i := 7) (by kernel_rfl) ?_
          obtain ⟨y26, hy26, hs⟩ := bind_some hs
          have hO := hO.fr1
          obtain ⟨a38, n38, c38, w38, f38, hr38, hC38, hf38, hv38⟩ := app_os Rw47 hy26 hv32x0 hv35x0 hO.inM (fun g hg hq => hO.apart g hq (mem_l hg))
          have hG38 := os_block hv32x0
          refine xk_val (w' := w38) (b := true) (.slice a38 n38 c38) rfl  (y_append rfl rfl (hr38 _)) rfl (fun h => nomatch h) ?_
          have hO := hO.fr1
          have hO := hO.fr1
          have h0 := h0.mut hC38 (fun g hg => hO.inM g (hG38 g hg)) (fun _ _ h => nomatch h)
          have h1 := h1.mut hC38 (fun g hg => hO.inM g (hG38 g hg)) (fun _ _ h => nomatch h)
          have hb3 := hb3.chg hC38 (fun hg => hO.apart _ (hG38 _ hg) (mem_r (mem_r (mem_r (mem_l (List.mem_singleton.2 rfl))))))
          have hb4 := hb4.chg hC38 (fun hg => hO.apart _ (hG38 _ hg) (mem_r (mem_r (mem_l (List.mem_singleton.2 rfl)))))
          have hb5 := hb5.chg hC38 (fun hg => hO.apart _ (hG38 _ hg) (mem_r (mem_l (List.mem_singleton.2 rfl))))
          have hC := hC.step hC38 (fun g hg => hO.inN g (hG38 g hg))
          have hO := hO.eat hC38 hf38 (os_nodup hv38) hv38.fpl
          refine x_one (i := 8) (by kernel_rfl) ?_
          have hL41 := hO
          have hI41 := Own.lend (F := (f38 ++ ([]))) (R := ([g5]) ++ (([g4]) ++ (([g3]) ++ ([])))) (Own.perm (hL41) (by simp))
          obtain ⟨r29, hr29, hs⟩ := bind_some hs
          refine xk_call (b := true) rfl  Bd133 rfl (c_impl_withConstraints__take1 (M := M) (x_.1, x_.2.1, x_.2.2) y26 h0 hv38 hI41 hI41.fut hr29) rfl (fun h => nomatch h) ?_
          rintro _ w41 ⟨a41x0, n41x0, c41x0, f41x0, rfl, hC41, hv41x0, hOc41⟩
          have hO := hO.perm (R := (f38 ++ ([])) ++ (([g5]) ++ (([g4]) ++ (([g3]) ++ ([]))))) (by simp)
          have h0 := h0.mut hC41 (fun g hg => hO.inM g ((fun _ h => h) g hg)) (fun _ _ h => nomatch h)
          have h1 := h1.mut hC41 (fun g hg => hO.inM g ((fun _ h => h) g hg)) (fun _ _ h => nomatch h)
          have hb3 := hb3.chg hC41 (fun hg => hO.apart _ ((fun _ h => h) _ hg) (mem_r (mem_r (mem_l (List.mem_singleton.2 rfl)))))
          have hb4 := hb4.chg hC41 (fun hg => hO.apart _ ((fun _ h => h) _ hg) (mem_r (mem_l (List.mem_singleton.2 rfl))))
          have hb5 := hb5.chg hC41 (fun hg => hO.apart _ ((fun _ h => h) _ hg) (mem_l (List.mem_singleton.2 rfl)))
          have hC := hC.step hC41 (fun g hg => hO.inN g ((fun _ h => h) g hg))
          have hO := Own.join hO hC41 hOc41
          have hO := hO.perm (R := f41x0 ++ (([g5]) ++ (([g4]) ++ (([g3]) ++ ([]))))) (by simp)
          refine x_p 9 (.agg #[(.int .i64 r29.1.1), (.int .i64 r29.1.2.1), (.slice a41x0 n41x0 c41x0)]) rfl (by kernel_rfl)  (fun _ => y_extract rfl (by kernel_rfl)) (fun h => nomatch h) ?_
          refine x_p 10 (.bool r29.2) rfl (by kernel_rfl)  (fun _ => y_extract rfl (by kernel_rfl)) (fun h => nomatch h) ?_
          refine x_one (i := 11) (by kernel_rfl) ?_
          obtain ⟨w44, hst44, hC44, hb44⟩ := box_store (P := Try.prog) hb5 [] [(.int .i64 0), (.int .i64 0), (.slice none 0 0)] [] [(.int .i64 r29.1.1), (.int .i64 r29.1.2.1), (.slice a41x0 n41x0 c41x0)] rfl rfl (by intro u hu; simp only [List.mem_cons, List.not_mem_nil, or_false] at hu; rcases hu with rfl | rfl | rfl <;> rfl)
          refine xk_skip (w' := w44) (b := true) rfl (ys_store rfl rfl (hst44 _ _ rfl Sz49)) rfl (fun h => nomatch h) ?_
          have hO := hO.fr1
          have h0 := h0.mut hC44 (fun g hg => hO.inM g ((fun _ h => h) g hg)) (fun _ _ h => nomatch h)
          have h1 := h1.mut hC44 (fun g hg => hO.inM g ((fun _ h => h) g hg)) (fun _ _ h => nomatch h)
          have hb3 := hb3.chg hC44 (fun hg => hO.apart _ ((fun _ h => h) _ hg) (mem_r (mem_r (mem_l (List.mem_singleton.2 rfl)))))
          have hb4 := hb4.chg hC44 (fun hg => hO.apart _ ((fun _ h => h) _ hg) (mem_r (mem_l (List.mem_singleton.2 rfl))))
          have hv41x0 := hv41x0.mut hC44 (fun g hg => hO.inM g ((fun _ h => h) g hg)) (fun g hg e => hO.apart g ((fun _ h => h) g hg) (mem_l (e)))
          have hC := hC.step hC44 (fun g hg => hO.inN g ((fun _ h => h) g hg))
          have hO := hO.ext hC44
          have hb44 : BoxV w44 g5 49 [(.int .i64 r29.1.1), (.int .i64 r29.1.2.1), (.slice a41x0 n41x0 c41x0)] := hb44
          refine x_p 12 (.bool r29.2) rfl (by kernel_rfl)  (fun _ => y_assign rfl) (fun h => nomatch h) ?_
          refine x_end (by kernel_rfl) ?_
          clear hS
          refine wp_ret ?_
          cases hs
          have hO := hO.drop
          have hO := hO.fr1
          have hO := hO.drop
          have hO := hO.fr1
          have hO := hO.drop
          exact ⟨_, g5, a41x0, n41x0, c41x0, f41x0, fr_ovl 40 ⟨rfl, rfl, trivial⟩, hb44, hC, hv41x0, hO.top⟩
        · skip
          obtain ⟨r23, hr23, hs⟩ := bind_some hs
          refine xk_call (b := false) rfl  Bd134 rfl (c_impl_cloneConstraints (M := M) y.2.2 h1 hO.fut hr23) rfl (by rintro _ _ _ ⟨a45x0, n45x0, c45x0, f45x0, rfl, hC45, hv45x0, hOc45⟩; exact hS.ext hC45) ?_
          rintro _ w45 ⟨a45x0, n45x0, c45x0, f45x0, rfl, hC45, hv45x0, hOc45⟩
          have h0 := h0.ext hC45
          have h1 := h1.ext hC45
          have hb3 := hb3.chg hC45 (fun h => nomatch h)
          have hb4 := hb4.chg hC45 (fun h => nomatch h)
          have hb5 := hb5.chg hC45 (fun h => nomatch h)
          have hv32x0 := hv32x0.ext hC45
          have hC := hC.ext hC45
          have hO := Own.join0 hO hC45 hOc45
          have hO := hO.perm (R := f45x0 ++ (f32x0 ++ (([g5]) ++ (([g4]) ++ (([g3]) ++ ([])))))) (by simp)
          have hS := hS.ext hC45
          refine x_two (i := 0) (j := 7) (by kernel_rfl) ?_ ?_
          · skip
            refine xk_val (b := false) (.agg #[(.int .i64 x_.1), (.int .i64 x_.2.1), (.slice pa0 pn0 pc0)]) rfl  (y_load rfl ((box_load Ag49 Sz49 hb3 [] [(.int .i64 x_.1), (.int .i64 x_.2.1), (.slice pa0 pn0 pc0)] [] rfl rfl (fun h => nomatch h)) _ (Chg.refl _ _))) rfl (fun _ => hS) ?_
            refine x_one (i := 7) (by kernel_rfl) ?_
            obtain ⟨y26, hy26, hs⟩ := bind_some hs
            have hO := hO.fr1
            obtain ⟨a48, n48, c48, w48, f48, hr48, hC48, hf48, hv48⟩ := app_os Rw47 hy26 hv32x0 hv45x0 hO.inM (fun g hg hq => hO.apart g hq (mem_l hg))
            have hG48 := os_block hv32x0
            refine xk_val (w' := w48) (b := true) (.slice a48 n48 c48) rfl  (y_append rfl rfl (hr48 _)) rfl (fun h => nomatch h) ?_
            have hO := hO.fr1
            have hO := hO.fr1
            have h0 := h0.mut hC48 (fun g hg => hO.inM g (hG48 g hg)) (fun _ _ h => nomatch h)
            have h1 := h1.mut hC48 (fun g hg => hO.inM g (hG48 g hg)) (fun _ _ h => nomatch h)
            have hb3 := hb3.chg hC48 (fun hg => hO.apart _ (hG48 _ hg) (mem_r (mem_r (mem_r (mem_l (List.mem_singleton.2 rfl))))))
            have hb4 := hb4.chg hC48 (fun hg => hO.apart _ (hG48 _ hg) (mem_r (mem_r (mem_l (List.mem_singleton.2 rfl)))))
            have hb5 := hb5.chg hC48 (fun hg => hO.apart _ (hG48 _ hg) (mem_r (mem_l (List.mem_singleton.2 rfl))))
            have hC := hC.step hC48 (fun g hg => hO.inN g (hG48 g hg))
            have hO := hO.eat hC48 hf48 (os_nodup hv48) hv48.fpl
            refine x_one (i := 8) (by kernel_rfl) ?_
            have hL51 := hO
            have hI51 := Own.lend (F := (f48 ++ ([]))) (R := ([g5]) ++ (([g4]) ++ (([g3]) ++ ([])))) (Own.perm (hL51) (by simp))
            obtain ⟨r29, hr29, hs⟩ := bind_some hs
            refine xk_call (b := true) rfl  Bd133 rfl (c_impl_withConstraints__take1 (M := M) (x_.1, x_.2.1, x_.2.2) y26 h0 hv48 hI51 hI51.fut hr29) rfl (fun h => nomatch h) ?_
            rintro _ w51 ⟨a51x0, n51x0, c51x0, f51x0, rfl, hC51, hv51x0, hOc51⟩
            have hO := hO.perm (R := (f48 ++ ([])) ++ (([g5]) ++ (([g4]) ++ (([g3]) ++ ([]))))) (by simp)
            have h0 := h0.mut hC51 (fun g hg => hO.inM g ((fun _ h => h) g hg)) (fun _ _ h => nomatch h)
            have h1 := h1.mut hC51 (fun g hg => hO.inM g ((fun _ h => h) g hg)) (fun _ _ h => nomatch h)
            have hb3 := hb3.chg hC51 (fun hg => hO.apart _ ((fun _ h => h) _ hg) (mem_r (mem_r (mem_l (List.mem_singleton.2 rfl)))))
            have hb4 := hb4.chg hC51 (fun hg => hO.apart _ ((fun _ h => h) _ hg) (mem_r (mem_l (List.mem_singleton.2 rfl))))
            have hb5 := hb5.chg hC51 (fun hg => hO.apart _ ((fun _ h => h) _ hg) (mem_l (List.mem_singleton.2 rfl)))
            have hC := hC.step hC51 (fun g hg => hO.inN g ((fun _ h => h) g hg))
            have hO := Own.join hO hC51 hOc51
            have hO := hO.perm (R := f51x0 ++ (([g5]) ++ (([g4]) ++ (([g3]) ++ ([]))))) (by simp)
            refine x_p 9 (.agg #[(.int .i64 r29.1.1), (.int .i64 r29.1.2.1), (.slice a51x0 n51x0 c51x0)]) rfl (by kernel_rfl)  (fun _ => y_extract rfl (by kernel_rfl)) (fun h => nomatch h) ?_
            refine x_p 10 (.bool r29.2) rfl (by kernel_rfl)  (fun _ => y_extract rfl (by kernel_rfl)) (fun h => nomatch h) ?_
            refine x_one (i := 11) (by kernel_rfl) ?_
            obtain ⟨w54, hst54, hC54, hb54⟩ := box_store (P := Try.prog) hb5 [] [(.int .i64 0), (.int .i64 0), (.slice none 0 0)] [] [(.int .i64 r29.1.1), (.int .i64 r29.1.2.1), (.slice a51x0 n51x0 c51x0)] rfl rfl (by intro u hu; simp only [List.mem_cons, List.not_mem_nil, or_false] at hu; rcases hu with rfl | rfl | rfl <;> rfl)
            refine xk_skip (w' := w54) (b := true) rfl (ys_store rfl rfl (hst54 _ _ rfl Sz49)) rfl (fun h => nomatch h) ?_
            have hO := hO.fr1
            have h0 := h0.mut hC54 (fun g hg => hO.inM g ((fun _ h => h) g hg)) (fun _ _ h => nomatch h)
            have h1 := h1.mut hC54 (fun g hg => hO.inM g ((fun _ h => h) g hg)) (fun _ _ h => nomatch h)
            have hb3 := hb3.chg hC54 (fun hg => hO.apart _ ((fun _ h => h) _ hg) (mem_r (mem_r (mem_l (List.mem_singleton.2 rfl)))))
            have hb4 := hb4.chg hC54 (fun hg => hO.apart _ ((fun _ h => h) _ hg) (mem_r (mem_l (List.mem_singleton.2 rfl))))
            have hv51x0 := hv51x0.mut hC54 (fun g hg => hO.inM g ((fun _ h => h) g hg)) (fun g hg e => hO.apart g ((fun _ h => h) g hg) (mem_l (e)))
            have hC := hC.step hC54 (fun g hg => hO.inN g ((fun _ h => h) g hg))
            have hO := hO.ext hC54
            have hb54 : BoxV w54 g5 49 [(.int .i64 r29.1.1), (.int .i64 r29.1.2.1), (.slice a51x0 n51x0 c51x0)] := hb54
            refine x_p 12 (.bool r29.2) rfl (by kernel_rfl)  (fun _ => y_assign rfl) (fun h => nomatch h) ?_
            refine x_end (by kernel_rfl) ?_
            clear hS
            refine wp_ret ?_
            cases hs
            have hO := hO.drop
            have hO := hO.fr1
            have hO := hO.drop
            have hO := hO.fr1
            have hO := hO.drop
            exact ⟨_, g5, a51x0, n51x0, c51x0, f51x0, fr_ovl 40 ⟨rfl, rfl, trivial⟩, hb54, hC, hv51x0, hO.top⟩
          · skip
            obtain ⟨y26, hy26, hs⟩ := bind_some hs
            have hO := hO.fr1
            obtain ⟨a55, n55, c55, w55, f55, hr55, hC55, hf55, hv55⟩ := app_os Rw47 hy26 hv32x0 hv45x0 hO.inM (fun g hg hq => hO.apart g hq (mem_l hg))
            have hG55 := os_block hv32x0
            refine xk_val (w' := w55) (b := true) (.slice a55 n55 c55) rfl  (y_append rfl rfl (hr55 _)) rfl (fun h => nomatch h) ?_
            have hO := hO.fr1
            have hO := hO.fr1
            have h0 := h0.mut hC55 (fun g hg => hO.inM g (hG55 g hg)) (fun _ _ h => nomatch h)
            have h1 := h1.mut hC55 (fun g hg => hO.inM g (hG55 g hg)) (fun _ _ h => nomatch h)
            have hb3 := hb3.chg hC55 (fun hg => hO.apart _ (hG55 _ hg) (mem_r (mem_r (mem_r (mem_l (List.mem_singleton.2 rfl))))))
            have hb4 := hb4.chg hC55 (fun hg => hO.apart _ (hG55 _ hg) (mem_r (mem_r (mem_l (List.mem_singleton.2 rfl)))))
            have hb5 := hb5.chg hC55 (fun hg => hO.apart _ (hG55 _ hg) (mem_r (mem_l (List.mem_singleton.2 rfl))))
            have hC := hC.step hC55 (fun g hg => hO.inN g (hG55 g hg))
            have hO := hO.eat hC55 hf55 (os_nodup hv55) hv55.fpl
            refine x_one (i := 0) (by kernel_rfl) ?_
            refine xk_val (b := true) (.agg #[(.int .i64 x_.1), (.int .i64 x_.2.1), (.slice pa0 pn0 pc0)]) rfl  (y_load rfl ((box_load Ag49 Sz49 hb3 [] [(.int .i64 x_.1), (.int .i64 x_.2.1), (.slice pa0 pn0 pc0)] [] rfl rfl (fun h => nomatch h)) _ (Chg.refl _ _))) rfl (fun h => nomatch h) ?_
            refine x_one (i := 8) (by kernel_rfl) ?_
            have hL58 := hO
            have hI58 := Own.lend (F := (f55 ++ ([]))) (R := ([g5]) ++ (([g4]) ++ (([g3]) ++ ([])))) (Own.perm (hL58) (by simp))
            obtain ⟨r29, hr29, hs⟩ := bind_some hs
            refine xk_call (b := true) rfl  Bd133 rfl (c_impl_withConstraints__take1 (M := M) (x_.1, x_.2.1, x_.2.2) y26 h0 hv55 hI58 hI58.fut hr29) rfl (fun h => nomatch h) ?_
            rintro _ w58 ⟨a58x0, n58x0, c58x0, f58x0, rfl, hC58, hv58x0, hOc58⟩
            have hO := hO.perm (R := (f55 ++ ([])) ++ (([g5]) ++ (([g4]) ++ (([g3]) ++ ([]))))) (by simp)
            have h0 := h0.mut hC58 (fun g hg => hO.inM g ((fun _ h => h) g hg)) (fun _ _ h => nomatch h)
            have h1 := h1.mut hC58 (fun g hg => hO.inM g ((fun _ h => h) g hg)) (fun _ _ h => nomatch h)
            have hb3 := hb3.chg hC58 (fun hg => hO.apart _ ((fun _ h => h) _ hg) (mem_r (mem_r (mem_l (List.mem_singleton.2 rfl)))))
            have hb4 := hb4.chg hC58 (fun hg => hO.apart _ ((fun _ h => h) _ hg) (mem_r (mem_l (List.mem_singleton.2 rfl))))
            have hb5 := hb5.chg hC58 (fun hg => hO.apart _ ((fun _ h => h) _ hg) (mem_l (List.mem_singleton.2 rfl)))
            have hC := hC.step hC58 (fun g hg => hO.inN g ((fun _ h => h) g hg))
            have hO := Own.join hO hC58 hOc58
            have hO := hO.perm (R := f58x0 ++ (([g5]) ++ (([g4]) ++ (([g3]) ++ ([]))))) (by simp)
            refine x_p 9 (.agg #[(.int .i64 r29.1.1), (.int .i64 r29.1.2.1), (.slice a58x0 n58x0 c58x0)]) rfl (by kernel_rfl)  (fun _ => y_extract rfl (by kernel_rfl)) (fun h => nomatch h) ?_
            refine x_p 10 (.bool r29.2) rfl (by kernel_rfl)  (fun _ => y_extract rfl (by kernel_rfl)) (fun h => nomatch h) ?_
            refine x_one (i := 11) (by kernel_rfl) ?_
            obtain ⟨w61, hst61, hC61, hb61⟩ := box_store (P := Try.prog) hb5 [] [(.int .i64 0), (.int .i64 0), (.slice none 0 0)] [] [(.int .i64 r29.1.1), (.int .i64 r29.1.2.1), (.slice a58x0 n58x0 c58x0)] rfl rfl (by intro u hu; simp only [List.mem_cons, List.not_mem_nil, or_false] at hu; rcases hu with rfl | rfl | rfl <;> rfl)
            refine xk_skip (w' := w61) (b := true) rfl (ys_store rfl rfl (hst61 _ _ rfl Sz49)) rfl (fun h => nomatch h) ?_
            have hO := hO.fr1
            have h0 := h0.mut hC61 (fun g hg => hO.inM g ((fun _ h => h) g hg)) (fun _ _ h => nomatch h)
            have h1 := h1.mut hC61 (fun g hg => hO.inM g ((fun _ h => h) g hg)) (fun _ _ h => nomatch h)
            have hb3 := hb3.chg hC61 (fun hg => hO.apart _ ((fun _ h => h) _ hg) (mem_r (mem_r (mem_l (List.mem_singleton.2 rfl)))))
            have hb4 := hb4.chg hC61 (fun hg => hO.apart _ ((fun _ h => h) _ hg) (mem_r (mem_l (List.mem_singleton.2 rfl))))
            have hv58x0 := hv58x0.mut hC61 (fun g hg => hO.inM g ((fun _ h => h) g hg)) (fun g hg e => hO.apart g ((fun _ h => h) g hg) (mem_l (e)))
            have hC := hC.step hC61 (fun g hg => hO.inN g ((fun _ h => h) g hg))
            have hO := hO.ext hC61
            have hb61 : BoxV w61 g5 49 [(.int .i64 r29.1.1), (.int .i64 r29.1.2.1), (.slice a58x0 n58x0 c58x0)] := hb61
            refine x_p 12 (.bool r29.2) rfl (by kernel_rfl)  (fun _ => y_assign rfl) (fun h => nomatch h) ?_
            refine x_end (by kernel_rfl) ?_
            clear hS
            refine wp_ret ?_
            cases hs
            have hO := hO.drop
            have hO := hO.fr1
            have hO := hO.drop
            have hO := hO.fr1
            have hO := hO.drop
            exact ⟨_, g5, a58x0, n58x0, c58x0, f58x0, fr_ovl 40 ⟨rfl, rfl, trivial⟩, hb61, hC, hv58x0, hO.top⟩

def k_laws_eqIntS (M : Nat → Prop) (w0 : World) (r : Bool) (a : Act) (w : World) : Prop :=
  ∃ (σ : Nat → Value) , a = fr 26 (ovl σ [(4, (.bool r))]) ∧ Chg [] w0 w
def s_laws_eqIntS (a_ : List Int) (b : List Int) : Option (Bool) :=
  (bif ((a_.length : Int) != (b.length : Int)) then some false else (forC (S := Unit) (R := Bool) (fun k12 s10 =>
  (idx a_ k12).bind fun x17 =>
  (idx b k12).bind fun x19 =>
  (bif (x17 != x19) then some (.rt false) else some (.nx ()))) 0 (a_.length : Int) ()).bind fun o14 => after o14 (fun r_ => some r_) (fun s10 =>
  some true))
set_option maxHeartbeats 4000000 in
theorem c_laws_eqIntS {M : Nat → Prop} {w : World} {pa0 : Option Addr} {pn0 pc0 : Nat} {pa1 : Option Addr} {pn1 pc1 : Nat} (a_ : List Int) (b : List Int) (h0 : (RT.rs (RT.int .i64)).val M w (.slice pa0 pn0 pc0) a_ ([])) (h1 : (RT.rs (RT.int .i64)).val M w (.slice pa1 pn1 pc1) b ([])) (hM : ∀ g, w.heap.size ≤ g → M g) {r : Bool} (hs : s_laws_eqIntS a_ b = some r) :
    Gives Try.prog 18 [(.slice pa0 pn0 pc0), (.slice pa1 pn1 pc1)] w (fun v w' => v = (.bool r) ∧ Chg [] w w') := by
  refine calls_fr Try.func18 rfl Try.ntmps18 (Nat.le_of_ble_eq_true rfl) ?_
  have hO := Own.start (N := Nw w []) hM Nw.fut
  have hC := Chg.refl [] w
  unfold s_laws_eqIntS at hs
  refine wp_mono (Q := KPost (k_laws_eqIntS M w r)) ?_ (fun e a w1 h => ?_)
  rotate_left
  · cases e
    case ret =>
      obtain ⟨σ, rfl, hrest⟩ := h
      exact ret1x Try.results18 (res_tmp rfl) ⟨rfl, hrest⟩
    all_goals exact (h : False).elim
  refine c_seq ?_
  refine c_region ?_
  refine pl_val (.bool false) (y_assign rfl) ?_
  refine c_nil ?_
  refine c_seq ?_
  refine c_seq ?_
  refine c_region ?_
  refine pl_val (.slice pa0 pn0 pc0) (y_move rfl) ?_
  refine pl_val (.int .i64 (a_.length : Int)) (y_len' Sl22 (rs_len h0) rfl) ?_
  refine pl_val (.slice pa1 pn1 pc1) (y_move rfl) ?_
  refine pl_val (.int .i64 (b.length : Int)) (y_len' Sl22 (rs_len h1) rfl) ?_
  refine pl_val (.bool ((a_.length : Int) != (b.length : Int))) (y_neq rfl rfl) ?_
  refine c_nil ?_
  rcases bif_some hs with ⟨hc3, hs⟩ | ⟨hc3, hs⟩
  · skip
    refine c_condT (congrArg Value.bool hc3) ?_
    refine c_seq ?_
    refine c_region ?_
    refine pl_val (.bool false) (y_assign rfl) ?_
    refine c_nil ?_
    refine wp_ret ?_
    cases hs
    exact ⟨_, fr_ovl 26 ⟨rfl, trivial⟩, hC⟩
  · skip
    refine c_condF (congrArg Value.bool hc3) ?_
    refine wp_skip ?_
    refine c_seq ?_
    refine c_seq ?_
    refine c_region ?_
    refine pl_val (.int .i64 0) (y_assign rfl) ?_
    refine c_nil ?_
    obtain ⟨o14, hl15, hs⟩ := bind_some hs
    refine wp_block ?_
    refine wp_forC (id := 0) (a_.length : Int) (I := fun k12 s10 a w11 => ∃ (σ : Nat → Value), a = fr 26 (ovl σ [(0, (.slice pa0 pn0 pc0)), (1, (.slice pa1 pn1 pc1)), (5, (.int .i64 k12))]) ∧ Chg [] w w11 ∧ Own (Nw w []) M w11 ([]) ∧ (RT.rs (RT.int .i64)).val M w11 (.slice pa0 pn0 pc0) a_ ([]) ∧ (RT.rs (RT.int .i64)).val M w11 (.slice pa1 pn1 pc1) b ([])) (J := fun s10 a w11 => ∃ (σ : Nat → Value), a = fr 26 (ovl σ []) ∧ Chg [] w w11 ∧ Own (Nw w []) M w11 ([]) ∧ (RT.rs (RT.int .i64)).val M w11 (.slice pa0 pn0 pc0) a_ ([]) ∧ (RT.rs (RT.int .i64)).val M w11 (.slice pa1 pn1 pc1) b ([])) (K := (k_laws_eqIntS M w)) ?_ ?_ 0 () o14 _ _ ?_ hl15 ?_
    · rintro k12 s10 a w11 ⟨σ, rfl, hC, hO, h0, h1⟩ hlt
      refine c_seq ?_
      refine c_seq ?_
      refine c_region ?_
      refine pl_val (.int .i64 k12) (y_move rfl) ?_
      refine pl_val (.slice pa0 pn0 pc0) (y_move rfl) ?_
      refine pl_val (.int .i64 (a_.length : Int)) (y_len' Sl22 (rs_len h0) rfl) ?_
      refine pl_val (.bool (decide (k12 < (a_.length : Int)))) (y_lss rfl rfl) ?_
      refine c_nil ?_
      refine c_condF (congrArg Value.bool (decide_eq_false hlt)) ?_
      refine wp_exit ?_
      exact ⟨rfl, _, fr_ovl 26 trivial, hC, hO, h0, h1⟩
    · rintro k12 s10 o14 a w11 ⟨σ, rfl, hC, hO, h0, h1⟩ hlt hw hs
      refine c_seq ?_
      refine c_seq ?_
      refine c_region ?_
      refine pl_val (.int .i64 k12) (y_move rfl) ?_
      refine pl_val (.slice pa0 pn0 pc0) (y_move rfl) ?_
      refine pl_val (.int .i64 (a_.length : Int)) (y_len' Sl22 (rs_len h0) rfl) ?_
      refine pl_val (.bool (decide (k12 < (a_.length : Int)))) (y_lss rfl rfl) ?_
      refine c_nil ?_
      refine c_condT (congrArg Value.bool (decide_eq_true hlt)) ?_
      refine wp_skip ?_
      refine c_seq ?_
      refine wp_block ?_
      refine c_seq ?_
      refine x_start [] Mx rfl ?_
      have hCw16 := Chg.drew w11
      generalize World.drew w11 = w16 at hCw16 ⊢
      have h0 := h0.ext hCw16
      have h1 := h1.ext hCw16
      have hC := hC.ext hCw16
      have hO := hO.ext hCw16
      have hS := Chg.refl [] w16
      refine x_p 0 (.slice pa0 pn0 pc0) rfl (by kernel_rfl)  (fun _ => y_move rfl) (fun _ => hS) ?_
      refine x_p 1 (.int .i64 k12) rfl (by kernel_rfl)  (fun _ => y_move rfl) (fun _ => hS) ?_
      obtain ⟨x17, hx17, hs⟩ := bind_some hs
      obtain ⟨b18, o18, hp18, ha18⟩ := rs_idx Sl22 Sz3 h0 hx17
      refine x_p 2 (.pointer (some ⟨b18, o18, none⟩)) rfl (by kernel_rfl)  (fun _ => hp18 _ _ _ _ _ _ _ _ _ rfl rfl) (fun _ => hS) ?_
      refine x_l 3 (.int .i64 x17) rfl (by kernel_rfl)  (fun w' hw' => y_load rfl ((at_load_int Ag3 Sz3 ha18) w' hw')) hS ?_
      refine x_p 4 (.slice pa1 pn1 pc1) rfl (by kernel_rfl)  (fun _ => y_move rfl) (fun _ => hS) ?_
      refine x_p 5 (.int .i64 k12) rfl (by kernel_rfl)  (fun _ => y_move rfl) (fun _ => hS) ?_
      obtain ⟨x19, hx19, hs⟩ := bind_some hs
      obtain ⟨b20, o20, hp20, ha20⟩ := rs_idx Sl22 Sz3 h1 hx19
      refine x_p 6 (.pointer (some ⟨b20, o20, none⟩)) rfl (by kernel_rfl)  (fun _ => hp20 _ _ _ _ _ _ _ _ _ rfl rfl) (fun _ => hS) ?_
      refine x_l 7 (.int .i64 x19) rfl (by kernel_rfl)  (fun w' hw' => y_load rfl ((at_load_int Ag3 Sz3 ha20) w' hw')) hS ?_
      refine x_p 8 (.bool (x17 != x19)) rfl (by kernel_rfl)  (fun _ => y_neq rfl rfl) (fun _ => hS) ?_
      refine x_end (by kernel_rfl) ?_
      clear hS
      rcases bif_some hs with ⟨hc21, hs⟩ | ⟨hc21, hs⟩
      · skip
        refine c_condT (congrArg Value.bool hc21) ?_
        refine c_seq ?_
        refine c_region ?_
        refine pl_val (.bool false) (y_assign rfl) ?_
        refine c_nil ?_
        refine wp_ret ?_
        cases hs
        exact ⟨_, fr_ovl 26 ⟨rfl, trivial⟩, hC⟩
      · skip
        refine c_condF (congrArg Value.bool hc21) ?_
        refine wp_skip ?_
        refine c_region ?_
        refine pl_val (.int .i64 k12) (y_move rfl) ?_
        refine pl_val (.int .i64 (w64 (k12 + 1))) (y_add rfl rfl) ?_
        refine pl_val (.int .i64 (w64 (k12 + 1))) (y_assign rfl) ?_
        refine c_nil ?_
        cases hs
        exact ⟨_, fr_ovl 26 ⟨rfl, rfl, congrArg (Value.int .i64) hw, trivial⟩, hC, hO, h0, h1⟩
    · skip
      exact ⟨_, fr_ovl 26 ⟨rfl, rfl, rfl, trivial⟩, hC, hO, h0, h1⟩
    · cases o14 with
      | nx _ => exact True.intro
      | rt r_ =>
        have hs := after_rt hs
        intro a1 w1 hK
        cases hs
        exact hK
      | br s10 =>
        have hs := after_br hs
        rintro a1 w11 ⟨σ, rfl, hC, hO, h0, h1⟩
        refine c_seq ?_
        refine c_region ?_
        refine pl_val (.bool true) (y_assign rfl) ?_
        refine c_nil ?_
        refine wp_ret ?_
        cases hs
        exact ⟨_, fr_ovl 26 ⟨rfl, trivial⟩, hC⟩

theorem Bd18 : Bodied Try.prog 18 := bodied Try.func18 (by kernel_rfl) rfl

def k_laws_eqIntSS (M : Nat → Prop) (w0 : World) (r : Bool) (a : Act) (w : World) : Prop :=
  ∃ (σ : Nat → Value) , a = fr 27 (ovl σ [(4, (.bool r))]) ∧ Chg [] w0 w
def s_laws_eqIntSS (a_ : List (List Int)) (b : List (List Int)) : Option (Bool) :=
  (bif ((a_.length : Int) != (b.length : Int)) then some false else (forC (S := Unit) (R := Bool) (fun k18 s16 =>
  (idx a_ k18).bind fun x23 =>
  (idx b k18).bind fun x27 =>
  (s_laws_eqIntS x23 x27).bind fun r32 =>
  (bif (!r32) then some (.rt false) else some (.nx ()))) 0 (a_.length : Int) ()).bind fun o20 => after o20 (fun r_ => some r_) (fun s16 =>
  some true))
set_option maxHeartbeats 4000000 in
theorem c_laws_eqIntSS {M : Nat → Prop} {w : World} {pa0 : Option Addr} {pn0 pc0 : Nat} {pa1 : Option Addr} {pn1 pc1 : Nat} (a_ : List (List Int)) (b : List (List Int)) (h0 : (RT.rs (RT.rs (RT.int .i64))).val M w (.slice pa0 pn0 pc0) a_ ([])) (h1 : (RT.rs (RT.rs (RT.int .i64))).val M w (.slice pa1 pn1 pc1) b ([])) (hM : ∀ g, w.heap.size ≤ g → M g) {r : Bool} (hs : s_laws_eqIntSS a_ b = some r) :
    Gives Try.prog 52 [(.slice pa0 pn0 pc0), (.slice pa1 pn1 pc1)] w (fun v w' => v = (.bool r) ∧ Chg [] w w') := by
  refine calls_fr Try.func52 rfl Try.ntmps52 (Nat.le_of_ble_eq_true rfl) ?_
  have hO := Own.start (N := Nw w []) hM Nw.fut
  have hC := Chg.refl [] w
  unfold s_laws_eqIntSS at hs
  refine wp_mono (Q := KPost (k_laws_eqIntSS M w r)) ?_ (fun e a w1 h => ?_)
  rotate_left
  · cases e
    case ret =>
      obtain ⟨σ, rfl, hrest⟩ := h
      exact ret1x Try.results52 (res_tmp rfl) ⟨rfl, hrest⟩
    all_goals exact (h : False).elim
  refine c_seq ?_
  refine c_region ?_
  refine pl_val (.bool false) (y_assign rfl) ?_
  refine c_nil ?_
  refine c_seq ?_
  refine c_seq ?_
  refine c_region ?_
  refine pl_val (.slice pa0 pn0 pc0) (y_move rfl) ?_
  refine pl_val (.int .i64 (a_.length : Int)) (y_len' Sl29 (rs_len h0) rfl) ?_
  refine pl_val (.slice pa1 pn1 pc1) (y_move rfl) ?_
  refine pl_val (.int .i64 (b.length : Int)) (y_len' Sl29 (rs_len h1) rfl) ?_
  refine pl_val (.bool ((a_.length : Int) != (b.length : Int))) (y_neq rfl rfl) ?_
  refine c_nil ?_
  rcases bif_some hs with ⟨hc3, hs⟩ | ⟨hc3, hs⟩
  · skip
    refine c_condT (congrArg Value.bool hc3) ?_
    refine c_seq ?_
    refine c_region ?_
    refine pl_val (.bool false) (y_assign rfl) ?_
    refine c_nil ?_
    refine wp_ret ?_
    cases hs
    exact ⟨_, fr_ovl 27 ⟨rfl, trivial⟩, hC⟩
  · skip
    refine c_condF (congrArg Value.bool hc3) ?_
    refine wp_skip ?_
    refine c_seq ?_
    refine c_seq ?_
    refine c_region ?_
    refine pl_val (.int .i64 0) (y_assign rfl) ?_
    refine c_nil ?_
    obtain ⟨o20, hl21, hs⟩ := bind_some hs
    refine wp_block ?_
    refine wp_forC (id := 0) (a_.length : Int) (I := fun k18 s16 a w17 => ∃ (σ : Nat → Value), a = fr 27 (ovl σ [(0, (.slice pa0 pn0 pc0)), (1, (.slice pa1 pn1 pc1)), (5, (.int .i64 k18))]) ∧ Chg [] w w17 ∧ Own (Nw w []) M w17 ([]) ∧ (RT.rs (RT.rs (RT.int .i64))).val M w17 (.slice pa0 pn0 pc0) a_ ([]) ∧ (RT.rs (RT.rs (RT.int .i64))).val M w17 (.slice pa1 pn1 pc1) b ([])) (J := fun s16 a w17 => ∃ (σ : Nat → Value), a = fr 27 (ovl σ []) ∧ Chg [] w w17 ∧ Own (Nw w []) M w17 ([]) ∧ (RT.rs (RT.rs (RT.int .i64))).val M w17 (.slice pa0 pn0 pc0) a_ ([]) ∧ (RT.rs (RT.rs (RT.int .i64))).val M w17 (.slice pa1 pn1 pc1) b ([])) (K := (k_laws_eqIntSS M w)) ?_ ?_ 0 () o20 _ _ ?_ hl21 ?_
    · rintro k18 s16 a w17 ⟨σ, rfl, hC, hO, h0, h1⟩ hlt
      refine c_seq ?_
      refine c_seq ?_
      refine c_region ?_
      refine pl_val (.int .i64 k18) (y_move rfl) ?_
      refine pl_val (.slice pa0 pn0 pc0) (y_move rfl) ?_
      refine pl_val (.int .i64 (a_.length : Int)) (y_len' Sl29 (rs_len h0) rfl) ?_
      refine pl_val (.bool (decide (k18 < (a_.length : Int)))) (y_lss rfl rfl) ?_
      refine c_nil ?_
      refine c_condF (congrArg Value.bool (decide_eq_false hlt)) ?_
      refine wp_exit ?_
      exact ⟨rfl, _, fr_ovl 27 trivial, hC, hO, h0, h1⟩
    · rintro k18 s16 o20 a w17 ⟨σ, rfl, hC, hO, h0, h1⟩ hlt hw hs
      refine c_seq ?_
      refine c_seq ?_
      refine c_region ?_
      refine pl_val (.int .i64 k18) (y_move rfl) ?_
      refine pl_val (.slice pa0 pn0 pc0) (y_move rfl) ?_
      refine pl_val (.int .i64 (a_.length : Int)) (y_len' Sl29 (rs_len h0) rfl) ?_
      refine pl_val (.bool (decide (k18 < (a_.length : Int)))) (y_lss rfl rfl) ?_
      refine c_nil ?_
      refine c_condT (congrArg Value.bool (decide_eq_true hlt)) ?_
      refine wp_skip ?_
      refine c_seq ?_
      refine wp_block ?_
      refine c_seq ?_
      refine x_start [] Mx rfl ?_
      have hCw22 := Chg.drew w17
      generalize World.drew w17 = w22 at hCw22 ⊢
      have h0 := h0.ext hCw22
      have h1 := h1.ext hCw22
      have hC := hC.ext hCw22
      have hO := hO.ext hCw22
      have hS := Chg.refl [] w22
      refine x_p 0 (.slice pa0 pn0 pc0) rfl (by kernel_rfl)  (fun _ => y_move rfl) (fun _ => hS) ?_
      refine x_p 1 (.int .i64 k18) rfl (by kernel_rfl)  (fun _ => y_move rfl) (fun _ => hS) ?_
      obtain ⟨x23, hx23, hs⟩ := bind_some hs
      obtain ⟨b24, o24, hp24, ha24⟩ := rs_idx Sl29 Sz22 h0 hx23
      refine x_p 2 (.pointer (some ⟨b24, o24, none⟩)) rfl (by kernel_rfl)  (fun _ => hp24 _ _ _ _ _ _ _ _ _ rfl rfl) (fun _ => hS) ?_
      obtain ⟨v25, hl25, hv25⟩ := at_load Ag22 Sz22 (fun _ => rfl) ha24
      obtain ⟨a25, n25, c25, rfl⟩ := rs_sl hv25
      refine x_l 3 (.slice a25 n25 c25) rfl (by kernel_rfl)  (fun w' hw' => y_load rfl (hl25 w' hw')) hS ?_
      refine x_p 4 (.slice pa1 pn1 pc1) rfl (by kernel_rfl)  (fun _ => y_move rfl) (fun _ => hS) ?_
      refine x_p 5 (.int .i64 k18) rfl (by kernel_rfl)  (fun _ => y_move rfl) (fun _ => hS) ?_
      obtain ⟨x27, hx27, hs⟩ := bind_some hs
      obtain ⟨b28, o28, hp28, ha28⟩ := rs_idx Sl29 Sz22 h1 hx27
      refine x_p 6 (.pointer (some ⟨b28, o28, none⟩)) rfl (by kernel_rfl)  (fun _ => hp28 _ _ _ _ _ _ _ _ _ rfl rfl) (fun _ => hS) ?_
      obtain ⟨v29, hl29, hv29⟩ := at_load Ag22 Sz22 (fun _ => rfl) ha28
      obtain ⟨a29, n29, c29, rfl⟩ := rs_sl hv29
      refine x_l 7 (.slice a29 n29 c29) rfl (by kernel_rfl)  (fun w' hw' => y_load rfl (hl29 w' hw')) hS ?_
      refine x_one (i := 8) (by kernel_rfl) ?_
      obtain ⟨r32, hr32, hs⟩ := bind_some hs
      refine xk_call (b := false) rfl  Bd18 rfl (c_laws_eqIntS (M := M) x23 x27 hv25 hv29 hO.fut hr32) rfl (by rintro _ _ _ ⟨rfl, hC31⟩; exact hS.ext hC31) ?_
      rintro _ w31 ⟨rfl, hC31⟩
      have h0 := h0.ext hC31
      have h1 := h1.ext hC31
      have hv25 := hv25.ext hC31
      have hv29 := hv29.ext hC31
      have hC := hC.ext hC31
      have hO := hO.ext hC31
      have hS := hS.ext hC31
      refine x_p 9 (.bool (!r32)) rfl (by kernel_rfl)  (fun _ => y_not rfl) (fun _ => hS) ?_
      refine x_end (by kernel_rfl) ?_
      clear hS
      rcases bif_some hs with ⟨hc33, hs⟩ | ⟨hc33, hs⟩
      · skip
        refine c_condT (congrArg Value.bool hc33) ?_
        refine c_seq ?_
        refine c_region ?_
        refine pl_val (.bool false) (y_assign rfl) ?_
        refine c_nil ?_
        refine wp_ret ?_
        cases hs
        exact ⟨_, fr_ovl 27 ⟨rfl, trivial⟩, hC⟩
      · skip
        refine c_condF (congrArg Value.bool hc33) ?_
        refine wp_skip ?_
        refine c_region ?_
        refine pl_val (.int .i64 k18) (y_move rfl) ?_
        refine pl_val (.int .i64 (w64 (k18 + 1))) (y_add rfl rfl) ?_
        refine pl_val (.int .i64 (w64 (k18 + 1))) (y_assign rfl) ?_
        refine c_nil ?_
        cases hs
        exact ⟨_, fr_ovl 27 ⟨rfl, rfl, congrArg (Value.int .i64) hw, trivial⟩, hC, hO, h0, h1⟩
    · skip
      exact ⟨_, fr_ovl 27 ⟨rfl, rfl, rfl, trivial⟩, hC, hO, h0, h1⟩
    · cases o20 with
      | nx _ => exact True.intro
      | rt r_ =>
        have hs := after_rt hs
        intro a1 w1 hK
        cases hs
        exact hK
      | br s16 =>
        have hs := after_br hs
        rintro a1 w17 ⟨σ, rfl, hC, hO, h0, h1⟩
        refine c_seq ?_
        refine c_region ?_
        refine pl_val (.bool true) (y_assign rfl) ?_
        refine c_nil ?_
        refine wp_ret ?_
        cases hs
        exact ⟨_, fr_ovl 27 ⟨rfl, trivial⟩, hC⟩

theorem Bd52 : Bodied Try.prog 52 := bodied Try.func52 (by kernel_rfl) rfl

def k_laws_eqRelation (M : Nat → Prop) (w0 : World) (r : Bool) (a : Act) (w : World) : Prop :=
  ∃ (σ : Nat → Value) , a = fr 16 (ovl σ [(4, (.bool r))]) ∧ Chg [] w0 w
def s_laws_eqRelation (a_ : Int × (List (List Int))) (b : Int × (List (List Int))) : Option (Bool) :=
  (bif (a_.1 != b.1) then some false else (s_laws_eqIntSS a_.2 b.2).bind fun r7 =>
  (bif (!r7) then some false else some true))
set_option maxHeartbeats 4000000 in
theorem c_laws_eqRelation {M : Nat → Prop} {w : World} {pa0 : Option Addr} {pn0 pc0 : Nat} {pa1 : Option Addr} {pn1 pc1 : Nat} (a_ : Int × (List (List Int))) (b : Int × (List (List Int))) (h0 : (RT.rs (RT.rs (RT.int .i64))).val M w (.slice pa0 pn0 pc0) a_.2 ([])) (h1 : (RT.rs (RT.rs (RT.int .i64))).val M w (.slice pa1 pn1 pc1) b.2 ([])) (hM : ∀ g, w.heap.size ≤ g → M g) {r : Bool} (hs : s_laws_eqRelation a_ b = some r) :
    Gives Try.prog 23 [(.agg #[(.int .i64 a_.1), (.slice pa0 pn0 pc0)]), (.agg #[(.int .i64 b.1), (.slice pa1 pn1 pc1)])] w (fun v w' => v = (.bool r) ∧ Chg [] w w') := by
  refine calls_fr Try.func23 rfl Try.ntmps23 (Nat.le_of_ble_eq_true rfl) ?_
  have hO := Own.start (N := Nw w []) hM Nw.fut
  have hC := Chg.refl [] w
  unfold s_laws_eqRelation at hs
  refine wp_mono (Q := KPost (k_laws_eqRelation M w r)) ?_ (fun e a w1 h => ?_)
  rotate_left
  · cases e
    case ret =>
      obtain ⟨σ, rfl, hrest⟩ := h
      exact ret1x Try.results23 (res_tmp rfl) ⟨rfl, hrest⟩
    all_goals exact (h : False).elim
  refine c_seq ?_
  refine c_region ?_
  obtain ⟨w3, g3, ew3, eg3, hC3, hb3⟩ := new_block w [(.int .i64 a_.1), (.slice pa0 pn0 pc0)] 31
  refine pl_val (w' := w3) (.pointer (some ⟨g3, 0, none⟩)) (y_box rfl (by rw [ew3, eg3]; kernel_rfl)) ?_
  have h0 := h0.ext hC3
  have h1 := h1.ext hC3
  have hC := hC.ext hC3
  have hO := hO.new (X' := [g3]) hC3 (fun q hq => by rw [List.mem_singleton.1 hq, eg3]; exact Nat.le_refl _) (List.nodup_cons.2 ⟨(fun h => nomatch h), List.nodup_nil⟩) (fun q hq => by rw [List.mem_singleton.1 hq]; exact hb3.lt)
  obtain ⟨w4, g4, ew4, eg4, hC4, hb4⟩ := new_block w3 [(.int .i64 b.1), (.slice pa1 pn1 pc1)] 31
  refine pl_val (w' := w4) (.pointer (some ⟨g4, 0, none⟩)) (y_box rfl (by rw [ew4, eg4]; kernel_rfl)) ?_
  have h0 := h0.ext hC4
  have h1 := h1.ext hC4
  have hb3 := hb3.chg hC4 (fun h => nomatch h)
  have hC := hC.ext hC4
  have hO := hO.new (X' := [g4]) hC4 (fun q hq => by rw [List.mem_singleton.1 hq, eg4]; exact Nat.le_refl _) (List.nodup_cons.2 ⟨(fun h => nomatch h), List.nodup_nil⟩) (fun q hq => by rw [List.mem_singleton.1 hq]; exact hb4.lt)
  refine pl_val (.bool false) (y_assign rfl) ?_
  refine c_nil ?_
  refine c_seq ?_
  refine c_seq ?_
  refine c_region ?_
  refine pl_val (.pointer (some ⟨g3, 0, none⟩)) (y_faddr rfl Fa31x0) ?_
  refine pl_val (.int .i64 a_.1) (y_load rfl ((box_load Ag3 Sz3 hb3 [] [(.int .i64 a_.1)] [(.slice pa0 pn0 pc0)] rfl rfl (fun _ => rfl)) _ (Chg.refl _ _))) ?_
  refine pl_val (.pointer (some ⟨g4, 0, none⟩)) (y_faddr rfl Fa31x0) ?_
  refine pl_val (.int .i64 b.1) (y_load rfl ((box_load Ag3 Sz3 hb4 [] [(.int .i64 b.1)] [(.slice pa1 pn1 pc1)] rfl rfl (fun _ => rfl)) _ (Chg.refl _ _))) ?_
  refine pl_val (.bool (a_.1 != b.1)) (y_neq rfl rfl) ?_
  refine c_nil ?_
  rcases bif_some hs with ⟨hc5, hs⟩ | ⟨hc5, hs⟩
  · skip
    refine c_condT (congrArg Value.bool hc5) ?_
    refine c_seq ?_
    refine c_region ?_
    refine pl_val (.bool false) (y_assign rfl) ?_
    refine c_nil ?_
    refine wp_ret ?_
    cases hs
    exact ⟨_, fr_ovl 16 ⟨rfl, trivial⟩, hC⟩
  · skip
    refine c_condF (congrArg Value.bool hc5) ?_
    refine wp_skip ?_
    refine c_seq ?_
    refine c_seq ?_
    refine c_region ?_
    refine pl_val (.pointer (some ⟨g3, 1, none⟩)) (y_faddr rfl Fa31x1) ?_
    refine pl_val (.slice pa0 pn0 pc0) (y_load rfl ((box_load Ag29 Sz29 hb3 [(.int .i64 a_.1)] [(.slice pa0 pn0 pc0)] [] rfl rfl (fun _ => rfl)) _ (Chg.refl _ _))) ?_
    refine pl_val (.pointer (some ⟨g4, 1, none⟩)) (y_faddr rfl Fa31x1) ?_
    refine pl_val (.slice pa1 pn1 pc1) (y_load rfl ((box_load Ag29 Sz29 hb4 [(.int .i64 b.1)] [(.slice pa1 pn1 pc1)] [] rfl rfl (fun _ => rfl)) _ (Chg.refl _ _))) ?_
    obtain ⟨r7, hr7, hs⟩ := bind_some hs
    refine pl_call Bd52 rfl (c_laws_eqIntSS (M := M) a_.2 b.2 h0 h1 hO.fut hr7) ?_
    rintro _ w6 ⟨rfl, hC6⟩
    have h0 := h0.ext hC6
    have h1 := h1.ext hC6
    have hb3 := hb3.chg hC6 (fun h => nomatch h)
    have hb4 := hb4.chg hC6 (fun h => nomatch h)
    have hC := hC.ext hC6
    have hO := hO.ext hC6
    refine pl_val (.bool (!r7)) (y_not rfl) ?_
    refine c_nil ?_
    rcases bif_some hs with ⟨hc8, hs⟩ | ⟨hc8, hs⟩
    · skip
      refine c_condT (congrArg Value.bool hc8) ?_
      refine c_seq ?_
      refine c_region ?_
      refine pl_val (.bool false) (y_assign rfl) ?_
      refine c_nil ?_
      refine wp_ret ?_
      cases hs
      exact ⟨_, fr_ovl 16 ⟨rfl, trivial⟩, hC⟩
    · skip
      refine c_condF (congrArg Value.bool hc8) ?_
      refine wp_skip ?_
      refine c_seq ?_
      refine c_region ?_
      refine pl_val (.bool true) (y_assign rfl) ?_
      refine c_nil ?_
      refine wp_ret ?_
      cases hs
      exact ⟨_, fr_ovl 16 ⟨rfl, trivial⟩, hC⟩

theorem Bd23 : Bodied Try.prog 23 := bodied Try.func23 (by kernel_rfl) rfl

def k_laws_eqConstraint (M : Nat → Prop) (w0 : World) (r : Bool) (a : Act) (w : World) : Prop :=
  ∃ (σ : Nat → Value) , a = fr 17 (ovl σ [(4, (.bool r))]) ∧ Chg [] w0 w
def s_laws_eqConstraint (a_ : (List Int) × (Int × (List (List Int)))) (b : (List Int) × (Int × (List (List Int)))) : Option (Bool) :=
  (s_laws_eqIntS a_.1 b.1).bind fun r8 =>
  (bif (!r8) then some false else (s_laws_eqRelation (a_.2.1, a_.2.2) (b.2.1, b.2.2)).bind fun r11 =>
  (bif (!r11) then some false else some true))
set_option maxHeartbeats 4000000 in
theorem c_laws_eqConstraint {M : Nat → Prop} {w : World} {pa0 : Option Addr} {pn0 pc0 : Nat} {pa1 : Option Addr} {pn1 pc1 : Nat} {pa2 : Option Addr} {pn2 pc2 : Nat} {pa3 : Option Addr} {pn3 pc3 : Nat} (a_ : (List Int) × (Int × (List (List Int)))) (b : (List Int) × (Int × (List (List Int)))) (h0 : (RT.rs (RT.int .i64)).val M w (.slice pa0 pn0 pc0) a_.1 ([])) (h1 : (RT.rs (RT.rs (RT.int .i64))).val M w (.slice pa1 pn1 pc1) a_.2.2 ([])) (h2 : (RT.rs (RT.int .i64)).val M w (.slice pa2 pn2 pc2) b.1 ([])) (h3 : (RT.rs (RT.rs (RT.int .i64))).val M w (.slice pa3 pn3 pc3) b.2.2 ([])) (hM : ∀ g, w.heap.size ≤ g → M g) {r : Bool} (hs : s_laws_eqConstraint a_ b = some r) :
    Gives Try.prog 151 [(.agg #[(.slice pa0 pn0 pc0), (.int .i64 a_.2.1), (.slice pa1 pn1 pc1)]), (.agg #[(.slice pa2 pn2 pc2), (.int .i64 b.2.1), (.slice pa3 pn3 pc3)])] w (fun v w' => v = (.bool r) ∧ Chg [] w w') := by
  refine calls_fr Try.func151 rfl Try.ntmps151 (Nat.le_of_ble_eq_true rfl) ?_
  have hO := Own.start (N := Nw w []) hM Nw.fut
  have hC := Chg.refl [] w
  unfold s_laws_eqConstraint at hs
  refine wp_mono (Q := KPost (k_laws_eqConstraint M w r)) ?_ (fun e a w1 h => ?_)
  rotate_left
  · cases e
    case ret =>
      obtain ⟨σ, rfl, hrest⟩ := h
      exact ret1x Try.results151 (res_tmp rfl) ⟨rfl, hrest⟩
    all_goals exact (h : False).elim
  refine c_seq ?_
  refine c_region ?_
  obtain ⟨w5, g5, ew5, eg5, hC5, hb5⟩ := new_block w [(.slice pa0 pn0 pc0), (.int .i64 a_.2.1), (.slice pa1 pn1 pc1)] 108
  refine pl_val (w' := w5) (.pointer (some ⟨g5, 0, none⟩)) (y_box rfl (by rw [ew5, eg5]; kernel_rfl)) ?_
  have h0 := h0.ext hC5
  have h1 := h1.ext hC5
  have h2 := h2.ext hC5
  have h3 := h3.ext hC5
  have hC := hC.ext hC5
  have hO := hO.new (X' := [g5]) hC5 (fun q hq => by rw [List.mem_singleton.1 hq, eg5]; exact Nat.le_refl _) (List.nodup_cons.2 ⟨(fun h => nomatch h), List.nodup_nil⟩) (fun q hq => by rw [List.mem_singleton.1 hq]; exact hb5.lt)
  obtain ⟨w6, g6, ew6, eg6, hC6, hb6⟩ := new_block w5 [(.slice pa2 pn2 pc2), (.int .i64 b.2.1), (.slice pa3 pn3 pc3)] 108
  refine pl_val (w' := w6) (.pointer (some ⟨g6, 0, none⟩)) (y_box rfl (by rw [ew6, eg6]; kernel_rfl)) ?_
  have h0 := h0.ext hC6
  have h1 := h1.ext hC6
  have h2 := h2.ext hC6
  have h3 := h3.ext hC6
  have hb5 := hb5.chg hC6 (fun h => nomatch h)
  have hC := hC.ext hC6
  have hO := hO.new (X' := [g6]) hC6 (fun q hq => by rw [List.mem_singleton.1 hq, eg6]; exact Nat.le_refl _) (List.nodup_cons.2 ⟨(fun h => nomatch h), List.nodup_nil⟩) (fun q hq => by rw [List.mem_singleton.1 hq]; exact hb6.lt)
  refine pl_val (.bool false) (y_assign rfl) ?_
  refine c_nil ?_
  refine c_seq ?_
  refine c_seq ?_
  refine c_region ?_
  refine pl_val (.pointer (some ⟨g5, 0, none⟩)) (y_faddr rfl Fa108x0) ?_
  refine pl_val (.slice pa0 pn0 pc0) (y_load rfl ((box_load Ag22 Sz22 hb5 [] [(.slice pa0 pn0 pc0)] [(.int .i64 a_.2.1), (.slice pa1 pn1 pc1)] rfl rfl (fun _ => rfl)) _ (Chg.refl _ _))) ?_
  refine pl_val (.pointer (some ⟨g6, 0, none⟩)) (y_faddr rfl Fa108x0) ?_
  refine pl_val (.slice pa2 pn2 pc2) (y_load rfl ((box_load Ag22 Sz22 hb6 [] [(.slice pa2 pn2 pc2)] [(.int .i64 b.2.1), (.slice pa3 pn3 pc3)] rfl rfl (fun _ => rfl)) _ (Chg.refl _ _))) ?_
  obtain ⟨r8, hr8, hs⟩ := bind_some hs
  refine pl_call Bd18 rfl (c_laws_eqIntS (M := M) a_.1 b.1 h0 h2 hO.fut hr8) ?_
  rintro _ w7 ⟨rfl, hC7⟩
  have h0 := h0.ext hC7
  have h1 := h1.ext hC7
  have h2 := h2.ext hC7
  have h3 := h3.ext hC7
  have hb5 := hb5.chg hC7 (fun h => nomatch h)
  have hb6 := hb6.chg hC7 (fun h => nomatch h)
  have hC := hC.ext hC7
  have hO := hO.ext hC7
  refine pl_val (.bool (!r8)) (y_not rfl) ?_
  refine c_nil ?_
  rcases bif_some hs with ⟨hc9, hs⟩ | ⟨hc9, hs⟩
  · skip
    refine c_condT (congrArg Value.bool hc9) ?_
    refine c_seq ?_
    refine c_region ?_
    refine pl_val (.bool false) (y_assign rfl) ?_
    refine c_nil ?_
    refine wp_ret ?_
    cases hs
    exact ⟨_, fr_ovl 17 ⟨rfl, trivial⟩, hC⟩
  · skip
    refine c_condF (congrArg Value.bool hc9) ?_
    refine wp_skip ?_
    refine c_seq ?_
    refine c_seq ?_
    refine c_region ?_
    refine pl_val (.pointer (some ⟨g5, 1, none⟩)) (y_faddr rfl Fa108x1) ?_
    refine pl_val (.agg #[(.int .i64 a_.2.1), (.slice pa1 pn1 pc1)]) (y_load rfl ((box_load Ag31 Sz31 hb5 [(.slice pa0 pn0 pc0)] [(.int .i64 a_.2.1), (.slice pa1 pn1 pc1)] [] rfl rfl (fun h => nomatch h)) _ (Chg.refl _ _))) ?_
    refine pl_val (.pointer (some ⟨g6, 1, none⟩)) (y_faddr rfl Fa108x1) ?_
    refine pl_val (.agg #[(.int .i64 b.2.1), (.slice pa3 pn3 pc3)]) (y_load rfl ((box_load Ag31 Sz31 hb6 [(.slice pa2 pn2 pc2)] [(.int .i64 b.2.1), (.slice pa3 pn3 pc3)] [] rfl rfl (fun h => nomatch h)) _ (Chg.refl _ _))) ?_
    obtain ⟨r11, hr11, hs⟩ := bind_some hs
    refine pl_call Bd23 rfl (c_laws_eqRelation (M := M) (a_.2.1, a_.2.2) (b.2.1, b.2.2) h1 h3 hO.fut hr11) ?_
    rintro _ w10 ⟨rfl, hC10⟩
    have h0 := h0.ext hC10
    have h1 := h1.ext hC10
    have h2 := h2.ext hC10
    have h3 := h3.ext hC10
    have hb5 := hb5.chg hC10 (fun h => nomatch h)
    have hb6 := hb6.chg hC10 (fun h => nomatch h)
    have hC := hC.ext hC10
    have hO := hO.ext hC10
    refine pl_val (.bool (!r11)) (y_not rfl) ?_
    refine c_nil ?_
    rcases bif_some hs with ⟨hc12, hs⟩ | ⟨hc12, hs⟩
    · skip
      refine c_condT (congrArg Value.bool hc12) ?_
      refine c_seq ?_
      refine c_region ?_
      refine pl_val (.bool false) (y_assign rfl) ?_
      refine c_nil ?_
      refine wp_ret ?_
      cases hs
      exact ⟨_, fr_ovl 17 ⟨rfl, trivial⟩, hC⟩
    · skip
      refine c_condF (congrArg Value.bool hc12) ?_
      refine wp_skip ?_
      refine c_seq ?_
      refine c_region ?_
      refine pl_val (.bool true) (y_assign rfl) ?_
      refine c_nil ?_
      refine wp_ret ?_
      cases hs
      exact ⟨_, fr_ovl 17 ⟨rfl, trivial⟩, hC⟩

theorem Bd151 : Bodied Try.prog 151 := bodied Try.func151 (by kernel_rfl) rfl

def k_laws_eqConstraintS (M : Nat → Prop) (w0 : World) (r : Bool) (a : Act) (w : World) : Prop :=
  ∃ (σ : Nat → Value) , a = fr 27 (ovl σ [(4, (.bool r))]) ∧ Chg [] w0 w
def s_laws_eqConstraintS (a_ : List ((List Int) × (Int × (List (List Int))))) (b : List ((List Int) × (Int × (List (List Int))))) : Option (Bool) :=
  (bif ((a_.length : Int) != (b.length : Int)) then some false else (forC (S := Unit) (R := Bool) (fun k20 s18 =>
  (idx a_ k20).bind fun x25 =>
  (idx b k20).bind fun x30 =>
  (s_laws_eqConstraint (x25.1, (x25.2.1, x25.2.2)) (x30.1, (x30.2.1, x30.2.2))).bind fun r36 =>
  (bif (!r36) then some (.rt false) else some (.nx ()))) 0 (a_.length : Int) ()).bind fun o22 => after o22 (fun r_ => some r_) (fun s18 =>
  some true))
set_option maxHeartbeats 4000000 in
theorem c_laws_eqConstraintS {M : Nat → Prop} {w : World} {pa0 : Option Addr} {pn0 pc0 : Nat} {pa1 : Option Addr} {pn1 pc1 : Nat} (a_ : List ((List Int) × (Int × (List (List Int))))) (b : List ((List Int) × (Int × (List (List Int))))) (h0 : (RT.rs (RT.pr (RT.rs (RT.int .i64)) (RT.pr (RT.int .i64) (RT.rs (RT.rs (RT.int .i64)))))).val M w (.slice pa0 pn0 pc0) a_ ([])) (h1 : (RT.rs (RT.pr (RT.rs (RT.int .i64)) (RT.pr (RT.int .i64) (RT.rs (RT.rs (RT.int .i64)))))).val M w (.slice pa1 pn1 pc1) b ([])) (hM : ∀ g, w.heap.size ≤ g → M g) {r : Bool} (hs : s_laws_eqConstraintS a_ b = some r) :
    Gives Try.prog 92 [(.slice pa0 pn0 pc0), (.slice pa1 pn1 pc1)] w (fun v w' => v = (.bool r) ∧ Chg [] w w') := by
  refine calls_fr Try.func92 rfl Try.ntmps92 (Nat.le_of_ble_eq_true rfl) ?_
  have hO := Own.start (N := Nw w []) hM Nw.fut
  have hC := Chg.refl [] w
  unfold s_laws_eqConstraintS at hs
  refine wp_mono (Q := KPost (k_laws_eqConstraintS M w r)) ?_ (fun e a w1 h => ?_)
  rotate_left
  · cases e
    case ret =>
      obtain ⟨σ, rfl, hrest⟩ := h
      exact ret1x Try.results92 (res_tmp rfl) ⟨rfl, hrest⟩
    all_goals exact (h : False).elim
  refine c_seq ?_
  refine c_region ?_
  refine pl_val (.bool false) (y_assign rfl) ?_
  refine c_nil ?_
  refine c_seq ?_
  refine c_seq ?_
  refine c_region ?_
  refine pl_val (.slice pa0 pn0 pc0) (y_move rfl) ?_
  refine pl_val (.int .i64 (a_.length : Int)) (y_len' Sl47 (rs_len h0) rfl) ?_
  refine pl_val (.slice pa1 pn1 pc1) (y_move rfl) ?_
  refine pl_val (.int .i64 (b.length : Int)) (y_len' Sl47 (rs_len h1) rfl) ?_
  refine pl_val (.bool ((a_.length : Int) != (b.length : Int))) (y_neq rfl rfl) ?_
  refine c_nil ?_
  rcases bif_some hs with ⟨hc3, hs⟩ | ⟨hc3, hs⟩
  · skip
    refine c_condT (congrArg Value.bool hc3) ?_
    refine c_seq ?_
    refine c_region ?_
    refine pl_val (.bool false) (y_assign rfl) ?_
    refine c_nil ?_
    refine wp_ret ?_
    cases hs
    exact ⟨_, fr_ovl 27 ⟨rfl, trivial⟩, hC⟩
  · skip
    refine c_condF (congrArg Value.bool hc3) ?_
    refine wp_skip ?_
    refine c_seq ?_
    refine c_seq ?_
    refine c_region ?_
    refine pl_val (.int .i64 0) (y_assign rfl) ?_
    refine c_nil ?_
    obtain ⟨o22, hl23, hs⟩ := bind_some hs
    refine wp_block ?_
    refine wp_forC (id := 0) (a_.length : Int) (I := fun k20 s18 a w19 => ∃ (σ : Nat → Value), a = fr 27 (ovl σ [(0, (.slice pa0 pn0 pc0)), (1, (.slice pa1 pn1 pc1)), (5, (.int .i64 k20))]) ∧ Chg [] w w19 ∧ Own (Nw w []) M w19 ([]) ∧ (RT.rs (RT.pr (RT.rs (RT.int .i64)) (RT.pr (RT.int .i64) (RT.rs (RT.rs (RT.int .i64)))))).val M w19 (.slice pa0 pn0 pc0) a_ ([]) ∧ (RT.rs (RT.pr (RT.rs (RT.int .i64)) (RT.pr (RT.int .i64) (RT.rs (RT.rs (RT.int .i64)))))).val M w19 (.slice pa1 pn1 pc1) b ([])) (J := fun s18 a w19 => ∃ (σ : Nat → Value), a = fr 27 (ovl σ []) ∧ Chg [] w w19 ∧ Own (Nw w []) M w19 ([]) ∧ (RT.rs (RT.pr (RT.rs (RT.int .i64)) (RT.pr (RT.int .i64) (RT.rs (RT.rs (RT.int .i64)))))).val M w19 (.slice pa0 pn0 pc0) a_ ([]) ∧ (RT.rs (RT.pr (RT.rs (RT.int .i64)) (RT.pr (RT.int .i64) (RT.rs (RT.rs (RT.int .i64)))))).val M w19 (.slice pa1 pn1 pc1) b ([])) (K := (k_laws_eqConstraintS M w)) ?_ ?_ 0 () o22 _ _ ?_ hl23 ?_
    · rintro k20 s18 a w19 ⟨σ, rfl, hC, hO, h0, h1⟩ hlt
      refine c_seq ?_
      refine c_seq ?_
      refine c_region ?_
      refine pl_val (.int .i64 k20) (y_move rfl) ?_
      refine pl_val (.slice pa0 pn0 pc0) (y_move rfl) ?_
      refine pl_val (.int .i64 (a_.length : Int)) (y_len' Sl47 (rs_len h0) rfl) ?_
      refine pl_val (.bool (decide (k20 < (a_.length : Int)))) (y_lss rfl rfl) ?_
      refine c_nil ?_
      refine c_condF (congrArg Value.bool (decide_eq_false hlt)) ?_
      refine wp_exit ?_
      exact ⟨rfl, _, fr_ovl 27 trivial, hC, hO, h0, h1⟩
    · rintro k20 s18 o22 a w19 ⟨σ, rfl, hC, hO, h0, h1⟩ hlt hw hs
      refine c_seq ?_
      refine c_seq ?_
      refine c_region ?_
      refine pl_val (.int .i64 k20) (y_move rfl) ?_
      refine pl_val (.slice pa0 pn0 pc0) (y_move rfl) ?_
      refine pl_val (.int .i64 (a_.length : Int)) (y_len' Sl47 (rs_len h0) rfl) ?_
      refine pl_val (.bool (decide (k20 < (a_.length : Int)))) (y_lss rfl rfl) ?_
      refine c_nil ?_
      refine c_condT (congrArg Value.bool (decide_eq_true hlt)) ?_
      refine wp_skip ?_
      refine c_seq ?_
      refine wp_block ?_
      refine c_seq ?_
      refine x_start [] Mx rfl ?_
      have hCw24 := Chg.drew w19
      generalize World.drew w19 = w24 at hCw24 ⊢
      have h0 := h0.ext hCw24
      have h1 := h1.ext hCw24
      have hC := hC.ext hCw24
      have hO := hO.ext hCw24
      have hS := Chg.refl [] w24
      refine x_p 0 (.slice pa0 pn0 pc0) rfl (by kernel_rfl)  (fun _ => y_move rfl) (fun _ => hS) ?_
      refine x_p 1 (.int .i64 k20) rfl (by kernel_rfl)  (fun _ => y_move rfl) (fun _ => hS) ?_
      obtain ⟨x25, hx25, hs⟩ := bind_some hs
      obtain ⟨b26, o26, hp26, ha26⟩ := rs_idx Sl47 Sz108 h0 hx25
      refine x_p 2 (.pointer (some ⟨b26, o26, none⟩)) rfl (by kernel_rfl)  (fun _ => hp26 _ _ _ _ _ _ _ _ _ rfl rfl) (fun _ => hS) ?_
      obtain ⟨v27, hl27, hv27⟩ := at_load Ag108 Sz108 (by intro h; cases h) ha26
      obtain ⟨cs27, rfl, hr27⟩ := hv27
      obtain ⟨cc27x1, cd27x1, rfl, hh27x1, ht27x1⟩ := pr_open hr27
      obtain ⟨a27x1, n27x1, c27x1, rfl, hv27x1⟩ := rs_rel hh27x1
      obtain ⟨cc27x3, cd27x3, rfl, hh27x3, ht27x3⟩ := pr_open ht27x1
      obtain rfl := int_rel hh27x3
      obtain ⟨a27x4, n27x4, c27x4, rfl, hv27x4⟩ := rs_rel ht27x3
      refine x_l 3 (.agg #[(.slice a27x1 n27x1 c27x1), (.int .i64 x25.2.1), (.slice a27x4 n27x4 c27x4)]) rfl (by kernel_rfl)  (fun w' hw' => y_load rfl (hl27 w' hw')) hS ?_
      refine x_p 4 (.slice pa1 pn1 pc1) rfl (by kernel_rfl)  (fun _ => y_move rfl) (fun _ => hS) ?_
      refine x_p 5 (.int .i64 k20) rfl (by kernel_rfl)  (fun _ => y_move rfl) (fun _ => hS) ?_
      obtain ⟨x30, hx30, hs⟩ := bind_some hs
      obtain ⟨b31, o31, hp31, ha31⟩ := rs_idx Sl47 Sz108 h1 hx30
      refine x_p 6 (.pointer (some ⟨b31, o31, none⟩)) rfl (by kernel_rfl)  (fun _ => hp31 _ _ _ _ _ _ _ _ _ rfl rfl) (fun _ => hS) ?_
      obtain ⟨v32, hl32, hv32⟩ := at_load Ag108 Sz108 (by intro h; cases h) ha31
      obtain ⟨cs32, rfl, hr32⟩ := hv32
      obtain ⟨cc32x1, cd32x1, rfl, hh32x1, ht32x1⟩ := pr_open hr32
      obtain ⟨a32x1, n32x1, c32x1, rfl, hv32x1⟩ := rs_rel hh32x1
      obtain ⟨cc32x3, cd32x3, rfl, hh32x3, ht32x3⟩ := pr_open ht32x1
      obtain rfl := int_rel hh32x3
      obtain ⟨a32x4, n32x4, c32x4, rfl, hv32x4⟩ := rs_rel ht32x3
      refine x_l 7 (.agg #[(.slice a32x1 n32x1 c32x1), (.int .i64 x30.2.1), (.slice a32x4 n32x4 c32x4)]) rfl (by kernel_rfl)  (fun w' hw' => y_load rfl (hl32 w' hw')) hS ?_
      refine x_one (i := 8) (by kernel_rfl) ?_
      obtain ⟨r36, hr36, hs⟩ := bind_some hs
      refine xk_call (b := false) rfl  Bd151 rfl (c_laws_eqConstraint (M := M) (x25.1, (x25.2.1, x25.2.2)) (x30.1, (x30.2.1, x30.2.2)) hv27x1 hv27x4 hv32x1 hv32x4 hO.fut hr36) rfl (by rintro _ _ _ ⟨rfl, hC35⟩; exact hS.ext hC35) ?_
      rintro _ w35 ⟨rfl, hC35⟩
      have h0 := h0.ext hC35
      have h1 := h1.ext hC35
      have hv27x1 := hv27x1.ext hC35
      have hv27x4 := hv27x4.ext hC35
      have hv32x1 := hv32x1.ext hC35
      have hv32x4 := hv32x4.ext hC35
      have hC := hC.ext hC35
      have hO := hO.ext hC35
      have hS := hS.ext hC35
      refine x_p 9 (.bool (!r36)) rfl (by kernel_rfl)  (fun _ => y_not rfl) (fun _ => hS) ?_
      refine x_end (by kernel_rfl) ?_
      clear hS
      rcases bif_some hs with ⟨hc37, hs⟩ | ⟨hc37, hs⟩
      · skip
        refine c_condT (congrArg Value.bool hc37) ?_
        refine c_seq ?_
        refine c_region ?_
        refine pl_val (.bool false) (y_assign rfl) ?_
        refine c_nil ?_
        refine wp_ret ?_
        cases hs
        exact ⟨_, fr_ovl 27 ⟨rfl, trivial⟩, hC⟩
      · skip
        refine c_condF (congrArg Value.bool hc37) ?_
        refine wp_skip ?_
        refine c_region ?_
        refine pl_val (.int .i64 k20) (y_move rfl) ?_
        refine pl_val (.int .i64 (w64 (k20 + 1))) (y_add rfl rfl) ?_
        refine pl_val (.int .i64 (w64 (k20 + 1))) (y_assign rfl) ?_
        refine c_nil ?_
        cases hs
        exact ⟨_, fr_ovl 27 ⟨rfl, rfl, congrArg (Value.int .i64) hw, trivial⟩, hC, hO, h0, h1⟩
    · skip
      exact ⟨_, fr_ovl 27 ⟨rfl, rfl, rfl, trivial⟩, hC, hO, h0, h1⟩
    · cases o22 with
      | nx _ => exact True.intro
      | rt r_ =>
        have hs := after_rt hs
        intro a1 w1 hK
        cases hs
        exact hK
      | br s18 =>
        have hs := after_br hs
        rintro a1 w19 ⟨σ, rfl, hC, hO, h0, h1⟩
        refine c_seq ?_
        refine c_region ?_
        refine pl_val (.bool true) (y_assign rfl) ?_
        refine c_nil ?_
        refine wp_ret ?_
        cases hs
        exact ⟨_, fr_ovl 27 ⟨rfl, trivial⟩, hC⟩

theorem Bd92 : Bodied Try.prog 92 := bodied Try.func92 (by kernel_rfl) rfl

def k_laws_eqNetwork (M : Nat → Prop) (w0 : World) (r : Bool) (a : Act) (w : World) : Prop :=
  ∃ (σ : Nat → Value) , a = fr 21 (ovl σ [(4, (.bool r))]) ∧ Chg [] w0 w
def s_laws_eqNetwork (a_ : Int × Int × (List ((List Int) × (Int × (List (List Int)))))) (b : Int × Int × (List ((List Int) × (Int × (List (List Int)))))) : Option (Bool) :=
  (bif (a_.1 != b.1) then some false else (bif (a_.2.1 != b.2.1) then some false else (s_laws_eqConstraintS a_.2.2 b.2.2).bind fun r8 =>
  (bif (!r8) then some false else some true)))
set_option maxHeartbeats 4000000 in
theorem c_laws_eqNetwork {M : Nat → Prop} {w : World} {pa0 : Option Addr} {pn0 pc0 : Nat} {pa1 : Option Addr} {pn1 pc1 : Nat} (a_ : Int × Int × (List ((List Int) × (Int × (List (List Int)))))) (b : Int × Int × (List ((List Int) × (Int × (List (List Int)))))) (h0 : (RT.rs (RT.pr (RT.rs (RT.int .i64)) (RT.pr (RT.int .i64) (RT.rs (RT.rs (RT.int .i64)))))).val M w (.slice pa0 pn0 pc0) a_.2.2 ([])) (h1 : (RT.rs (RT.pr (RT.rs (RT.int .i64)) (RT.pr (RT.int .i64) (RT.rs (RT.rs (RT.int .i64)))))).val M w (.slice pa1 pn1 pc1) b.2.2 ([])) (hM : ∀ g, w.heap.size ≤ g → M g) {r : Bool} (hs : s_laws_eqNetwork a_ b = some r) :
    Gives Try.prog 34 [(.agg #[(.int .i64 a_.1), (.int .i64 a_.2.1), (.slice pa0 pn0 pc0)]), (.agg #[(.int .i64 b.1), (.int .i64 b.2.1), (.slice pa1 pn1 pc1)])] w (fun v w' => v = (.bool r) ∧ Chg [] w w') := by
  refine calls_fr Try.func34 rfl Try.ntmps34 (Nat.le_of_ble_eq_true rfl) ?_
  have hO := Own.start (N := Nw w []) hM Nw.fut
  have hC := Chg.refl [] w
  unfold s_laws_eqNetwork at hs
  refine wp_mono (Q := KPost (k_laws_eqNetwork M w r)) ?_ (fun e a w1 h => ?_)
  rotate_left
  · cases e
    case ret =>
      obtain ⟨σ, rfl, hrest⟩ := h
      exact ret1x Try.results34 (res_tmp rfl) ⟨rfl, hrest⟩
    all_goals exact (h : False).elim
  refine c_seq ?_
  refine c_region ?_
  obtain ⟨w3, g3, ew3, eg3, hC3, hb3⟩ := new_block w [(.int .i64 a_.1), (.int .i64 a_.2.1), (.slice pa0 pn0 pc0)] 49
  refine pl_val (w' := w3) (.pointer (some ⟨g3, 0, none⟩)) (y_box rfl (by rw [ew3, eg3]; kernel_rfl)) ?_
  have h0 := h0.ext hC3
  have h1 := h1.ext hC3
  have hC := hC.ext hC3
  have hO := hO.new (X' := [g3]) hC3 (fun q hq => by rw [List.mem_singleton.1 hq, eg3]; exact Nat.le_refl _) (List.nodup_cons.2 ⟨(fun h => nomatch h), List.nodup_nil⟩) (fun q hq => by rw [List.mem_singleton.1 hq]; exact hb3.lt)
  obtain ⟨w4, g4, ew4, eg4, hC4, hb4⟩ := new_block w3 [(.int .i64 b.1), (.int .i64 b.2.1), (.slice pa1 pn1 pc1)] 49
  refine pl_val (w' := w4) (.pointer (some ⟨g4, 0, none⟩)) (y_box rfl (by rw [ew4, eg4]; kernel_rfl)) ?_
  have h0 := h0.ext hC4
  have h1 := h1.ext hC4
  have hb3 := hb3.chg hC4 (fun h => nomatch h)
  have hC := hC.ext hC4
  have hO := hO.new (X' := [g4]) hC4 (fun q hq => by rw [List.mem_singleton.1 hq, eg4]; exact Nat.le_refl _) (List.nodup_cons.2 ⟨(fun h => nomatch h), List.nodup_nil⟩) (fun q hq => by rw [List.mem_singleton.1 hq]; exact hb4.lt)
  refine pl_val (.bool false) (y_assign rfl) ?_
  refine c_nil ?_
  refine c_seq ?_
  refine c_seq ?_
  refine c_region ?_
  refine pl_val (.pointer (some ⟨g3, 0, none⟩)) (y_faddr rfl Fa49x0) ?_
  refine pl_val (.int .i64 a_.1) (y_load rfl ((box_load Ag3 Sz3 hb3 [] [(.int .i64 a_.1)] [(.int .i64 a_.2.1), (.slice pa0 pn0 pc0)] rfl rfl (fun _ => rfl)) _ (Chg.refl _ _))) ?_
  refine pl_val (.pointer (some ⟨g4, 0, none⟩)) (y_faddr rfl Fa49x0) ?_
  refine pl_val (.int .i64 b.1) (y_load rfl ((box_load Ag3 Sz3 hb4 [] [(.int .i64 b.1)] [(.int .i64 b.2.1), (.slice pa1 pn1 pc1)] rfl rfl (fun _ => rfl)) _ (Chg.refl _ _))) ?_
  refine pl_val (.bool (a_.1 != b.1)) (y_neq rfl rfl) ?_
  refine c_nil ?_
  rcases bif_some hs with ⟨hc5, hs⟩ | ⟨hc5, hs⟩
  · skip
    refine c_condT (congrArg Value.bool hc5) ?_
    refine c_seq ?_
    refine c_region ?_
    refine pl_val (.bool false) (y_assign rfl) ?_
    refine c_nil ?_
    refine wp_ret ?_
    cases hs
    exact ⟨_, fr_ovl 21 ⟨rfl, trivial⟩, hC⟩
  · skip
    refine c_condF (congrArg Value.bool hc5) ?_
    refine wp_skip ?_
    refine c_seq ?_
    refine c_seq ?_
    refine c_region ?_
    refine pl_val (.pointer (some ⟨g3, 1, none⟩)) (y_faddr rfl Fa49x1) ?_
    refine pl_val (.int .i64 a_.2.1) (y_load rfl ((box_load Ag3 Sz3 hb3 [(.int .i64 a_.1)] [(.int .i64 a_.2.1)] [(.slice pa0 pn0 pc0)] rfl rfl (fun _ => rfl)) _ (Chg.refl _ _))) ?_
    refine pl_val (.pointer (some ⟨g4, 1, none⟩)) (y_faddr rfl Fa49x1) ?_
    refine pl_val (.int .i64 b.2.1) (y_load rfl ((box_load Ag3 Sz3 hb4 [(.int .i64 b.1)] [(.int .i64 b.2.1)] [(.slice pa1 pn1 pc1)] rfl rfl (fun _ => rfl)) _ (Chg.refl _ _))) ?_
    refine pl_val (.bool (a_.2.1 != b.2.1)) (y_neq rfl rfl) ?_
    refine c_nil ?_
    rcases bif_some hs with ⟨hc6, hs⟩ | ⟨hc6, hs⟩
    · skip
      refine c_condT (congrArg Value.bool hc6) ?_
      refine c_seq ?_
      refine c_region ?_
      refine pl_val (.bool false) (y_assign rfl) ?_
      refine c_nil ?_
      refine wp_ret ?_
      cases hs
      exact ⟨_, fr_ovl 21 ⟨rfl, trivial⟩, hC⟩
    · skip
      refine c_condF (congrArg Value.bool hc6) ?_
      refine wp_skip ?_
      refine c_seq ?_
      refine c_seq ?_
      refine c_region ?_
      refine pl_val (.pointer (some ⟨g3, 2, none⟩)) (y_faddr rfl Fa49x2) ?_
      refine pl_val (.slice pa0 pn0 pc0) (y_load rfl ((box_load Ag47 Sz47 hb3 [(.int .i64 a_.1), (.int .i64 a_.2.1)] [(.slice pa0 pn0 pc0)] [] rfl rfl (fun _ => rfl)) _ (Chg.refl _ _))) ?_
      refine pl_val (.pointer (some ⟨g4, 2, none⟩)) (y_faddr rfl Fa49x2) ?_
      refine pl_val (.slice pa1 pn1 pc1) (y_load rfl ((box_load Ag47 Sz47 hb4 [(.int .i64 b.1), (.int .i64 b.2.1)] [(.slice pa1 pn1 pc1)] [] rfl rfl (fun _ => rfl)) _ (Chg.refl _ _))) ?_
      obtain ⟨r8, hr8, hs⟩ := bind_some hs
      refine pl_call Bd92 rfl (c_laws_eqConstraintS (M := M) a_.2.2 b.2.2 h0 h1 hO.fut hr8) ?_
      rintro _ w7 ⟨rfl, hC7⟩
      have h0 := h0.ext hC7
      have h1 := h1.ext hC7
      have hb3 := hb3.chg hC7 (fun h => nomatch h)
      have hb4 := hb4.chg hC7 (fun h => nomatch h)
      have hC := hC.ext hC7
      have hO := hO.ext hC7
      refine pl_val (.bool (!r8)) (y_not rfl) ?_
      refine c_nil ?_
      rcases bif_some hs with ⟨hc9, hs⟩ | ⟨hc9, hs⟩
      · skip
        refine c_condT (congrArg Value.bool hc9) ?_
        refine c_seq ?_
        refine c_region ?_
        refine pl_val (.bool false) (y_assign rfl) ?_
        refine c_nil ?_
        refine wp_ret ?_
        cases hs
        exact ⟨_, fr_ovl 21 ⟨rfl, trivial⟩, hC⟩
      · skip
        refine c_condF (congrArg Value.bool hc9) ?_
        refine wp_skip ?_
        refine c_seq ?_
        refine c_region ?_
        refine pl_val (.bool true) (y_assign rfl) ?_
        refine c_nil ?_
        refine wp_ret ?_
        cases hs
        exact ⟨_, fr_ovl 21 ⟨rfl, trivial⟩, hC⟩

def k_laws_markIntS (M : Nat → Prop) (w0 : World) (qa0 : Option Addr) (qn0 qc0 : Nat) (qf0 : List Nat) (r : Int × (List Int)) (a : Act) (w : World) : Prop :=
  ∃ (σ : Nat → Value) (rfi0 : List Nat), a = fr 19 (ovl σ [(4, (.int .i64 r.1))]) ∧ Chg (qf0 ++ ([])) w0 w ∧ (RT.os 3 (RT.int .i64)).val M w (.slice qa0 qn0 qc0) r.2 rfi0 ∧ Own (Nw w0 (qf0 ++ ([]))) (fun _ => True) w (rfi0 ++ ([]))
def s_laws_markIntS (a_ : List Int) (k : Int) : Option (Int × (List Int)) :=
  (iter (S := Int × Int × (List Int)) (R := Int × (List Int)) (fun s25 =>
  (bif (decide (s25.2.1 < (s25.2.2.length : Int))) then (idx s25.2.2 s25.2.1).bind fun x34 =>
  some (.nx (w64 (s25.1 + 1), w64 (s25.2.1 + 1), List.set s25.2.2 (Int.toNat s25.2.1) s25.1)) else some (.br (s25.1, s25.2.1, s25.2.2)))) FU (k, 0, a_)).bind fun o29 => after o29 (fun r_ => some r_) (fun s25 =>
  some (s25.1, s25.2.2))
set_option maxHeartbeats 4000000 in
theorem c_laws_markIntS {M : Nat → Prop} {w : World} {pa0 : Option Addr} {pn0 pc0 : Nat} {pf0 : List Nat} (a_ : List Int) (k : Int) (h0 : (RT.os 3 (RT.int .i64)).val M w (.slice pa0 pn0 pc0) a_ pf0) (hI : Own (Nw w (pf0 ++ ([]))) M w (pf0 ++ ([]))) (hM : ∀ g, w.heap.size ≤ g → M g) {r : Int × (List Int)} (hs : s_laws_markIntS a_ k = some r) :
    Gives Try.prog 19 [(.slice pa0 pn0 pc0), (.int .i64 k)] w (fun v w' => ∃ (rfi0 : List Nat), v = (.int .i64 r.1) ∧ Chg (pf0 ++ ([])) w w' ∧ (RT.os 3 (RT.int .i64)).val M w' (.slice pa0 pn0 pc0) r.2 rfi0 ∧ Own (Nw w (pf0 ++ ([]))) (fun _ => True) w' (rfi0 ++ ([]))) := by
  refine calls_fr Try.func19 rfl Try.ntmps19 (Nat.le_of_ble_eq_true rfl) ?_
  have hO := hI
  have hC := Chg.refl (pf0 ++ ([])) w
  unfold s_laws_markIntS at hs
  refine wp_mono (Q := KPost (k_laws_markIntS M w pa0 pn0 pc0 pf0 r)) ?_ (fun e a w1 h => ?_)
  rotate_left
  · cases e
    case ret =>
      obtain ⟨σ, rfi0, rfl, hrest⟩ := h
      exact ret1x Try.results19 (res_tmp rfl) ⟨rfi0, rfl, hrest⟩
    all_goals exact (h : False).elim
  refine c_seq ?_
  refine c_region ?_
  refine pl_val (.int .i64 0) (y_assign rfl) ?_
  refine c_nil ?_
  refine c_seq ?_
  refine c_seq ?_
  refine c_region ?_
  refine pl_val (.int .i64 0) (y_assign rfl) ?_
  refine c_nil ?_
  obtain ⟨o29, hl30, hs⟩ := bind_some hs
  refine wp_block ?_
  refine wp_iter (id := 0) (I := fun s25 a w26 => ∃ (σ : Nat → Value) (f31 : List Nat), a = fr 19 (ovl σ [(0, (.slice pa0 pn0 pc0)), (1, (.int .i64 s25.1)), (5, (.int .i64 s25.2.1))]) ∧ Chg (pf0 ++ ([])) w w26 ∧ Own (Nw w (pf0 ++ ([]))) M w26 (f31 ++ []) ∧ (RT.os 3 (RT.int .i64)).val M w26 (.slice pa0 pn0 pc0) s25.2.2 f31) (J := fun s25 a w26 => ∃ (σ : Nat → Value) (f32 : List Nat), a = fr 19 (ovl σ [(1, (.int .i64 s25.1))]) ∧ Chg (pf0 ++ ([])) w w26 ∧ Own (Nw w (pf0 ++ ([]))) M w26 (f32 ++ []) ∧ (RT.os 3 (RT.int .i64)).val M w26 (.slice pa0 pn0 pc0) s25.2.2 f32) (K := (k_laws_markIntS M w pa0 pn0 pc0 pf0)) ?_ FU (k, 0, a_) o29 _ _ ?_ hl30 ?_
  · rintro s25 o29 a w26 ⟨σ, f31, rfl, hC, hO, hv31⟩ hs
    refine c_seq ?_
    refine c_seq ?_
    refine c_region ?_
    refine pl_val (.int .i64 s25.2.1) (y_move rfl) ?_
    refine pl_val (.slice pa0 pn0 pc0) (y_move rfl) ?_
    refine pl_val (.int .i64 (s25.2.2.length : Int)) (y_len' Sl22 (os_len hv31) rfl) ?_
    refine pl_val (.bool (decide (s25.2.1 < (s25.2.2.length : Int)))) (y_lss rfl rfl) ?_
    refine c_nil ?_
    rcases bif_some hs with ⟨hc33, hs⟩ | ⟨hc33, hs⟩
    · skip
      refine c_condT (congrArg Value.bool hc33) ?_
      refine wp_skip ?_
      refine c_seq ?_
      refine wp_block ?_
      refine c_seq ?_
      refine c_region ?_
      refine pl_val (.slice pa0 pn0 pc0) (y_move rfl) ?_
      refine pl_val (.int .i64 s25.2.1) (y_move rfl) ?_
      refine pl_val (.int .i64 s25.1) (y_move rfl) ?_
      obtain ⟨x34, hx34, hs⟩ := bind_some hs
      obtain ⟨g35, f35, hg35, hk35, hp35, ha35, hf35⟩ := os_idx Sl22 Sz3 hv31 hx34
      refine pl_val (.pointer (some ⟨g35, 0 + Int.toNat s25.2.1 * 1, none⟩)) (hp35 _ _ _ _ _ _ _ _ _ rfl rfl) ?_
      obtain ⟨w36, f36, hst36, hC36, hf36, hv36⟩ := os_store (P := Try.prog) (c' := [(.int .i64 s25.1)]) hg35 hv31 hk35 (fun g hg => hO.inM g (os_block hv31 g (by simpa using hg))) ⟨rfl, rfl⟩ List.nodup_nil (fun _ h => nomatch h) (fun _ h => .inl h)
      have hG36 : ∀ q ∈ [g35], q ∈ f31 := fun q hq => os_block hv31 q (by rw [hg35]; exact hq)
      refine pl_skip (w' := w36) (ys_store rfl rfl (hst36 _ _ rfl Sz3)) ?_
      have hC := hC.step hC36 (fun g hg => hO.inN g (hG36 g hg))
      have hO := hO.grow hC36 (fun q hq => .inl ((hf36 q hq).resolve_right (fun h => nomatch h))) (os_nodup hv36) hv36.fpl
      refine c_nil ?_
      refine c_region ?_
      refine pl_val (.int .i64 s25.1) (y_move rfl) ?_
      refine pl_val (.int .i64 (w64 (s25.1 + 1))) (y_add rfl rfl) ?_
      refine pl_val (.int .i64 (w64 (s25.1 + 1))) (y_assign rfl) ?_
      refine c_nil ?_
      refine c_region ?_
      refine pl_val (.int .i64 s25.2.1) (y_move rfl) ?_
      refine pl_val (.int .i64 (w64 (s25.2.1 + 1))) (y_add rfl rfl) ?_
      refine pl_val (.int .i64 (w64 (s25.2.1 + 1))) (y_assign rfl) ?_
      refine c_nil ?_
      cases hs
      exact ⟨_, f36, fr_ovl 19 ⟨rfl, rfl, rfl, trivial⟩, hC, hO, hv36⟩
    · skip
      refine c_condF (congrArg Value.bool hc33) ?_
      refine wp_exit ?_
      cases hs
      exact ⟨rfl, _, f31, fr_ovl 19 ⟨rfl, trivial⟩, hC, hO, hv31⟩
  · skip
    exact ⟨_, pf0, fr_ovl 19 ⟨rfl, rfl, rfl, trivial⟩, hC, hO, h0⟩
  · cases o29 with
    | nx _ => exact True.intro
    | rt r_ =>
      have hs := after_rt hs
      intro a1 w1 hK
      cases hs
      exact hK
    | br s25 =>
      have hs := after_br hs
      rintro a1 w26 ⟨σ, f32, rfl, hC, hO, hv32⟩
      refine c_seq ?_
      refine c_region ?_
      refine pl_val (.int .i64 s25.1) (y_move rfl) ?_
      refine pl_val (.int .i64 s25.1) (y_assign rfl) ?_
      refine c_nil ?_
      refine wp_ret ?_
      cases hs
      exact ⟨_, f32, fr_ovl 19 ⟨rfl, trivial⟩, hC, hv32, hO.top⟩

theorem Bd19 : Bodied Try.prog 19 := bodied Try.func19 (by kernel_rfl) rfl

def k_laws_markIntSS (M : Nat → Prop) (w0 : World) (qa0 : Option Addr) (qn0 qc0 : Nat) (qf0 : List Nat) (r : Int × (List (List Int))) (a : Act) (w : World) : Prop :=
  ∃ (σ : Nat → Value) (rfi0 : List Nat), a = fr 19 (ovl σ [(4, (.int .i64 r.1))]) ∧ Chg (qf0 ++ ([])) w0 w ∧ (RT.os 22 (RT.os 3 (RT.int .i64))).val M w (.slice qa0 qn0 qc0) r.2 rfi0 ∧ Own (Nw w0 (qf0 ++ ([]))) (fun _ => True) w (rfi0 ++ ([]))
def s_laws_markIntSS (a_ : List (List Int)) (k : Int) : Option (Int × (List (List Int))) :=
  (iter (S := Int × Int × (List (List Int))) (R := Int × (List (List Int))) (fun s37 =>
  (bif (decide (s37.2.1 < (s37.2.2.length : Int))) then (idx s37.2.2 s37.2.1).bind fun x46 =>
  (s_laws_markIntS x46 s37.1).bind fun r51 =>
  some (.nx (r51.1, w64 (s37.2.1 + 1), List.set s37.2.2 (Int.toNat s37.2.1) r51.2)) else some (.br (s37.1, s37.2.1, s37.2.2)))) FU (k, 0, a_)).bind fun o41 => after o41 (fun r_ => some r_) (fun s37 =>
  some (s37.1, s37.2.2))
set_option maxHeartbeats 4000000 in
theorem c_laws_markIntSS {M : Nat → Prop} {w : World} {pa0 : Option Addr} {pn0 pc0 : Nat} {pf0 : List Nat} (a_ : List (List Int)) (k : Int) (h0 : (RT.os 22 (RT.os 3 (RT.int .i64))).val M w (.slice pa0 pn0 pc0) a_ pf0) (hI : Own (Nw w (pf0 ++ ([]))) M w (pf0 ++ ([]))) (hM : ∀ g, w.heap.size ≤ g → M g) {r : Int × (List (List Int))} (hs : s_laws_markIntSS a_ k = some r) :
    Gives Try.prog 82 [(.slice pa0 pn0 pc0), (.int .i64 k)] w (fun v w' => ∃ (rfi0 : List Nat), v = (.int .i64 r.1) ∧ Chg (pf0 ++ ([])) w w' ∧ (RT.os 22 (RT.os 3 (RT.int .i64))).val M w' (.slice pa0 pn0 pc0) r.2 rfi0 ∧ Own (Nw w (pf0 ++ ([]))) (fun _ => True) w' (rfi0 ++ ([]))) := by
  refine calls_fr Try.func82 rfl Try.ntmps82 (Nat.le_of_ble_eq_true rfl) ?_
  have hO := hI
  have hC := Chg.refl (pf0 ++ ([])) w
  unfold s_laws_markIntSS at hs
  refine wp_mono (Q := KPost (k_laws_markIntSS M w pa0 pn0 pc0 pf0 r)) ?_ (fun e a w1 h => ?_)
  rotate_left
  · cases e
    case ret =>
      obtain ⟨σ, rfi0, rfl, hrest⟩ := h
      exact ret1x Try.results82 (res_tmp rfl) ⟨rfi0, rfl, hrest⟩
    all_goals exact (h : False).elim
  refine c_seq ?_
  refine c_region ?_
  refine pl_val (.int .i64 0) (y_assign rfl) ?_
  refine c_nil ?_
  refine c_seq ?_
  refine c_seq ?_
  refine c_region ?_
  refine pl_val (.int .i64 0) (y_assign rfl) ?_
  refine c_nil ?_
  obtain ⟨o41, hl42, hs⟩ := bind_some hs
  refine wp_block ?_
  refine wp_iter (id := 0) (I := fun s37 a w38 => ∃ (σ : Nat → Value) (f43 : List Nat), a = fr 19 (ovl σ [(0, (.slice pa0 pn0 pc0)), (1, (.int .i64 s37.1)), (5, (.int .i64 s37.2.1))]) ∧ Chg (pf0 ++ ([])) w w38 ∧ Own (Nw w (pf0 ++ ([]))) M w38 (f43 ++ []) ∧ (RT.os 22 (RT.os 3 (RT.int .i64))).val M w38 (.slice pa0 pn0 pc0) s37.2.2 f43) (J := fun s37 a w38 => ∃ (σ : Nat → Value) (f44 : List Nat), a = fr 19 (ovl σ [(1, (.int .i64 s37.1))]) ∧ Chg (pf0 ++ ([])) w w38 ∧ Own (Nw w (pf0 ++ ([]))) M w38 (f44 ++ []) ∧ (RT.os 22 (RT.os 3 (RT.int .i64))).val M w38 (.slice pa0 pn0 pc0) s37.2.2 f44) (K := (k_laws_markIntSS M w pa0 pn0 pc0 pf0)) ?_ FU (k, 0, a_) o41 _ _ ?_ hl42 ?_
  · rintro s37 o41 a w38 ⟨σ, f43, rfl, hC, hO, hv43⟩ hs
    refine c_seq ?_
    refine c_seq ?_
    refine c_region ?_
    refine pl_val (.int .i64 s37.2.1) (y_move rfl) ?_
    refine pl_val (.slice pa0 pn0 pc0) (y_move rfl) ?_
    refine pl_val (.int .i64 (s37.2.2.length : Int)) (y_len' Sl29 (os_len hv43) rfl) ?_
    refine pl_val (.bool (decide (s37.2.1 < (s37.2.2.length : Int)))) (y_lss rfl rfl) ?_
    refine c_nil ?_
    rcases bif_some hs with ⟨hc45, hs⟩ | ⟨hc45, hs⟩
    · skip
      refine c_condT (congrArg Value.bool hc45) ?_
      refine wp_skip ?_
      refine c_seq ?_
      refine wp_block ?_
      refine c_region ?_
      refine pl_val (.slice pa0 pn0 pc0) (y_move rfl) ?_
      refine pl_val (.int .i64 s37.2.1) (y_move rfl) ?_
      obtain ⟨x46, hx46, hs⟩ := bind_some hs
      obtain ⟨g47, f47, hg47, hk47, hp47, ha47, hf47⟩ := os_idx Sl29 Sz22 hv43 hx46
      have hb47 := own_row (Frz.os Frz.int) ha47 hf47
      refine pl_val (.pointer (some ⟨g47, 0 + Int.toNat s37.2.1 * 1, none⟩)) (hp47 _ _ _ _ _ _ _ _ _ rfl rfl) ?_
      obtain ⟨v48, hl48, hrow48, hv48⟩ := at_load1 Ag22 Sz22 rfl rfl hb47
      obtain ⟨a48, n48, c48, rfl⟩ := rs_sl hv48
      refine pl_val (.slice a48 n48 c48) (y_load rfl (hl48 _ (Chg.refl _ _))) ?_
      refine pl_val (.int .i64 s37.1) (y_move rfl) ?_
      obtain ⟨fg50, hrr50, hsf50, hnf50, hput50⟩ := os_put hg47 hv43 hx46 hrow48 rfl hO.inM
      have hg50x0 : (RT.os 3 (RT.int .i64)).val M w38 (.slice a48 n48 c48) x46 fg50 := ⟨[_], rfl, hrr50⟩
      have hfs50 : ∀ q ∈ (fg50 ++ ([])), q ∈ f43 := fun q hq => hsf50 q (by simpa using hq)
      have hfn50 : List.Nodup (fg50 ++ ([])) := by simpa using hnf50
      have hL50 := hO
      have hI50 := Own.part (X := (fg50 ++ ([]))) (hL50) hfs50 hfn50
      obtain ⟨r51, hr51, hs⟩ := bind_some hs
      refine pl_call Bd19 rfl (c_laws_markIntS (M := M) x46 s37.1 hg50x0 hI50 hI50.fut hr51) ?_
      rintro _ w50 ⟨fi50x0, rfl, hC50, hvi50x0, hOc50⟩
      obtain ⟨fq50, hvq50, hsq50⟩ := hput50 w50 (fg50 ++ ([])) r51.2 fi50x0 hC50 (fun q hq => by simpa using hq) (os_unval hvi50x0) (by simpa using hOc50.1) (fun q hq => (hOc50.2.1 q (by simpa using hq)).2.2.imp (fun h => by simpa using h) id)
      have hC := hC.step hC50 (fun g hg => hO.inN g (hfs50 g hg))
      have hO := hO.grow hC50 hsq50 (os_nodup hvq50) hvq50.fpl
      refine pl_val (.int .i64 r51.1) (y_assign rfl) ?_
      refine c_nil ?_
      refine c_region ?_
      refine pl_val (.int .i64 s37.2.1) (y_move rfl) ?_
      refine pl_val (.int .i64 (w64 (s37.2.1 + 1))) (y_add rfl rfl) ?_
      refine pl_val (.int .i64 (w64 (s37.2.1 + 1))) (y_assign rfl) ?_
      refine c_nil ?_
      cases hs
      exact ⟨_, fq50, fr_ovl 19 ⟨rfl, rfl, rfl, trivial⟩, hC, hO, hvq50⟩
    · skip
      refine c_condF (congrArg Value.bool hc45) ?_
      refine wp_exit ?_
      cases hs
      exact ⟨rfl, _, f43, fr_ovl 19 ⟨rfl, trivial⟩, hC, hO, hv43⟩
  · skip
    exact ⟨_, pf0, fr_ovl 19 ⟨rfl, rfl, rfl, trivial⟩, hC, hO, h0⟩
  · cases o41 with
    | nx _ => exact True.intro
    | rt r_ =>
      have hs := after_rt hs
      intro a1 w1 hK
      cases hs
      exact hK
    | br s37 =>
      have hs := after_br hs
      rintro a1 w38 ⟨σ, f44, rfl, hC, hO, hv44⟩
      refine c_seq ?_
      refine c_region ?_
      refine pl_val (.int .i64 s37.1) (y_move rfl) ?_
      refine pl_val (.int .i64 s37.1) (y_assign rfl) ?_
      refine c_nil ?_
      refine wp_ret ?_
      cases hs
      exact ⟨_, f44, fr_ovl 19 ⟨rfl, trivial⟩, hC, hv44, hO.top⟩

theorem Bd82 : Bodied Try.prog 82 := bodied Try.func82 (by kernel_rfl) rfl

def k_laws_markConstraintS (M : Nat → Prop) (w0 : World) (qa0 : Option Addr) (qn0 qc0 : Nat) (qf0 : List Nat) (r : Int × (List ((List Int) × (Int × (List (List Int)))))) (a : Act) (w : World) : Prop :=
  ∃ (σ : Nat → Value) (rfi0 : List Nat), a = fr 36 (ovl σ [(4, (.int .i64 r.1))]) ∧ Chg (qf0 ++ ([])) w0 w ∧ (RT.os 108 (RT.pr (RT.os 3 (RT.int .i64)) (RT.pr (RT.int .i64) (RT.os 22 (RT.os 3 (RT.int .i64)))))).val M w (.slice qa0 qn0 qc0) r.2 rfi0 ∧ Own (Nw w0 (qf0 ++ ([]))) (fun _ => True) w (rfi0 ++ ([]))
def s_laws_markConstraintS (a_ : List ((List Int) × (Int × (List (List Int))))) (k : Int) : Option (Int × (List ((List Int) × (Int × (List (List Int)))))) :=
  (iter (S := Int × Int × (List ((List Int) × (Int × (List (List Int)))))) (R := Int × (List ((List Int) × (Int × (List (List Int)))))) (fun s101 =>
  (bif (decide (s101.2.1 < (s101.2.2.length : Int))) then (idx s101.2.2 s101.2.1).bind fun x110 =>
  (s_laws_markIntS x110.1 s101.1).bind fun r117 =>
  (idx (List.set s101.2.2 (Int.toNat s101.2.1) (r117.2, (x110.2.1, x110.2.2))) s101.2.1).bind fun x118 =>
  (idx (List.set (List.set s101.2.2 (Int.toNat s101.2.1) (r117.2, (x110.2.1, x110.2.2))) (Int.toNat s101.2.1) (x118.1, (r117.1, x118.2.2))) s101.2.1).bind fun x123 =>
  (s_laws_markIntSS x123.2.2 (w64 (r117.1 + 1))).bind fun r131 =>
  some (.nx (r131.1, w64 (s101.2.1 + 1), List.set (List.set (List.set s101.2.2 (Int.toNat s101.2.1) (r117.2, (x110.2.1, x110.2.2))) (Int.toNat s101.2.1) (x118.1, (r117.1, x118.2.2))) (Int.toNat s101.2.1) (x123.1, (x123.2.1, r131.2)))) else some (.br (s101.1, s101.2.1, s101.2.2)))) FU (k, 0, a_)).bind fun o105 => after o105 (fun r_ => some r_) (fun s101 =>
  some (s101.1, s101.2.2))
set_option maxHeartbeats 4000000 in
theorem c_laws_markConstraintS {M : Nat → Prop} {w : World} {pa0 : Option Addr} {pn0 pc0 : Nat} {pf0 : List Nat} (a_ : List ((List Int) × (Int × (List (List Int))))) (k : Int) (h0 : (RT.os 108 (RT.pr (RT.os 3 (RT.int .i64)) (RT.pr (RT.int .i64) (RT.os 22 (RT.os 3 (RT.int .i64)))))).val M w (.slice pa0 pn0 pc0) a_ pf0) (hI : Own (Nw w (pf0 ++ ([]))) M w (pf0 ++ ([]))) (hM : ∀ g, w.heap.size ≤ g → M g) {r : Int × (List ((List Int) × (Int × (List (List Int)))))} (hs : s_laws_markConstraintS a_ k = some r) :
    Gives Try.prog 135 [(.slice pa0 pn0 pc0), (.int .i64 k)] w (fun v w' => ∃ (rfi0 : List Nat), v = (.int .i64 r.1) ∧ Chg (pf0 ++ ([])) w w' ∧ (RT.os 108 (RT.pr (RT.os 3 (RT.int .i64)) (RT.pr (RT.int .i64) (RT.os 22 (RT.os 3 (RT.int .i64)))))).val M w' (.slice pa0 pn0 pc0) r.2 rfi0 ∧ Own (Nw w (pf0 ++ ([]))) (fun _ => True) w' (rfi0 ++ ([]))) := by
  refine calls_fr Try.func135 rfl Try.ntmps135 (Nat.le_of_ble_eq_true rfl) ?_
  have hO := hI
  have hC := Chg.refl (pf0 ++ ([])) w
  unfold s_laws_markConstraintS at hs
  refine wp_mono (Q := KPost (k_laws_markConstraintS M w pa0 pn0 pc0 pf0 r)) ?_ (fun e a w1 h => ?_)
  rotate_left
  · cases e
    case ret =>
      obtain ⟨σ, rfi0, rfl, hrest⟩ := h
      exact ret1x Try.results135 (res_tmp rfl) ⟨rfi0, rfl, hrest⟩
    all_goals exact (h : False).elim
  refine c_seq ?_
  refine c_region ?_
  refine pl_val (.int .i64 0) (y_assign rfl) ?_
  refine c_nil ?_
  refine c_seq ?_
  refine c_seq ?_
  refine c_region ?_
  refine pl_val (.int .i64 0) (y_assign rfl) ?_
  refine c_nil ?_
  obtain ⟨o105, hl106, hs⟩ := bind_some hs
  refine wp_block ?_
  refine wp_iter (id := 0) (I := fun s101 a w102 => ∃ (σ : Nat → Value) (f107 : List Nat), a = fr 36 (ovl σ [(0, (.slice pa0 pn0 pc0)), (1, (.int .i64 s101.1)), (5, (.int .i64 s101.2.1))]) ∧ Chg (pf0 ++ ([])) w w102 ∧ Own (Nw w (pf0 ++ ([]))) M w102 (f107 ++ []) ∧ (RT.os 108 (RT.pr (RT.os 3 (RT.int .i64)) (RT.pr (RT.int .i64) (RT.os 22 (RT.os 3 (RT.int .i64)))))).val M w102 (.slice pa0 pn0 pc0) s101.2.2 f107) (J := fun s101 a w102 => ∃ (σ : Nat → Value) (f108 : List Nat), a = fr 36 (ovl σ [(1, (.int .i64 s101.1))]) ∧ Chg (pf0 ++ ([])) w w102 ∧ Own (Nw w (pf0 ++ ([]))) M w102 (f108 ++ []) ∧ (RT.os 108 (RT.pr (RT.os 3 (RT.int .i64)) (RT.pr (RT.int .i64) (RT.os 22 (RT.os 3 (RT.int .i64)))))).val M w102 (.slice pa0 pn0 pc0) s101.2.2 f108) (K := (k_laws_markConstraintS M w pa0 pn0 pc0 pf0)) ?_ FU (k, 0, a_) o105 _ _ ?_ hl106 ?_
  · rintro s101 o105 a w102 ⟨σ, f107, rfl, hC, hO, hv107⟩ hs
    refine c_seq ?_
    refine c_seq ?_
    refine c_region ?_
    refine pl_val (.int .i64 s101.2.1) (y_move rfl) ?_
    refine pl_val (.slice pa0 pn0 pc0) (y_move rfl) ?_
    refine pl_val (.int .i64 (s101.2.2.length : Int)) (y_len' Sl47 (os_len hv107) rfl) ?_
    refine pl_val (.bool (decide (s101.2.1 < (s101.2.2.length : Int)))) (y_lss rfl rfl) ?_
    refine c_nil ?_
    rcases bif_some hs with ⟨hc109, hs⟩ | ⟨hc109, hs⟩
    · skip
      refine c_condT (congrArg Value.bool hc109) ?_
      refine wp_skip ?_
      refine c_seq ?_
      refine wp_block ?_
      refine c_seq ?_
      refine c_region ?_
      refine pl_val (.slice pa0 pn0 pc0) (y_move rfl) ?_
      refine pl_val (.int .i64 s101.2.1) (y_move rfl) ?_
      obtain ⟨x110, hx110, hs⟩ := bind_some hs
      obtain ⟨g111, f111, hg111, hk111, hp111, ha111, hf111⟩ := os_idx Sl47 Sz108 hv107 hx110
      have hb111 := own_row (Frz.pr (Frz.os Frz.int) (Frz.pr Frz.int (Frz.os (Frz.os Frz.int)))) ha111 hf111
      refine pl_val (.pointer (some ⟨g111, 0 + Int.toNat s101.2.1 * 3, none⟩)) (hp111 _ _ _ _ _ _ _ _ _ rfl rfl) ?_
      obtain ⟨hq112, _⟩ := pr_at hb111
      refine pl_val (.pointer (some ⟨g111, (0 + Int.toNat s101.2.1 * 3) + 0, none⟩)) (y_faddr rfl Fa108x0) ?_
      obtain ⟨cs113, hrow113, hr113⟩ := at_open hb111
      obtain ⟨cc113x1, cd113x1, rfl, hh113x1, ht113x1⟩ := pr_open hr113
      obtain ⟨a113x1, n113x1, c113x1, rfl, hv113x1⟩ := rs_rel hh113x1
      obtain ⟨cc113x3, cd113x3, rfl, hh113x3, ht113x3⟩ := pr_open ht113x1
      obtain rfl := int_rel hh113x3
      obtain ⟨a113x4, n113x4, c113x4, rfl, hv113x4⟩ := rs_rel ht113x3
      refine pl_val (.slice a113x1 n113x1 c113x1) (y_load rfl ((part_load (l1 := []) (c := [(.slice a113x1 n113x1 c113x1)]) (l2 := [(.int .i64 x110.2.1), (.slice a113x4 n113x4 c113x4)]) Ag22 Sz22 hrow113 rfl rfl (fun _ => rfl)) _ (Chg.refl _ _))) ?_
      refine pl_val (.int .i64 s101.1) (y_move rfl) ?_
      obtain ⟨fg116, hrr116, hsf116, hnf116, hput116⟩ := os_put hg111 hv107 hx110 hrow113 rfl hO.inM
      obtain ⟨fa116x1, fb116x1, rfl, hp116x1, hq116x1⟩ := pr_split (c := [(.slice a113x1 n113x1 c113x1)]) (d := [(.int .i64 x110.2.1), (.slice a113x4 n113x4 c113x4)]) hrr116 rfl
      obtain ⟨fa116x2, fb116x2, rfl, hp116x2, hq116x2⟩ := pr_split (c := [(.int .i64 x110.2.1)]) (d := [(.slice a113x4 n113x4 c113x4)]) hq116x1 rfl
      obtain rfl := int_fp hp116x2
      have hg116x0 : (RT.os 3 (RT.int .i64)).val M w102 (.slice a113x1 n113x1 c113x1) x110.1 fa116x1 := ⟨[_], rfl, hp116x1⟩
      have hfs116 : ∀ q ∈ (fa116x1 ++ ([])), q ∈ f107 := fun q hq => hsf116 q (by simp only [List.mem_append, List.not_mem_nil, or_false] at hq; simp [hq])
      have hfn116 : List.Nodup (fa116x1 ++ ([])) := by simpa using (List.nodup_append.1 (show List.Nodup (fa116x1 ++ fb116x2) by simpa using hnf116)).1
      have hL116 := hO
      have hI116 := Own.part (X := (fa116x1 ++ ([]))) (hL116) hfs116 hfn116
      obtain ⟨r117, hr117, hs⟩ := bind_some hs
      refine pl_call Bd19 rfl (c_laws_markIntS (M := M) x110.1 s101.1 hg116x0 hI116 hI116.fut hr117) ?_
      rintro _ w116 ⟨fi116x0, rfl, hC116, hvi116x0, hOc116⟩
      obtain ⟨fq116, hvq116, hsq116⟩ := hput116 w116 (fa116x1 ++ ([])) (r117.2, (x110.2.1, x110.2.2)) (fi116x0 ++ (([] : List Nat) ++ fb116x2)) hC116 (fun q hq => by simp only [List.mem_append, List.not_mem_nil, or_false] at hq; simp [hq]) ⟨_, _, _, _, rfl, rfl, (os_unval hvi116x0), ⟨_, _, _, _, rfl, rfl, ⟨rfl, rfl⟩, (RT.mono _ hq116x2 hC116 (fun q hq => .inl (hO.inM q (hfs116 q hq))) (fun q hq hq' => (fun A B (hd : (A ++ B).Nodup) (ha : q ∈ A) (hb : q ∈ B) => (List.nodup_append.1 hd).2.2 q ha q hb rfl) fa116x1 fb116x2 (by simpa using hnf116) (by simpa using hq) hq') (fun _ h => .inl h))⟩⟩ (by simpa using nd_first (X := fa116x1) (X' := fi116x0) (s := (w102).heap.size) (show List.Nodup (fa116x1 ++ fb116x2) by simpa using hnf116) (by simpa using hOc116.1) (fun q hq => (hOc116.2.1 q (by simpa using hq)).2.2.imp (fun h => by simpa using h) id) (fun q hq => RT.fpl _ hq116x2 q hq)) (fun q hq => by simp only [List.mem_append, List.not_mem_nil, or_false, false_or] at hq ⊢; rcases hq with hq | hq <;> first | exact .inl (by simp [hq]) | exact ((fun q hq => (hOc116.2.1 q (by simpa using hq)).2.2.imp (fun h => by simpa using h) id) q hq).imp (fun h => by simp [h]) id)
      have hC := hC.step hC116 (fun g hg => hO.inN g (hfs116 g hg))
      have hO := hO.grow hC116 hsq116 (os_nodup hvq116) hvq116.fpl
      refine pl_val (.int .i64 r117.1) (y_assign rfl) ?_
      refine c_nil ?_
      refine c_seq ?_
      refine c_region ?_
      refine pl_val (.slice pa0 pn0 pc0) (y_move rfl) ?_
      refine pl_val (.int .i64 s101.2.1) (y_move rfl) ?_
      refine pl_val (.int .i64 r117.1) (y_move rfl) ?_
      obtain ⟨x118, hx118, hs⟩ := bind_some hs
      obtain ⟨g119, f119, hg119, hk119, hp119, ha119, hf119⟩ := os_idx Sl47 Sz108 hvq116 hx118
      have hb119 := own_row (Frz.pr (Frz.os Frz.int) (Frz.pr Frz.int (Frz.os (Frz.os Frz.int)))) ha119 hf119
      refine pl_val (.pointer (some ⟨g119, 0 + Int.toNat s101.2.1 * 3, none⟩)) (hp119 _ _ _ _ _ _ _ _ _ rfl rfl) ?_
      obtain ⟨_, hq120x0⟩ := pr_at hb119
      refine pl_val (.pointer (some ⟨g119, (0 + Int.toNat s101.2.1 * 3) + 1, none⟩)) (y_faddr rfl Fa108x1) ?_
      obtain ⟨hq121, _⟩ := pr_at hq120x0
      refine pl_val (.pointer (some ⟨g119, ((0 + Int.toNat s101.2.1 * 3) + 1) + 0, none⟩)) (y_faddr rfl Fa31x0) ?_
      obtain ⟨L1122, c122, L2122, fq122, hL122, hc122, hbx122, hr122, hsf122, hnf122, hgi122, hgn122, hput122⟩ := os_focus hg119 hvq116 hx118 hO.inM
      obtain ⟨c122x1, d122x1, f122x1, k122x1, rfl, rfl, hl122x1, ht122x1⟩ := hr122
      obtain ⟨c122x2, d122x2, f122x2, k122x2, rfl, rfl, hl122x2, ht122x2⟩ := ht122x1
      obtain ⟨rfl, rfl⟩ := hl122x2
      have hn122x0 := RT.len _ hl122x1
      have hn122x2 := RT.len _ ht122x2
      obtain ⟨w122, hst122, hC122, hb122⟩ := box_store (P := Try.prog) hbx122 (L1122 ++ c122x1) [(Value.int .i64 x118.2.1)] (d122x2 ++ (L2122)) [(Value.int .i64 r117.1)] (by simp) rfl (by intro u hu; rw [List.mem_singleton.1 hu]; rfl)
      have hA122 : (L1122 ++ c122x1).length = (((0 + Int.toNat s101.2.1 * 3) + 1) + 0) := by
        simp only [List.length_append, hL122, hn122x0]
        try rfl
      rw [hA122] at hst122
      have hGM122 : ∀ q ∈ [g119], M q ∨ (w116).heap.size ≤ q := fun q hq => .inl (by rw [List.mem_singleton.1 hq]; exact hO.inM _ hgi122)
      obtain ⟨fz122, hv122, hf122⟩ := hput122 w122 [g119] (c122x1 ++ ([(Value.int .i64 r117.1)] ++ d122x2)) (x118.1, (r117.1, x118.2.2)) (f122x1 ++ (([] : List Nat) ++ k122x2)) hC122 (fun q hq => .inl (List.mem_singleton.1 hq)) (by simpa using hb122) ⟨_, _, _, _, rfl, rfl, (RT.mono _ hl122x1 hC122 hGM122 (fun q hq hq' => hgn122 (by rw [List.mem_singleton.1 hq] at hq'; simp [hq'])) (fun _ h => .inl h)), ⟨_, _, _, _, rfl, rfl, ⟨rfl, rfl⟩, (RT.mono _ ht122x2 hC122 hGM122 (fun q hq hq' => hgn122 (by rw [List.mem_singleton.1 hq] at hq'; simp [hq'])) (fun _ h => .inl h))⟩⟩ hnf122 (fun q hq => .inl hq)
      refine pl_skip (w' := w122) (ys_store rfl rfl (hst122 _ _ rfl Sz3)) ?_
      have hG122 : ∀ q ∈ [g119], q ∈ fq116 := fun q hq => by rw [List.mem_singleton.1 hq]; exact hgi122
      have hC := hC.step hC122 (fun g hg => hO.inN g (hG122 g hg))
      have hO := hO.grow hC122 hf122 (os_nodup hv122) hv122.fpl
      refine c_nil ?_
      refine c_seq ?_
      refine c_region ?_
      refine pl_val (.int .i64 r117.1) (y_move rfl) ?_
      refine pl_val (.int .i64 (w64 (r117.1 + 1))) (y_add rfl rfl) ?_
      refine pl_val (.int .i64 (w64 (r117.1 + 1))) (y_assign rfl) ?_
      refine c_nil ?_
      refine c_region ?_
      refine pl_val (.slice pa0 pn0 pc0) (y_move rfl) ?_
      refine pl_val (.int .i64 s101.2.1) (y_move rfl) ?_
      obtain ⟨x123, hx123, hs⟩ := bind_some hs
      obtain ⟨g124, f124, hg124, hk124, hp124, ha124, hf124⟩ := os_idx Sl47 Sz108 hv122 hx123
      have hb124 := own_row (Frz.pr (Frz.os Frz.int) (Frz.pr Frz.int (Frz.os (Frz.os Frz.int)))) ha124 hf124
      refine pl_val (.pointer (some ⟨g124, 0 + Int.toNat s101.2.1 * 3, none⟩)) (hp124 _ _ _ _ _ _ _ _ _ rfl rfl) ?_
      obtain ⟨_, hq125x0⟩ := pr_at hb124
      refine pl_val (.pointer (some ⟨g124, (0 + Int.toNat s101.2.1 * 3) + 1, none⟩)) (y_faddr rfl Fa108x1) ?_
      obtain ⟨_, hq126x0⟩ := pr_at hq125x0
      refine pl_val (.pointer (some ⟨g124, ((0 + Int.toNat s101.2.1 * 3) + 1) + 1, none⟩)) (y_faddr rfl Fa31x1) ?_
      obtain ⟨cs127, hrow127, hr127⟩ := at_open hb124
      obtain ⟨cc127x1, cd127x1, rfl, hh127x1, ht127x1⟩ := pr_open hr127
      obtain ⟨a127x1, n127x1, c127x1, rfl, hv127x1⟩ := rs_rel hh127x1
      obtain ⟨cc127x3, cd127x3, rfl, hh127x3, ht127x3⟩ := pr_open ht127x1
      obtain rfl := int_rel hh127x3
      obtain ⟨a127x4, n127x4, c127x4, rfl, hv127x4⟩ := rs_rel ht127x3
      refine pl_val (.slice a127x4 n127x4 c127x4) (y_load rfl ((part_load (l1 := [(.slice a127x1 n127x1 c127x1), (.int .i64 x123.2.1)]) (c := [(.slice a127x4 n127x4 c127x4)]) (l2 := []) Ag29 Sz29 hrow127 rfl rfl (fun _ => rfl)) _ (Chg.refl _ _))) ?_
      refine pl_val (.int .i64 (w64 (r117.1 + 1))) (y_move rfl) ?_
      obtain ⟨fg130, hrr130, hsf130, hnf130, hput130⟩ := os_put hg124 hv122 hx123 hrow127 rfl hO.inM
      obtain ⟨fa130x1, fb130x1, rfl, hp130x1, hq130x1⟩ := pr_split (c := [(.slice a127x1 n127x1 c127x1)]) (d := [(.int .i64 x123.2.1), (.slice a127x4 n127x4 c127x4)]) hrr130 rfl
      obtain ⟨fa130x2, fb130x2, rfl, hp130x2, hq130x2⟩ := pr_split (c := [(.int .i64 x123.2.1)]) (d := [(.slice a127x4 n127x4 c127x4)]) hq130x1 rfl
      obtain rfl := int_fp hp130x2
      have hg130x0 : (RT.os 22 (RT.os 3 (RT.int .i64))).val M w122 (.slice a127x4 n127x4 c127x4) x123.2.2 fb130x2 := ⟨[_], rfl, hq130x2⟩
      have hfs130 : ∀ q ∈ (fb130x2 ++ ([])), q ∈ fz122 := fun q hq => hsf130 q (by simp only [List.mem_append, List.not_mem_nil, or_false] at hq; simp [hq])
      have hfn130 : List.Nodup (fb130x2 ++ ([])) := by simpa using (List.nodup_append.1 (show List.Nodup (fa130x1 ++ fb130x2) by simpa using hnf130)).2.1
      have hL130 := hO
      have hI130 := Own.part (X := (fb130x2 ++ ([]))) (hL130) hfs130 hfn130
      obtain ⟨r131, hr131, hs⟩ := bind_some hs
      refine pl_call Bd82 rfl (c_laws_markIntSS (M := M) x123.2.2 (w64 (r117.1 + 1)) hg130x0 hI130 hI130.fut hr131) ?_
      rintro _ w130 ⟨fi130x0, rfl, hC130, hvi130x0, hOc130⟩
      obtain ⟨fq130, hvq130, hsq130⟩ := hput130 w130 (fb130x2 ++ ([])) (x123.1, (x123.2.1, r131.2)) (fa130x1 ++ (([] : List Nat) ++ fi130x0)) hC130 (fun q hq => by simp only [List.mem_append, List.not_mem_nil, or_false] at hq; simp [hq]) ⟨_, _, _, _, rfl, rfl, (RT.mono _ hp130x1 hC130 (fun q hq => .inl (hO.inM q (hfs130 q hq))) (fun q hq hq' => (fun A B (hd : (A ++ B).Nodup) (ha : q ∈ A) (hb : q ∈ B) => (List.nodup_append.1 hd).2.2 q ha q hb rfl) fa130x1 fb130x2 (by simpa using hnf130) hq' (by simpa using hq)) (fun _ h => .inl h)), ⟨_, _, _, _, rfl, rfl, ⟨rfl, rfl⟩, (os_unval hvi130x0)⟩⟩ (by simpa using nd_last (X := fb130x2) (X' := fi130x0) (s := (w122).heap.size) (show List.Nodup (fa130x1 ++ fb130x2) by simpa using hnf130) (by simpa using hOc130.1) (fun q hq => (hOc130.2.1 q (by simpa using hq)).2.2.imp (fun h => by simpa using h) id) (fun q hq => RT.fpl _ hp130x1 q hq)) (fun q hq => by simp only [List.mem_append, List.not_mem_nil, or_false, false_or] at hq ⊢; rcases hq with hq | hq <;> first | exact .inl (by simp [hq]) | exact ((fun q hq => (hOc130.2.1 q (by simpa using hq)).2.2.imp (fun h => by simpa using h) id) q hq).imp (fun h => by simp [h]) id)
      have hC := hC.step hC130 (fun g hg => hO.inN g (hfs130 g hg))
      have hO := hO.grow hC130 hsq130 (os_nodup hvq130) hvq130.fpl
      refine pl_val (.int .i64 r131.1) (y_assign rfl) ?_
      refine c_nil ?_
      refine c_region ?_
      refine pl_val (.int .i64 s101.2.1) (y_move rfl) ?_
      refine pl_val (.int .i64 (w64 (s101.2.1 + 1))) (y_add rfl rfl) ?_
      refine pl_val (.int .i64 (w64 (s101.2.1 + 1))) (y_assign rfl) ?_
      refine c_nil ?_
      cases hs
      exact ⟨_, fq130, fr_ovl 36 ⟨rfl, rfl, rfl, trivial⟩, hC, hO, hvq130⟩
    · skip
      refine c_condF (congrArg Value.bool hc109) ?_
      refine wp_exit ?_
      cases hs
      exact ⟨rfl, _, f107, fr_ovl 36 ⟨rfl, trivial⟩, hC, hO, hv107⟩
  · skip
    exact ⟨_, pf0, fr_ovl 36 ⟨rfl, rfl, rfl, trivial⟩, hC, hO, h0⟩
  · cases o105 with
    | nx _ => exact True.intro
    | rt r_ =>
      have hs := after_rt hs
      intro a1 w1 hK
      cases hs
      exact hK
    | br s101 =>
      have hs := after_br hs
      rintro a1 w102 ⟨σ, f108, rfl, hC, hO, hv108⟩
      refine c_seq ?_
      refine c_region ?_
      refine pl_val (.int .i64 s101.1) (y_move rfl) ?_
      refine pl_val (.int .i64 s101.1) (y_assign rfl) ?_
      refine c_nil ?_
      refine wp_ret ?_
      cases hs
      exact ⟨_, f108, fr_ovl 36 ⟨rfl, trivial⟩, hC, hv108, hO.top⟩

theorem Bd135 : Bodied Try.prog 135 := bodied Try.func135 (by kernel_rfl) rfl

def k_laws_markNetwork (M : Nat → Prop) (w0 : World) (qa0 : Option Addr) (qn0 qc0 : Nat) (qf0 : List Nat) (r : Int × (List ((List Int) × (Int × (List (List Int)))))) (a : Act) (w : World) : Prop :=
  ∃ (σ : Nat → Value) (rfi0 : List Nat), a = fr 10 (ovl σ [(4, (.int .i64 r.1))]) ∧ Chg (qf0 ++ ([])) w0 w ∧ (RT.os 108 (RT.pr (RT.os 3 (RT.int .i64)) (RT.pr (RT.int .i64) (RT.os 22 (RT.os 3 (RT.int .i64)))))).val M w (.slice qa0 qn0 qc0) r.2 rfi0 ∧ Own (Nw w0 (qf0 ++ ([]))) (fun _ => True) w (rfi0 ++ ([]))
def s_laws_markNetwork (a_ : Int × Int × (List ((List Int) × (Int × (List (List Int)))))) (k : Int) : Option (Int × (List ((List Int) × (Int × (List (List Int)))))) :=
  (s_laws_markConstraintS a_.2.2 k).bind fun r4 =>
  some (r4.1, r4.2)
set_option maxHeartbeats 4000000 in
theorem c_laws_markNetwork {M : Nat → Prop} {w : World} {pa0 : Option Addr} {pn0 pc0 : Nat} {pf0 : List Nat} (a_ : Int × Int × (List ((List Int) × (Int × (List (List Int)))))) (k : Int) (h0 : (RT.os 108 (RT.pr (RT.os 3 (RT.int .i64)) (RT.pr (RT.int .i64) (RT.os 22 (RT.os 3 (RT.int .i64)))))).val M w (.slice pa0 pn0 pc0) a_.2.2 pf0) (hI : Own (Nw w (pf0 ++ ([]))) M w (pf0 ++ ([]))) (hM : ∀ g, w.heap.size ≤ g → M g) {r : Int × (List ((List Int) × (Int × (List (List Int)))))} (hs : s_laws_markNetwork a_ k = some r) :
    Gives Try.prog 69 [(.agg #[(.int .i64 a_.1), (.int .i64 a_.2.1), (.slice pa0 pn0 pc0)]), (.int .i64 k)] w (fun v w' => ∃ (rfi0 : List Nat), v = (.int .i64 r.1) ∧ Chg (pf0 ++ ([])) w w' ∧ (RT.os 108 (RT.pr (RT.os 3 (RT.int .i64)) (RT.pr (RT.int .i64) (RT.os 22 (RT.os 3 (RT.int .i64)))))).val M w' (.slice pa0 pn0 pc0) r.2 rfi0 ∧ Own (Nw w (pf0 ++ ([]))) (fun _ => True) w' (rfi0 ++ ([]))) := by
  refine calls_fr Try.func69 rfl Try.ntmps69 (Nat.le_of_ble_eq_true rfl) ?_
  have hO := hI
  have hC := Chg.refl (pf0 ++ ([])) w
  unfold s_laws_markNetwork at hs
  refine wp_mono (Q := KPost (k_laws_markNetwork M w pa0 pn0 pc0 pf0 r)) ?_ (fun e a w1 h => ?_)
  rotate_left
  · cases e
    case ret =>
      obtain ⟨σ, rfi0, rfl, hrest⟩ := h
      exact ret1x Try.results69 (res_tmp rfl) ⟨rfi0, rfl, hrest⟩
    all_goals exact (h : False).elim
  refine c_seq ?_
  refine c_region ?_
  obtain ⟨w2, g2, ew2, eg2, hC2, hb2⟩ := new_block w [(.int .i64 a_.1), (.int .i64 a_.2.1), (.slice pa0 pn0 pc0)] 49
  refine pl_val (w' := w2) (.pointer (some ⟨g2, 0, none⟩)) (y_box rfl (by rw [ew2, eg2]; kernel_rfl)) ?_
  have h0 := h0.ext hC2
  have hC := hC.ext hC2
  have hO := hO.new (X' := [g2]) hC2 (fun q hq => by rw [List.mem_singleton.1 hq, eg2]; exact Nat.le_refl _) (List.nodup_cons.2 ⟨(fun h => nomatch h), List.nodup_nil⟩) (fun q hq => by rw [List.mem_singleton.1 hq]; exact hb2.lt)
  refine pl_val (.int .i64 0) (y_assign rfl) ?_
  refine c_nil ?_
  refine c_seq ?_
  refine c_region ?_
  refine pl_val (.pointer (some ⟨g2, 2, none⟩)) (y_faddr rfl Fa49x2) ?_
  refine pl_val (.slice pa0 pn0 pc0) (y_load rfl ((box_load Ag47 Sz47 hb2 [(.int .i64 a_.1), (.int .i64 a_.2.1)] [(.slice pa0 pn0 pc0)] [] rfl rfl (fun _ => rfl)) _ (Chg.refl _ _))) ?_
  refine pl_val (.int .i64 k) (y_move rfl) ?_
  have hO := hO.fr1
  have hL3 := hO
  have hI3 := Own.lend (F := (pf0 ++ ([]))) (R := ([g2]) ++ ([])) (Own.perm (hL3) (by simp))
  obtain ⟨r4, hr4, hs⟩ := bind_some hs
  refine pl_call Bd135 rfl (c_laws_markConstraintS (M := M) a_.2.2 k h0 hI3 hI3.fut hr4) ?_
  rintro _ w3 ⟨fi3x0, rfl, hC3, hvi3x0, hOc3⟩
  have hO := hO.perm (R := (pf0 ++ ([])) ++ (([g2]) ++ ([]))) (by simp)
  have hb2 := hb2.chg hC3 (fun hg => hO.apart _ ((fun _ h => h) _ hg) (mem_l (List.mem_singleton.2 rfl)))
  have hC := hC.step hC3 (fun g hg => hO.inN g ((fun _ h => h) g hg))
  have hO := Own.join hO hC3 hOc3
  have hO := hO.perm (R := fi3x0 ++ (([g2]) ++ ([]))) (by simp)
  refine pl_val (.int .i64 r4.1) (y_assign rfl) ?_
  refine c_nil ?_
  refine c_seq ?_
  refine c_region ?_
  refine pl_val (.int .i64 r4.1) (y_move rfl) ?_
  refine pl_val (.int .i64 r4.1) (y_assign rfl) ?_
  refine c_nil ?_
  refine wp_ret ?_
  cases hs
  have hO := hO.fr1
  have hO := hO.drop
  exact ⟨_, fi3x0, fr_ovl 10 ⟨rfl, trivial⟩, hC, hvi3x0, hO.top⟩

def k_laws_heldIntS (M : Nat → Prop) (w0 : World) (r : Int) (a : Act) (w : World) : Prop :=
  ∃ (σ : Nat → Value) , a = fr 21 (ovl σ [(4, (.int .i64 r))]) ∧ Chg [] w0 w
def s_laws_heldIntS (a_ : List Int) (k : Int) : Option (Int) :=
  (forC (S := Int) (R := Int) (fun k7 s5 =>
  (idx a_ k7).bind fun x11 =>
  (bif (x11 != s5) then some (.rt (-1)) else some (.nx (w64 (s5 + 1))))) 0 (a_.length : Int) k).bind fun o9 => after o9 (fun r_ => some r_) (fun s5 =>
  some s5)
set_option maxHeartbeats 4000000 in
theorem c_laws_heldIntS {M : Nat → Prop} {w : World} {pa0 : Option Addr} {pn0 pc0 : Nat} (a_ : List Int) (k : Int) (h0 : (RT.rs (RT.int .i64)).val M w (.slice pa0 pn0 pc0) a_ ([])) (hM : ∀ g, w.heap.size ≤ g → M g) {r : Int} (hs : s_laws_heldIntS a_ k = some r) :
    Gives Try.prog 20 [(.slice pa0 pn0 pc0), (.int .i64 k)] w (fun v w' => v = (.int .i64 r) ∧ Chg [] w w') := by
  refine calls_fr Try.func20 rfl Try.ntmps20 (Nat.le_of_ble_eq_true rfl) ?_
  have hO := Own.start (N := Nw w []) hM Nw.fut
  have hC := Chg.refl [] w
  unfold s_laws_heldIntS at hs
  refine wp_mono (Q := KPost (k_laws_heldIntS M w r)) ?_ (fun e a w1 h => ?_)
  rotate_left
  · cases e
    case ret =>
      obtain ⟨σ, rfl, hrest⟩ := h
      exact ret1x Try.results20 (res_tmp rfl) ⟨rfl, hrest⟩
    all_goals exact (h : False).elim
  refine c_seq ?_
  refine c_region ?_
  refine pl_val (.int .i64 0) (y_assign rfl) ?_
  refine c_nil ?_
  refine c_seq ?_
  refine c_seq ?_
  refine c_region ?_
  refine pl_val (.int .i64 0) (y_assign rfl) ?_
  refine c_nil ?_
  obtain ⟨o9, hl10, hs⟩ := bind_some hs
  refine wp_block ?_
  refine wp_forC (id := 0) (a_.length : Int) (I := fun k7 s5 a w6 => ∃ (σ : Nat → Value), a = fr 21 (ovl σ [(0, (.slice pa0 pn0 pc0)), (1, (.int .i64 s5)), (5, (.int .i64 k7))]) ∧ Chg [] w w6 ∧ Own (Nw w []) M w6 ([]) ∧ (RT.rs (RT.int .i64)).val M w6 (.slice pa0 pn0 pc0) a_ ([])) (J := fun s5 a w6 => ∃ (σ : Nat → Value), a = fr 21 (ovl σ [(1, (.int .i64 s5))]) ∧ Chg [] w w6 ∧ Own (Nw w []) M w6 ([]) ∧ (RT.rs (RT.int .i64)).val M w6 (.slice pa0 pn0 pc0) a_ ([])) (K := (k_laws_heldIntS M w)) ?_ ?_ 0 k o9 _ _ ?_ hl10 ?_
  · rintro k7 s5 a w6 ⟨σ, rfl, hC, hO, h0⟩ hlt
    refine c_seq ?_
    refine c_seq ?_
    refine c_region ?_
    refine pl_val (.int .i64 k7) (y_move rfl) ?_
    refine pl_val (.slice pa0 pn0 pc0) (y_move rfl) ?_
    refine pl_val (.int .i64 (a_.length : Int)) (y_len' Sl22 (rs_len h0) rfl) ?_
    refine pl_val (.bool (decide (k7 < (a_.length : Int)))) (y_lss rfl rfl) ?_
    refine c_nil ?_
    refine c_condF (congrArg Value.bool (decide_eq_false hlt)) ?_
    refine wp_exit ?_
    exact ⟨rfl, _, fr_ovl 21 ⟨rfl, trivial⟩, hC, hO, h0⟩
  · rintro k7 s5 o9 a w6 ⟨σ, rfl, hC, hO, h0⟩ hlt hw hs
    refine c_seq ?_
    refine c_seq ?_
    refine c_region ?_
    refine pl_val (.int .i64 k7) (y_move rfl) ?_
    refine pl_val (.slice pa0 pn0 pc0) (y_move rfl) ?_
    refine pl_val (.int .i64 (a_.length : Int)) (y_len' Sl22 (rs_len h0) rfl) ?_
    refine pl_val (.bool (decide (k7 < (a_.length : Int)))) (y_lss rfl rfl) ?_
    refine c_nil ?_
    refine c_condT (congrArg Value.bool (decide_eq_true hlt)) ?_
    refine wp_skip ?_
    refine c_seq ?_
    refine wp_block ?_
    refine c_seq ?_
    refine c_seq ?_
    refine c_region ?_
    refine pl_val (.slice pa0 pn0 pc0) (y_move rfl) ?_
    refine pl_val (.int .i64 k7) (y_move rfl) ?_
    obtain ⟨x11, hx11, hs⟩ := bind_some hs
    obtain ⟨b12, o12, hp12, ha12⟩ := rs_idx Sl22 Sz3 h0 hx11
    refine pl_val (.pointer (some ⟨b12, o12, none⟩)) (hp12 _ _ _ _ _ _ _ _ _ rfl rfl) ?_
    refine pl_val (.int .i64 x11) (y_load rfl ((at_load_int Ag3 Sz3 ha12) _ (Chg.refl _ _))) ?_
    refine pl_val (.int .i64 s5) (y_move rfl) ?_
    refine pl_val (.bool (x11 != s5)) (y_neq rfl rfl) ?_
    refine c_nil ?_
    rcases bif_some hs with ⟨hc13, hs⟩ | ⟨hc13, hs⟩
    · skip
      refine c_condT (congrArg Value.bool hc13) ?_
      refine c_seq ?_
      refine c_region ?_
      refine pl_val (.int .i64 (-1)) (y_assign rfl) ?_
      refine c_nil ?_
      refine wp_ret ?_
      cases hs
      exact ⟨_, fr_ovl 21 ⟨rfl, trivial⟩, hC⟩
    · skip
      refine c_condF (congrArg Value.bool hc13) ?_
      refine wp_skip ?_
      refine c_region ?_
      refine pl_val (.int .i64 s5) (y_move rfl) ?_
      refine pl_val (.int .i64 (w64 (s5 + 1))) (y_add rfl rfl) ?_
      refine pl_val (.int .i64 (w64 (s5 + 1))) (y_assign rfl) ?_
      refine c_nil ?_
      refine c_region ?_
      refine pl_val (.int .i64 k7) (y_move rfl) ?_
      refine pl_val (.int .i64 (w64 (k7 + 1))) (y_add rfl rfl) ?_
      refine pl_val (.int .i64 (w64 (k7 + 1))) (y_assign rfl) ?_
      refine c_nil ?_
      cases hs
      exact ⟨_, fr_ovl 21 ⟨rfl, rfl, congrArg (Value.int .i64) hw, trivial⟩, hC, hO, h0⟩
  · skip
    exact ⟨_, fr_ovl 21 ⟨rfl, rfl, rfl, trivial⟩, hC, hO, h0⟩
  · cases o9 with
    | nx _ => exact True.intro
    | rt r_ =>
      have hs := after_rt hs
      intro a1 w1 hK
      cases hs
      exact hK
    | br s5 =>
      have hs := after_br hs
      rintro a1 w6 ⟨σ, rfl, hC, hO, h0⟩
      refine c_seq ?_
      refine c_region ?_
      refine pl_val (.int .i64 s5) (y_move rfl) ?_
      refine pl_val (.int .i64 s5) (y_assign rfl) ?_
      refine c_nil ?_
      refine wp_ret ?_
      cases hs
      exact ⟨_, fr_ovl 21 ⟨rfl, trivial⟩, hC⟩

theorem Bd20 : Bodied Try.prog 20 := bodied Try.func20 (by kernel_rfl) rfl

def k_laws_heldIntSS (M : Nat → Prop) (w0 : World) (r : Int) (a : Act) (w : World) : Prop :=
  ∃ (σ : Nat → Value) , a = fr 21 (ovl σ [(4, (.int .i64 r))]) ∧ Chg [] w0 w
def s_laws_heldIntSS (a_ : List (List Int)) (k : Int) : Option (Int) :=
  (forC (S := Int) (R := Int) (fun k11 s9 =>
  (idx a_ k11).bind fun x15 =>
  (s_laws_heldIntS x15 s9).bind fun r20 =>
  (bif (decide (r20 < 0)) then some (.rt (-1)) else some (.nx r20))) 0 (a_.length : Int) k).bind fun o13 => after o13 (fun r_ => some r_) (fun s9 =>
  some s9)
set_option maxHeartbeats 4000000 in
theorem c_laws_heldIntSS {M : Nat → Prop} {w : World} {pa0 : Option Addr} {pn0 pc0 : Nat} (a_ : List (List Int)) (k : Int) (h0 : (RT.rs (RT.rs (RT.int .i64))).val M w (.slice pa0 pn0 pc0) a_ ([])) (hM : ∀ g, w.heap.size ≤ g → M g) {r : Int} (hs : s_laws_heldIntSS a_ k = some r) :
    Gives Try.prog 83 [(.slice pa0 pn0 pc0), (.int .i64 k)] w (fun v w' => v = (.int .i64 r) ∧ Chg [] w w') := by
  refine calls_fr Try.func83 rfl Try.ntmps83 (Nat.le_of_ble_eq_true rfl) ?_
  have hO := Own.start (N := Nw w []) hM Nw.fut
  have hC := Chg.refl [] w
  unfold s_laws_heldIntSS at hs
  refine wp_mono (Q := KPost (k_laws_heldIntSS M w r)) ?_ (fun e a w1 h => ?_)
  rotate_left
  · cases e
    case ret =>
      obtain ⟨σ, rfl, hrest⟩ := h
      exact ret1x Try.results83 (res_tmp rfl) ⟨rfl, hrest⟩
    all_goals exact (h : False).elim
  refine c_seq ?_
  refine c_region ?_
  refine pl_val (.int .i64 0) (y_assign rfl) ?_
  refine c_nil ?_
  refine c_seq ?_
  refine c_seq ?_
  refine c_region ?_
  refine pl_val (.int .i64 0) (y_assign rfl) ?_
  refine c_nil ?_
  obtain ⟨o13, hl14, hs⟩ := bind_some hs
  refine wp_block ?_
  refine wp_forC (id := 0) (a_.length : Int) (I := fun k11 s9 a w10 => ∃ (σ : Nat → Value), a = fr 21 (ovl σ [(0, (.slice pa0 pn0 pc0)), (1, (.int .i64 s9)), (5, (.int .i64 k11))]) ∧ Chg [] w w10 ∧ Own (Nw w []) M w10 ([]) ∧ (RT.rs (RT.rs (RT.int .i64))).val M w10 (.slice pa0 pn0 pc0) a_ ([])) (J := fun s9 a w10 => ∃ (σ : Nat → Value), a = fr 21 (ovl σ [(1, (.int .i64 s9))]) ∧ Chg [] w w10 ∧ Own (Nw w []) M w10 ([]) ∧ (RT.rs (RT.rs (RT.int .i64))).val M w10 (.slice pa0 pn0 pc0) a_ ([])) (K := (k_laws_heldIntSS M w)) ?_ ?_ 0 k o13 _ _ ?_ hl14 ?_
  · rintro k11 s9 a w10 ⟨σ, rfl, hC, hO, h0⟩ hlt
    refine c_seq ?_
    refine c_seq ?_
    refine c_region ?_
    refine pl_val (.int .i64 k11) (y_move rfl) ?_
    refine pl_val (.slice pa0 pn0 pc0) (y_move rfl) ?_
    refine pl_val (.int .i64 (a_.length : Int)) (y_len' Sl29 (rs_len h0) rfl) ?_
    refine pl_val (.bool (decide (k11 < (a_.length : Int)))) (y_lss rfl rfl) ?_
    refine c_nil ?_
    refine c_condF (congrArg Value.bool (decide_eq_false hlt)) ?_
    refine wp_exit ?_
    exact ⟨rfl, _, fr_ovl 21 ⟨rfl, trivial⟩, hC, hO, h0⟩
  · rintro k11 s9 o13 a w10 ⟨σ, rfl, hC, hO, h0⟩ hlt hw hs
    refine c_seq ?_
    refine c_seq ?_
    refine c_region ?_
    refine pl_val (.int .i64 k11) (y_move rfl) ?_
    refine pl_val (.slice pa0 pn0 pc0) (y_move rfl) ?_
    refine pl_val (.int .i64 (a_.length : Int)) (y_len' Sl29 (rs_len h0) rfl) ?_
    refine pl_val (.bool (decide (k11 < (a_.length : Int)))) (y_lss rfl rfl) ?_
    refine c_nil ?_
    refine c_condT (congrArg Value.bool (decide_eq_true hlt)) ?_
    refine wp_skip ?_
    refine c_seq ?_
    refine wp_block ?_
    refine c_seq ?_
    refine c_region ?_
    refine pl_val (.slice pa0 pn0 pc0) (y_move rfl) ?_
    refine pl_val (.int .i64 k11) (y_move rfl) ?_
    obtain ⟨x15, hx15, hs⟩ := bind_some hs
    obtain ⟨b16, o16, hp16, ha16⟩ := rs_idx Sl29 Sz22 h0 hx15
    refine pl_val (.pointer (some ⟨b16, o16, none⟩)) (hp16 _ _ _ _ _ _ _ _ _ rfl rfl) ?_
    obtain ⟨v17, hl17, hv17⟩ := at_load Ag22 Sz22 (fun _ => rfl) ha16
    obtain ⟨a17, n17, c17, rfl⟩ := rs_sl hv17
    refine pl_val (.slice a17 n17 c17) (y_load rfl (hl17 _ (Chg.refl _ _))) ?_
    refine pl_val (.int .i64 s9) (y_move rfl) ?_
    obtain ⟨r20, hr20, hs⟩ := bind_some hs
    refine pl_call Bd20 rfl (c_laws_heldIntS (M := M) x15 s9 hv17 hO.fut hr20) ?_
    rintro _ w19 ⟨rfl, hC19⟩
    have h0 := h0.ext hC19
    have hv17 := hv17.ext hC19
    have hC := hC.ext hC19
    have hO := hO.ext hC19
    refine pl_val (.int .i64 r20) (y_assign rfl) ?_
    refine c_nil ?_
    refine c_seq ?_
    refine c_region ?_
    refine pl_val (.int .i64 r20) (y_move rfl) ?_
    refine pl_val (.bool (decide (r20 < 0))) (y_lss rfl rfl) ?_
    refine c_nil ?_
    rcases bif_some hs with ⟨hc21, hs⟩ | ⟨hc21, hs⟩
    · skip
      refine c_condT (congrArg Value.bool hc21) ?_
      refine c_seq ?_
      refine c_region ?_
      refine pl_val (.int .i64 (-1)) (y_assign rfl) ?_
      refine c_nil ?_
      refine wp_ret ?_
      cases hs
      exact ⟨_, fr_ovl 21 ⟨rfl, trivial⟩, hC⟩
    · skip
      refine c_condF (congrArg Value.bool hc21) ?_
      refine wp_skip ?_
      refine c_region ?_
      refine pl_val (.int .i64 k11) (y_move rfl) ?_
      refine pl_val (.int .i64 (w64 (k11 + 1))) (y_add rfl rfl) ?_
      refine pl_val (.int .i64 (w64 (k11 + 1))) (y_assign rfl) ?_
      refine c_nil ?_
      cases hs
      exact ⟨_, fr_ovl 21 ⟨rfl, rfl, congrArg (Value.int .i64) hw, trivial⟩, hC, hO, h0⟩
  · skip
    exact ⟨_, fr_ovl 21 ⟨rfl, rfl, rfl, trivial⟩, hC, hO, h0⟩
  · cases o13 with
    | nx _ => exact True.intro
    | rt r_ =>
      have hs := after_rt hs
      intro a1 w1 hK
      cases hs
      exact hK
    | br s9 =>
      have hs := after_br hs
      rintro a1 w10 ⟨σ, rfl, hC, hO, h0⟩
      refine c_seq ?_
      refine c_region ?_
      refine pl_val (.int .i64 s9) (y_move rfl) ?_
      refine pl_val (.int .i64 s9) (y_assign rfl) ?_
      refine c_nil ?_
      refine wp_ret ?_
      cases hs
      exact ⟨_, fr_ovl 21 ⟨rfl, trivial⟩, hC⟩

theorem Bd83 : Bodied Try.prog 83 := bodied Try.func83 (by kernel_rfl) rfl

end Go.Proofs
