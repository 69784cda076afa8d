/- What functions of the program compute, as plain functions, and that a call gives just that. Conditions: those named in each theorem. -/
import Derived.Test.YtceenhnjdnggjaaF1
set_option linter.unusedVariables false
namespace Go.Proofs
open Go.G Go.RowKit
set_option maxRecDepth 100000

def k_impl_withConstraints (M : Nat → Prop) (w0 : World) (r : (Int × Int × (List ((List Int) × (Int × (List (List Int)))))) × Bool) (a : Act) (w : World) : Prop :=
  ∃ (σ : Nat → Value) (rg4 : Nat) (ra0 : Option Addr) (rn0 rc0 : Nat), a = fr 16 (ovl σ [(4, (.pointer (some ⟨rg4, 0, none⟩))), (5, (.bool r.2))]) ∧ BoxV w rg4 49 [(.int .i64 r.1.1), (.int .i64 r.1.2.1), (.slice ra0 rn0 rc0)] ∧ Chg [] w0 w ∧ (RT.rs (RT.pr (RT.rs (RT.int .i64)) (RT.pr (RT.int .i64) (RT.rs (RT.rs (RT.int .i64)))))).val (Past M w0 w) w (.slice ra0 rn0 rc0) r.1.2.2 []
def s_impl_withConstraints (net : Int × Int × (List ((List Int) × (Int × (List (List Int)))))) (list : List ((List Int) × (Int × (List (List Int))))) : Option ((Int × Int × (List ((List Int) × (Int × (List (List Int)))))) × Bool) :=
  (bif (decide (40 < (list.length : Int))) then some ((0, 0, []), false) else some ((net.1, net.2.1, list), true))
set_option maxHeartbeats 4000000 in
theorem c_impl_withConstraints {M : Nat → Prop} {w : World} {pa0 : Option Addr} {pn0 pc0 : Nat} {pa1 : Option Addr} {pn1 pc1 : Nat} (net : Int × Int × (List ((List Int) × (Int × (List (List Int)))))) (list : List ((List Int) × (Int × (List (List Int))))) (h0 : (RT.rs (RT.pr (RT.rs (RT.int .i64)) (RT.pr (RT.int .i64) (RT.rs (RT.rs (RT.int .i64)))))).val M w (.slice pa0 pn0 pc0) net.2.2 ([])) (h1 : (RT.rs (RT.pr (RT.rs (RT.int .i64)) (RT.pr (RT.int .i64) (RT.rs (RT.rs (RT.int .i64)))))).val M w (.slice pa1 pn1 pc1) list ([])) (hM : ∀ g, w.heap.size ≤ g → M g) {r : (Int × Int × (List ((List Int) × (Int × (List (List Int)))))) × Bool} (hs : s_impl_withConstraints net list = some r) :
    Gives Try.prog 133 [(.agg #[(.int .i64 net.1), (.int .i64 net.2.1), (.slice pa0 pn0 pc0)]), (.slice pa1 pn1 pc1)] w (fun v w' => ∃ (ra0 : Option Addr) (rn0 rc0 : Nat), v = (.tuple #[(.agg #[(.int .i64 r.1.1), (.int .i64 r.1.2.1), (.slice ra0 rn0 rc0)]), (.bool r.2)]) ∧ Chg [] w w' ∧ (RT.rs (RT.pr (RT.rs (RT.int .i64)) (RT.pr (RT.int .i64) (RT.rs (RT.rs (RT.int .i64)))))).val (Past M w w') w' (.slice ra0 rn0 rc0) r.1.2.2 []) := by
  refine calls_fr Try.func133 rfl Try.ntmps133 (Nat.le_of_ble_eq_true rfl) ?_
  have hO := Own.start (N := Nw w []) hM Nw.fut
  have hC := Chg.refl [] w
  unfold s_impl_withConstraints at hs
  refine wp_mono (Q := KPost (k_impl_withConstraints M w r)) ?_ (fun e a w1 h => ?_)
  rotate_left
  · cases e
    case ret =>
      obtain ⟨σ, rg4, ra0, rn0, rc0, rfl, hbrg4, hrest⟩ := h
      exact ret2x Try.results133 (res_cell rfl (box_load Ag49 Sz49 hbrg4 [] _ [] rfl rfl (fun h => nomatch h))) (res_tmp rfl) ⟨ra0, rn0, rc0, rfl, hrest⟩
    all_goals exact (h : False).elim
  refine c_seq ?_
  refine c_region ?_
  obtain ⟨w3, g3, ew3, eg3, hC3, hb3⟩ := new_block w [(.int .i64 net.1), (.int .i64 net.2.1), (.slice pa0 pn0 pc0)] 49
  refine pl_val (w' := w3) (.pointer (some ⟨g3, 0, none⟩)) (y_box rfl (by rw [ew3, eg3]; kernel_rfl)) ?_
  have h0 := h0.ext hC3
  have h1 := h1.ext hC3
  have hC := hC.ext hC3
  have hO := hO.new (X' := [g3]) hC3 (fun q hq => by rw [List.mem_singleton.1 hq, eg3]; exact Nat.le_refl _) (List.nodup_cons.2 ⟨(fun h => nomatch h), List.nodup_nil⟩) (fun q hq => by rw [List.mem_singleton.1 hq]; exact hb3.lt)
  obtain ⟨w4, g4, ew4, eg4, hC4, hb4⟩ := new_block w3 [(.int .i64 0), (.int .i64 0), (.slice none 0 0)] 49
  refine pl_val (w' := w4) (.pointer (some ⟨g4, 0, none⟩)) (y_alloc (by rw [ew4, eg4]; kernel_rfl)) ?_
  have h0 := h0.ext hC4
  have h1 := h1.ext hC4
  have hb3 := hb3.chg hC4 (fun h => nomatch h)
  have hC := hC.ext hC4
  have hO := hO.new (X' := [g4]) hC4 (fun q hq => by rw [List.mem_singleton.1 hq, eg4]; exact Nat.le_refl _) (List.nodup_cons.2 ⟨(fun h => nomatch h), List.nodup_nil⟩) (fun q hq => by rw [List.mem_singleton.1 hq]; exact hb4.lt)
  refine pl_val (.bool false) (y_assign rfl) ?_
  refine c_nil ?_
  refine c_seq ?_
  refine c_seq ?_
  refine c_region ?_
  refine pl_val (.slice pa1 pn1 pc1) (y_move rfl) ?_
  refine pl_val (.int .i64 (list.length : Int)) (y_len' Sl47 (rs_len h1) rfl) ?_
  refine pl_val (.bool (decide (40 < (list.length : Int)))) (y_gtr rfl rfl) ?_
  refine c_nil ?_
  rcases bif_some hs with ⟨hc5, hs⟩ | ⟨hc5, hs⟩
  · skip
    refine c_condT (congrArg Value.bool hc5) ?_
    refine c_seq ?_
    refine c_region ?_
    refine pl_val (.agg #[(.int .i64 0), (.int .i64 0), (.slice none 0 0)]) (y_build rfl (by kernel_rfl)) ?_
    obtain ⟨w6, hst6, hC6, hb6⟩ := box_store (P := Try.prog) hb4 [] [(.int .i64 0), (.int .i64 0), (.slice none 0 0)] [] [(.int .i64 0), (.int .i64 0), (.slice none 0 0)] rfl rfl (by intro u hu; simp only [List.mem_cons, List.not_mem_nil, or_false] at hu; rcases hu with rfl | rfl | rfl <;> rfl)
    refine pl_skip (w' := w6) (ys_store rfl rfl (hst6 _ _ rfl Sz49)) ?_
    have h0 := h0.mut hC6 (fun g hg => hO.inM g ((fun _ h => h) g hg)) (fun _ _ h => nomatch h)
    have h1 := h1.mut hC6 (fun g hg => hO.inM g ((fun _ h => h) g hg)) (fun _ _ h => nomatch h)
    have hb3 := hb3.chg hC6 (fun hg => hO.apart _ ((fun _ h => h) _ hg) (mem_l (List.mem_singleton.2 rfl)))
    have hC := hC.step hC6 (fun g hg => hO.inN g ((fun _ h => h) g hg))
    have hO := hO.ext hC6
    have hb6 : BoxV w6 g4 49 [(.int .i64 0), (.int .i64 0), (.slice none 0 0)] := hb6
    refine pl_val (.bool false) (y_assign rfl) ?_
    refine c_nil ?_
    refine wp_ret ?_
    cases hs
    exact ⟨_, g4, none, 0, 0, fr_ovl 16 ⟨rfl, rfl, trivial⟩, hb6, hC, rs_nil⟩
  · skip
    refine c_condF (congrArg Value.bool hc5) ?_
    refine wp_skip ?_
    refine c_seq ?_
    refine c_region ?_
    refine pl_val (.pointer (some ⟨g3, 0, none⟩)) (y_faddr rfl Fa49x0) ?_
    refine pl_val (.int .i64 net.1) (y_load rfl ((box_load Ag3 Sz3 hb3 [] [(.int .i64 net.1)] [(.int .i64 net.2.1), (.slice pa0 pn0 pc0)] rfl rfl (fun _ => rfl)) _ (Chg.refl _ _))) ?_
    refine pl_val (.pointer (some ⟨g3, 1, none⟩)) (y_faddr rfl Fa49x1) ?_
    refine pl_val (.int .i64 net.2.1) (y_load rfl ((box_load Ag3 Sz3 hb3 [(.int .i64 net.1)] [(.int .i64 net.2.1)] [(.slice pa0 pn0 pc0)] rfl rfl (fun _ => rfl)) _ (Chg.refl _ _))) ?_
    refine pl_val (.slice pa1 pn1 pc1) (y_move rfl) ?_
    refine pl_val (.agg #[(.int .i64 net.1), (.int .i64 net.2.1), (.slice pa1 pn1 pc1)]) (y_build rfl (by kernel_rfl)) ?_
    obtain ⟨w7, hst7, hC7, hb7⟩ := box_store (P := Try.prog) hb4 [] [(.int .i64 0), (.int .i64 0), (.slice none 0 0)] [] [(.int .i64 net.1), (.int .i64 net.2.1), (.slice pa1 pn1 pc1)] rfl rfl (by intro u hu; simp only [List.mem_cons, List.not_mem_nil, or_false] at hu; rcases hu with rfl | rfl | rfl <;> rfl)
    refine pl_skip (w' := w7) (ys_store rfl rfl (hst7 _ _ rfl Sz49)) ?_
    have h0 := h0.mut hC7 (fun g hg => hO.inM g ((fun _ h => h) g hg)) (fun _ _ h => nomatch h)
    have h1 := h1.mut hC7 (fun g hg => hO.inM g ((fun _ h => h) g hg)) (fun _ _ h => nomatch h)
    have hb3 := hb3.chg hC7 (fun hg => hO.apart _ ((fun _ h => h) _ hg) (mem_l (List.mem_singleton.2 rfl)))
    have hC := hC.step hC7 (fun g hg => hO.inN g ((fun _ h => h) g hg))
    have hO := hO.ext hC7
    have hb7 : BoxV w7 g4 49 [(.int .i64 net.1), (.int .i64 net.2.1), (.slice pa1 pn1 pc1)] := hb7
    refine pl_val (.bool true) (y_assign rfl) ?_
    refine c_nil ?_
    refine wp_ret ?_
    cases hs
    exact ⟨_, g4, pa1, pn1, pc1, fr_ovl 16 ⟨rfl, rfl, trivial⟩, hb7, hC, (Keeps.out Keeps.refl h1)⟩

theorem Bd33 : Bodied Try.prog 33 := bodied Try.func33 (by kernel_rfl) rfl

theorem Bd134 : Bodied Try.prog 134 := bodied Try.func134 (by kernel_rfl) rfl

def k_impl_withConstraints__take1 (M : Nat → Prop) (w0 : World) (qa0 : Option Addr) (qn0 qc0 : Nat) (qf0 : List Nat) (r : (Int × Int × (List ((List Int) × (Int × (List (List Int)))))) × Bool) (a : Act) (w : World) : Prop :=
  ∃ (σ : Nat → Value) (rg4 : Nat) (ra0 : Option Addr) (rn0 rc0 : Nat) (rf0 : List Nat), a = fr 16 (ovl σ [(4, (.pointer (some ⟨rg4, 0, none⟩))), (5, (.bool r.2))]) ∧ BoxV w rg4 49 [(.int .i64 r.1.1), (.int .i64 r.1.2.1), (.slice ra0 rn0 rc0)] ∧ Chg (qf0 ++ ([])) w0 w ∧ (RT.os 108 (RT.pr (RT.os 3 (RT.int .i64)) (RT.pr (RT.int .i64) (RT.os 22 (RT.os 3 (RT.int .i64)))))).val M w (.slice ra0 rn0 rc0) r.1.2.2 rf0 ∧ Own (Nw w0 (qf0 ++ ([]))) (fun _ => True) w (rf0 ++ ([]))
def s_impl_withConstraints__take1 (net : Int × Int × (List ((List Int) × (Int × (List (List Int)))))) (list : List ((List Int) × (Int × (List (List Int))))) : Option ((Int × Int × (List ((List Int) × (Int × (List (List Int)))))) × Bool) :=
  (bif (decide (40 < (list.length : Int))) then some ((0, 0, []), false) else some ((net.1, net.2.1, list), true))
set_option maxHeartbeats 4000000 in
theorem c_impl_withConstraints__take1 {M : Nat → Prop} {w : World} {pa0 : Option Addr} {pn0 pc0 : Nat} {pa1 : Option Addr} {pn1 pc1 : Nat} {pf1 : List Nat} (net : Int × Int × (List ((List Int) × (Int × (List (List Int)))))) (list : List ((List Int) × (Int × (List (List Int))))) (h0 : (RT.rs (RT.pr (RT.rs (RT.int .i64)) (RT.pr (RT.int .i64) (RT.rs (RT.rs (RT.int .i64)))))).val M w (.slice pa0 pn0 pc0) net.2.2 ([])) (h1 : (RT.os 108 (RT.pr (RT.os 3 (RT.int .i64)) (RT.pr (RT.int .i64) (RT.os 22 (RT.os 3 (RT.int .i64)))))).val M w (.slice pa1 pn1 pc1) list pf1) (hI : Own (Nw w (pf1 ++ ([]))) M w (pf1 ++ ([]))) (hM : ∀ g, w.heap.size ≤ g → M g) {r : (Int × Int × (List ((List Int) × (Int × (List (List Int)))))) × Bool} (hs : s_impl_withConstraints__take1 net list = some r) :
    Gives Try.prog 133 [(.agg #[(.int .i64 net.1), (.int .i64 net.2.1), (.slice pa0 pn0 pc0)]), (.slice pa1 pn1 pc1)] w (fun v w' => ∃ (ra0 : Option Addr) (rn0 rc0 : Nat) (rf0 : List Nat), v = (.tuple #[(.agg #[(.int .i64 r.1.1), (.int .i64 r.1.2.1), (.slice ra0 rn0 rc0)]), (.bool r.2)]) ∧ Chg (pf1 ++ ([])) w w' ∧ (RT.os 108 (RT.pr (RT.os 3 (RT.int .i64)) (RT.pr (RT.int .i64) (RT.os 22 (RT.os 3 (RT.int .i64)))))).val M w' (.slice ra0 rn0 rc0) r.1.2.2 rf0 ∧ Own (Nw w (pf1 ++ ([]))) (fun _ => True) w' (rf0 ++ ([]))) := by
  refine calls_fr Try.func133 rfl Try.ntmps133 (Nat.le_of_ble_eq_true rfl) ?_
  have hO := hI
  have hC := Chg.refl (pf1 ++ ([])) w
  unfold s_impl_withConstraints__take1 at hs
  refine wp_mono (Q := KPost (k_impl_withConstraints__take1 M w pa1 pn1 pc1 pf1 r)) ?_ (fun e a w1 h => ?_)
  rotate_left
  · cases e
    case ret =>
      obtain ⟨σ, rg4, ra0, rn0, rc0, rf0, rfl, hbrg4, hrest⟩ := h
      exact ret2x Try.results133 (res_cell rfl (box_load Ag49 Sz49 hbrg4 [] _ [] rfl rfl (fun h => nomatch h))) (res_tmp rfl) ⟨ra0, rn0, rc0, rf0, rfl, hrest⟩
    all_goals exact (h : False).elim
  refine c_seq ?_
  refine c_region ?_
  obtain ⟨w3, g3, ew3, eg3, hC3, hb3⟩ := new_block w [(.int .i64 net.1), (.int .i64 net.2.1), (.slice pa0 pn0 pc0)] 49
  refine pl_val (w' := w3) (.pointer (some ⟨g3, 0, none⟩)) (y_box rfl (by rw [ew3, eg3]; kernel_rfl)) ?_
  have h0 := h0.ext hC3
  have h1 := h1.ext hC3
  have hC := hC.ext hC3
  have hO := hO.new (X' := [g3]) hC3 (fun q hq => by rw [List.mem_singleton.1 hq, eg3]; exact Nat.le_refl _) (List.nodup_cons.2 ⟨(fun h => nomatch h), List.nodup_nil⟩) (fun q hq => by rw [List.mem_singleton.1 hq]; exact hb3.lt)
  obtain ⟨w4, g4, ew4, eg4, hC4, hb4⟩ := new_block w3 [(.int .i64 0), (.int .i64 0), (.slice none 0 0)] 49
  refine pl_val (w' := w4) (.pointer (some ⟨g4, 0, none⟩)) (y_alloc (by rw [ew4, eg4]; kernel_rfl)) ?_
  have h0 := h0.ext hC4
  have h1 := h1.ext hC4
  have hb3 := hb3.chg hC4 (fun h => nomatch h)
  have hC := hC.ext hC4
  have hO := hO.new (X' := [g4]) hC4 (fun q hq => by rw [List.mem_singleton.1 hq, eg4]; exact Nat.le_refl _) (List.nodup_cons.2 ⟨(fun h => nomatch h), List.nodup_nil⟩) (fun q hq => by rw [List.mem_singleton.1 hq]; exact hb4.lt)
  refine pl_val (.bool false) (y_assign rfl) ?_
  refine c_nil ?_
  refine c_seq ?_
  refine c_seq ?_
  refine c_region ?_
  refine pl_val (.slice pa1 pn1 pc1) (y_move rfl) ?_
  refine pl_val (.int .i64 (list.length : Int)) (y_len' Sl47 (os_len h1) rfl) ?_
  refine pl_val (.bool (decide (40 < (list.length : Int)))) (y_gtr rfl rfl) ?_
  refine c_nil ?_
  rcases bif_some hs with ⟨hc5, hs⟩ | ⟨hc5, hs⟩
  · skip
    refine c_condT (congrArg Value.bool hc5) ?_
    refine c_seq ?_
    refine c_region ?_
    refine pl_val (.agg #[(.int .i64 0), (.int .i64 0), (.slice none 0 0)]) (y_build rfl (by kernel_rfl)) ?_
    obtain ⟨w6, hst6, hC6, hb6⟩ := box_store (P := Try.prog) hb4 [] [(.int .i64 0), (.int .i64 0), (.slice none 0 0)] [] [(.int .i64 0), (.int .i64 0), (.slice none 0 0)] rfl rfl (by intro u hu; simp only [List.mem_cons, List.not_mem_nil, or_false] at hu; rcases hu with rfl | rfl | rfl <;> rfl)
    refine pl_skip (w' := w6) (ys_store rfl rfl (hst6 _ _ rfl Sz49)) ?_
    have h0 := h0.mut hC6 (fun g hg => hO.inM g ((fun _ h => h) g hg)) (fun _ _ h => nomatch h)
    have h1 := h1.mut hC6 (fun g hg => hO.inM g ((fun _ h => h) g hg)) (fun g hg e => hO.apart g ((fun _ h => h) g hg) (mem_r (mem_l (e))))
    have hb3 := hb3.chg hC6 (fun hg => hO.apart _ ((fun _ h => h) _ hg) (mem_l (List.mem_singleton.2 rfl)))
    have hC := hC.step hC6 (fun g hg => hO.inN g ((fun _ h => h) g hg))
    have hO := hO.ext hC6
    have hb6 : BoxV w6 g4 49 [(.int .i64 0), (.int .i64 0), (.slice none 0 0)] := hb6
    refine pl_val (.bool false) (y_assign rfl) ?_
    refine c_nil ?_
    refine wp_ret ?_
    cases hs
    have hO := hO.drop
    have hO := hO.drop
    have hO := hO.drop
    have hO := hO.nil
    exact ⟨_, g4, none, 0, 0, [], fr_ovl 16 ⟨rfl, rfl, trivial⟩, hb6, hC, os_nil, hO.top⟩
  · skip
    refine c_condF (congrArg Value.bool hc5) ?_
    refine wp_skip ?_
    refine c_seq ?_
    refine c_region ?_
    refine pl_val (.pointer (some ⟨g3, 0, none⟩)) (y_faddr rfl Fa49x0) ?_
    refine pl_val (.int .i64 net.1) (y_load rfl ((box_load Ag3 Sz3 hb3 [] [(.int .i64 net.1)] [(.int .i64 net.2.1), (.slice pa0 pn0 pc0)] rfl rfl (fun _ => rfl)) _ (Chg.refl _ _))) ?_
    refine pl_val (.pointer (some ⟨g3, 1, none⟩)) (y_faddr rfl Fa49x1) ?_
    refine pl_val (.int .i64 net.2.1) (y_load rfl ((box_load Ag3 Sz3 hb3 [(.int .i64 net.1)] [(.int .i64 net.2.1)] [(.slice pa0 pn0 pc0)] rfl rfl (fun _ => rfl)) _ (Chg.refl _ _))) ?_
    refine pl_val (.slice pa1 pn1 pc1) (y_move rfl) ?_
    refine pl_val (.agg #[(.int .i64 net.1), (.int .i64 net.2.1), (.slice pa1 pn1 pc1)]) (y_build rfl (by kernel_rfl)) ?_
    obtain ⟨w7, hst7, hC7, hb7⟩ := box_store (P := Try.prog) hb4 [] [(.int .i64 0), (.int .i64 0), (.slice none 0 0)] [] [(.int .i64 net.1), (.int .i64 net.2.1), (.slice pa1 pn1 pc1)] rfl rfl (by intro u hu; simp only [List.mem_cons, List.not_mem_nil, or_false] at hu; rcases hu with rfl | rfl | rfl <;> rfl)
    refine pl_skip (w' := w7) (ys_store rfl rfl (hst7 _ _ rfl Sz49)) ?_
    have h0 := h0.mut hC7 (fun g hg => hO.inM g ((fun _ h => h) g hg)) (fun _ _ h => nomatch h)
    have h1 := h1.mut hC7 (fun g hg => hO.inM g ((fun _ h => h) g hg)) (fun g hg e => hO.apart g ((fun _ h => h) g hg) (mem_r (mem_l (e))))
    have hb3 := hb3.chg hC7 (fun hg => hO.apart _ ((fun _ h => h) _ hg) (mem_l (List.mem_singleton.2 rfl)))
    have hC := hC.step hC7 (fun g hg => hO.inN g ((fun _ h => h) g hg))
    have hO := hO.ext hC7
    have hb7 : BoxV w7 g4 49 [(.int .i64 net.1), (.int .i64 net.2.1), (.slice pa1 pn1 pc1)] := hb7
    refine pl_val (.bool true) (y_assign rfl) ?_
    refine c_nil ?_
    refine wp_ret ?_
    cases hs
    have hO := hO.drop
    have hO := hO.drop
    exact ⟨_, g4, pa1, pn1, pc1, pf1, fr_ovl 16 ⟨rfl, rfl, trivial⟩, hb7, hC, h1, hO.top⟩

theorem Bd133 : Bodied Try.prog 133 := bodied Try.func133 (by kernel_rfl) rfl

def k_impl_FixVariable (M : Nat → Prop) (w0 : World) (r : (Int × Int × (List ((List Int) × (Int × (List (List Int)))))) × Bool) (a : Act) (w : World) : Prop :=
  ∃ (σ : Nat → Value) (rg6 : Nat) (ra0 : Option Addr) (rn0 rc0 : Nat) (rf0 : List Nat), a = fr 50 (ovl σ [(6, (.pointer (some ⟨rg6, 0, none⟩))), (7, (.bool r.2))]) ∧ BoxV w rg6 49 [(.int .i64 r.1.1), (.int .i64 r.1.2.1), (.slice ra0 rn0 rc0)] ∧ Chg [] w0 w ∧ (RT.os 108 (RT.pr (RT.os 3 (RT.int .i64)) (RT.pr (RT.int .i64) (RT.os 22 (RT.os 3 (RT.int .i64)))))).val M w (.slice ra0 rn0 rc0) r.1.2.2 rf0 ∧ Own (Nw w0 []) (fun _ => True) w (rf0 ++ ([]))
def s_impl_FixVariable (net : Int × Int × (List ((List Int) × (Int × (List (List Int)))))) (v_ : Int) (value : Int) : Option ((Int × Int × (List ((List Int) × (Int × (List (List Int)))))) × Bool) :=
  ((s_impl_IsNetwork (net.1, net.2.1, net.2.2)).bind fun r8 =>
  (bif (!r8) then some true else (bif (decide (v_ < 0)) then some true else (bif (decide (net.1 ≤ v_)) then some true else (bif (decide (value < 0)) then some true else some (decide (net.2.1 ≤ value))))))).bind fun s4 =>
  (bif s4 then some ((0, 0, []), false) else (s_impl_cloneConstraints net.2.2).bind fun r25 =>
  (app r25 ([([v_], (1, [[value]]))])).bind fun y30 =>
  (s_impl_withConstraints__take1 (net.1, net.2.1, net.2.2) y30).bind fun r33 =>
  some ((r33.1.1, r33.1.2.1, r33.1.2.2), r33.2))
set_option maxHeartbeats 4000000 in
theorem c_impl_FixVariable {M : Nat → Prop} {w : World} {pa0 : Option Addr} {pn0 pc0 : Nat} (net : Int × Int × (List ((List Int) × (Int × (List (List Int)))))) (v_ : Int) (value : Int) (h0 : (RT.rs (RT.pr (RT.rs (RT.int .i64)) (RT.pr (RT.int .i64) (RT.rs (RT.rs (RT.int .i64)))))).val M w (.slice pa0 pn0 pc0) net.2.2 ([])) (hM : ∀ g, w.heap.size ≤ g → M g) {r : (Int × Int × (List ((List Int) × (Int × (List (List Int)))))) × Bool} (hs : s_impl_FixVariable net v_ value = some r) :
    Gives Try.prog 72 [(.agg #[(.int .i64 net.1), (.int .i64 net.2.1), (.slice pa0 pn0 pc0)]), (.int .i64 v_), (.int .i64 value)] w (fun v w' => ∃ (ra0 : Option Addr) (rn0 rc0 : Nat) (rf0 : List Nat), v = (.tuple #[(.agg #[(.int .i64 r.1.1), (.int .i64 r.1.2.1), (.slice ra0 rn0 rc0)]), (.bool r.2)]) ∧ Chg [] w w' ∧ (RT.os 108 (RT.pr (RT.os 3 (RT.int .i64)) (RT.pr (RT.int .i64) (RT.os 22 (RT.os 3 (RT.int .i64)))))).val M w' (.slice ra0 rn0 rc0) r.1.2.2 rf0 ∧ Own (Nw w []) (fun _ => True) w' (rf0 ++ ([]))) := by
  refine calls_fr Try.func72 rfl Try.ntmps72 (Nat.le_of_ble_eq_true rfl) ?_
  have hO := Own.start (N := Nw w []) hM Nw.fut
  have hC := Chg.refl [] w
  unfold s_impl_FixVariable at hs
  refine wp_mono (Q := KPost (k_impl_FixVariable M w r)) ?_ (fun e a w1 h => ?_)
  rotate_left
  · cases e
    case ret =>
      obtain ⟨σ, rg6, ra0, rn0, rc0, rf0, rfl, hbrg6, hrest⟩ := h
      exact ret2x Try.results72 (res_cell rfl (box_load Ag49 Sz49 hbrg6 [] _ [] rfl rfl (fun h => nomatch h))) (res_tmp rfl) ⟨ra0, rn0, rc0, rf0, rfl, hrest⟩
    all_goals exact (h : False).elim
  refine c_seq ?_
  refine c_region ?_
  obtain ⟨w2, g2, ew2, eg2, hC2, hb2⟩ := new_block w [(.int .i64 net.1), (.int .i64 net.2.1), (.slice pa0 pn0 pc0)] 49
  refine pl_val (w' := w2) (.pointer (some ⟨g2, 0, none⟩)) (y_box rfl (by rw [ew2, eg2]; kernel_rfl)) ?_
  have h0 := h0.ext hC2
  have hC := hC.ext hC2
  have hO := hO.new (X' := [g2]) hC2 (fun q hq => by rw [List.mem_singleton.1 hq, eg2]; exact Nat.le_refl _) (List.nodup_cons.2 ⟨(fun h => nomatch h), List.nodup_nil⟩) (fun q hq => by rw [List.mem_singleton.1 hq]; exact hb2.lt)
  obtain ⟨w3, g3, ew3, eg3, hC3, hb3⟩ := new_block w2 [(.int .i64 0), (.int .i64 0), (.slice none 0 0)] 49
  refine pl_val (w' := w3) (.pointer (some ⟨g3, 0, none⟩)) (y_alloc (by rw [ew3, eg3]; kernel_rfl)) ?_
  have h0 := h0.ext hC3
  have hb2 := hb2.chg hC3 (fun h => nomatch h)
  have hC := hC.ext hC3
  have hO := hO.new (X' := [g3]) hC3 (fun q hq => by rw [List.mem_singleton.1 hq, eg3]; exact Nat.le_refl _) (List.nodup_cons.2 ⟨(fun h => nomatch h), List.nodup_nil⟩) (fun q hq => by rw [List.mem_singleton.1 hq]; exact hb3.lt)
  refine pl_val (.bool false) (y_assign rfl) ?_
  refine c_nil ?_
  refine c_seq ?_
  refine c_seq ?_
  obtain ⟨s4, hm6, hs⟩ := bind_some hs
  refine c_mid (I := fun a w5 => ∃ (σ : Nat → Value), a = fr 50 (ovl σ [(1, (.int .i64 v_)), (2, (.int .i64 value)), (3, (.pointer (some ⟨g2, 0, none⟩))), (6, (.pointer (some ⟨g3, 0, none⟩))), (7, (.bool false)), (31, (.bool s4))]) ∧ Chg [] w3 w5) ?_ ?_
  · replace hs := hm6
    have hMid := Chg.refl [] w3
    refine c_region ?_
    refine pl_val (.agg #[(.int .i64 net.1), (.int .i64 net.2.1), (.slice pa0 pn0 pc0)]) (y_load rfl ((box_load Ag49 Sz49 hb2 [] [(.int .i64 net.1), (.int .i64 net.2.1), (.slice pa0 pn0 pc0)] [] rfl rfl (fun h => nomatch h)) _ (Chg.refl _ _))) ?_
    obtain ⟨r8, hr8, hs⟩ := bind_some hs
    refine pl_call Bd33 rfl (c_impl_IsNetwork (M := M) (net.1, net.2.1, net.2.2) h0 hO.fut hr8) ?_
    rintro _ w7 ⟨rfl, hC7⟩
    have h0 := h0.ext hC7
    have hb2 := hb2.chg hC7 (fun h => nomatch h)
    have hb3 := hb3.chg hC7 (fun h => nomatch h)
    have hMid := hMid.ext hC7
    have hC := hC.ext hC7
    have hO := hO.ext hC7
    refine pl_val (.bool (!r8)) (y_not rfl) ?_
    refine pl_val (.bool (!r8)) (y_move rfl) ?_
    rcases bif_some hs with ⟨hc9, hs⟩ | ⟨hc9, hs⟩
    · skip
      refine pl_not (tg := 12) (by kernel_rfl) (congrArg Value.bool hc9) ?_
      refine pl_not (tg := 12) (by kernel_rfl) (congrArg Value.bool hc9) ?_
      refine pl_val (.bool true) (y_pick_t (congrArg Value.bool hc9) rfl) ?_
      refine pl_val (.bool true) (y_move rfl) ?_
      refine pl_not (tg := 16) (by kernel_rfl) (by rfl) ?_
      refine pl_not (tg := 16) (by kernel_rfl) (by rfl) ?_
      refine pl_not (tg := 16) (by kernel_rfl) (by rfl) ?_
      refine pl_not (tg := 16) (by kernel_rfl) (by rfl) ?_
      refine pl_val (.bool true) (y_pick_t (by rfl) rfl) ?_
      refine pl_val (.bool true) (y_move rfl) ?_
      refine pl_not (tg := 22) (by kernel_rfl) (by rfl) ?_
      refine pl_not (tg := 22) (by kernel_rfl) (by rfl) ?_
      refine pl_val (.bool true) (y_pick_t (by rfl) rfl) ?_
      refine pl_val (.bool true) (y_move rfl) ?_
      refine pl_not (tg := 26) (by kernel_rfl) (by rfl) ?_
      refine pl_not (tg := 26) (by kernel_rfl) (by rfl) ?_
      refine pl_not (tg := 26) (by kernel_rfl) (by rfl) ?_
      refine pl_not (tg := 26) (by kernel_rfl) (by rfl) ?_
      refine pl_val (.bool true) (y_pick_t (by rfl) rfl) ?_
      refine c_nil ?_
      cases hs
      exact ⟨_, fr_ovl 50 ⟨rfl, rfl, rfl, rfl, rfl, rfl, trivial⟩, hMid⟩
    · skip
      refine pl_yes (.int .i64 v_) (tg := 12) (by kernel_rfl) (congrArg Value.bool hc9) (y_move rfl) ?_
      refine pl_yes (.bool (decide (v_ < 0))) (tg := 12) (by kernel_rfl) (congrArg Value.bool hc9) (y_lss rfl rfl) ?_
      refine pl_val (.bool (decide (v_ < 0))) (y_pick_f (congrArg Value.bool hc9) rfl) ?_
      refine pl_val (.bool (decide (v_ < 0))) (y_move rfl) ?_
      rcases bif_some hs with ⟨hc10, hs⟩ | ⟨hc10, hs⟩
      · skip
        refine pl_not (tg := 16) (by kernel_rfl) (congrArg Value.bool hc10) ?_
        refine pl_not (tg := 16) (by kernel_rfl) (congrArg Value.bool hc10) ?_
        refine pl_not (tg := 16) (by kernel_rfl) (congrArg Value.bool hc10) ?_
        refine pl_not (tg := 16) (by kernel_rfl) (congrArg Value.bool hc10) ?_
        refine pl_val (.bool true) (y_pick_t (congrArg Value.bool hc10) rfl) ?_
        refine pl_val (.bool true) (y_move rfl) ?_
        refine pl_not (tg := 22) (by kernel_rfl) (by rfl) ?_
        refine pl_not (tg := 22) (by kernel_rfl) (by rfl) ?_
        refine pl_val (.bool true) (y_pick_t (by rfl) rfl) ?_
        refine pl_val (.bool true) (y_move rfl) ?_
        refine pl_not (tg := 26) (by kernel_rfl) (by rfl) ?_
        refine pl_not (tg := 26) (by kernel_rfl) (by rfl) ?_
        refine pl_not (tg := 26) (by kernel_rfl) (by rfl) ?_
        refine pl_not (tg := 26) (by kernel_rfl) (by rfl) ?_
        refine pl_val (.bool true) (y_pick_t (by rfl) rfl) ?_
        refine c_nil ?_
        cases hs
        exact ⟨_, fr_ovl 50 ⟨rfl, rfl, rfl, rfl, rfl, rfl, trivial⟩, hMid⟩
      · skip
        refine pl_yes (.int .i64 v_) (tg := 16) (by kernel_rfl) (congrArg Value.bool hc10) (y_move rfl) ?_
        refine pl_yes (.pointer (some ⟨g2, 0, none⟩)) (tg := 16) (by kernel_rfl) (congrArg Value.bool hc10) (y_faddr rfl Fa49x0) ?_
        refine pl_yes (.int .i64 net.1) (tg := 16) (by kernel_rfl) (congrArg Value.bool hc10) (y_load rfl ((box_load Ag3 Sz3 hb2 [] [(.int .i64 net.1)] [(.int .i64 net.2.1), (.slice pa0 pn0 pc0)] rfl rfl (fun _ => rfl)) _ (Chg.refl _ _))) ?_
        refine pl_yes (.bool (decide (net.1 ≤ v_))) (tg := 16) (by kernel_rfl) (congrArg Value.bool hc10) (y_geq rfl rfl) ?_
        refine pl_val (.bool (decide (net.1 ≤ v_))) (y_pick_f (congrArg Value.bool hc10) rfl) ?_
        refine pl_val (.bool (decide (net.1 ≤ v_))) (y_move rfl) ?_
        rcases bif_some hs with ⟨hc11, hs⟩ | ⟨hc11, hs⟩
        · skip
          refine pl_not (tg := 22) (by kernel_rfl) (congrArg Value.bool hc11) ?_
          refine pl_not (tg := 22) (by kernel_rfl) (congrArg Value.bool hc11) ?_
          refine pl_val (.bool true) (y_pick_t (congrArg Value.bool hc11) rfl) ?_
          refine pl_val (.bool true) (y_move rfl) ?_
          refine pl_not (tg := 26) (by kernel_rfl) (by rfl) ?_
          refine pl_not (tg := 26) (by kernel_rfl) (by rfl) ?_
          refine pl_not (tg := 26) (by kernel_rfl) (by rfl) ?_
          refine pl_not (tg := 26) (by kernel_rfl) (by rfl) ?_
          refine pl_val (.bool true) (y_pick_t (by rfl) rfl) ?_
          refine c_nil ?_
          cases hs
          exact ⟨_, fr_ovl 50 ⟨rfl, rfl, rfl, rfl, rfl, rfl, trivial⟩, hMid⟩
        · skip
          refine pl_yes (.int .i64 value) (tg := 22) (by kernel_rfl) (congrArg Value.bool hc11) (y_move rfl) ?_
          refine pl_yes (.bool (decide (value < 0))) (tg := 22) (by kernel_rfl) (congrArg Value.bool hc11) (y_lss rfl rfl) ?_
          refine pl_val (.bool (decide (value < 0))) (y_pick_f (congrArg Value.bool hc11) rfl) ?_
          refine pl_val (.bool (decide (value < 0))) (y_move rfl) ?_
          rcases bif_some hs with ⟨hc12, hs⟩ | ⟨hc12, hs⟩
          · skip
            refine pl_not (tg := 26) (by kernel_rfl) (congrArg Value.bool hc12) ?_
            refine pl_not (tg := 26) (by kernel_rfl) (congrArg Value.bool hc12) ?_
            refine pl_not (tg := 26) (by kernel_rfl) (congrArg Value.bool hc12) ?_
            refine pl_not (tg := 26) (by kernel_rfl) (congrArg Value.bool hc12) ?_
            refine pl_val (.bool true) (y_pick_t (congrArg Value.bool hc12) rfl) ?_
            refine c_nil ?_
            cases hs
            exact ⟨_, fr_ovl 50 ⟨rfl, rfl, rfl, rfl, rfl, rfl, trivial⟩, hMid⟩
          · skip
            refine pl_yes (.int .i64 value) (tg := 26) (by kernel_rfl) (congrArg Value.bool hc12) (y_move rfl) ?_
            refine pl_yes (.pointer (some ⟨g2, 1, none⟩)) (tg := 26) (by kernel_rfl) (congrArg Value.bool hc12) (y_faddr rfl Fa49x1) ?_
            refine pl_yes (.int .i64 net.2.1) (tg := 26) (by kernel_rfl) (congrArg Value.bool hc12) (y_load rfl ((box_load Ag3 Sz3 hb2 [(.int .i64 net.1)] [(.int .i64 net.2.1)] [(.slice pa0 pn0 pc0)] rfl rfl (fun _ => rfl)) _ (Chg.refl _ _))) ?_
            refine pl_yes (.bool (decide (net.2.1 ≤ value))) (tg := 26) (by kernel_rfl) (congrArg Value.bool hc12) (y_geq rfl rfl) ?_
            refine pl_val (.bool (decide (net.2.1 ≤ value))) (y_pick_f (congrArg Value.bool hc12) rfl) ?_
            refine c_nil ?_
            cases hs
            exact ⟨_, fr_ovl 50 ⟨rfl, rfl, rfl, rfl, rfl, rfl, trivial⟩, hMid⟩
  · rintro a1 w5 ⟨σ, rfl, hCs4⟩
    have h0 := h0.ext hCs4
    have hb2 := hb2.chg hCs4 (fun h => nomatch h)
    have hb3 := hb3.chg hCs4 (fun h => nomatch h)
    have hC := hC.ext hCs4
    have hO := hO.ext hCs4
    rcases bif_some hs with ⟨hc13, hs⟩ | ⟨hc13, hs⟩
    · skip
      refine c_condT (congrArg Value.bool hc13) ?_
      refine c_seq ?_
      refine c_region ?_
      refine pl_val (.agg #[(.int .i64 0), (.int .i64 0), (.slice none 0 0)]) (y_build rfl (by kernel_rfl)) ?_
      obtain ⟨w14, hst14, hC14, hb14⟩ := box_store (P := Try.prog) hb3 [] [(.int .i64 0), (.int .i64 0), (.slice none 0 0)] [] [(.int .i64 0), (.int .i64 0), (.slice none 0 0)] rfl rfl (by intro u hu; simp only [List.mem_cons, List.not_mem_nil, or_false] at hu; rcases hu with rfl | rfl | rfl <;> rfl)
      refine pl_skip (w' := w14) (ys_store rfl rfl (hst14 _ _ rfl Sz49)) ?_
      have h0 := h0.mut hC14 (fun g hg => hO.inM g ((fun _ h => h) g hg)) (fun _ _ h => nomatch h)
      have hb2 := hb2.chg hC14 (fun hg => hO.apart _ ((fun _ h => h) _ hg) (mem_l (List.mem_singleton.2 rfl)))
      have hC := hC.step hC14 (fun g hg => hO.inN g ((fun _ h => h) g hg))
      have hO := hO.ext hC14
      have hb14 : BoxV w14 g3 49 [(.int .i64 0), (.int .i64 0), (.slice none 0 0)] := hb14
      refine pl_val (.bool false) (y_assign rfl) ?_
      refine c_nil ?_
      refine wp_ret ?_
      cases hs
      have hO := hO.drop
      have hO := hO.drop
      have hO := hO.nil
      exact ⟨_, g3, none, 0, 0, [], fr_ovl 50 ⟨rfl, rfl, trivial⟩, hb14, hC, os_nil, hO.top⟩
    · skip
      refine c_condF (congrArg Value.bool hc13) ?_
      refine wp_skip ?_
      refine c_seq ?_
      refine c_region ?_
      refine pl_val (.int .i64 v_) (y_move rfl) ?_
      obtain ⟨w15, g15, ew15, eg15, hC15, hb15⟩ := new_block w5 [(.int .i64 v_)] 3
      refine pl_val (w' := w15) (.slice (some ⟨g15, 0, none⟩) 1 1) (y_bslice rfl (by rw [ew15, eg15]; kernel_rfl)) ?_
      have h0 := h0.ext hC15
      have hb2 := hb2.chg hC15 (fun h => nomatch h)
      have hb3 := hb3.chg hC15 (fun h => nomatch h)
      have hC := hC.ext hC15
      have hO := hO.new (X' := [g15]) hC15 (fun q hq => by rw [List.mem_singleton.1 hq, eg15]; exact Nat.le_refl _) (List.nodup_cons.2 ⟨(fun h => nomatch h), List.nodup_nil⟩) (fun q hq => by rw [List.mem_singleton.1 hq]; exact hb15.lt)
      have hv15 := os_of_box (r := (RT.int .i64)) (M := M) (css := [[(.int .i64 v_)]]) (fps := [([] : List Nat)]) (xs := ([v_] : List Int)) hb15 ⟨⟨rfl, rfl⟩, trivial⟩ (Nat.le_of_ble_eq_true rfl) (List.nodup_cons.2 ⟨(fun h => nomatch h), List.nodup_nil⟩)
      have hv15 : (RT.os 3 (RT.int .i64)).val M w15 (.slice (some ⟨g15, 0, none⟩) 1 1) [v_] [g15] := hv15
      refine pl_val (.int .i64 value) (y_move rfl) ?_
      obtain ⟨w17, g17, ew17, eg17, hC17, hb17⟩ := new_block w15 [(.int .i64 value)] 3
      refine pl_val (w' := w17) (.slice (some ⟨g17, 0, none⟩) 1 1) (y_bslice rfl (by rw [ew17, eg17]; kernel_rfl)) ?_
      have h0 := h0.ext hC17
      have hb2 := hb2.chg hC17 (fun h => nomatch h)
      have hb3 := hb3.chg hC17 (fun h => nomatch h)
      have hv15 := hv15.ext hC17
      have hC := hC.ext hC17
      have hO := hO.new (X' := [g17]) hC17 (fun q hq => by rw [List.mem_singleton.1 hq, eg17]; exact Nat.le_refl _) (List.nodup_cons.2 ⟨(fun h => nomatch h), List.nodup_nil⟩) (fun q hq => by rw [List.mem_singleton.1 hq]; exact hb17.lt)
      have hv17 := os_of_box (r := (RT.int .i64)) (M := M) (css := [[(.int .i64 value)]]) (fps := [([] : List Nat)]) (xs := ([value] : List Int)) hb17 ⟨⟨rfl, rfl⟩, trivial⟩ (Nat.le_of_ble_eq_true rfl) (List.nodup_cons.2 ⟨(fun h => nomatch h), List.nodup_nil⟩)
      have hv17 : (RT.os 3 (RT.int .i64)).val M w17 (.slice (some ⟨g17, 0, none⟩) 1 1) [value] [g17] := hv17
      obtain ⟨w19, g19, ew19, eg19, hC19, hb19⟩ := new_block w17 [(.slice (some ⟨g17, 0, none⟩) 1 1)] 22
      refine pl_val (w' := w19) (.slice (some ⟨g19, 0, none⟩) 1 1) (y_bslice rfl (by rw [ew19, eg19]; kernel_rfl)) ?_
      have h0 := h0.ext hC19
      have hb2 := hb2.chg hC19 (fun h => nomatch h)
      have hb3 := hb3.chg hC19 (fun h => nomatch h)
      have hv15 := hv15.ext hC19
      have hv17 := hv17.ext hC19
      have hC := hC.ext hC19
      have hO := hO.new (X' := [g19]) hC19 (fun q hq => by rw [List.mem_singleton.1 hq, eg19]; exact Nat.le_refl _) (List.nodup_cons.2 ⟨(fun h => nomatch h), List.nodup_nil⟩) (fun q hq => by rw [List.mem_singleton.1 hq]; exact hb19.lt)
      have hO := hO.perm (R := (g19 :: ((([g17])) ++ ([]))) ++ (([g15]) ++ (([g3]) ++ (([g2]) ++ ([]))))) (by simp)
      have hnd19 := hO.nd
      have hv19 := os_of_box (r := (RT.os 3 (RT.int .i64))) (M := M) (css := [[(.slice (some ⟨g17, 0, none⟩) 1 1)]]) (fps := [([g17] : List Nat)]) (xs := ([[value]] : List (List Int))) hb19 ⟨(os_unval hv17), trivial⟩ (Nat.le_of_ble_eq_true rfl) hnd19
      have hv19 : (RT.os 22 (RT.os 3 (RT.int .i64))).val M w19 (.slice (some ⟨g19, 0, none⟩) 1 1) [[value]] (g19 :: ((([g17])) ++ ([]))) := hv19
      refine pl_val (.agg #[(.int .i64 1), (.slice (some ⟨g19, 0, none⟩) 1 1)]) (y_build rfl (by kernel_rfl)) ?_
      refine pl_val (.agg #[(.slice (some ⟨g15, 0, none⟩) 1 1), (.int .i64 1), (.slice (some ⟨g19, 0, none⟩) 1 1)]) (y_build rfl (by kernel_rfl)) ?_
      obtain ⟨w21, g21, ew21, eg21, hC21, hb21⟩ := new_block w19 [(.slice none 0 0), (.int .i64 0), (.slice none 0 0)] 108
      refine pl_val (w' := w21) (.pointer (some ⟨g21, 0, none⟩)) (y_alloc (by rw [ew21, eg21]; kernel_rfl)) ?_
      have h0 := h0.ext hC21
      have hb2 := hb2.chg hC21 (fun h => nomatch h)
      have hb3 := hb3.chg hC21 (fun h => nomatch h)
      have hv15 := hv15.ext hC21
      have hv19 := hv19.ext hC21
      have hC := hC.ext hC21
      have hO := hO.new (X' := [g21]) hC21 (fun q hq => by rw [List.mem_singleton.1 hq, eg21]; exact Nat.le_refl _) (List.nodup_cons.2 ⟨(fun h => nomatch h), List.nodup_nil⟩) (fun q hq => by rw [List.mem_singleton.1 hq]; exact hb21.lt)
      obtain ⟨w22, hst22, hC22, hb22⟩ := box_store (P := Try.prog) hb21 [] [(.slice none 0 0), (.int .i64 0), (.slice none 0 0)] [] [(.slice (some ⟨g15, 0, none⟩) 1 1), (.int .i64 1), (.slice (some ⟨g19, 0, none⟩) 1 1)] rfl rfl (by intro u hu; simp only [List.mem_cons, List.not_mem_nil, or_false] at hu; rcases hu with rfl | rfl | rfl <;> rfl)
      refine pl_skip (w' := w22) (ys_store rfl rfl (hst22 _ _ rfl Sz108)) ?_
      have h0 := h0.mut hC22 (fun g hg => hO.inM g ((fun _ h => h) g hg)) (fun _ _ h => nomatch h)
      have hb2 := hb2.chg hC22 (fun hg => hO.apart _ ((fun _ h => h) _ hg) (mem_r (mem_r (mem_r (mem_l (List.mem_singleton.2 rfl))))))
      have hb3 := hb3.chg hC22 (fun hg => hO.apart _ ((fun _ h => h) _ hg) (mem_r (mem_r (mem_l (List.mem_singleton.2 rfl)))))
      have hv15 := hv15.mut hC22 (fun g hg => hO.inM g ((fun _ h => h) g hg)) (fun g hg e => hO.apart g ((fun _ h => h) g hg) (mem_r (mem_l (e))))
      have hv19 := hv19.mut hC22 (fun g hg => hO.inM g ((fun _ h => h) g hg)) (fun g hg e => hO.apart g ((fun _ h => h) g hg) (mem_l (e)))
      have hC := hC.step hC22 (fun g hg => hO.inN g ((fun _ h => h) g hg))
      have hO := hO.ext hC22
      have hb22 : BoxV w22 g21 108 [(.slice (some ⟨g15, 0, none⟩) 1 1), (.int .i64 1), (.slice (some ⟨g19, 0, none⟩) 1 1)] := hb22
      refine c_nil ?_
      refine c_seq ?_
      refine x_start [6, 7, 10] Mx rfl ?_
      have hCw23 := Chg.drew w22
      generalize World.drew w22 = w23 at hCw23 ⊢
      have h0 := h0.ext hCw23
      have hb2 := hb2.chg hCw23 (fun h => nomatch h)
      have hb3 := hb3.chg hCw23 (fun h => nomatch h)
      have hv15 := hv15.ext hCw23
      have hv19 := hv19.ext hCw23
      have hb22 := hb22.chg hCw23 (fun h => nomatch h)
      have hC := hC.ext hCw23
      have hO := hO.ext hCw23
      have hS := Chg.refl [] w23
      refine x_p 1 (.pointer (some ⟨g2, 2, none⟩)) rfl (by kernel_rfl)  (fun _ => y_faddr rfl Fa49x2) (fun _ => hS) ?_
      refine x_l 2 (.slice pa0 pn0 pc0) rfl (by kernel_rfl)  (fun w' hw' => y_load rfl ((box_load Ag47 Sz47 hb2 [(.int .i64 net.1), (.int .i64 net.2.1)] [(.slice pa0 pn0 pc0)] [] rfl rfl (fun _ => rfl)) w' hw')) hS ?_
      refine x_l 4 (.agg #[(.slice (some ⟨g15, 0, none⟩) 1 1), (.int .i64 1), (.slice (some ⟨g19, 0, none⟩) 1 1)]) rfl (by kernel_rfl)  (fun w' hw' => y_load rfl ((box_load Ag108 Sz108 hb22 [] [(.slice (some ⟨g15, 0, none⟩) 1 1), (.int .i64 1), (.slice (some ⟨g19, 0, none⟩) 1 1)] [] rfl rfl (fun h => nomatch h)) w' hw')) hS ?_
      refine x_many [0, 3, 5] (by kernel_rfl) (fun h => nomatch h) (all3 ?_ ?_ ?_)
      · skip
        refine xk_val (b := false) (.agg #[(.int .i64 net.1), (.int .i64 net.2.1), (.slice pa0 pn0 pc0)]) rfl  (y_load rfl ((box_load Ag49 Sz49 hb2 [] [(.int .i64 net.1), (.int .i64 net.2.1), (.slice pa0 pn0 pc0)] [] rfl rfl (fun h => nomatch h)) _ (Chg.refl _ _))) rfl (fun _ => hS) ?_
        refine x_two (i := 3) (j := 5) (by kernel_rfl) ?_ ?_
        · skip
          obtain ⟨r25, hr25, hs⟩ := bind_some hs
          refine xk_call (b := false) rfl  Bd134 rfl (c_impl_cloneConstraints (M := M) net.2.2 h0 hO.fut hr25) rfl (by rintro _ _ _ ⟨a24x0, n24x0, c24x0, f24x0, rfl, hC24, hv24x0, hOc24⟩; exact hS.ext hC24) ?_
          rintro _ w24 ⟨a24x0, n24x0, c24x0, f24x0, rfl, hC24, hv24x0, hOc24⟩
          have h0 := h0.ext hC24
          have hb2 := hb2.chg hC24 (fun h => nomatch h)
          have hb3 := hb3.chg hC24 (fun h => nomatch h)
          have hv15 := hv15.ext hC24
          have hv19 := hv19.ext hC24
          have hb22 := hb22.chg hC24 (fun h => nomatch h)
          have hC := hC.ext hC24
          have hO := Own.join0 hO hC24 hOc24
          have hO := hO.perm (R := f24x0 ++ (([g21]) ++ ((g19 :: ((([g17])) ++ ([]))) ++ (([g15]) ++ (([g3]) ++ (([g2]) ++ ([]))))))) (by simp)
          have hS := hS.ext hC24
          refine x_one (i := 5) (by kernel_rfl) ?_
          obtain ⟨w27, g27, ew27, eg27, hC27, hb27⟩ := new_block w24 [(.slice (some ⟨g15, 0, none⟩) 1 1), (.int .i64 1), (.slice (some ⟨g19, 0, none⟩) 1 1)] 108
          refine xk_val (w' := w27) (b := false) (.slice (some ⟨g27, 0, none⟩) 1 1) rfl  (y_bslice rfl (by rw [ew27, eg27]; kernel_rfl)) rfl (fun _ => hS.ext hC27) ?_
          have h0 := h0.ext hC27
          have hb2 := hb2.chg hC27 (fun h => nomatch h)
          have hb3 := hb3.chg hC27 (fun h => nomatch h)
          have hv15 := hv15.ext hC27
          have hv19 := hv19.ext hC27
          have hb22 := hb22.chg hC27 (fun h => nomatch h)
          have hv24x0 := hv24x0.ext hC27
          have hC := hC.ext hC27
          have hO := hO.fr2
          have hO := hO.fr3
          have hO := hO.new (X' := [g27]) hC27 (fun q hq => by rw [List.mem_singleton.1 hq, eg27]; exact Nat.le_refl _) (List.nodup_cons.2 ⟨(fun h => nomatch h), List.nodup_nil⟩) (fun q hq => by rw [List.mem_singleton.1 hq]; exact hb27.lt)
          have hO := hO.perm (R := (g27 :: ((([g15]) ++ (g19 :: ((([g17])) ++ ([])))) ++ ([]))) ++ (f24x0 ++ (([g21]) ++ (([g3]) ++ (([g2]) ++ ([])))))) (by simp)
          have hnd27 := hO.nd
          have hv27 := os_of_box (r := (RT.pr (RT.os 3 (RT.int .i64)) (RT.pr (RT.int .i64) (RT.os 22 (RT.os 3 (RT.int .i64)))))) (M := M) (css := [[(.slice (some ⟨g15, 0, none⟩) 1 1), (.int .i64 1), (.slice (some ⟨g19, 0, none⟩) 1 1)]]) (fps := [([g15] ++ (g19 :: ((([g17])) ++ ([]))) : List Nat)]) (xs := ([([v_], (1, [[value]]))] : List ((List Int) × (Int × (List (List Int)))))) hb27 ⟨⟨_, _, _, _, rfl, rfl, (os_unval hv15), ⟨_, _, _, _, rfl, rfl, ⟨rfl, rfl⟩, (os_unval hv19)⟩⟩, trivial⟩ (Nat.le_of_ble_eq_true rfl) hnd27
          have hv27 : (RT.os 108 (RT.pr (RT.os 3 (RT.int .i64)) (RT.pr (RT.int .i64) (RT.os 22 (RT.os 3 (RT.int .i64)))))).val M w27 (.slice (some ⟨g27, 0, none⟩) 1 1) [([v_], (1, [[value]]))] (g27 :: ((([g15]) ++ (g19 :: ((([g17])) ++ ([])))) ++ ([]))) := hv27
          have hS := hS.ext hC27
          refine x_one (i := 6) (by kernel_rfl) ?_
          obtain ⟨y30, hy30, hs⟩ := bind_some hs
          have hO := hO.fr1
          obtain ⟨a29, n29, c29, w29, f29, hr29, hC29, hf29, hv29⟩ := app_os Rw47 hy30 hv24x0 hv27 hO.inM (fun g hg hq => hO.apart g hq (mem_l hg))
          have hG29 := os_block hv24x0
          refine xk_val (w' := w29) (b := true) (.slice a29 n29 c29) rfl  (y_append rfl rfl (hr29 _)) rfl (fun h => nomatch h) ?_
          have hO := hO.fr1
          have hO := hO.fr1
          have h0 := h0.mut hC29 (fun g hg => hO.inM g (hG29 g hg)) (fun _ _ h => nomatch h)
          have hb2 := hb2.chg hC29 (fun hg => hO.apart _ (hG29 _ hg) (mem_r (mem_r (mem_r (mem_l (List.mem_singleton.2 rfl))))))
          have hb3 := hb3.chg hC29 (fun hg => hO.apart _ (hG29 _ hg) (mem_r (mem_r (mem_l (List.mem_singleton.2 rfl)))))
          have hb22 := hb22.chg hC29 (fun hg => hO.apart _ (hG29 _ hg) (mem_r (mem_l (List.mem_singleton.2 rfl))))
          have hC := hC.step hC29 (fun g hg => hO.inN g (hG29 g hg))
          have hO := hO.eat hC29 hf29 (os_nodup hv29) hv29.fpl
          refine x_one (i := 7) (by kernel_rfl) ?_
          have hL32 := hO
          have hI32 := Own.lend (F := (f29 ++ ([]))) (R := ([g21]) ++ (([g3]) ++ (([g2]) ++ ([])))) (Own.perm (hL32) (by simp))
          obtain ⟨r33, hr33, hs⟩ := bind_some hs
          refine xk_call (b := true) rfl  Bd133 rfl (c_impl_withConstraints__take1 (M := M) (net.1, net.2.1, net.2.2) y30 h0 hv29 hI32 hI32.fut hr33) rfl (fun h => nomatch h) ?_
          rintro _ w32 ⟨a32x0, n32x0, c32x0, f32x0, rfl, hC32, hv32x0, hOc32⟩
          have hO := hO.perm (R := (f29 ++ ([])) ++ (([g21]) ++ (([g3]) ++ (([g2]) ++ ([]))))) (by simp)
          have h0 := h0.mut hC32 (fun g hg => hO.inM g ((fun _ h => h) g hg)) (fun _ _ h => nomatch h)
          have hb2 := hb2.chg hC32 (fun hg => hO.apart _ ((fun _ h => h) _ hg) (mem_r (mem_r (mem_l (List.mem_singleton.2 rfl)))))
          have hb3 := hb3.chg hC32 (fun hg => hO.apart _ ((fun _ h => h) _ hg) (mem_r (mem_l (List.mem_singleton.2 rfl))))
          have hb22 := hb22.chg hC32 (fun hg => hO.apart _ ((fun _ h => h) _ hg) (mem_l (List.mem_singleton.2 rfl)))
          have hC := hC.step hC32 (fun g hg => hO.inN g ((fun _ h => h) g hg))
          have hO := Own.join hO hC32 hOc32
          have hO := hO.perm (R := f32x0 ++ (([g21]) ++ (([g3]) ++ (([g2]) ++ ([]))))) (by simp)
          refine x_p 8 (.agg #[(.int .i64 r33.1.1), (.int .i64 r33.1.2.1), (.slice a32x0 n32x0 c32x0)]) rfl (by kernel_rfl)  (fun _ => y_extract rfl (by kernel_rfl)) (fun h => nomatch h) ?_
          refine x_p 9 (.bool r33.2) rfl (by kernel_rfl)  (fun _ => y_extract rfl (by kernel_rfl)) (fun h => nomatch h) ?_
          refine x_one (i := 10) (by kernel_rfl) ?_
          obtain ⟨w35, hst35, hC35, hb35⟩ := box_store (P := Try.prog) hb3 [] [(.int .i64 0), (.int .i64 0), (.slice none 0 0)] [] [(.int .i64 r33.1.1), (.int .i64 r33.1.2.1), (.slice a32x0 n32x0 c32x0)] rfl rfl (by intro u hu; simp only [List.mem_cons, List.not_mem_nil, or_false] at hu; rcases hu with rfl | rfl | rfl <;> rfl)
          refine xk_skip (w' := w35) (b := true) rfl (ys_store rfl rfl (hst35 _ _ rfl Sz49)) rfl (fun h => nomatch h) ?_
          have hO := hO.fr2
          have h0 := h0.mut hC35 (fun g hg => hO.inM g ((fun _ h => h) g hg)) (fun _ _ h => nomatch h)
          have hb2 := hb2.chg hC35 (fun hg => hO.apart _ ((fun _ h => h) _ hg) (mem_r (mem_r (mem_l (List.mem_singleton.2 rfl)))))
          have hb22 := hb22.chg hC35 (fun hg => hO.apart _ ((fun _ h => h) _ hg) (mem_r (mem_l (List.mem_singleton.2 rfl))))
          have hv32x0 := hv32x0.mut hC35 (fun g hg => hO.inM g ((fun _ h => h) g hg)) (fun g hg e => hO.apart g ((fun _ h => h) g hg) (mem_l (e)))
          have hC := hC.step hC35 (fun g hg => hO.inN g ((fun _ h => h) g hg))
          have hO := hO.ext hC35
          have hb35 : BoxV w35 g3 49 [(.int .i64 r33.1.1), (.int .i64 r33.1.2.1), (.slice a32x0 n32x0 c32x0)] := hb35
          refine x_p 11 (.bool r33.2) rfl (by kernel_rfl)  (fun _ => y_assign rfl) (fun h => nomatch h) ?_
          refine x_end (by kernel_rfl) ?_
          clear hS
          refine wp_ret ?_
          cases hs
          have hO := hO.drop
          have hO := hO.fr1
          have hO := hO.drop
          have hO := hO.fr1
          have hO := hO.drop
          exact ⟨_, g3, a32x0, n32x0, c32x0, f32x0, fr_ovl 50 ⟨rfl, rfl, trivial⟩, hb35, hC, hv32x0, hO.top⟩
        · skip
          obtain ⟨w36, g36, ew36, eg36, hC36, hb36⟩ := new_block w23 [(.slice (some ⟨g15, 0, none⟩) 1 1), (.int .i64 1), (.slice (some ⟨g19, 0, none⟩) 1 1)] 108
          refine xk_val (w' := w36) (b := false) (.slice (some ⟨g36, 0, none⟩) 1 1) rfl  (y_bslice rfl (by rw [ew36, eg36]; kernel_rfl)) rfl (fun _ => hS.ext hC36) ?_
          have h0 := h0.ext hC36
          have hb2 := hb2.chg hC36 (fun h => nomatch h)
          have hb3 := hb3.chg hC36 (fun h => nomatch h)
          have hv15 := hv15.ext hC36
          have hv19 := hv19.ext hC36
          have hb22 := hb22.chg hC36 (fun h => nomatch h)
          have hC := hC.ext hC36
          have hO := hO.fr1
          have hO := hO.fr2
          have hO := hO.new (X' := [g36]) hC36 (fun q hq => by rw [List.mem_singleton.1 hq, eg36]; exact Nat.le_refl _) (List.nodup_cons.2 ⟨(fun h => nomatch h), List.nodup_nil⟩) (fun q hq => by rw [List.mem_singleton.1 hq]; exact hb36.lt)
          have hO := hO.perm (R := (g36 :: ((([g15]) ++ (g19 :: ((([g17])) ++ ([])))) ++ ([]))) ++ (([g21]) ++ (([g3]) ++ (([g2]) ++ ([]))))) (by simp)
          have hnd36 := hO.nd
          have hv36 := os_of_box (r := (RT.pr (RT.os 3 (RT.int .i64)) (RT.pr (RT.int .i64) (RT.os 22 (RT.os 3 (RT.int .i64)))))) (M := M) (css := [[(.slice (some ⟨g15, 0, none⟩) 1 1), (.int .i64 1), (.slice (some ⟨g19, 0, none⟩) 1 1)]]) (fps := [([g15] ++ (g19 :: ((([g17])) ++ ([]))) : List Nat)]) (xs := ([([v_], (1, [[value]]))] : List ((List Int) × (Int × (List (List Int)))))) hb36 ⟨⟨_, _, _, _, rfl, rfl, (os_unval hv15), ⟨_, _, _, _, rfl, rfl, ⟨rfl, rfl⟩, (os_unval hv19)⟩⟩, trivial⟩ (Nat.le_of_ble_eq_true rfl) hnd36
          have hv36 : (RT.os 108 (RT.pr (RT.os 3 (RT.int .i64)) (RT.pr (RT.int .i64) (RT.os 22 (RT.os 3 (RT.int .i64)))))).val M w36 (.slice (some ⟨g36, 0, none⟩) 1 1) [([v_], (1, [[value]]))] (g36 :: ((([g15]) ++ (g19 :: ((([g17])) ++ ([])))) ++ ([]))) := hv36
          have hS := hS.ext hC36
          refine x_one (i := 3) (by kernel_rfl) ?_
          obtain ⟨r25, hr25, hs⟩ := bind_some hs
          refine xk_call (b := false) rfl  Bd134 rfl (c_impl_cloneConstraints (M := M) net.2.2 h0 hO.fut hr25) rfl (by rintro _ _ _ ⟨a38x0, n38x0, c38x0, f38x0, rfl, hC38, hv38x0, hOc38⟩; exact hS.ext hC38) ?_
          rintro _ w38 ⟨a38x0, n38x0, c38x0, f38x0, rfl, hC38, hv38x0, hOc38⟩
          have h0 := h0.ext hC38
          have hb2 := hb2.chg hC38 (fun h => nomatch h)
          have hb3 := hb3.chg hC38 (fun h => nomatch h)
          have hb22 := hb22.chg hC38 (fun h => nomatch h)
          have hv36 := hv36.ext hC38
          have hC := hC.ext hC38
          have hO := Own.join0 hO hC38 hOc38
          have hO := hO.perm (R := f38x0 ++ ((g36 :: ((([g15]) ++ (g19 :: ((([g17])) ++ ([])))) ++ ([]))) ++ (([g21]) ++ (([g3]) ++ (([g2]) ++ ([])))))) (by simp)
          have hS := hS.ext hC38
          refine x_one (i := 6) (by kernel_rfl) ?_
          obtain ⟨y30, hy30, hs⟩ := bind_some hs
          have hO := hO.fr1
          have hO := hO.fr1
          obtain ⟨a41, n41, c41, w41, f41, hr41, hC41, hf41, hv41⟩ := app_os Rw47 hy30 hv38x0 hv36 hO.inM (fun g hg hq => hO.apart g hq (mem_l hg))
          have hG41 := os_block hv38x0
          refine xk_val (w' := w41) (b := true) (.slice a41 n41 c41) rfl  (y_append rfl rfl (hr41 _)) rfl (fun h => nomatch h) ?_
          have hO := hO.fr1
          have hO := hO.fr1
          have h0 := h0.mut hC41 (fun g hg => hO.inM g (hG41 g hg)) (fun _ _ h => nomatch h)
          have hb2 := hb2.chg hC41 (fun hg => hO.apart _ (hG41 _ hg) (mem_r (mem_r (mem_r (mem_l (List.mem_singleton.2 rfl))))))
          have hb3 := hb3.chg hC41 (fun hg => hO.apart _ (hG41 _ hg) (mem_r (mem_r (mem_l (List.mem_singleton.2 rfl)))))
          have hb22 := hb22.chg hC41 (fun hg => hO.apart _ (hG41 _ hg) (mem_r (mem_l (List.mem_singleton.2 rfl))))
          have hC := hC.step hC41 (fun g hg => hO.inN g (hG41 g hg))
          have hO := hO.eat hC41 hf41 (os_nodup hv41) hv41.fpl
          refine x_one (i := 7) (by kernel_rfl) ?_
          have hL44 := hO
          have hI44 := Own.lend (F := (f41 ++ ([]))) (R := ([g21]) ++ (([g3]) ++ (([g2]) ++ ([])))) (Own.perm (hL44) (by simp))
          obtain ⟨r33, hr33, hs⟩ := bind_some hs
          refine xk_call (b := true) rfl  Bd133 rfl (c_impl_withConstraints__take1 (M := M) (net.1, net.2.1, net.2.2) y30 h0 hv41 hI44 hI44.fut hr33) rfl (fun h => nomatch h) ?_
          rintro _ w44 ⟨a44x0, n44x0, c44x0, f44x0, rfl, hC44, hv44x0, hOc44⟩
          have hO := hO.perm (R := (f41 ++ ([])) ++ (([g21]) ++ (([g3]) ++ (([g2]) ++ ([]))))) (by simp)
          have h0 := h0.mut hC44 (fun g hg => hO.inM g ((fun _ h => h) g hg)) (fun _ _ h => nomatch h)
          have hb2 := hb2.chg hC44 (fun hg => hO.apart _ ((fun _ h => h) _ hg) (mem_r (mem_r (mem_l (List.mem_singleton.2 rfl)))))
          have hb3 := hb3.chg hC44 (fun hg => hO.apart _ ((fun _ h => h) _ hg) (mem_r (mem_l (List.mem_singleton.2 rfl))))
          have hb22 := hb22.chg hC44 (fun hg => hO.apart _ ((fun _ h => h) _ hg) (mem_l (List.mem_singleton.2 rfl)))
          have hC := hC.step hC44 (fun g hg => hO.inN g ((fun _ h => h) g hg))
          have hO := Own.join hO hC44 hOc44
          have hO := hO.perm (R := f44x0 ++ (([g21]) ++ (([g3]) ++ (([g2]) ++ ([]))))) (by simp)
          refine x_p 8 (.agg #[(.int .i64 r33.1.1), (.int .i64 r33.1.2.1), (.slice a44x0 n44x0 c44x0)]) rfl (by kernel_rfl)  (fun _ => y_extract rfl (by kernel_rfl)) (fun h => nomatch h) ?_
          refine x_p 9 (.bool r33.2) rfl (by kernel_rfl)  (fun _ => y_extract rfl (by kernel_rfl)) (fun h => nomatch h) ?_
          refine x_one (i := 10) (by kernel_rfl) ?_
          obtain ⟨w47, hst47, hC47, hb47⟩ := box_store (P := Try.prog) hb3 [] [(.int .i64 0), (.int .i64 0), (.slice none 0 0)] [] [(.int .i64 r33.1.1), (.int .i64 r33.1.2.1), (.slice a44x0 n44x0 c44x0)] rfl rfl (by intro u hu; simp only [List.mem_cons, List.not_mem_nil, or_false] at hu; rcases hu with rfl | rfl | rfl <;> rfl)
          refine xk_skip (w' := w47) (b := true) rfl (ys_store rfl rfl (hst47 _ _ rfl Sz49)) rfl (fun h => nomatch h) ?_
          have hO := hO.fr2
          have h0 := h0.mut hC47 (fun g hg => hO.inM g ((fun _ h => h) g hg)) (fun _ _ h => nomatch h)
          have hb2 := hb2.chg hC47 (fun hg => hO.apart _ ((fun _ h => h) _ hg) (mem_r (mem_r (mem_l (List.mem_singleton.2 rfl)))))
          have hb22 := hb22.chg hC47 (fun hg => hO.apart _ ((fun _ h => h) _ hg) (mem_r (mem_l (List.mem_singleton.2 rfl))))
          have hv44x0 := hv44x0.mut hC47 (fun g hg => hO.inM g ((fun _ h => h) g hg)) (fun g hg e => hO.apart g ((fun _ h => h) g hg) (mem_l (e)))
          have hC := hC.step hC47 (fun g hg => hO.inN g ((fun _ h => h) g hg))
          have hO := hO.ext hC47
          have hb47 : BoxV w47 g3 49 [(.int .i64 r33.1.1), (.int .i64 r33.1.2.1), (.slice a44x0 n44x0 c44x0)] := hb47
          refine x_p 11 (.bool r33.2) rfl (by kernel_rfl)  (fun _ => y_assign rfl) (fun h => nomatch h) ?_
          refine x_end (by kernel_rfl) ?_
          clear hS
          refine wp_ret ?_
          cases hs
          have hO := hO.drop
          have hO := hO.fr1
          have hO := hO.drop
          have hO := hO.fr1
          have hO := hO.drop
          exact ⟨_, g3, a44x0, n44x0, c44x0, f44x0, fr_ovl 50 ⟨rfl, rfl, trivial⟩, hb47, hC, hv44x0, hO.top⟩
      · skip
        obtain ⟨r25, hr25, hs⟩ := bind_some hs
        refine xk_call (b := false) rfl  Bd134 rfl (c_impl_cloneConstraints (M := M) net.2.2 h0 hO.fut hr25) rfl (by rintro _ _ _ ⟨a48x0, n48x0, c48x0, f48x0, rfl, hC48, hv48x0, hOc48⟩; exact hS.ext hC48) ?_
        rintro _ w48 ⟨a48x0, n48x0, c48x0, f48x0, rfl, hC48, hv48x0, hOc48⟩
        have h0 := h0.ext hC48
        have hb2 := hb2.chg hC48 (fun h => nomatch h)
        have hb3 := hb3.chg hC48 (fun h => nomatch h)
        have hv15 := hv15.ext hC48
        have hv19 := hv19.ext hC48
        have hb22 := hb22.chg hC48 (fun h => nomatch h)
        have hC := hC.ext hC48
        have hO := Own.join0 hO hC48 hOc48
        have hO := hO.perm (R := f48x0 ++ (([g21]) ++ ((g19 :: ((([g17])) ++ ([]))) ++ (([g15]) ++ (([g3]) ++ (([g2]) ++ ([]))))))) (by simp)
        have hS := hS.ext hC48
        refine x_two (i := 0) (j := 5) (by kernel_rfl) ?_ ?_
        · skip
          refine xk_val (b := false) (.agg #[(.int .i64 net.1), (.int .i64 net.2.1), (.slice pa0 pn0 pc0)]) rfl  (y_load rfl ((box_load Ag49 Sz49 hb2 [] [(.int .i64 net.1), (.int .i64 net.2.1), (.slice pa0 pn0 pc0)] [] rfl rfl (fun h => nomatch h)) _ (Chg.refl _ _))) rfl (fun _ => hS) ?_
          refine x_one (i := 5) (by kernel_rfl) ?_
          obtain ⟨w51, g51, ew51, eg51, hC51, hb51⟩ := new_block w48 [(.slice (some ⟨g15, 0, none⟩) 1 1), (.int .i64 1), (.slice (some ⟨g19, 0, none⟩) 1 1)] 108
          refine xk_val (w' := w51) (b := false) (.slice (some ⟨g51, 0, none⟩) 1 1) rfl  (y_bslice rfl (by rw [ew51, eg51]; kernel_rfl)) rfl (fun _ => hS.ext hC51) ?_
          have h0 := h0.ext hC51
          have hb2 := hb2.chg hC51 (fun h => nomatch h)
          have hb3 := hb3.chg hC51 (fun h => nomatch h)
          have hv15 := hv15.ext hC51
          have hv19 := hv19.ext hC51
          have hb22 := hb22.chg hC51 (fun h => nomatch h)
          have hv48x0 := hv48x0.ext hC51
          have hC := hC.ext hC51
          have hO := hO.fr2
          have hO := hO.fr3
          have hO := hO.new (X' := [g51]) hC51 (fun q hq => by rw [List.mem_singleton.1 hq, eg51]; exact Nat.le_refl _) (List.nodup_cons.2 ⟨(fun h => nomatch h), List.nodup_nil⟩) (fun q hq => by rw [List.mem_singleton.1 hq]; exact hb51.lt)
          have hO := hO.perm (R := (g51 :: ((([g15]) ++ (g19 :: ((([g17])) ++ ([])))) ++ ([]))) ++ (f48x0 ++ (([g21]) ++ (([g3]) ++ (([g2]) ++ ([])))))) (by simp)
          have hnd51 := hO.nd
          have hv51 := os_of_box (r := (RT.pr (RT.os 3 (RT.int .i64)) (RT.pr (RT.int .i64) (RT.os 22 (RT.os 3 (RT.int .i64)))))) (M := M) (css := [[(.slice (some ⟨g15, 0, none⟩) 1 1), (.int .i64 1), (.slice (some ⟨g19, 0, none⟩) 1 1)]]) (fps := [([g15] ++ (g19 :: ((([g17])) ++ ([]))) : List Nat)]) (xs := ([([v_], (1, [[value]]))] : List ((List Int) × (Int × (List (List Int)))))) hb51 ⟨⟨_, _, _, _, rfl, rfl, (os_unval hv15), ⟨_, _, _, _, rfl, rfl, ⟨rfl, rfl⟩, (os_unval hv19)⟩⟩, trivial⟩ (Nat.le_of_ble_eq_true rfl) hnd51
          have hv51 : (RT.os 108 (RT.pr (RT.os 3 (RT.int .i64)) (RT.pr (RT.int .i64) (RT.os 22 (RT.os 3 (RT.int .i64)))))).val M w51 (.slice (some ⟨g51, 0, none⟩) 1 1) [([v_], (1, [[value]]))] (g51 :: ((([g15]) ++ (g19 :: ((([g17])) ++ ([])))) ++ ([]))) := hv51
          have hS := hS.ext hC51
          refine x_one (i := 6) (by kernel_rfl) ?_
          obtain ⟨y30, hy30, hs⟩ := bind_some hs
          have hO := hO.fr1
          obtain ⟨a53, n53, c53, w53, f53, hr53, hC53, hf53, hv53⟩ := app_os Rw47 hy30 hv48x0 hv51 hO.inM (fun g hg hq => hO.apart g hq (mem_l hg))
          have hG53 := os_block hv48x0
          refine xk_val (w' := w53) (b := true) (.slice a53 n53 c53) rfl  (y_append rfl rfl (hr53 _)) rfl (fun h => nomatch h) ?_
          have hO := hO.fr1
          have hO := hO.fr1
          have h0 := h0.mut hC53 (fun g hg => hO.inM g (hG53 g hg)) (fun _ _ h => nomatch h)
          have hb2 := hb2.chg hC53 (fun hg => hO.apart _ (hG53 _ hg) (mem_r (mem_r (mem_r (mem_l (List.mem_singleton.2 rfl))))))
          have hb3 := hb3.chg hC53 (fun hg => hO.apart _ (hG53 _ hg) (mem_r (mem_r (mem_l (List.mem_singleton.2 rfl)))))
          have hb22 := hb22.chg hC53 (fun hg => hO.apart _ (hG53 _ hg) (mem_r (mem_l (List.mem_singleton.2 rfl))))
          have hC := hC.step hC53 (fun g hg => hO.inN g (hG53 g hg))
          have hO := hO.eat hC53 hf53 (os_nodup hv53) hv53.fpl
          refine x_one (i := 7) (by kernel_rfl) ?_
          have hL56 := hO
          have hI56 := Own.lend (F := (f53 ++ ([]))) (R := ([g21]) ++ (([g3]) ++ (([g2]) ++ ([])))) (Own.perm (hL56) (by simp))
          obtain ⟨r33, hr33, hs⟩ := bind_some hs
          refine xk_call (b := true) rfl  Bd133 rfl (c_impl_withConstraints__take1 (M := M) (net.1, net.2.1, net.2.2) y30 h0 hv53 hI56 hI56.fut hr33) rfl (fun h => nomatch h) ?_
          rintro _ w56 ⟨a56x0, n56x0, c56x0, f56x0, rfl, hC56, hv56x0, hOc56⟩
          have hO := hO.perm (R := (f53 ++ ([])) ++ (([g21]) ++ (([g3]) ++ (([g2]) ++ ([]))))) (by simp)
          have h0 := h0.mut hC56 (fun g hg => hO.inM g ((fun _ h => h) g hg)) (fun _ _ h => nomatch h)
          have hb2 := hb2.chg hC56 (fun hg => hO.apart _ ((fun _ h => h) _ hg) (mem_r (mem_r (mem_l (List.mem_singleton.2 rfl)))))
          have hb3 := hb3.chg hC56 (fun hg => hO.apart _ ((fun _ h => h) _ hg) (mem_r (mem_l (List.mem_singleton.2 rfl))))
          have hb22 := hb22.chg hC56 (fun hg => hO.apart _ ((fun _ h => h) _ hg) (mem_l (List.mem_singleton.2 rfl)))
          have hC := hC.step hC56 (fun g hg => hO.inN g ((fun _ h => h) g hg))
          have hO := Own.join hO hC56 hOc56
          have hO := hO.perm (R := f56x0 ++ (([g21]) ++ (([g3]) ++ (([g2]) ++ ([]))))) (by simp)
          refine x_p 8 (.agg #[(.int .i64 r33.1.1), (.int .i64 r33.1.2.1), (.slice a56x0 n56x0 c56x0)]) rfl (by kernel_rfl)  (fun _ => y_extract rfl (by kernel_rfl)) (fun h => nomatch h) ?_
          refine x_p 9 (.bool r33.2) rfl (by kernel_rfl)  (fun _ => y_extract rfl (by kernel_rfl)) (fun h => nomatch h) ?_
          refine x_one (i := 10) (by kernel_rfl) ?_
          obtain ⟨w59, hst59, hC59, hb59⟩ := box_store (P := Try.prog) hb3 [] [(.int .i64 0), (.int .i64 0), (.slice none 0 0)] [] [(.int .i64 r33.1.1), (.int .i64 r33.1.2.1), (.slice a56x0 n56x0 c56x0)] rfl rfl (by intro u hu; simp only [List.mem_cons, List.not_mem_nil, or_false] at hu; rcases hu with rfl | rfl | rfl <;> rfl)
          refine xk_skip (w' := w59) (b := true) rfl (ys_store rfl rfl (hst59 _ _ rfl Sz49)) rfl (fun h => nomatch h) ?_
          have hO := hO.fr2
          have h0 := h0.mut hC59 (fun g hg => hO.inM g ((fun _ h => h) g hg)) (fun _ _ h => nomatch h)
          have hb2 := hb2.chg hC59 (fun hg => hO.apart _ ((fun _ h => h) _ hg) (mem_r (mem_r (mem_l (List.mem_singleton.2 rfl)))))
          have hb22 := hb22.chg hC59 (fun hg => hO.apart _ ((fun _ h => h) _ hg) (mem_r (mem_l (List.mem_singleton.2 rfl))))
          have hv56x0 := hv56x0.mut hC59 (fun g hg => hO.inM g ((fun _ h => h) g hg)) (fun g hg e => hO.apart g ((fun _ h => h) g hg) (mem_l (e)))
          have hC := hC.step hC59 (fun g hg => hO.inN g ((fun _ h => h) g hg))
          have hO := hO.ext hC59
          have hb59 : BoxV w59 g3 49 [(.int .i64 r33.1.1), (.int .i64 r33.1.2.1), (.slice a56x0 n56x0 c56x0)] := hb59
          refine x_p 11 (.bool r33.2) rfl (by kernel_rfl)  (fun _ => y_assign rfl) (fun h => nomatch h) ?_
          refine x_end (by kernel_rfl) ?_
          clear hS
          refine wp_ret ?_
          cases hs
          have hO := hO.drop
          have hO := hO.fr1
          have hO := hO.drop
          have hO := hO.fr1
          have hO := hO.drop
          exact ⟨_, g3, a56x0, n56x0, c56x0, f56x0, fr_ovl 50 ⟨rfl, rfl, trivial⟩, hb59, hC, hv56x0, hO.top⟩
        · skip
          obtain ⟨w60, g60, ew60, eg60, hC60, hb60⟩ := new_block w48 [(.slice (some ⟨g15, 0, none⟩) 1 1), (.int .i64 1), (.slice (some ⟨g19, 0, none⟩) 1 1)] 108
          refine xk_val (w' := w60) (b := false) (.slice (some ⟨g60, 0, none⟩) 1 1) rfl  (y_bslice rfl (by rw [ew60, eg60]; kernel_rfl)) rfl (fun _ => hS.ext hC60) ?_
          have h0 := h0.ext hC60
          have hb2 := hb2.chg hC60 (fun h => nomatch h)
          have hb3 := hb3.chg hC60 (fun h => nomatch h)
          have hv15 := hv15.ext hC60
          have hv19 := hv19.ext hC60
          have hb22 := hb22.chg hC60 (fun h => nomatch h)
          have hv48x0 := hv48x0.ext hC60
          have hC := hC.ext hC60
          have hO := hO.fr2
          have hO := hO.fr3
          have hO := hO.new (X' := [g60]) hC60 (fun q hq => by rw [List.mem_singleton.1 hq, eg60]; exact Nat.le_refl _) (List.nodup_cons.2 ⟨(fun h => nomatch h), List.nodup_nil⟩) (fun q hq => by rw [List.mem_singleton.1 hq]; exact hb60.lt)
          have hO := hO.perm (R := (g60 :: ((([g15]) ++ (g19 :: ((([g17])) ++ ([])))) ++ ([]))) ++ (f48x0 ++ (([g21]) ++ (([g3]) ++ (([g2]) ++ ([])))))) (by simp)
          have hnd60 := hO.nd
          have hv60 := os_of_box (r := (RT.pr (RT.os 3 (RT.int .i64)) (RT.pr (RT.int .i64) (RT.os 22 (RT.os 3 (RT.int .i64)))))) (M := M) (css := [[(.slice (some ⟨g15, 0, none⟩) 1 1), (.int .i64 1), (.slice (some ⟨g19, 0, none⟩) 1 1)]]) (fps := [([g15] ++ (g19 :: ((([g17])) ++ ([]))) : List Nat)]) (xs := ([([v_], (1, [[value]]))] : List ((List Int) × (Int × (List (List Int)))))) hb60 ⟨⟨_, _, _, _, rfl, rfl, (os_unval hv15), ⟨_, _, _, _, rfl, rfl, ⟨rfl, rfl⟩, (os_unval hv19)⟩⟩, trivial⟩ (Nat.le_of_ble_eq_true rfl) hnd60
          have hv60 : (RT.os 108 (RT.pr (RT.os 3 (RT.int .i64)) (RT.pr (RT.int .i64) (RT.os 22 (RT.os 3 (RT.int .i64)))))).val M w60 (.slice (some ⟨g60, 0, none⟩) 1 1) [([v_], (1, [[value]]))] (g60 :: ((([g15]) ++ (g19 :: ((([g17])) ++ ([])))) ++ ([]))) := hv60
          have hS := hS.ext hC60
          refine x_two (i := 0) (j := 6) (by kernel_rfl) ?_ ?_
          · skip
            refine xk_val (b := false) (.agg #[(.int .i64 net.1), (.int .i64 net.2.1), (.slice pa0 pn0 pc0)]) rfl  (y_load rfl ((box_load Ag49 Sz49 hb2 [] [(.int .i64 net.1), (.int .i64 net.2.1), (.slice pa0 pn0 pc0)] [] rfl rfl (fun h => nomatch h)) _ (Chg.refl _ _))) rfl (fun _ => hS) ?_
            refine x_one (i := 6) (by kernel_rfl) ?_
            obtain ⟨y30, hy30, hs⟩ := bind_some hs
            have hO := hO.fr1
            obtain ⟨a62, n62, c62, w62, f62, hr62, hC62, hf62, hv62⟩ := app_os Rw47 hy30 hv48x0 hv60 hO.inM (fun g hg hq => hO.apart g hq (mem_l hg))
            have hG62 := os_block hv48x0
            refine xk_val (w' := w62) (b := true) (.slice a62 n62 c62) rfl  (y_append rfl rfl (hr62 _)) rfl (fun h => nomatch h) ?_
            have hO := hO.fr1
            have hO := hO.fr1
            have h0 := h0.mut hC62 (fun g hg => hO.inM g (hG62 g hg)) (fun _ _ h => nomatch h)
            have hb2 := hb2.chg hC62 (fun hg => hO.apart _ (hG62 _ hg) (mem_r (mem_r (mem_r (mem_l (List.mem_singleton.2 rfl))))))
            have hb3 := hb3.chg hC62 (fun hg => hO.apart _ (hG62 _ hg) (mem_r (mem_r (mem_l (List.mem_singleton.2 rfl)))))
            have hb22 := hb22.chg hC62 (fun hg => hO.apart _ (hG62 _ hg) (mem_r (mem_l (List.mem_singleton.2 rfl))))
            have hC := hC.step hC62 (fun g hg => hO.inN g (hG62 g hg))
            have hO := hO.eat hC62 hf62 (os_nodup hv62) hv62.fpl
            refine x_one (i := 7) (by kernel_rfl) ?_
            have hL65 := hO
            have hI65 := Own.lend (F := (f62 ++ ([]))) (R := ([g21]) ++ (([g3]) ++ (([g2]) ++ ([])))) (Own.perm (hL65) (by simp))
            obtain ⟨r33, hr33, hs⟩ := bind_some hs
            refine xk_call (b := true) rfl  Bd133 rfl (c_impl_withConstraints__take1 (M := M) (net.1, net.2.1, net.2.2) y30 h0 hv62 hI65 hI65.fut hr33) rfl (fun h => nomatch h) ?_
            rintro _ w65 ⟨a65x0, n65x0, c65x0, f65x0, rfl, hC65, hv65x0, hOc65⟩
            have hO := hO.perm (R := (f62 ++ ([])) ++ (([g21]) ++ (([g3]) ++ (([g2]) ++ ([]))))) (by simp)
            have h0 := h0.mut hC65 (fun g hg => hO.inM g ((fun _ h => h) g hg)) (fun _ _ h => nomatch h)
            have hb2 := hb2.chg hC65 (fun hg => hO.apart _ ((fun _ h => h) _ hg) (mem_r (mem_r (mem_l (List.mem_singleton.2 rfl)))))
            have hb3 := hb3.chg hC65 (fun hg => hO.apart _ ((fun _ h => h) _ hg) (mem_r (mem_l (List.mem_singleton.2 rfl))))
            have hb22 := hb22.chg hC65 (fun hg => hO.apart _ ((fun _ h => h) _ hg) (mem_l (List.mem_singleton.2 rfl)))
            have hC := hC.step hC65 (fun g hg => hO.inN g ((fun _ h => h) g hg))
            have hO := Own.join hO hC65 hOc65
            have hO := hO.perm (R := f65x0 ++ (([g21]) ++ (([g3]) ++ (([g2]) ++ ([]))))) (by simp)
            refine x_p 8 (.agg #[(.int .i64 r33.1.1), (.int .i64 r33.1.2.1), (.slice a65x0 n65x0 c65x0)]) rfl (by kernel_rfl)  (fun _ => y_extract rfl (by kernel_rfl)) (fun h => nomatch h) ?_
            refine x_p 9 (.bool r33.2) rfl (by kernel_rfl)  (fun _ => y_extract rfl (by kernel_rfl)) (fun h => nomatch h) ?_
            refine x_one (i := 10) (by kernel_rfl) ?_
            obtain ⟨w68, hst68, hC68, hb68⟩ := box_store (P := Try.prog) hb3 [] [(.int .i64 0), (.int .i64 0), (.slice none 0 0)] [] [(.int .i64 r33.1.1), (.int .i64 r33.1.2.1), (.slice a65x0 n65x0 c65x0)] rfl rfl (by intro u hu; simp only [List.mem_cons, List.not_mem_nil, or_false] at hu; rcases hu with rfl | rfl | rfl <;> rfl)
            refine xk_skip (w' := w68) (b := true) rfl (ys_store rfl rfl (hst68 _ _ rfl Sz49)) rfl (fun h => nomatch h) ?_
            have hO := hO.fr2
            have h0 := h0.mut hC68 (fun g hg => hO.inM g ((fun _ h => h) g hg)) (fun _ _ h => nomatch h)
            have hb2 := hb2.chg hC68 (fun hg => hO.apart _ ((fun _ h => h) _ hg) (mem_r (mem_r (mem_l (List.mem_singleton.2 rfl)))))
            have hb22 := hb22.chg hC68 (fun hg => hO.apart _ ((fun _ h => h) _ hg) (mem_r (mem_l (List.mem_singleton.2 rfl))))
            have hv65x0 := hv65x0.mut hC68 (fun g hg => hO.inM g ((fun _ h => h) g hg)) (fun g hg e => hO.apart g ((fun _ h => h) g hg) (mem_l (e)))
            have hC := hC.step hC68 (fun g hg => hO.inN g ((fun _ h => h) g hg))
            have hO := hO.ext hC68
            have hb68 : BoxV w68 g3 49 [(.int .i64 r33.1.1), (.int .i64 r33.1.2.1), (.slice a65x0 n65x0 c65x0)] := hb68
            refine x_p 11 (.bool r33.2) rfl (by kernel_rfl)  (fun _ => y_assign rfl) (fun h => nomatch h) ?_
            refine x_end (by kernel_rfl) ?_
            clear hS
            refine wp_ret ?_
            cases hs
            have hO := hO.drop
            have hO := hO.fr1
            have hO := hO.drop
            have hO := hO.fr1
            have hO := hO.drop
            exact ⟨_, g3, a65x0, n65x0, c65x0, f65x0, fr_ovl 50 ⟨rfl, rfl, trivial⟩, hb68, hC, hv65x0, hO.top⟩
          · skip
            obtain ⟨y30, hy30, hs⟩ := bind_some hs
            have hO := hO.fr1
            obtain ⟨a69, n69, c69, w69, f69, hr69, hC69, hf69, hv69⟩ := app_os Rw47 hy30 hv48x0 hv60 hO.inM (fun g hg hq => hO.apart g hq (mem_l hg))
            have hG69 := os_block hv48x0
            refine xk_val (w' := w69) (b := true) (.slice a69 n69 c69) rfl  (y_append rfl rfl (hr69 _)) rfl (fun h => nomatch h) ?_
            have hO := hO.fr1
            have hO := hO.fr1
            have h0 := h0.mut hC69 (fun g hg => hO.inM g (hG69 g hg)) (fun _ _ h => nomatch h)
            have hb2 := hb2.chg hC69 (fun hg => hO.apart _ (hG69 _ hg) (mem_r (mem_r (mem_r (mem_l (List.mem_singleton.2 rfl))))))
            have hb3 := hb3.chg hC69 (fun hg => hO.apart _ (hG69 _ hg) (mem_r (mem_r (mem_l (List.mem_singleton.2 rfl)))))
            have hb22 := hb22.chg hC69 (fun hg => hO.apart _ (hG69 _ hg) (mem_r (mem_l (List.mem_singleton.2 rfl))))
            have hC := hC.step hC69 (fun g hg => hO.inN g (hG69 g hg))
            have hO := hO.eat hC69 hf69 (os_nodup hv69) hv69.fpl
            refine x_one (i := 0) (by kernel_rfl) ?_
            refine xk_val (b := true) (.agg #[(.int .i64 net.1), (.int .i64 net.2.1), (.slice pa0 pn0 pc0)]) rfl  (y_load rfl ((box_load Ag49 Sz49 hb2 [] [(.int .i64 net.1), (.int .i64 net.2.1), (.slice pa0 pn0 pc0)] [] rfl rfl (fun h => nomatch h)) _ (Chg.refl _ _))) rfl (fun h => nomatch h) ?_
            refine x_one (i := 7) (by kernel_rfl) ?_
            have hL72 := hO
            have hI72 := Own.lend (F := (f69 ++ ([]))) (R := ([g21]) ++ (([g3]) ++ (([g2]) ++ ([])))) (Own.perm (hL72) (by simp))
            obtain ⟨r33, hr33, hs⟩ := bind_some hs
            refine xk_call (b := true) rfl  Bd133 rfl (c_impl_withConstraints__take1 (M := M) (net.1, net.2.1, net.2.2) y30 h0 hv69 hI72 hI72.fut hr33) rfl (fun h => nomatch h) ?_
            rintro _ w72 ⟨a72x0, n72x0, c72x0, f72x0, rfl, hC72, hv72x0, hOc72⟩
            have hO := hO.perm (R := (f69 ++ ([])) ++ (([g21]) ++ (([g3]) ++ (([g2]) ++ ([]))))) (by simp)
            have h0 := h0.mut hC72 (fun g hg => hO.inM g ((fun _ h => h) g hg)) (fun _ _ h => nomatch h)
            have hb2 := hb2.chg hC72 (fun hg => hO.apart _ ((fun _ h => h) _ hg) (mem_r (mem_r (mem_l (List.mem_singleton.2 rfl)))))
            have hb3 := hb3.chg hC72 (fun hg => hO.apart _ ((fun _ h => h) _ hg) (mem_r (mem_l (List.mem_singleton.2 rfl))))
            have hb22 := hb22.chg hC72 (fun hg => hO.apart _ ((fun _ h => h) _ hg) (mem_l (List.mem_singleton.2 rfl)))
            have hC := hC.step hC72 (fun g hg => hO.inN g ((fun _ h => h) g hg))
            have hO := Own.join hO hC72 hOc72
            have hO := hO.perm (R := f72x0 ++ (([g21]) ++ (([g3]) ++ (([g2]) ++ ([]))))) (by simp)
            refine x_p 8 (.agg #[(.int .i64 r33.1.1), (.int .i64 r33.1.2.1), (.slice a72x0 n72x0 c72x0)]) rfl (by kernel_rfl)  (fun _ => y_extract rfl (by kernel_rfl)) (fun h => nomatch h) ?_
            refine x_p 9 (.bool r33.2) rfl (by kernel_rfl)  (fun _ => y_extract rfl (by kernel_rfl)) (fun h => nomatch h) ?_
            refine x_one (i := 10) (by kernel_rfl) ?_
            obtain ⟨w75, hst75, hC75, hb75⟩ := box_store (P := Try.prog) hb3 [] [(.int .i64 0), (.int .i64 0), (.slice none 0 0)] [] [(.int .i64 r33.1.1), (.int .i64 r33.1.2.1), (.slice a72x0 n72x0 c72x0)] rfl rfl (by intro u hu; simp only [List.mem_cons, List.not_mem_nil, or_false] at hu; rcases hu with rfl | rfl | rfl <;> rfl)
            refine xk_skip (w' := w75) (b := true) rfl (ys_store rfl rfl (hst75 _ _ rfl Sz49)) rfl (fun h => nomatch h) ?_
            have hO := hO.fr2
            have h0 := h0.mut hC75 (fun g hg => hO.inM g ((fun _ h => h) g hg)) (fun _ _ h => nomatch h)
            have hb2 := hb2.chg hC75 (fun hg => hO.apart _ ((fun _ h => h) _ hg) (mem_r (mem_r (mem_l (List.mem_singleton.2 rfl)))))
            have hb22 := hb22.chg hC75 (fun hg => hO.apart _ ((fun _ h => h) _ hg) (mem_r (mem_l (List.mem_singleton.2 rfl))))
            have hv72x0 := hv72x0.mut hC75 (fun g hg => hO.inM g ((fun _ h => h) g hg)) (fun g hg e => hO.apart g ((fun _ h => h) g hg) (mem_l (e)))
            have hC := hC.step hC75 (fun g hg => hO.inN g ((fun _ h => h) g hg))
            have hO := hO.ext hC75
            have hb75 : BoxV w75 g3 49 [(.int .i64 r33.1.1), (.int .i64 r33.1.2.1), (.slice a72x0 n72x0 c72x0)] := hb75
            refine x_p 11 (.bool r33.2) rfl (by kernel_rfl)  (fun _ => y_assign rfl) (fun h => nomatch h) ?_
            refine x_end (by kernel_rfl) ?_
            clear hS
            refine wp_ret ?_
            cases hs
            have hO := hO.drop
            have hO := hO.fr1
            have hO := hO.drop
            have hO := hO.fr1
            have hO := hO.drop
            exact ⟨_, g3, a72x0, n72x0, c72x0, f72x0, fr_ovl 50 ⟨rfl, rfl, trivial⟩, hb75, hC, hv72x0, hO.top⟩
      · skip
        obtain ⟨w76, g76, ew76, eg76, hC76, hb76⟩ := new_block w23 [(.slice (some ⟨g15, 0, none⟩) 1 1), (.int .i64 1), (.slice (some ⟨g19, 0, none⟩) 1 1)] 108
        refine xk_val (w' := w76) (b := false) (.slice (some ⟨g76, 0, none⟩) 1 1) rfl  (y_bslice rfl (by rw [ew76, eg76]; kernel_rfl)) rfl (fun _ => hS.ext hC76) ?_
        have h0 := h0.ext hC76
        have hb2 := hb2.chg hC76 (fun h => nomatch h)
        have hb3 := hb3.chg hC76 (fun h => nomatch h)
        have hv15 := hv15.ext hC76
        have hv19 := hv19.ext hC76
        have hb22 := hb22.chg hC76 (fun h => nomatch h)
        have hC := hC.ext hC76
        have hO := hO.fr1
        have hO := hO.fr2
        have hO := hO.new (X' := [g76]) hC76 (fun q hq => by rw [List.mem_singleton.1 hq, eg76]; exact Nat.le_refl _) (List.nodup_cons.2 ⟨(fun h => nomatch h), List.nodup_nil⟩) (fun q hq => by rw [List.mem_singleton.1 hq]; exact hb76.lt)
        have hO := hO.perm (R := (g76 :: ((([g15]) ++ (g19 :: ((([g17])) ++ ([])))) ++ ([]))) ++ (([g21]) ++ (([g3]) ++ (([g2]) ++ ([]))))) (by simp)
        have hnd76 := hO.nd
        have hv76 := os_of_box (r := (RT.pr (RT.os 3 (RT.int .i64)) (RT.pr (RT.int .i64) (RT.os 22 (RT.os 3 (RT.int .i64)))))) (M := M) (css := [[(.slice (some ⟨g15, 0, none⟩) 1 1), (.int .i64 1), (.slice (some ⟨g19, 0, none⟩) 1 1)]]) (fps := [([g15] ++ (g19 :: ((([g17])) ++ ([]))) : List Nat)]) (xs := ([([v_], (1, [[value]]))] : List ((List Int) × (Int × (List (List Int)))))) hb76 ⟨⟨_, _, _, _, rfl, rfl, (os_unval hv15), ⟨_, _, _, _, rfl, rfl, ⟨rfl, rfl⟩, (os_unval hv19)⟩⟩, trivial⟩ (Nat.le_of_ble_eq_true rfl) hnd76
        have hv76 : (RT.os 108 (RT.pr (RT.os 3 (RT.int .i64)) (RT.pr (RT.int .i64) (RT.os 22 (RT.os 3 (RT.int .i64)))))).val M w76 (.slice (some ⟨g76, 0, none⟩) 1 1) [([v_], (1, [[value]]))] (g76 :: ((([g15]) ++ (g19 :: ((([g17])) ++ ([])))) ++ ([]))) := hv76
        have hS := hS.ext hC76
        refine x_two (i := 0) (j := 3) (by kernel_rfl) ?_ ?_
        · skip
          refine xk_val (b := false) (.agg #[(.int .i64 net.1), (.int .i64 net.2.1), (.slice pa0 pn0 pc0)]) rfl  (y_load rfl ((box_load Ag49 Sz49 hb2 [] [(.int .i64 net.1), (.int .i64 net.2.1), (.slice pa0 pn0 pc0)] [] rfl rfl (fun h => nomatch h)) _ (Chg.refl _ _))) rfl (fun _ => hS) ?_
          refine x_one (i := 3) (by kernel_rfl) ?_
          obtain ⟨r25, hr25, hs⟩ := bind_some hs
          refine xk_call (b := false) rfl  Bd134 rfl (c_impl_cloneConstraints (M := M) net.2.2 h0 hO.fut hr25) rfl (by rintro _ _ _ ⟨a78x0, n78x0, c78x0, f78x0, rfl, hC78, hv78x0, hOc78⟩; exact hS.ext hC78) ?_
          rintro _ w78 ⟨a78x0, n78x0, c78x0, f78x0, rfl, hC78, hv78x0, hOc78⟩
          have h0 := h0.ext hC78
          have hb2 := hb2.chg hC78 (fun h => nomatch h)
          have hb3 := hb3.chg hC78 (fun h => nomatch h)
          have hb22 := hb22.chg hC78 (fun h => nomatch h)
          have hv76 := hv76.ext hC78
          have hC := hC.ext hC78
          have hO := Own.join0 hO hC78 hOc78
          have hO := hO.perm (R := f78x0 ++ ((g76 :: ((([g15]) ++ (g19 :: ((([g17])) ++ ([])))) ++ ([]))) ++ (([g21]) ++ (([g3]) ++ (([g2]) ++ ([])))))) (by simp)
          have hS := hS.ext hC78
          refine x_one (i := 6) (by kernel_rfl) ?_
          obtain ⟨y30, hy30, hs⟩ := bind_some hs
          have hO := hO.fr1
          have hO := hO.fr1
          obtain ⟨a81, n81, c81, w81, f81, hr81, hC81, hf81, hv81⟩ := app_os Rw47 hy30 hv78x0 hv76 hO.inM (fun g hg hq => hO.apart g hq (mem_l hg))
          have hG81 := os_block hv78x0
          refine xk_val (w' := w81) (b := true) (.slice a81 n81 c81) rfl  (y_append rfl rfl (hr81 _)) rfl (fun h => nomatch h) ?_
          have hO := hO.fr1
          have hO := hO.fr1
          have h0 := h0.mut hC81 (fun g hg => hO.inM g (hG81 g hg)) (fun _ _ h => nomatch h)
          have hb2 := hb2.chg hC81 (fun hg => hO.apart _ (hG81 _ hg) (mem_r (mem_r (mem_r (mem_l (List.mem_singleton.2 rfl))))))
          have hb3 := hb3.chg hC81 (fun hg => hO.apart _ (hG81 _ hg) (mem_r (mem_r (mem_l (List.mem_singleton.2 rfl)))))
          have hb22 := hb22.chg hC81 (fun hg => hO.apart _ (hG81 _ hg) (mem_r (mem_l (List.mem_singleton.2 rfl))))
          have hC := hC.step hC81 (fun g hg => hO.inN g (hG81 g hg))
          have hO := hO.eat hC81 hf81 (os_nodup hv81) hv81.fpl
          refine x_one (i := 7) (by kernel_rfl) ?_
          have hL84 := hO
          have hI84 := Own.lend (F := (f81 ++ ([]))) (R := ([g21]) ++ (([g3]) ++ (([g2]) ++ ([])))) (Own.perm (hL84) (by simp))
          obtain ⟨r33, hr33, hs⟩ := bind_some hs
          refine xk_call (b := true) rfl  Bd133 rfl (c_impl_withConstraints__take1 (M := M) (net.1, net.2.1, net.2.2) y30 h0 hv81 hI84 hI84.fut hr33) rfl (fun h => nomatch h) ?_
          rintro _ w84 ⟨a84x0, n84x0, c84x0, f84x0, rfl, hC84, hv84x0, hOc84⟩
          have hO := hO.perm (R := (f81 ++ ([])) ++ (([g21]) ++ (([g3]) ++ (([g2]) ++ ([]))))) (by simp)
          have h0 := h0.mut hC84 (fun g hg => hO.inM g ((fun _ h => h) g hg)) (fun _ _ h => nomatch h)
          have hb2 := hb2.chg hC84 (fun hg => hO.apart _ ((fun _ h => h) _ hg) (mem_r (mem_r (mem_l (List.mem_singleton.2 rfl)))))
          have hb3 := hb3.chg hC84 (fun hg => hO.apart _ ((fun _ h => h) _ hg) (mem_r (mem_l (List.mem_singleton.2 rfl))))
          have hb22 := hb22.chg hC84 (fun hg => hO.apart _ ((fun _ h => h) _ hg) (mem_l (List.mem_singleton.2 rfl)))
          have hC := hC.step hC84 (fun g hg => hO.inN g ((fun _ h => h) g hg))
          have hO := Own.join hO hC84 hOc84
          have hO := hO.perm (R := f84x0 ++ (([g21]) ++ (([g3]) ++ (([g2]) ++ ([]))))) (by simp)
          refine x_p 8 (.agg #[(.int .i64 r33.1.1), (.int .i64 r33.1.2.1), (.slice a84x0 n84x0 c84x0)]) rfl (by kernel_rfl)  (fun _ => y_extract rfl (by kernel_rfl)) (fun h => nomatch h) ?_
          refine x_p 9 (.bool r33.2) rfl (by kernel_rfl)  (fun _ => y_extract rfl (by kernel_rfl)) (fun h => nomatch h) ?_
          refine x_one (i := 10) (by kernel_rfl) ?_
          obtain ⟨w87, hst87, hC87, hb87⟩ := box_store (P := Try.prog) hb3 [] [(.int .i64 0), (.int .i64 0), (.slice none 0 0)] [] [(.int .i64 r33.1.1), (.int .i64 r33.1.2.1), (.slice a84x0 n84x0 c84x0)] rfl rfl (by intro u hu; simp only [List.mem_cons, List.not_mem_nil, or_false] at hu; rcases hu with rfl | rfl | rfl <;> rfl)
          refine xk_skip (w' := w87) (b := true) rfl (ys_store rfl rfl (hst87 _ _ rfl Sz49)) rfl (fun h => nomatch h) ?_
          have hO := hO.fr2
          have h0 := h0.mut hC87 (fun g hg => hO.inM g ((fun _ h => h) g hg)) (fun _ _ h => nomatch h)
          have hb2 := hb2.chg hC87 (fun hg => hO.apart _ ((fun _ h => h) _ hg) (mem_r (mem_r (mem_l (List.mem_singleton.2 rfl)))))
          have hb22 := hb22.chg hC87 (fun hg => hO.apart _ ((fun _ h => h) _ hg) (mem_r (mem_l (List.mem_singleton.2 rfl))))
          have hv84x0 := hv84x0.mut hC87 (fun g hg => hO.inM g ((fun _ h => h) g hg)) (fun g hg e => hO.apart g ((fun _ h => h) g hg) (mem_l (e)))
          have hC := hC.step hC87 (fun g hg => hO.inN g ((fun _ h => h) g hg))
          have hO := hO.ext hC87
          have hb87 : BoxV w87 g3 49 [(.int .i64 r33.1.1), (.int .i64 r33.1.2.1), (.slice a84x0 n84x0 c84x0)] := hb87
          refine x_p 11 (.bool r33.2) rfl (by kernel_rfl)  (fun _ => y_assign rfl) (fun h => nomatch h) ?_
          refine x_end (by kernel_rfl) ?_
          clear hS
          refine wp_ret ?_
          cases hs
          have hO := hO.drop
          have hO := hO.fr1
          have hO := hO.drop
          have hO := hO.fr1
          have hO := hO.drop
          exact ⟨_, g3, a84x0, n84x0, c84x0, f84x0, fr_ovl 50 ⟨rfl, rfl, trivial⟩, hb87, hC, hv84x0, hO.top⟩
        · skip
          obtain ⟨r25, hr25, hs⟩ := bind_some hs
          refine xk_call (b := false) rfl  Bd134 rfl (c_impl_cloneConstraints (M := M) net.2.2 h0 hO.fut hr25) rfl (by rintro _ _ _ ⟨a88x0, n88x0, c88x0, f88x0, rfl, hC88, hv88x0, hOc88⟩; exact hS.ext hC88) ?_
          rintro _ w88 ⟨a88x0, n88x0, c88x0, f88x0, rfl, hC88, hv88x0, hOc88⟩
          have h0 := h0.ext hC88
          have hb2 := hb2.chg hC88 (fun h => nomatch h)
          have hb3 := hb3.chg hC88 (fun h => nomatch h)
          have hb22 := hb22.chg hC88 (fun h => nomatch h)
          have hv76 := hv76.ext hC88
          have hC := hC.ext hC88
          have hO := Own.join0 hO hC88 hOc88
          have hO := hO.perm (R := f88x0 ++ ((g76 :: ((([g15]) ++ (g19 :: ((([g17])) ++ ([])))) ++ ([]))) ++ (([g21]) ++ (([g3]) ++ (([g2]) ++ ([])))))) (by simp)
          have hS := hS.ext hC88
          refine x_two (i := 0) (j := 6) (by kernel_rfl) ?_ ?_
          · skip
            refine xk_val (b := false) (.agg #[(.int .i64 net.1), (.int .i64 net.2.1), (.slice pa0 pn0 pc0)]) rfl  (y_load rfl ((box_load Ag49 Sz49 hb2 [] [(.int .i64 net.1), (.int .i64 net.2.1), (.slice pa0 pn0 pc0)] [] rfl rfl (fun h => nomatch h)) _ (Chg.refl _ _))) rfl (fun _ => hS) ?_
            refine x_one (i := 6) (by kernel_rfl) ?_
            obtain ⟨y30, hy30, hs⟩ := bind_some hs
            have hO := hO.fr1
            have hO := hO.fr1
            obtain ⟨a91, n91, c91, w91, f91, hr91, hC91, hf91, hv91⟩ := app_os Rw47 hy30 hv88x0 hv76 hO.inM (fun g hg hq => hO.apart g hq (mem_l hg))
            have hG91 := os_block hv88x0
            refine xk_val (w' := w91) (b := true) (.slice a91 n91 c91) rfl  (y_append rfl rfl (hr91 _)) rfl (fun h => nomatch h) ?_
            have hO := hO.fr1
            have hO := hO.fr1
            have h0 := h0.mut hC91 (fun g hg => hO.inM g (hG91 g hg)) (fun _ _ h => nomatch h)
            have hb2 := hb2.chg hC91 (fun hg => hO.apart _ (hG91 _ hg) (mem_r (mem_r (mem_r (mem_l (List.mem_singleton.2 rfl))))))
            have hb3 := hb3.chg hC91 (fun hg => hO.apart _ (hG91 _ hg) (mem_r (mem_r (mem_l (List.mem_singleton.2 rfl)))))
            have hb22 := hb22.chg hC91 (fun hg => hO.apart _ (hG91 _ hg) (mem_r (mem_l (List.mem_singleton.2 rfl))))
            have hC := hC.step hC91 (fun g hg => hO.inN g (hG91 g hg))
            have hO := hO.eat hC91 hf91 (os_nodup hv91) hv91.fpl
            refine x_one (i := 7) (by kernel_rfl) ?_
            have hL94 := hO
            have hI94 := Own.lend (F := (f91 ++ ([]))) (R := ([g21]) ++ (([g3]) ++ (([g2]) ++ ([])))) (Own.perm (hL94) (by simp))
            obtain ⟨r33, hr33, hs⟩ := bind_some hs
            refine xk_call (b := true) rfl  Bd133 rfl (c_impl_withConstraints__take1 (M := M) (net.1, net.2.1, net.2.2) y30 h0 hv91 hI94 hI94.fut hr33) rfl (fun h => nomatch h) ?_
            rintro _ w94 ⟨a94x0, n94x0, c94x0, f94x0, rfl, hC94, hv94x0, hOc94⟩
            have hO := hO.perm (R := (f91 ++ ([])) ++ (([g21]) ++ (([g3]) ++ (([g2]) ++ ([]))))) (by simp)
            have h0 := h0.mut hC94 (fun g hg => hO.inM g ((fun _ h => h) g hg)) (fun _ _ h => nomatch h)
            have hb2 := hb2.chg hC94 (fun hg => hO.apart _ ((fun _ h => h) _ hg) (mem_r (mem_r (mem_l (List.mem_singleton.2 rfl)))))
            have hb3 := hb3.chg hC94 (fun hg => hO.apart _ ((fun _ h => h) _ hg) (mem_r (mem_l (List.mem_singleton.2 rfl))))
            have hb22 := hb22.chg hC94 (fun hg => hO.apart _ ((fun _ h => h) _ hg) (mem_l (List.mem_singleton.2 rfl)))
            have hC := hC.step hC94 (fun g hg => hO.inN g ((fun _ h => h) g hg))
            have hO := Own.join hO hC94 hOc94
            have hO := hO.perm (R := f94x0 ++ (([g21]) ++ (([g3]) ++ (([g2]) ++ ([]))))) (by simp)
            refine x_p 8 (.agg #[(.int .i64 r33.1.1), (.int .i64 r33.1.2.1), (.slice a94x0 n94x0 c94x0)]) rfl (by kernel_rfl)  (fun _ => y_extract rfl (by kernel_rfl)) (fun h => nomatch h) ?_
            refine x_p 9 (.bool r33.2) rfl (by kernel_rfl)  (fun _ => y_extract rfl (by kernel_rfl)) (fun h => nomatch h) ?_
            refine x_one (i := 10) (by kernel_rfl) ?_
            obtain ⟨w97, hst97, hC97, hb97⟩ := box_store (P := Try.prog) hb3 [] [(.int .i64 0), (.int .i64 0), (.slice none 0 0)] [] [(.int .i64 r33.1.1), (.int .i64 r33.1.2.1), (.slice a94x0 n94x0 c94x0)] rfl rfl (by intro u hu; simp only [List.mem_cons, List.not_mem_nil, or_false] at hu; rcases hu with rfl | rfl | rfl <;> rfl)
            refine xk_skip (w' := w97) (b := true) rfl (ys_store rfl rfl (hst97 _ _ rfl Sz49)) rfl (fun h => nomatch h) ?_
            have hO := hO.fr2
            have h0 := h0.mut hC97 (fun g hg => hO.inM g ((fun _ h => h) g hg)) (fun _ _ h => nomatch h)
            have hb2 := hb2.chg hC97 (fun hg => hO.apart _ ((fun _ h => h) _ hg) (mem_r (mem_r (mem_l (List.mem_singleton.2 rfl)))))
            have hb22 := hb22.chg hC97 (fun hg => hO.apart _ ((fun _ h => h) _ hg) (mem_r (mem_l (List.mem_singleton.2 rfl))))
            have hv94x0 := hv94x0.mut hC97 (fun g hg => hO.inM g ((fun _ h => h) g hg)) (fun g hg e => hO.apart g ((fun _ h => h) g hg) (mem_l (e)))
            have hC := hC.step hC97 (fun g hg => hO.inN g ((fun _ h => h) g hg))
            have hO := hO.ext hC97
            have hb97 : BoxV w97 g3 49 [(.int .i64 r33.1.1), (.int .i64 r33.1.2.1), (.slice a94x0 n94x0 c94x0)] := hb97
            refine x_p 11 (.bool r33.2) rfl (by kernel_rfl)  (fun _ => y_assign rfl) (fun h => nomatch h) ?_
            refine x_end (by kernel_rfl) ?_
            clear hS
            refine wp_ret ?_
            cases hs
            have hO := hO.drop
            have hO := hO.fr1
            have hO := hO.drop
            have hO := hO.fr1
            have hO := hO.drop
            exact ⟨_, g3, a94x0, n94x0, c94x0, f94x0, fr_ovl 50 ⟨rfl, rfl, trivial⟩, hb97, hC, hv94x0, hO.top⟩
          · skip
            obtain ⟨y30, hy30, hs⟩ := bind_some hs
            have hO := hO.fr1
            have hO := hO.fr1
            obtain ⟨a98, n98, c98, w98, f98, hr98, hC98, hf98, hv98⟩ := app_os Rw47 hy30 hv88x0 hv76 hO.inM (fun g hg hq => hO.apart g hq (mem_l hg))
            have hG98 := os_block hv88x0
            refine xk_val (w' := w98) (b := true) (.slice a98 n98 c98) rfl  (y_append rfl rfl (hr98 _)) rfl (fun h => nomatch h) ?_
            have hO := hO.fr1
            have hO := hO.fr1
            have h0 := h0.mut hC98 (fun g hg => hO.inM g (hG98 g hg)) (fun _ _ h => nomatch h)
            have hb2 := hb2.chg hC98 (fun hg => hO.apart _ (hG98 _ hg) (mem_r (mem_r (mem_r (mem_l (List.mem_singleton.2 rfl))))))
            have hb3 := hb3.chg hC98 (fun hg => hO.apart _ (hG98 _ hg) (mem_r (mem_r (mem_l (List.mem_singleton.2 rfl)))))
            have hb22 := hb22.chg hC98 (fun hg => hO.apart _ (hG98 _ hg) (mem_r (mem_l (List.mem_singleton.2 rfl))))
            have hC := hC.step hC98 (fun g hg => hO.inN g (hG98 g hg))
            have hO := hO.eat hC98 hf98 (os_nodup hv98) hv98.fpl
            refine x_one (i := 0) (by kernel_rfl) ?_
            refine xk_val (b := true) (.agg #[(.int .i64 net.1), (.int .i64 net.2.1), (.slice pa0 pn0 pc0)]) rfl  (y_load rfl ((box_load Ag49 Sz49 hb2 [] [(.int .i64 net.1), (.int .i64 net.2.1), (.slice pa0 pn0 pc0)] [] rfl rfl (fun h => nomatch h)) _ (Chg.refl _ _))) rfl (fun h => nomatch h) ?_
            refine x_one (i := 7) (by kernel_rfl) ?_
            have hL101 := hO
            have hI101 := Own.lend (F := (f98 ++ ([]))) (R := ([g21]) ++ (([g3]) ++ (([g2]) ++ ([])))) (Own.perm (hL101) (by simp))
            obtain ⟨r33, hr33, hs⟩ := bind_some hs
            refine xk_call (b := true) rfl  Bd133 rfl (c_impl_withConstraints__take1 (M := M) (net.1, net.2.1, net.2.2) y30 h0 hv98 hI101 hI101.fut hr33) rfl (fun h => nomatch h) ?_
            rintro _ w101 ⟨a101x0, n101x0, c101x0, f101x0, rfl, hC101, hv101x0, hOc101⟩
            have hO := hO.perm (R := (f98 ++ ([])) ++ (([g21]) ++ (([g3]) ++ (([g2]) ++ ([]))))) (by simp)
            have h0 := h0.mut hC101 (fun g hg => hO.inM g ((fun _ h => h) g hg)) (fun _ _ h => nomatch h)
            have hb2 := hb2.chg hC101 (fun hg => hO.apart _ ((fun _ h => h) _ hg) (mem_r (mem_r (mem_l (List.mem_singleton.2 rfl)))))
            have hb3 := hb3.chg hC101 (fun hg => hO.apart _ ((fun _ h => h) _ hg) (mem_r (mem_l (List.mem_singleton.2 rfl))))
            have hb22 := hb22.chg hC101 (fun hg => hO.apart _ ((fun _ h => h) _ hg) (mem_l (List.mem_singleton.2 rfl)))
            have hC := hC.step hC101 (fun g hg => hO.inN g ((fun _ h => h) g hg))
            have hO := Own.join hO hC101 hOc101
            have hO := hO.perm (R := f101x0 ++ (([g21]) ++ (([g3]) ++ (([g2]) ++ ([]))))) (by simp)
            refine x_p 8 (.agg #[(.int .i64 r33.1.1), (.int .i64 r33.1.2.1), (.slice a101x0 n101x0 c101x0)]) rfl (by kernel_rfl)  (fun _ => y_extract rfl (by kernel_rfl)) (fun h => nomatch h) ?_
            refine x_p 9 (.bool r33.2) rfl (by kernel_rfl)  (fun _ => y_extract rfl (by kernel_rfl)) (fun h => nomatch h) ?_
            refine x_one (i := 10) (by kernel_rfl) ?_
            obtain ⟨w104, hst104, hC104, hb104⟩ := box_store (P := Try.prog) hb3 [] [(.int .i64 0), (.int .i64 0), (.slice none 0 0)] [] [(.int .i64 r33.1.1), (.int .i64 r33.1.2.1), (.slice a101x0 n101x0 c101x0)] rfl rfl (by intro u hu; simp only [List.mem_cons, List.not_mem_nil, or_false] at hu; rcases hu with rfl | rfl | rfl <;> rfl)
            refine xk_skip (w' := w104) (b := true) rfl (ys_store rfl rfl (hst104 _ _ rfl Sz49)) rfl (fun h => nomatch h) ?_
            have hO := hO.fr2
            have h0 := h0.mut hC104 (fun g hg => hO.inM g ((fun _ h => h) g hg)) (fun _ _ h => nomatch h)
            have hb2 := hb2.chg hC104 (fun hg => hO.apart _ ((fun _ h => h) _ hg) (mem_r (mem_r (mem_l (List.mem_singleton.2 rfl)))))
            have hb22 := hb22.chg hC104 (fun hg => hO.apart _ ((fun _ h => h) _ hg) (mem_r (mem_l (List.mem_singleton.2 rfl))))
            have hv101x0 := hv101x0.mut hC104 (fun g hg => hO.inM g ((fun _ h => h) g hg)) (fun g hg e => hO.apart g ((fun _ h => h) g hg) (mem_l (e)))
            have hC := hC.step hC104 (fun g hg => hO.inN g ((fun _ h => h) g hg))
            have hO := hO.ext hC104
            have hb104 : BoxV w104 g3 49 [(.int .i64 r33.1.1), (.int .i64 r33.1.2.1), (.slice a101x0 n101x0 c101x0)] := hb104
            refine x_p 11 (.bool r33.2) rfl (by kernel_rfl)  (fun _ => y_assign rfl) (fun h => nomatch h) ?_
            refine x_end (by kernel_rfl) ?_
            clear hS
            refine wp_ret ?_
            cases hs
            have hO := hO.drop
            have hO := hO.fr1
            have hO := hO.drop
            have hO := hO.fr1
            have hO := hO.drop
            exact ⟨_, g3, a101x0, n101x0, c101x0, f101x0, fr_ovl 50 ⟨rfl, rfl, trivial⟩, hb104, hC, hv101x0, hO.top⟩

def k_laws_eqIntS (M : Nat → Prop) (w0 : World) (r : Bool) (a : Act) (w : World) : Prop :=
  ∃ (σ : Nat → Value) , a = fr 26 (ovl σ [(4, (.bool r))]) ∧ Chg [] w0 w
def s_laws_eqIntS (a_ : List Int) (b : List Int) : Option (Bool) :=
  (bif ((a_.length : Int) != (b.length : Int)) then some false else (forC (S := Unit) (R := Bool) (fun k12 s10 =>
  (idx a_ k12).bind fun x17 =>
  (idx b k12).bind fun x19 =>
  (bif (x17 != x19) then some (.rt false) else some (.nx ()))) 0 (a_.length : Int) ()).bind fun o14 => after o14 (fun r_ => some r_) (fun s10 =>
  some true))
set_option maxHeartbeats 4000000 in
theorem c_laws_eqIntS {M : Nat → Prop} {w : World} {pa0 : Option Addr} {pn0 pc0 : Nat} {pa1 : Option Addr} {pn1 pc1 : Nat} (a_ : List Int) (b : List Int) (h0 : (RT.rs (RT.int .i64)).val M w (.slice pa0 pn0 pc0) a_ ([])) (h1 : (RT.rs (RT.int .i64)).val M w (.slice pa1 pn1 pc1) b ([])) (hM : ∀ g, w.heap.size ≤ g → M g) {r : Bool} (hs : s_laws_eqIntS a_ b = some r) :
    Gives Try.prog 18 [(.slice pa0 pn0 pc0), (.slice pa1 pn1 pc1)] w (fun v w' => v = (.bool r) ∧ Chg [] w w') := by
  refine calls_fr Try.func18 rfl Try.ntmps18 (Nat.le_of_ble_eq_true rfl) ?_
  have hO := Own.start (N := Nw w []) hM Nw.fut
  have hC := Chg.refl [] w
  unfold s_laws_eqIntS at hs
  refine wp_mono (Q := KPost (k_laws_eqIntS M w r)) ?_ (fun e a w1 h => ?_)
  rotate_left
  · cases e
    case ret =>
      obtain ⟨σ, rfl, hrest⟩ := h
      exact ret1x Try.results18 (res_tmp rfl) ⟨rfl, hrest⟩
    all_goals exact (h : False).elim
  refine c_seq ?_
  refine c_region ?_
  refine pl_val (.bool false) (y_assign rfl) ?_
  refine c_nil ?_
  refine c_seq ?_
  refine c_seq ?_
  refine c_region ?_
  refine pl_val (.slice pa0 pn0 pc0) (y_move rfl) ?_
  refine pl_val (.int .i64 (a_.length : Int)) (y_len' Sl22 (rs_len h0) rfl) ?_
  refine pl_val (.slice pa1 pn1 pc1) (y_move rfl) ?_
  refine pl_val (.int .i64 (b.length : Int)) (y_len' Sl22 (rs_len h1) rfl) ?_
  refine pl_val (.bool ((a_.length : Int) != (b.length : Int))) (y_neq rfl rfl) ?_
  refine c_nil ?_
  rcases bif_some hs with ⟨hc3, hs⟩ | ⟨hc3, hs⟩
  · skip
    refine c_condT (congrArg Value.bool hc3) ?_
    refine c_seq ?_
    refine c_region ?_
    refine pl_val (.bool false) (y_assign rfl) ?_
    refine c_nil ?_
    refine wp_ret ?_
    cases hs
    exact ⟨_, fr_ovl 26 ⟨rfl, trivial⟩, hC⟩
  · skip
    refine c_condF (congrArg Value.bool hc3) ?_
    refine wp_skip ?_
    refine c_seq ?_
    refine c_seq ?_
    refine c_region ?_
    refine pl_val (.int .i64 0) (y_assign rfl) ?_
    refine c_nil ?_
    obtain ⟨o14, hl15, hs⟩ := bind_some hs
    refine wp_block ?_
    refine wp_forC (id := 0) (a_.length : Int) (I := fun k12 s10 a w11 => ∃ (σ : Nat → Value), a = fr 26 (ovl σ [(0, (.slice pa0 pn0 pc0)), (1, (.slice pa1 pn1 pc1)), (5, (.int .i64 k12))]) ∧ Chg [] w w11 ∧ Own (Nw w []) M w11 ([]) ∧ (RT.rs (RT.int .i64)).val M w11 (.slice pa0 pn0 pc0) a_ ([]) ∧ (RT.rs (RT.int .i64)).val M w11 (.slice pa1 pn1 pc1) b ([])) (J := fun s10 a w11 => ∃ (σ : Nat → Value), a = fr 26 (ovl σ []) ∧ Chg [] w w11 ∧ Own (Nw w []) M w11 ([]) ∧ (RT.rs (RT.int .i64)).val M w11 (.slice pa0 pn0 pc0) a_ ([]) ∧ (RT.rs (RT.int .i64)).val M w11 (.slice pa1 pn1 pc1) b ([])) (K := (k_laws_eqIntS M w)) ?_ ?_ 0 () o14 _ _ ?_ hl15 ?_
    · rintro k12 s10 a w11 ⟨σ, rfl, hC, hO, h0, h1⟩ hlt
      refine c_seq ?_
      refine c_seq ?_
      refine c_region ?_
      refine pl_val (.int .i64 k12) (y_move rfl) ?_
      refine pl_val (.slice pa0 pn0 pc0) (y_move rfl) ?_
      refine pl_val (.int .i64 (a_.length : Int)) (y_len' Sl22 (rs_len h0) rfl) ?_
      refine pl_val (.bool (decide (k12 < (a_.length : Int)))) (y_lss rfl rfl) ?_
      refine c_nil ?_
      refine c_condF (congrArg Value.bool (decide_eq_false hlt)) ?_
      refine wp_exit ?_
      exact ⟨rfl, _, fr_ovl 26 trivial, hC, hO, h0, h1⟩
    · rintro k12 s10 o14 a w11 ⟨σ, rfl, hC, hO, h0, h1⟩ hlt hw hs
      refine c_seq ?_
      refine c_seq ?_
      refine c_region ?_
      refine pl_val (.int .i64 k12) (y_move rfl) ?_
      refine pl_val (.slice pa0 pn0 pc0) (y_move rfl) ?_
      refine pl_val (.int .i64 (a_.length : Int)) (y_len' Sl22 (rs_len h0) rfl) ?_
      refine pl_val (.bool (decide (k12 < (a_.length : Int)))) (y_lss rfl rfl) ?_
      refine c_nil ?_
      refine c_condT (congrArg Value.bool (decide_eq_true hlt)) ?_
      refine wp_skip ?_
      refine c_seq ?_
      refine wp_block ?_
      refine c_seq ?_
      refine x_start [] Mx rfl ?_
      have hCw16 := Chg.drew w11
      generalize World.drew w11 = w16 at hCw16 ⊢
      have h0 := h0.ext hCw16
      have h1 := h1.ext hCw16
      have hC := hC.ext hCw16
      have hO := hO.ext hCw16
      have hS := Chg.refl [] w16
      refine x_p 0 (.slice pa0 pn0 pc0) rfl (by kernel_rfl)  (fun _ => y_move rfl) (fun _ => hS) ?_
      refine x_p 1 (.int .i64 k12) rfl (by kernel_rfl)  (fun _ => y_move rfl) (fun _ => hS) ?_
      obtain ⟨x17, hx17, hs⟩ := bind_some hs
      obtain ⟨b18, o18, hp18, ha18⟩ := rs_idx Sl22 Sz3 h0 hx17
      refine x_p 2 (.pointer (some ⟨b18, o18, none⟩)) rfl (by kernel_rfl)  (fun _ => hp18 _ _ _ _ _ _ _ _ _ rfl rfl) (fun _ => hS) ?_
      refine x_l 3 (.int .i64 x17) rfl (by kernel_rfl)  (fun w' hw' => y_load rfl ((at_load_int Ag3 Sz3 ha18) w' hw')) hS ?_
      refine x_p 4 (.slice pa1 pn1 pc1) rfl (by kernel_rfl)  (fun _ => y_move rfl) (fun _ => hS) ?_
      refine x_p 5 (.int .i64 k12) rfl (by kernel_rfl)  (fun _ => y_move rfl) (fun _ => hS) ?_
      obtain ⟨x19, hx19, hs⟩ := bind_some hs
      obtain ⟨b20, o20, hp20, ha20⟩ := rs_idx Sl22 Sz3 h1 hx19
      refine x_p 6 (.pointer (some ⟨b20, o20, none⟩)) rfl (by kernel_rfl)  (fun _ => hp20 _ _ _ _ _ _ _ _ _ rfl rfl) (fun _ => hS) ?_
      refine x_l 7 (.int .i64 x19) rfl (by kernel_rfl)  (fun w' hw' => y_load rfl ((at_load_int Ag3 Sz3 ha20) w' hw')) hS ?_
      refine x_p 8 (.bool (x17 != x19)) rfl (by kernel_rfl)  (fun _ => y_neq rfl rfl) (fun _ => hS) ?_
      refine x_end (by kernel_rfl) ?_
      clear hS
      rcases bif_some hs with ⟨hc21, hs⟩ | ⟨hc21, hs⟩
      · skip
        refine c_condT (congrArg Value.bool hc21) ?_
        refine c_seq ?_
        refine c_region ?_
        refine pl_val (.bool false) (y_assign rfl) ?_
        refine c_nil ?_
        refine wp_ret ?_
        cases hs
        exact ⟨_, fr_ovl 26 ⟨rfl, trivial⟩, hC⟩
      · skip
        refine c_condF (congrArg Value.bool hc21) ?_
        refine wp_skip ?_
        refine c_region ?_
        refine pl_val (.int .i64 k12) (y_move rfl) ?_
        refine pl_val (.int .i64 (w64 (k12 + 1))) (y_add rfl rfl) ?_
        refine pl_val (.int .i64 (w64 (k12 + 1))) (y_assign rfl) ?_
        refine c_nil ?_
        cases hs
        exact ⟨_, fr_ovl 26 ⟨rfl, rfl, congrArg (Value.int .i64) hw, trivial⟩, hC, hO, h0, h1⟩
    · skip
      exact ⟨_, fr_ovl 26 ⟨rfl, rfl, rfl, trivial⟩, hC, hO, h0, h1⟩
    · cases o14 with
      | nx _ => exact True.intro
      | rt r_ =>
        have hs := after_rt hs
        intro a1 w1 hK
        cases hs
        exact hK
      | br s10 =>
        have hs := after_br hs
        rintro a1 w11 ⟨σ, rfl, hC, hO, h0, h1⟩
        refine c_seq ?_
        refine c_region ?_
        refine pl_val (.bool true) (y_assign rfl) ?_
        refine c_nil ?_
        refine wp_ret ?_
        cases hs
        exact ⟨_, fr_ovl 26 ⟨rfl, trivial⟩, hC⟩

theorem Bd18 : Bodied Try.prog 18 := bodied Try.func18 (by kernel_rfl) rfl

def k_laws_eqIntSS (M : Nat → Prop) (w0 : World) (r : Bool) (a : Act) (w : World) : Prop :=
  ∃ (σ : Nat → Value) , a = fr 27 (ovl σ [(4, (.bool r))]) ∧ Chg [] w0 w
def s_laws_eqIntSS (a_ : List (List Int)) (b : List (List Int)) : Option (Bool) :=
  (bif ((a_.length : Int) != (b.length : Int)) then some false else (forC (S := Unit) (R := Bool) (fun k18 s16 =>
  (idx a_ k18).bind fun x23 =>
  (idx b k18).bind fun x27 =>
  (s_laws_eqIntS x23 x27).bind fun r32 =>
  (bif (!r32) then some (.rt false) else some (.nx ()))) 0 (a_.length : Int) ()).bind fun o20 => after o20 (fun r_ => some r_) (fun s16 =>
  some true))
set_option maxHeartbeats 4000000 in
theorem c_laws_eqIntSS {M : Nat → Prop} {w : World} {pa0 : Option Addr} {pn0 pc0 : Nat} {pa1 : Option Addr} {pn1 pc1 : Nat} (a_ : List (List Int)) (b : List (List Int)) (h0 : (RT.rs (RT.rs (RT.int .i64))).val M w (.slice pa0 pn0 pc0) a_ ([])) (h1 : (RT.rs (RT.rs (RT.int .i64))).val M w (.slice pa1 pn1 pc1) b ([])) (hM : ∀ g, w.heap.size ≤ g → M g) {r : Bool} (hs : s_laws_eqIntSS a_ b = some r) :
    Gives Try.prog 52 [(.slice pa0 pn0 pc0), (.slice pa1 pn1 pc1)] w (fun v w' => v = (.bool r) ∧ Chg [] w w') := by
  refine calls_fr Try.func52 rfl Try.ntmps52 (Nat.le_of_ble_eq_true rfl) ?_
  have hO := Own.start (N := Nw w []) hM Nw.fut
  have hC := Chg.refl [] w
  unfold s_laws_eqIntSS at hs
  refine wp_mono (Q := KPost (k_laws_eqIntSS M w r)) ?_ (fun e a w1 h => ?_)
  rotate_left
  · cases e
    case ret =>
      obtain ⟨σ, rfl, hrest⟩ := h
      exact ret1x Try.results52 (res_tmp rfl) ⟨rfl, hrest⟩
    all_goals exact (h : False).elim
  refine c_seq ?_
  refine c_region ?_
  refine pl_val (.bool false) (y_assign rfl) ?_
  refine c_nil ?_
  refine c_seq ?_
  refine c_seq ?_
  refine c_region ?_
  refine pl_val (.slice pa0 pn0 pc0) (y_move rfl) ?_
  refine pl_val (.int .i64 (a_.length : Int)) (y_len' Sl29 (rs_len h0) rfl) ?_
  refine pl_val (.slice pa1 pn1 pc1) (y_move rfl) ?_
  refine pl_val (.int .i64 (b.length : Int)) (y_len' Sl29 (rs_len h1) rfl) ?_
  refine pl_val (.bool ((a_.length : Int) != (b.length : Int))) (y_neq rfl rfl) ?_
  refine c_nil ?_
  rcases bif_some hs with ⟨hc3, hs⟩ | ⟨hc3, hs⟩
  · skip
    refine c_condT (congrArg Value.bool hc3) ?_
    refine c_seq ?_
    refine c_region ?_
    refine pl_val (.bool false) (y_assign rfl) ?_
    refine c_nil ?_
    refine wp_ret ?_
    cases hs
    exact ⟨_, fr_ovl 27 ⟨rfl, trivial⟩, hC⟩
  · skip
    refine c_condF (congrArg Value.bool hc3) ?_
    refine wp_skip ?_
    refine c_seq ?_
    refine c_seq ?_
    refine c_region ?_
    refine pl_val (.int .i64 0) (y_assign rfl) ?_
    refine c_nil ?_
    obtain ⟨o20, hl21, hs⟩ := bind_some hs
    refine wp_block ?_
    refine wp_forC (id := 0) (a_.length : Int) (I := fun k18 s16 a w17 => ∃ (σ : Nat → Value), a = fr 27 (ovl σ [(0, (.slice pa0 pn0 pc0)), (1, (.slice pa1 pn1 pc1)), (5, (.int .i64 k18))]) ∧ Chg [] w w17 ∧ Own (Nw w []) M w17 ([]) ∧ (RT.rs (RT.rs (RT.int .i64))).val M w17 (.slice pa0 pn0 pc0) a_ ([]) ∧ (RT.rs (RT.rs (RT.int .i64))).val M w17 (.slice pa1 pn1 pc1) b ([])) (J := fun s16 a w17 => ∃ (σ : Nat → Value), a = fr 27 (ovl σ []) ∧ Chg [] w w17 ∧ Own (Nw w []) M w17 ([]) ∧ (RT.rs (RT.rs (RT.int .i64))).val M w17 (.slice pa0 pn0 pc0) a_ ([]) ∧ (RT.rs (RT.rs (RT.int .i64))).val M w17 (.slice pa1 pn1 pc1) b ([])) (K := (k_laws_eqIntSS M w)) ?_ ?_ 0 () o20 _ _ ?_ hl21 ?_
    · rintro k18 s16 a w17 ⟨σ, rfl, hC, hO, h0, h1⟩ hlt
      refine c_seq ?_
      refine c_seq ?_
      refine c_region ?_
      refine pl_val (.int .i64 k18) (y_move rfl) ?_
      refine pl_val (.slice pa0 pn0 pc0) (y_move rfl) ?_
      refine pl_val (.int .i64 (a_.length : Int)) (y_len' Sl29 (rs_len h0) rfl) ?_
      refine pl_val (.bool (decide (k18 < (a_.length : Int)))) (y_lss rfl rfl) ?_
      refine c_nil ?_
      refine c_condF (congrArg Value.bool (decide_eq_false hlt)) ?_
      refine wp_exit ?_
      exact ⟨rfl, _, fr_ovl 27 trivial, hC, hO, h0, h1⟩
    · rintro k18 s16 o20 a w17 ⟨σ, rfl, hC, hO, h0, h1⟩ hlt hw hs
      refine c_seq ?_
      refine c_seq ?_
      refine c_region ?_
      refine pl_val (.int .i64 k18) (y_move rfl) ?_
      refine pl_val (.slice pa0 pn0 pc0) (y_move rfl) ?_
      refine pl_val (.int .i64 (a_.length : Int)) (y_len' Sl29 (rs_len h0) rfl) ?_
      refine pl_val (.bool (decide (k18 < (a_.length : Int)))) (y_lss rfl rfl) ?_
      refine c_nil ?_
      refine c_condT (congrArg Value.bool (decide_eq_true hlt)) ?_
      refine wp_skip ?_
      refine c_seq ?_
      refine wp_block ?_
      refine c_seq ?_
      refine x_start [] Mx rfl ?_
      have hCw22 := Chg.drew w17
      generalize World.drew w17 = w22 at hCw22 ⊢
      have h0 := h0.ext hCw22
      have h1 := h1.ext hCw22
      have hC := hC.ext hCw22
      have hO := hO.ext hCw22
      have hS := Chg.refl [] w22
      refine x_p 0 (.slice pa0 pn0 pc0) rfl (by kernel_rfl)  (fun _ => y_move rfl) (fun _ => hS) ?_
      refine x_p 1 (.int .i64 k18) rfl (by kernel_rfl)  (fun _ => y_move rfl) (fun _ => hS) ?_
      obtain ⟨x23, hx23, hs⟩ := bind_some hs
      obtain ⟨b24, o24, hp24, ha24⟩ := rs_idx Sl29 Sz22 h0 hx23
      refine x_p 2 (.pointer (some ⟨b24, o24, none⟩)) rfl (by kernel_rfl)  (fun _ => hp24 _ _ _ _ _ _ _ _ _ rfl rfl) (fun _ => hS) ?_
      obtain ⟨v25, hl25, hv25⟩ := at_load Ag22 Sz22 (fun _ => rfl) ha24
      obtain ⟨a25, n25, c25, rfl⟩ := rs_sl hv25
      refine x_l 3 (.slice a25 n25 c25) rfl (by kernel_rfl)  (fun w' hw' => y_load rfl (hl25 w' hw')) hS ?_
      refine x_p 4 (.slice pa1 pn1 pc1) rfl (by kernel_rfl)  (fun _ => y_move rfl) (fun _ => hS) ?_
      refine x_p 5 (.int .i64 k18) rfl (by kernel_rfl)  (fun _ => y_move rfl) (fun _ => hS) ?_
      obtain ⟨x27, hx27, hs⟩ := bind_some hs
      obtain ⟨b28, o28, hp28, ha28⟩ := rs_idx Sl29 Sz22 h1 hx27
      refine x_p 6 (.pointer (some ⟨b28, o28, none⟩)) rfl (by kernel_rfl)  (fun _ => hp28 _ _ _ _ _ _ _ _ _ rfl rfl) (fun _ => hS) ?_
      obtain ⟨v29, hl29, hv29⟩ := at_load Ag22 Sz22 (fun _ => rfl) ha28
      obtain ⟨a29, n29, c29, rfl⟩ := rs_sl hv29
      refine x_l 7 (.slice a29 n29 c29) rfl (by kernel_rfl)  (fun w' hw' => y_load rfl (hl29 w' hw')) hS ?_
      refine x_one (i := 8) (by kernel_rfl) ?_
      obtain ⟨r32, hr32, hs⟩ := bind_some hs
      refine xk_call (b := false) rfl  Bd18 rfl (c_laws_eqIntS (M := M) x23 x27 hv25 hv29 hO.fut hr32) rfl (by rintro _ _ _ ⟨rfl, hC31⟩; exact hS.ext hC31) ?_
      rintro _ w31 ⟨rfl, hC31⟩
      have h0 := h0.ext hC31
      have h1 := h1.ext hC31
      have hv25 := hv25.ext hC31
      have hv29 := hv29.ext hC31
      have hC := hC.ext hC31
      have hO := hO.ext hC31
      have hS := hS.ext hC31
      refine x_p 9 (.bool (!r32)) rfl (by kernel_rfl)  (fun _ => y_not rfl) (fun _ => hS) ?_
      refine x_end (by kernel_rfl) ?_
      clear hS
      rcases bif_some hs with ⟨hc33, hs⟩ | ⟨hc33, hs⟩
      · skip
        refine c_condT (congrArg Value.bool hc33) ?_
        refine c_seq ?_
        refine c_region ?_
        refine pl_val (.bool false) (y_assign rfl) ?_
        refine c_nil ?_
        refine wp_ret ?_
        cases hs
        exact ⟨_, fr_ovl 27 ⟨rfl, trivial⟩, hC⟩
      · skip
        refine c_condF (congrArg Value.bool hc33) ?_
        refine wp_skip ?_
        refine c_region ?_
        refine pl_val (.int .i64 k18) (y_move rfl) ?_
        refine pl_val (.int .i64 (w64 (k18 + 1))) (y_add rfl rfl) ?_
        refine pl_val (.int .i64 (w64 (k18 + 1))) (y_assign rfl) ?_
        refine c_nil ?_
        cases hs
        exact ⟨_, fr_ovl 27 ⟨rfl, rfl, congrArg (Value.int .i64) hw, trivial⟩, hC, hO, h0, h1⟩
    · skip
      exact ⟨_, fr_ovl 27 ⟨rfl, rfl, rfl, trivial⟩, hC, hO, h0, h1⟩
    · cases o20 with
      | nx _ => exact True.intro
      | rt r_ =>
        have hs := after_rt hs
        intro a1 w1 hK
        cases hs
        exact hK
      | br s16 =>
        have hs := after_br hs
        rintro a1 w17 ⟨σ, rfl, hC, hO, h0, h1⟩
        refine c_seq ?_
        refine c_region ?_
        refine pl_val (.bool true) (y_assign rfl) ?_
        refine c_nil ?_
        refine wp_ret ?_
        cases hs
        exact ⟨_, fr_ovl 27 ⟨rfl, trivial⟩, hC⟩

theorem Bd52 : Bodied Try.prog 52 := bodied Try.func52 (by kernel_rfl) rfl

def k_laws_eqRelation (M : Nat → Prop) (w0 : World) (r : Bool) (a : Act) (w : World) : Prop :=
  ∃ (σ : Nat → Value) , a = fr 16 (ovl σ [(4, (.bool r))]) ∧ Chg [] w0 w
def s_laws_eqRelation (a_ : Int × (List (List Int))) (b : Int × (List (List Int))) : Option (Bool) :=
  (bif (a_.1 != b.1) then some false else (s_laws_eqIntSS a_.2 b.2).bind fun r7 =>
  (bif (!r7) then some false else some true))
set_option maxHeartbeats 4000000 in
theorem c_laws_eqRelation {M : Nat → Prop} {w : World} {pa0 : Option Addr} {pn0 pc0 : Nat} {pa1 : Option Addr} {pn1 pc1 : Nat} (a_ : Int × (List (List Int))) (b : Int × (List (List Int))) (h0 : (RT.rs (RT.rs (RT.int .i64))).val M w (.slice pa0 pn0 pc0) a_.2 ([])) (h1 : (RT.rs (RT.rs (RT.int .i64))).val M w (.slice pa1 pn1 pc1) b.2 ([])) (hM : ∀ g, w.heap.size ≤ g → M g) {r : Bool} (hs : s_laws_eqRelation a_ b = some r) :
    Gives Try.prog 23 [(.agg #[(.int .i64 a_.1), (.slice pa0 pn0 pc0)]), (.agg #[(.int .i64 b.1), (.slice pa1 pn1 pc1)])] w (fun v w' => v = (.bool r) ∧ Chg [] w w') := by
  refine calls_fr Try.func23 rfl Try.ntmps23 (Nat.le_of_ble_eq_true rfl) ?_
  have hO := Own.start (N := Nw w []) hM Nw.fut
  have hC := Chg.refl [] w
  unfold s_laws_eqRelation at hs
  refine wp_mono (Q := KPost (k_laws_eqRelation M w r)) ?_ (fun e a w1 h => ?_)
  rotate_left
  · cases e
    case ret =>
      obtain ⟨σ, rfl, hrest⟩ := h
      exact ret1x Try.results23 (res_tmp rfl) ⟨rfl, hrest⟩
    all_goals exact (h : False).elim
  refine c_seq ?_
  refine c_region ?_
  obtain ⟨w3, g3, ew3, eg3, hC3, hb3⟩ := new_block w [(.int .i64 a_.1), (.slice pa0 pn0 pc0)] 31
  refine pl_val (w' := w3) (.pointer (some ⟨g3, 0, none⟩)) (y_box rfl (by rw [ew3, eg3]; kernel_rfl)) ?_
  have h0 := h0.ext hC3
  have h1 := h1.ext hC3
  have hC := hC.ext hC3
  have hO := hO.new (X' := [g3]) hC3 (fun q hq => by rw [List.mem_singleton.1 hq, eg3]; exact Nat.le_refl _) (List.nodup_cons.2 ⟨(fun h => nomatch h), List.nodup_nil⟩) (fun q hq => by rw [List.mem_singleton.1 hq]; exact hb3.lt)
  obtain ⟨w4, g4, ew4, eg4, hC4, hb4⟩ := new_block w3 [(.int .i64 b.1), (.slice pa1 pn1 pc1)] 31
  refine pl_val (w' := w4) (.pointer (some ⟨g4, 0, none⟩)) (y_box rfl (by rw [ew4, eg4]; kernel_rfl)) ?_
  have h0 := h0.ext hC4
  have h1 := h1.ext hC4
  have hb3 := hb3.chg hC4 (fun h => nomatch h)
  have hC := hC.ext hC4
  have hO := hO.new (X' := [g4]) hC4 (fun q hq => by rw [List.mem_singleton.1 hq, eg4]; exact Nat.le_refl _) (List.nodup_cons.2 ⟨(fun h => nomatch h), List.nodup_nil⟩) (fun q hq => by rw [List.mem_singleton.1 hq]; exact hb4.lt)
  refine pl_val (.bool false) (y_assign rfl) ?_
  refine c_nil ?_
  refine c_seq ?_
  refine c_seq ?_
  refine c_region ?_
  refine pl_val (.pointer (some ⟨g3, 0, none⟩)) (y_faddr rfl Fa31x0) ?_
  refine pl_val (.int .i64 a_.1) (y_load rfl ((box_load Ag3 Sz3 hb3 [] [(.int .i64 a_.1)] [(.slice pa0 pn0 pc0)] rfl rfl (fun _ => rfl)) _ (Chg.refl _ _))) ?_
  refine pl_val (.pointer (some ⟨g4, 0, none⟩)) (y_faddr rfl Fa31x0) ?_
  refine pl_val (.int .i64 b.1) (y_load rfl ((box_load Ag3 Sz3 hb4 [] [(.int .i64 b.1)] [(.slice pa1 pn1 pc1)] rfl rfl (fun _ => rfl)) _ (Chg.refl _ _))) ?_
  refine pl_val (.bool (a_.1 != b.1)) (y_neq rfl rfl) ?_
  refine c_nil ?_
  rcases bif_some hs with ⟨hc5, hs⟩ | ⟨hc5, hs⟩
  · skip
    refine c_condT (congrArg Value.bool hc5) ?_
    refine c_seq ?_
    refine c_region ?_
    refine pl_val (.bool false) (y_assign rfl) ?_
    refine c_nil ?_
    refine wp_ret ?_
    cases hs
    exact ⟨_, fr_ovl 16 ⟨rfl, trivial⟩, hC⟩
  · skip
    refine c_condF (congrArg Value.bool hc5) ?_
    refine wp_skip ?_
    refine c_seq ?_
    refine c_seq ?_
    refine c_region ?_
    refine pl_val (.pointer (some ⟨g3, 1, none⟩)) (y_faddr rfl Fa31x1) ?_
    refine pl_val (.slice pa0 pn0 pc0) (y_load rfl ((box_load Ag29 Sz29 hb3 [(.int .i64 a_.1)] [(.slice pa0 pn0 pc0)] [] rfl rfl (fun _ => rfl)) _ (Chg.refl _ _))) ?_
    refine pl_val (.pointer (some ⟨g4, 1, none⟩)) (y_faddr rfl Fa31x1) ?_
    refine pl_val (.slice pa1 pn1 pc1) (y_load rfl ((box_load Ag29 Sz29 hb4 [(.int .i64 b.1)] [(.slice pa1 pn1 pc1)] [] rfl rfl (fun _ => rfl)) _ (Chg.refl _ _))) ?_
    obtain ⟨r7, hr7, hs⟩ := bind_some hs
    refine pl_call Bd52 rfl (c_laws_eqIntSS (M := M) a_.2 b.2 h0 h1 hO.fut hr7) ?_
    rintro _ w6 ⟨rfl, hC6⟩
    have h0 := h0.ext hC6
    have h1 := h1.ext hC6
    have hb3 := hb3.chg hC6 (fun h => nomatch h)
    have hb4 := hb4.chg hC6 (fun h => nomatch h)
    have hC := hC.ext hC6
    have hO := hO.ext hC6
    refine pl_val (.bool (!r7)) (y_not rfl) ?_
    refine c_nil ?_
    rcases bif_some hs with ⟨hc8, hs⟩ | ⟨hc8, hs⟩
    · skip
      refine c_condT (congrArg Value.bool hc8) ?_
      refine c_seq ?_
      refine c_region ?_
      refine pl_val (.bool false) (y_assign rfl) ?_
      refine c_nil ?_
      refine wp_ret ?_
      cases hs
      exact ⟨_, fr_ovl 16 ⟨rfl, trivial⟩, hC⟩
    · skip
      refine c_condF (congrArg Value.bool hc8) ?_
      refine wp_skip ?_
      refine c_seq ?_
      refine c_region ?_
      refine pl_val (.bool true) (y_assign rfl) ?_
      refine c_nil ?_
      refine wp_ret ?_
      cases hs
      exact ⟨_, fr_ovl 16 ⟨rfl, trivial⟩, hC⟩

theorem Bd23 : Bodied Try.prog 23 := bodied Try.func23 (by kernel_rfl) rfl

def k_laws_eqConstraint (M : Nat → Prop) (w0 : World) (r : Bool) (a : Act) (w : World) : Prop :=
  ∃ (σ : Nat → Value) , a = fr 17 (ovl σ [(4, (.bool r))]) ∧ Chg [] w0 w
def s_laws_eqConstraint (a_ : (List Int) × (Int × (List (List Int)))) (b : (List Int) × (Int × (List (List Int)))) : Option (Bool) :=
  (s_laws_eqIntS a_.1 b.1).bind fun r8 =>
  (bif (!r8) then some false else (s_laws_eqRelation (a_.2.1, a_.2.2) (b.2.1, b.2.2)).bind fun r11 =>
  (bif (!r11) then some false else some true))
set_option maxHeartbeats 4000000 in
theorem c_laws_eqConstraint {M : Nat → Prop} {w : World} {pa0 : Option Addr} {pn0 pc0 : Nat} {pa1 : Option Addr} {pn1 pc1 : Nat} {pa2 : Option Addr} {pn2 pc2 : Nat} {pa3 : Option Addr} {pn3 pc3 : Nat} (a_ : (List Int) × (Int × (List (List Int)))) (b : (List Int) × (Int × (List (List Int)))) (h0 : (RT.rs (RT.int .i64)).val M w (.slice pa0 pn0 pc0) a_.1 ([])) (h1 : (RT.rs (RT.rs (RT.int .i64))).val M w (.slice pa1 pn1 pc1) a_.2.2 ([])) (h2 : (RT.rs (RT.int .i64)).val M w (.slice pa2 pn2 pc2) b.1 ([])) (h3 : (RT.rs (RT.rs (RT.int .i64))).val M w (.slice pa3 pn3 pc3) b.2.2 ([])) (hM : ∀ g, w.heap.size ≤ g → M g) {r : Bool} (hs : s_laws_eqConstraint a_ b = some r) :
    Gives Try.prog 151 [(.agg #[(.slice pa0 pn0 pc0), (.int .i64 a_.2.1), (.slice pa1 pn1 pc1)]), (.agg #[(.slice pa2 pn2 pc2), (.int .i64 b.2.1), (.slice pa3 pn3 pc3)])] w (fun v w' => v = (.bool r) ∧ Chg [] w w') := by
  refine calls_fr Try.func151 rfl Try.ntmps151 (Nat.le_of_ble_eq_true rfl) ?_
  have hO := Own.start (N := Nw w []) hM Nw.fut
  have hC := Chg.refl [] w
  unfold s_laws_eqConstraint at hs
  refine wp_mono (Q := KPost (k_laws_eqConstraint M w r)) ?_ (fun e a w1 h => ?_)
  rotate_left
  · cases e
    case ret =>
      obtain ⟨σ, rfl, hrest⟩ := h
      exact ret1x Try.results151 (res_tmp rfl) ⟨rfl, hrest⟩
    all_goals exact (h : False).elim
  refine c_seq ?_
  refine c_region ?_
  obtain ⟨w5, g5, ew5, eg5, hC5, hb5⟩ := new_block w [(.slice pa0 pn0 pc0), (.int .i64 a_.2.1), (.slice pa1 pn1 pc1)] 108
  refine pl_val (w' := w5) (.pointer (some ⟨g5, 0, none⟩)) (y_box rfl (by rw [ew5, eg5]; kernel_rfl)) ?_
  have h0 := h0.ext hC5
  have h1 := h1.ext hC5
  have h2 := h2.ext hC5
  have h3 := h3.ext hC5
  have hC := hC.ext hC5
  have hO := hO.new (X' := [g5]) hC5 (fun q hq => by rw [List.mem_singleton.1 hq, eg5]; exact Nat.le_refl _) (List.nodup_cons.2 ⟨(fun h => nomatch h), List.nodup_nil⟩) (fun q hq => by rw [List.mem_singleton.1 hq]; exact hb5.lt)
  obtain ⟨w6, g6, ew6, eg6, hC6, hb6⟩ := new_block w5 [(.slice pa2 pn2 pc2), (.int .i64 b.2.1), (.slice pa3 pn3 pc3)] 108
  refine pl_val (w' := w6) (.pointer (some ⟨g6, 0, none⟩)) (y_box rfl (by rw [ew6, eg6]; kernel_rfl)) ?_
  have h0 := h0.ext hC6
  have h1 := h1.ext hC6
  have h2 := h2.ext hC6
  have h3 := h3.ext hC6
  have hb5 := hb5.chg hC6 (fun h => nomatch h)
  have hC := hC.ext hC6
  have hO := hO.new (X' := [g6]) hC6 (fun q hq => by rw [List.mem_singleton.1 hq, eg6]; exact Nat.le_refl _) (List.nodup_cons.2 ⟨(fun h => nomatch h), List.nodup_nil⟩) (fun q hq => by rw [List.mem_singleton.1 hq]; exact hb6.lt)
  refine pl_val (.bool false) (y_assign rfl) ?_
  refine c_nil ?_
  refine c_seq ?_
  refine c_seq ?_
  refine c_region ?_
  refine pl_val (.pointer (some ⟨g5, 0, none⟩)) (y_faddr rfl Fa108x0) ?_
  refine pl_val (.slice pa0 pn0 pc0) (y_load rfl ((box_load Ag22 Sz22 hb5 [] [(.slice pa0 pn0 pc0)] [(.int .i64 a_.2.1), (.slice pa1 pn1 pc1)] rfl rfl (fun _ => rfl)) _ (Chg.refl _ _))) ?_
  refine pl_val (.pointer (some ⟨g6, 0, none⟩)) (y_faddr rfl Fa108x0) ?_
  refine pl_val (.slice pa2 pn2 pc2) (y_load rfl ((box_load Ag22 Sz22 hb6 [] [(.slice pa2 pn2 pc2)] [(.int .i64 b.2.1), (.slice pa3 pn3 pc3)] rfl rfl (fun _ => rfl)) _ (Chg.refl _ _))) ?_
  obtain ⟨r8, hr8, hs⟩ := bind_some hs
  refine pl_call Bd18 rfl (c_laws_eqIntS (M := M) a_.1 b.1 h0 h2 hO.fut hr8) ?_
  rintro _ w7 ⟨rfl, hC7⟩
  have h0 := h0.ext hC7
  have h1 := h1.ext hC7
  have h2 := h2.ext hC7
  have h3 := h3.ext hC7
  have hb5 := hb5.chg hC7 (fun h => nomatch h)
  have hb6 := hb6.chg hC7 (fun h => nomatch h)
  have hC := hC.ext hC7
  have hO := hO.ext hC7
  refine pl_val (.bool (!r8)) (y_not rfl) ?_
  refine c_nil ?_
  rcases bif_some hs with ⟨hc9, hs⟩ | ⟨hc9, hs⟩
  · skip
    refine c_condT (congrArg Value.bool hc9) ?_
    refine c_seq ?_
    refine c_region ?_
    refine pl_val (.bool false) (y_assign rfl) ?_
    refine c_nil ?_
    refine wp_ret ?_
    cases hs
    exact ⟨_, fr_ovl 17 ⟨rfl, trivial⟩, hC⟩
  · skip
    refine c_condF (congrArg Value.bool hc9) ?_
    refine wp_skip ?_
    refine c_seq ?_
    refine c_seq ?_
    refine c_region ?_
    refine pl_val (.pointer (some ⟨g5, 1, none⟩)) (y_faddr rfl Fa108x1) ?_
    refine pl_val (.agg #[(.int .i64 a_.2.1), (.slice pa1 pn1 pc1)]) (y_load rfl ((box_load Ag31 Sz31 hb5 [(.slice pa0 pn0 pc0)] [(.int .i64 a_.2.1), (.slice pa1 pn1 pc1)] [] rfl rfl (fun h => nomatch h)) _ (Chg.refl _ _))) ?_
    refine pl_val (.pointer (some ⟨g6, 1, none⟩)) (y_faddr rfl Fa108x1) ?_
    refine pl_val (.agg #[(.int .i64 b.2.1), (.slice pa3 pn3 pc3)]) (y_load rfl ((box_load Ag31 Sz31 hb6 [(.slice pa2 pn2 pc2)] [(.int .i64 b.2.1), (.slice pa3 pn3 pc3)] [] rfl rfl (fun h => nomatch h)) _ (Chg.refl _ _))) ?_
    obtain ⟨r11, hr11, hs⟩ := bind_some hs
    refine pl_call Bd23 rfl (c_laws_eqRelation (M := M) (a_.2.1, a_.2.2) (b.2.1, b.2.2) h1 h3 hO.fut hr11) ?_
    rintro _ w10 ⟨rfl, hC10⟩
    have h0 := h0.ext hC10
    have h1 := h1.ext hC10
    have h2 := h2.ext hC10
    have h3 := h3.ext hC10
    have hb5 := hb5.chg hC10 (fun h => nomatch h)
    have hb6 := hb6.chg hC10 (fun h => nomatch h)
    have hC := hC.ext hC10
    have hO := hO.ext hC10
    refine pl_val (.bool (!r11)) (y_not rfl) ?_
    refine c_nil ?_
    rcases bif_some hs with ⟨hc12, hs⟩ | ⟨hc12, hs⟩
    · skip
      refine c_condT (congrArg Value.bool hc12) ?_
      refine c_seq ?_
      refine c_region ?_
      refine pl_val (.bool false) (y_assign rfl) ?_
      refine c_nil ?_
      refine wp_ret ?_
      cases hs
      exact ⟨_, fr_ovl 17 ⟨rfl, trivial⟩, hC⟩
    · skip
      refine c_condF (congrArg Value.bool hc12) ?_
      refine wp_skip ?_
      refine c_seq ?_
      refine c_region ?_
      refine pl_val (.bool true) (y_assign rfl) ?_
      refine c_nil ?_
      refine wp_ret ?_
      cases hs
      exact ⟨_, fr_ovl 17 ⟨rfl, trivial⟩, hC⟩

theorem Bd151 : Bodied Try.prog 151 := bodied Try.func151 (by kernel_rfl) rfl

def k_laws_eqConstraintS (M : Nat → Prop) (w0 : World) (r : Bool) (a : Act) (w : World) : Prop :=
  ∃ (σ : Nat → Value) , a = fr 27 (ovl σ [(4, (.bool r))]) ∧ Chg [] w0 w
def s_laws_eqConstraintS (a_ : List ((List Int) × (Int × (List (List Int))))) (b : List ((List Int) × (Int × (List (List Int))))) : Option (Bool) :=
  (bif ((a_.length : Int) != (b.length : Int)) then some false else (forC (S := Unit) (R := Bool) (fun k20 s18 =>
  (idx a_ k20).bind fun x25 =>
  (idx b k20).bind fun x30 =>
  (s_laws_eqConstraint (x25.1, (x25.2.1, x25.2.2)) (x30.1, (x30.2.1, x30.2.2))).bind fun r36 =>
  (bif (!r36) then some (.rt false) else some (.nx ()))) 0 (a_.length : Int) ()).bind fun o22 => after o22 (fun r_ => some r_) (fun s18 =>
  some true))
set_option maxHeartbeats 4000000 in
theorem c_laws_eqConstraintS {M : Nat → Prop} {w : World} {pa0 : Option Addr} {pn0 pc0 : Nat} {pa1 : Option Addr} {pn1 pc1 : Nat} (a_ : List ((List Int) × (Int × (List (List Int))))) (b : List ((List Int) × (Int × (List (List Int))))) (h0 : (RT.rs (RT.pr (RT.rs (RT.int .i64)) (RT.pr (RT.int .i64) (RT.rs (RT.rs (RT.int .i64)))))).val M w (.slice pa0 pn0 pc0) a_ ([])) (h1 : (RT.rs (RT.pr (RT.rs (RT.int .i64)) (RT.pr (RT.int .i64) (RT.rs (RT.rs (RT.int .i64)))))).val M w (.slice pa1 pn1 pc1) b ([])) (hM : ∀ g, w.heap.size ≤ g → M g) {r : Bool} (hs : s_laws_eqConstraintS a_ b = some r) :
    Gives Try.prog 92 [(.slice pa0 pn0 pc0), (.slice pa1 pn1 pc1)] w (fun v w' => v = (.bool r) ∧ Chg [] w w') := by
  refine calls_fr Try.func92 rfl Try.ntmps92 (Nat.le_of_ble_eq_true rfl) ?_
  have hO := Own.start (N := Nw w []) hM Nw.fut
  have hC := Chg.refl [] w
  unfold s_laws_eqConstraintS at hs
  refine wp_mono (Q := KPost (k_laws_eqConstraintS M w r)) ?_ (fun e a w1 h => ?_)
  rotate_left
  · cases e
    case ret =>
      obtain ⟨σ, rfl, hrest⟩ := h
      exact ret1x Try.results92 (res_tmp rfl) ⟨rfl, hrest⟩
    all_goals exact (h : False).elim
  refine c_seq ?_
  refine c_region ?_
  refine pl_val (.bool false) (y_assign rfl) ?_
  refine c_nil ?_
  refine c_seq ?_
  refine c_seq ?_
  refine c_region ?_
  refine pl_val (.slice pa0 pn0 pc0) (y_move rfl) ?_
  refine pl_val (.int .i64 (a_.length : Int)) (y_len' Sl47 (rs_len h0) rfl) ?_
  refine pl_val (.slice pa1 pn1 pc1) (y_move rfl) ?_
  refine pl_val (.int .i64 (b.length : Int)) (y_len' Sl47 (rs_len h1) rfl) ?_
  refine pl_val (.bool ((a_.length : Int) != (b.length : Int))) (y_neq rfl rfl) ?_
  refine c_nil ?_
  rcases bif_some hs with ⟨hc3, hs⟩ | ⟨hc3, hs⟩
  · skip
    refine c_condT (congrArg Value.bool hc3) ?_
    refine c_seq ?_
    refine c_region ?_
    refine pl_val (.bool false) (y_assign rfl) ?_
    refine c_nil ?_
    refine wp_ret ?_
    cases hs
    exact ⟨_, fr_ovl 27 ⟨rfl, trivial⟩, hC⟩
  · skip
    refine c_condF (congrArg Value.bool hc3) ?_
    refine wp_skip ?_
    refine c_seq ?_
    refine c_seq ?_
    refine c_region ?_
    refine pl_val (.int .i64 0) (y_assign rfl) ?_
    refine c_nil ?_
    obtain ⟨o22, hl23, hs⟩ := bind_some hs
    refine wp_block ?_
    refine wp_forC (id := 0) (a_.length : Int) (I := fun k20 s18 a w19 => ∃ (σ : Nat → Value), a = fr 27 (ovl σ [(0, (.slice pa0 pn0 pc0)), (1, (.slice pa1 pn1 pc1)), (5, (.int .i64 k20))]) ∧ Chg [] w w19 ∧ Own (Nw w []) M w19 ([]) ∧ (RT.rs (RT.pr (RT.rs (RT.int .i64)) (RT.pr (RT.int .i64) (RT.rs (RT.rs (RT.int .i64)))))).val M w19 (.slice pa0 pn0 pc0) a_ ([]) ∧ (RT.rs (RT.pr (RT.rs (RT.int .i64)) (RT.pr (RT.int .i64) (RT.rs (RT.rs (RT.int .i64)))))).val M w19 (.slice pa1 pn1 pc1) b ([])) (J := fun s18 a w19 => ∃ (σ : Nat → Value), a = fr 27 (ovl σ []) ∧ Chg [] w w19 ∧ Own (Nw w []) M w19 ([]) ∧ (RT.rs (RT.pr (RT.rs (RT.int .i64)) (RT.pr (RT.int .i64) (RT.rs (RT.rs (RT.int .i64)))))).val M w19 (.slice pa0 pn0 pc0) a_ ([]) ∧ (RT.rs (RT.pr (RT.rs (RT.int .i64)) (RT.pr (RT.int .i64) (RT.rs (RT.rs (RT.int .i64)))))).val M w19 (.slice pa1 pn1 pc1) b ([])) (K := (k_laws_eqConstraintS M w)) ?_ ?_ 0 () o22 _ _ ?_ hl23 ?_
    · rintro k20 s18 a w19 ⟨σ, rfl, hC, hO, h0, h1⟩ hlt
      refine c_seq ?_
      refine c_seq ?_
      refine c_region ?_
      refine pl_val (.int .i64 k20) (y_move rfl) ?_
      refine pl_val (.slice pa0 pn0 pc0) (y_move rfl) ?_
      refine pl_val (.int .i64 (a_.length : Int)) (y_len' Sl47 (rs_len h0) rfl) ?_
      refine pl_val (.bool (decide (k20 < (a_.length : Int)))) (y_lss rfl rfl) ?_
      refine c_nil ?_
      refine c_condF (congrArg Value.bool (decide_eq_false hlt)) ?_
      refine wp_exit ?_
      exact ⟨rfl, _, fr_ovl 27 trivial, hC, hO, h0, h1⟩
    · rintro k20 s18 o22 a w19 ⟨σ, rfl, hC, hO, h0, h1⟩ hlt hw hs
      refine c_seq ?_
      refine c_seq ?_
      refine c_region ?_
      refine pl_val (.int .i64 k20) (y_move rfl) ?_
      refine pl_val (.slice pa0 pn0 pc0) (y_move rfl) ?_
      refine pl_val (.int .i64 (a_.length : Int)) (y_len' Sl47 (rs_len h0) rfl) ?_
      refine pl_val (.bool (decide (k20 < (a_.length : Int)))) (y_lss rfl rfl) ?_
      refine c_nil ?_
      refine c_condT (congrArg Value.bool (decide_eq_true hlt)) ?_
      refine wp_skip ?_
      refine c_seq ?_
      refine wp_block ?_
      refine c_seq ?_
      refine x_start [] Mx rfl ?_
      have hCw24 := Chg.drew w19
      generalize World.drew w19 = w24 at hCw24 ⊢
      have h0 := h0.ext hCw24
      have h1 := h1.ext hCw24
      have hC := hC.ext hCw24
      have hO := hO.ext hCw24
      have hS := Chg.refl [] w24
      refine x_p 0 (.slice pa0 pn0 pc0) rfl (by kernel_rfl)  (fun _ => y_move rfl) (fun _ => hS) ?_
      refine x_p 1 (.int .i64 k20) rfl (by kernel_rfl)  (fun _ => y_move rfl) (fun _ => hS) ?_
      obtain ⟨x25, hx25, hs⟩ := bind_some hs
      obtain ⟨b26, o26, hp26, ha26⟩ := rs_idx Sl47 Sz108 h0 hx25
      refine x_p 2 (.pointer (some ⟨b26, o26, none⟩)) rfl (by kernel_rfl)  (fun _ => hp26 _ _ _ _ _ _ _ _ _ rfl rfl) (fun _ => hS) ?_
      obtain ⟨v27, hl27, hv27⟩ := at_load Ag108 Sz108 (by intro h; cases h) ha26
      obtain ⟨cs27, rfl, hr27⟩ := hv27
      obtain ⟨cc27x1, cd27x1, rfl, hh27x1, ht27x1⟩ := pr_open hr27
      obtain ⟨a27x1, n27x1, c27x1, rfl, hv27x1⟩ := rs_rel hh27x1
      obtain ⟨cc27x3, cd27x3, rfl, hh27x3, ht27x3⟩ := pr_open ht27x1
      obtain rfl := int_rel hh27x3
      obtain ⟨a27x4, n27x4, c27x4, rfl, hv27x4⟩ := rs_rel ht27x3
      refine x_l 3 (.agg #[(.slice a27x1 n27x1 c27x1), (.int .i64 x25.2.1), (.slice a27x4 n27x4 c27x4)]) rfl (by kernel_rfl)  (fun w' hw' => y_load rfl (hl27 w' hw')) hS ?_
      refine x_p 4 (.slice pa1 pn1 pc1) rfl (by kernel_rfl)  (fun _ => y_move rfl) (fun _ => hS) ?_
      refine x_p 5 (.int .i64 k20) rfl (by kernel_rfl)  (fun _ => y_move rfl) (fun _ => hS) ?_
      obtain ⟨x30, hx30, hs⟩ := bind_some hs
      obtain ⟨b31, o31, hp31, ha31⟩ := rs_idx Sl47 Sz108 h1 hx30
      refine x_p 6 (.pointer (some ⟨b31, o31, none⟩)) rfl (by kernel_rfl)  (fun _ => hp31 _ _ _ _ _ _ _ _ _ rfl rfl) (fun _ => hS) ?_
      obtain ⟨v32, hl32, hv32⟩ := at_load Ag108 Sz108 (by intro h; cases h) ha31
      obtain ⟨cs32, rfl, hr32⟩ := hv32
      obtain ⟨cc32x1, cd32x1, rfl, hh32x1, ht32x1⟩ := pr_open hr32
      obtain ⟨a32x1, n32x1, c32x1, rfl, hv32x1⟩ := rs_rel hh32x1
      obtain ⟨cc32x3, cd32x3, rfl, hh32x3, ht32x3⟩ := pr_open ht32x1
      obtain rfl := int_rel hh32x3
      obtain ⟨a32x4, n32x4, c32x4, rfl, hv32x4⟩ := rs_rel ht32x3
      refine x_l 7 (.agg #[(.slice a32x1 n32x1 c32x1), (.int .i64 x30.2.1), (.slice a32x4 n32x4 c32x4)]) rfl (by kernel_rfl)  (fun w' hw' => y_load rfl (hl32 w' hw')) hS ?_
      refine x_one (i := 8) (by kernel_rfl) ?_
      obtain ⟨r36, hr36, hs⟩ := bind_some hs
      refine xk_call (b := false) rfl  Bd151 rfl (c_laws_eqConstraint (M := M) (x25.1, (x25.2.1, x25.2.2)) (x30.1, (x30.2.1, x30.2.2)) hv27x1 hv27x4 hv32x1 hv32x4 hO.fut hr36) rfl (by rintro _ _ _ ⟨rfl, hC35⟩; exact hS.ext hC35) ?_
      rintro _ w35 ⟨rfl, hC35⟩
      have h0 := h0.ext hC35
      have h1 := h1.ext hC35
      have hv27x1 := hv27x1.ext hC35
      have hv27x4 := hv27x4.ext hC35
      have hv32x1 := hv32x1.ext hC35
      have hv32x4 := hv32x4.ext hC35
      have hC := hC.ext hC35
      have hO := hO.ext hC35
      have hS := hS.ext hC35
      refine x_p 9 (.bool (!r36)) rfl (by kernel_rfl)  (fun _ => y_not rfl) (fun _ => hS) ?_
      refine x_end (by kernel_rfl) ?_
      clear hS
      rcases bif_some hs with ⟨hc37, hs⟩ | ⟨hc37, hs⟩
      · skip
        refine c_condT (congrArg Value.bool hc37) ?_
        refine c_seq ?_
        refine c_region ?_
        refine pl_val (.bool false) (y_assign rfl) ?_
        refine c_nil ?_
        refine wp_ret ?_
        cases hs
        exact ⟨_, fr_ovl 27 ⟨rfl, trivial⟩, hC⟩
      · skip
        refine c_condF (congrArg Value.bool hc37) ?_
        refine wp_skip ?_
        refine c_region ?_
        refine pl_val (.int .i64 k20) (y_move rfl) ?_
        refine pl_val (.int .i64 (w64 (k20 + 1))) (y_add rfl rfl) ?_
        refine pl_val (.int .i64 (w64 (k20 + 1))) (y_assign rfl) ?_
        refine c_nil ?_
        cases hs
        exact ⟨_, fr_ovl 27 ⟨rfl, rfl, congrArg (Value.int .i64) hw, trivial⟩, hC, hO, h0, h1⟩
    · skip
      exact ⟨_, fr_ovl 27 ⟨rfl, rfl, rfl, trivial⟩, hC, hO, h0, h1⟩
    · cases o22 with
      | nx _ => exact True.intro
      | rt r_ =>
        have hs := after_rt hs
        intro a1 w1 hK
        cases hs
        exact hK
      | br s18 =>
        have hs := after_br hs
        rintro a1 w19 ⟨σ, rfl, hC, hO, h0, h1⟩
        refine c_seq ?_
        refine c_region ?_
        refine pl_val (.bool true) (y_assign rfl) ?_
        refine c_nil ?_
        refine wp_ret ?_
        cases hs
        exact ⟨_, fr_ovl 27 ⟨rfl, trivial⟩, hC⟩

theorem Bd92 : Bodied Try.prog 92 := bodied Try.func92 (by kernel_rfl) rfl

def k_laws_eqNetwork (M : Nat → Prop) (w0 : World) (r : Bool) (a : Act) (w : World) : Prop :=
  ∃ (σ : Nat → Value) , a = fr 21 (ovl σ [(4, (.bool r))]) ∧ Chg [] w0 w
def s_laws_eqNetwork (a_ : Int × Int × (List ((List Int) × (Int × (List (List Int)))))) (b : Int × Int × (List ((List Int) × (Int × (List (List Int)))))) : Option (Bool) :=
  (bif (a_.1 != b.1) then some false else (bif (a_.2.1 != b.2.1) then some false else (s_laws_eqConstraintS a_.2.2 b.2.2).bind fun r8 =>
  (bif (!r8) then some false else some true)))
set_option maxHeartbeats 4000000 in
theorem c_laws_eqNetwork {M : Nat → Prop} {w : World} {pa0 : Option Addr} {pn0 pc0 : Nat} {pa1 : Option Addr} {pn1 pc1 : Nat} (a_ : Int × Int × (List ((List Int) × (Int × (List (List Int)))))) (b : Int × Int × (List ((List Int) × (Int × (List (List Int)))))) (h0 : (RT.rs (RT.pr (RT.rs (RT.int .i64)) (RT.pr (RT.int .i64) (RT.rs (RT.rs (RT.int .i64)))))).val M w (.slice pa0 pn0 pc0) a_.2.2 ([])) (h1 : (RT.rs (RT.pr (RT.rs (RT.int .i64)) (RT.pr (RT.int .i64) (RT.rs (RT.rs (RT.int .i64)))))).val M w (.slice pa1 pn1 pc1) b.2.2 ([])) (hM : ∀ g, w.heap.size ≤ g → M g) {r : Bool} (hs : s_laws_eqNetwork a_ b = some r) :
    Gives Try.prog 34 [(.agg #[(.int .i64 a_.1), (.int .i64 a_.2.1), (.slice pa0 pn0 pc0)]), (.agg #[(.int .i64 b.1), (.int .i64 b.2.1), (.slice pa1 pn1 pc1)])] w (fun v w' => v = (.bool r) ∧ Chg [] w w') := by
  refine calls_fr Try.func34 rfl Try.ntmps34 (Nat.le_of_ble_eq_true rfl) ?_
  have hO := Own.start (N := Nw w []) hM Nw.fut
  have hC := Chg.refl [] w
  unfold s_laws_eqNetwork at hs
  refine wp_mono (Q := KPost (k_laws_eqNetwork M w r)) ?_ (fun e a w1 h => ?_)
  rotate_left
  · cases e
    case ret =>
      obtain ⟨σ, rfl, hrest⟩ := h
      exact ret1x Try.results34 (res_tmp rfl) ⟨rfl, hrest⟩
    all_goals exact (h : False).elim
  refine c_seq ?_
  refine c_region ?_
  obtain ⟨w3, g3, ew3, eg3, hC3, hb3⟩ := new_block w [(.int .i64 a_.1), (.int .i64 a_.2.1), (.slice pa0 pn0 pc0)] 49
  refine pl_val (w' := w3) (.pointer (some ⟨g3, 0, none⟩)) (y_box rfl (by rw [ew3, eg3]; kernel_rfl)) ?_
  have h0 := h0.ext hC3
  have h1 := h1.ext hC3
  have hC := hC.ext hC3
  have hO := hO.new (X' := [g3]) hC3 (fun q hq => by rw [List.mem_singleton.1 hq, eg3]; exact Nat.le_refl _) (List.nodup_cons.2 ⟨(fun h => nomatch h), List.nodup_nil⟩) (fun q hq => by rw [List.mem_singleton.1 hq]; exact hb3.lt)
  obtain ⟨w4, g4, ew4, eg4, hC4, hb4⟩ := new_block w3 [(.int .i64 b.1), (.int .i64 b.2.1), (.slice pa1 pn1 pc1)] 49
  refine pl_val (w' := w4) (.pointer (some ⟨g4, 0, none⟩)) (y_box rfl (by rw [ew4, eg4]; kernel_rfl)) ?_
  have h0 := h0.ext hC4
  have h1 := h1.ext hC4
  have hb3 := hb3.chg hC4 (fun h => nomatch h)
  have hC := hC.ext hC4
  have hO := hO.new (X' := [g4]) hC4 (fun q hq => by rw [List.mem_singleton.1 hq, eg4]; exact Nat.le_refl _) (List.nodup_cons.2 ⟨(fun h => nomatch h), List.nodup_nil⟩) (fun q hq => by rw [List.mem_singleton.1 hq]; exact hb4.lt)
  refine pl_val (.bool false) (y_assign rfl) ?_
  refine c_nil ?_
  refine c_seq ?_
  refine c_seq ?_
  refine c_region ?_
  refine pl_val (.pointer (some ⟨g3, 0, none⟩)) (y_faddr rfl Fa49x0) ?_
  refine pl_val (.int .i64 a_.1) (y_load rfl ((box_load Ag3 Sz3 hb3 [] [(.int .i64 a_.1)] [(.int .i64 a_.2.1), (.slice pa0 pn0 pc0)] rfl rfl (fun _ => rfl)) _ (Chg.refl _ _))) ?_
  refine pl_val (.pointer (some ⟨g4, 0, none⟩)) (y_faddr rfl Fa49x0) ?_
  refine pl_val (.int .i64 b.1) (y_load rfl ((box_load Ag3 Sz3 hb4 [] [(.int .i64 b.1)] [(.int .i64 b.2.1), (.slice pa1 pn1 pc1)] rfl rfl (fun _ => rfl)) _ (Chg.refl _ _))) ?_
  refine pl_val (.bool (a_.1 != b.1)) (y_neq rfl rfl) ?_
  refine c_nil ?_
  rcases bif_some hs with ⟨hc5, hs⟩ | ⟨hc5, hs⟩
  · skip
    refine c_condT (congrArg Value.bool hc5) ?_
    refine c_seq ?_
    refine c_region ?_
    refine pl_val (.bool false) (y_assign rfl) ?_
    refine c_nil ?_
    refine wp_ret ?_
    cases hs
    exact ⟨_, fr_ovl 21 ⟨rfl, trivial⟩, hC⟩
  · skip
    refine c_condF (congrArg Value.bool hc5) ?_
    refine wp_skip ?_
    refine c_seq ?_
    refine c_seq ?_
    refine c_region ?_
    refine pl_val (.pointer (some ⟨g3, 1, none⟩)) (y_faddr rfl Fa49x1) ?_
    refine pl_val (.int .i64 a_.2.1) (y_load rfl ((box_load Ag3 Sz3 hb3 [(.int .i64 a_.1)] [(.int .i64 a_.2.1)] [(.slice pa0 pn0 pc0)] rfl rfl (fun _ => rfl)) _ (Chg.refl _ _))) ?_
    refine pl_val (.pointer (some ⟨g4, 1, none⟩)) (y_faddr rfl Fa49x1) ?_
    refine pl_val (.int .i64 b.2.1) (y_load rfl ((box_load Ag3 Sz3 hb4 [(.int .i64 b.1)] [(.int .i64 b.2.1)] [(.slice pa1 pn1 pc1)] rfl rfl (fun _ => rfl)) _ (Chg.refl _ _))) ?_
    refine pl_val (.bool (a_.2.1 != b.2.1)) (y_neq rfl rfl) ?_
    refine c_nil ?_
    rcases bif_some hs with ⟨hc6, hs⟩ | ⟨hc6, hs⟩
    · skip
      refine c_condT (congrArg Value.bool hc6) ?_
      refine c_seq ?_
      refine c_region ?_
      refine pl_val (.bool false) (y_assign rfl) ?_
      refine c_nil ?_
      refine wp_ret ?_
      cases hs
      exact ⟨_, fr_ovl 21 ⟨rfl, trivial⟩, hC⟩
    · skip
      refine c_condF (congrArg Value.bool hc6) ?_
      refine wp_skip ?_
      refine c_seq ?_
      refine c_seq ?_
      refine c_region ?_
      refine pl_val (.pointer (some ⟨g3, 2, none⟩)) (y_faddr rfl Fa49x2) ?_
      refine pl_val (.slice pa0 pn0 pc0) (y_load rfl ((box_load Ag47 Sz47 hb3 [(.int .i64 a_.1), (.int .i64 a_.2.1)] [(.slice pa0 pn0 pc0)] [] rfl rfl (fun _ => rfl)) _ (Chg.refl _ _))) ?_
      refine pl_val (.pointer (some ⟨g4, 2, none⟩)) (y_faddr rfl Fa49x2) ?_
      refine pl_val (.slice pa1 pn1 pc1) (y_load rfl ((box_load Ag47 Sz47 hb4 [(.int .i64 b.1), (.int .i64 b.2.1)] [(.slice pa1 pn1 pc1)] [] rfl rfl (fun _ => rfl)) _ (Chg.refl _ _))) ?_
      obtain ⟨r8, hr8, hs⟩ := bind_some hs
      refine pl_call Bd92 rfl (c_laws_eqConstraintS (M := M) a_.2.2 b.2.2 h0 h1 hO.fut hr8) ?_
      rintro _ w7 ⟨rfl, hC7⟩
      have h0 := h0.ext hC7
      have h1 := h1.ext hC7
      have hb3 := hb3.chg hC7 (fun h => nomatch h)
      have hb4 := hb4.chg hC7 (fun h => nomatch h)
      have hC := hC.ext hC7
      have hO := hO.ext hC7
      refine pl_val (.bool (!r8)) (y_not rfl) ?_
      refine c_nil ?_
      rcases bif_some hs with ⟨hc9, hs⟩ | ⟨hc9, hs⟩
      · skip
        refine c_condT (congrArg Value.bool hc9) ?_
        refine c_seq ?_
        refine c_region ?_
        refine pl_val (.bool false) (y_assign rfl) ?_
        refine c_nil ?_
        refine wp_ret ?_
        cases hs
        exact ⟨_, fr_ovl 21 ⟨rfl, trivial⟩, hC⟩
      · skip
        refine c_condF (congrArg Value.bool hc9) ?_
        refine wp_skip ?_
        refine c_seq ?_
        refine c_region ?_
        refine pl_val (.bool true) (y_assign rfl) ?_
        refine c_nil ?_
        refine wp_ret ?_
        cases hs
        exact ⟨_, fr_ovl 21 ⟨rfl, trivial⟩, hC⟩

def k_laws_markIntS (M : Nat → Prop) (w0 : World) (qa0 : Option Addr) (qn0 qc0 : Nat) (qf0 : List Nat) (r : Int × (List Int)) (a : Act) (w : World) : Prop :=
  ∃ (σ : Nat → Value) (rfi0 : List Nat), a = fr 19 (ovl σ [(4, (.int .i64 r.1))]) ∧ Chg (qf0 ++ ([])) w0 w ∧ (RT.os 3 (RT.int .i64)).val M w (.slice qa0 qn0 qc0) r.2 rfi0 ∧ Own (Nw w0 (qf0 ++ ([]))) (fun _ => True) w (rfi0 ++ ([]))
def s_laws_markIntS (a_ : List Int) (k : Int) : Option (Int × (List Int)) :=
  (iter (S := Int × Int × (List Int)) (R := Int × (List Int)) (fun s25 =>
  (bif (decide (s25.2.1 < (s25.2.2.length : Int))) then (idx s25.2.2 s25.2.1).bind fun x34 =>
  some (.nx (w64 (s25.1 + 1), w64 (s25.2.1 + 1), List.set s25.2.2 (Int.toNat s25.2.1) s25.1)) else some (.br (s25.1, s25.2.1, s25.2.2)))) FU (k, 0, a_)).bind fun o29 => after o29 (fun r_ => some r_) (fun s25 =>
  some (s25.1, s25.2.2))
set_option maxHeartbeats 4000000 in
theorem c_laws_markIntS {M : Nat → Prop} {w : World} {pa0 : Option Addr} {pn0 pc0 : Nat} {pf0 : List Nat} (a_ : List Int) (k : Int) (h0 : (RT.os 3 (RT.int .i64)).val M w (.slice pa0 pn0 pc0) a_ pf0) (hI : Own (Nw w (pf0 ++ ([]))) M w (pf0 ++ ([]))) (hM : ∀ g, w.heap.size ≤ g → M g) {r : Int × (List Int)} (hs : s_laws_markIntS a_ k = some r) :
    Gives Try.prog 19 [(.slice pa0 pn0 pc0), (.int .i64 k)] w (fun v w' => ∃ (rfi0 : List Nat), v = (.int .i64 r.1) ∧ Chg (pf0 ++ ([])) w w' ∧ (RT.os 3 (RT.int .i64)).val M w' (.slice pa0 pn0 pc0) r.2 rfi0 ∧ Own (Nw w (pf0 ++ ([]))) (fun _ => True) w' (rfi0 ++ ([]))) := by
  refine calls_fr Try.func19 rfl Try.ntmps19 (Nat.le_of_ble_eq_true rfl) ?_
  have hO := hI
  have hC := Chg.refl (pf0 ++ ([])) w
  unfold s_laws_markIntS at hs
  refine wp_mono (Q := KPost (k_laws_markIntS M w pa0 pn0 pc0 pf0 r)) ?_ (fun e a w1 h => ?_)
  rotate_left
  · cases e
    case ret =>
      obtain ⟨σ, rfi0, rfl, hrest⟩ := h
      exact ret1x Try.results19 (res_tmp rfl) ⟨rfi0, rfl, hrest⟩
    all_goals exact (h : False).elim
  refine c_seq ?_
  refine c_region ?_
  refine pl_val (.int .i64 0) (y_assign rfl) ?_
  refine c_nil ?_
  refine c_seq ?_
  refine c_seq ?_
  refine c_region ?_
  refine pl_val (.int .i64 0) (y_assign rfl) ?_
  refine c_nil ?_
  obtain ⟨o29, hl30, hs⟩ := bind_some hs
  refine wp_block ?_
  refine wp_iter (id := 0) (I := fun s25 a w26 => ∃ (σ : Nat → Value) (f31 : List Nat), a = fr 19 (ovl σ [(0, (.slice pa0 pn0 pc0)), (1, (.int .i64 s25.1)), (5, (.int .i64 s25.2.1))]) ∧ Chg (pf0 ++ ([])) w w26 ∧ Own (Nw w (pf0 ++ ([]))) M w26 (f31 ++ []) ∧ (RT.os 3 (RT.int .i64)).val M w26 (.slice pa0 pn0 pc0) s25.2.2 f31) (J := fun s25 a w26 => ∃ (σ : Nat → Value) (f32 : List Nat), a = fr 19 (ovl σ [(1, (.int .i64 s25.1))]) ∧ Chg (pf0 ++ ([])) w w26 ∧ Own (Nw w (pf0 ++ ([]))) M w26 (f32 ++ []) ∧ (RT.os 3 (RT.int .i64)).val M w26 (.slice pa0 pn0 pc0) s25.2.2 f32) (K := (k_laws_markIntS M w pa0 pn0 pc0 pf0)) ?_ FU (k, 0, a_) o29 _ _ ?_ hl30 ?_
  · rintro s25 o29 a w26 ⟨σ, f31, rfl, hC, hO, hv31⟩ hs
    refine c_seq ?_
    refine c_seq ?_
    refine c_region ?_
    refine pl_val (.int .i64 s25.2.1) (y_move rfl) ?_
    refine pl_val (.slice pa0 pn0 pc0) (y_move rfl) ?_
    refine pl_val (.int .i64 (s25.2.2.length : Int)) (y_len' Sl22 (os_len hv31) rfl) ?_
    refine pl_val (.bool (decide (s25.2.1 < (s25.2.2.length : Int)))) (y_lss rfl rfl) ?_
    refine c_nil ?_
    rcases bif_some hs with ⟨hc33, hs⟩ | ⟨hc33, hs⟩
    · skip
      refine c_condT (congrArg Value.bool hc33) ?_
      refine wp_skip ?_
      refine c_seq ?_
      refine wp_block ?_
      refine c_seq ?_
      refine c_region ?_
      refine pl_val (.slice pa0 pn0 pc0) (y_move rfl) ?_
      refine pl_val (.int .i64 s25.2.1) (y_move rfl) ?_
      refine pl_val (.int .i64 s25.1) (y_move rfl) ?_
      obtain ⟨x34, hx34, hs⟩ := bind_some hs
      obtain ⟨g35, f35, hg35, hk35, hp35, ha35, hf35⟩ := os_idx Sl22 Sz3 hv31 hx34
      refine pl_val (.pointer (some ⟨g35, 0 + Int.toNat s25.2.1 * 1, none⟩)) (hp35 _ _ _ _ _ _ _ _ _ rfl rfl) ?_
      obtain ⟨w36, f36, hst36, hC36, hf36, hv36⟩ := os_store (P := Try.prog) (c' := [(.int .i64 s25.1)]) hg35 hv31 hk35 (fun g hg => hO.inM g (os_block hv31 g (by simpa using hg))) ⟨rfl, rfl⟩ List.nodup_nil (fun _ h => nomatch h) (fun _ h => .inl h)
      have hG36 : ∀ q ∈ [g35], q ∈ f31 := fun q hq => os_block hv31 q (by rw [hg35]; exact hq)
      refine pl_skip (w' := w36) (ys_store rfl rfl (hst36 _ _ rfl Sz3)) ?_
      have hC := hC.step hC36 (fun g hg => hO.inN g (hG36 g hg))
      have hO := hO.grow hC36 (fun q hq => .inl ((hf36 q hq).resolve_right (fun h => nomatch h))) (os_nodup hv36) hv36.fpl
      refine c_nil ?_
      refine c_region ?_
      refine pl_val (.int .i64 s25.1) (y_move rfl) ?_
      refine pl_val (.int .i64 (w64 (s25.1 + 1))) (y_add rfl rfl) ?_
      refine pl_val (.int .i64 (w64 (s25.1 + 1))) (y_assign rfl) ?_
      refine c_nil ?_
      refine c_region ?_
      refine pl_val (.int .i64 s25.2.1) (y_move rfl) ?_
      refine pl_val (.int .i64 (w64 (s25.2.1 + 1))) (y_add rfl rfl) ?_
      refine pl_val (.int .i64 (w64 (s25.2.1 + 1))) (y_assign rfl) ?_
      refine c_nil ?_
      cases hs
      exact ⟨_, f36, fr_ovl 19 ⟨rfl, rfl, rfl, trivial⟩, hC, hO, hv36⟩
    · skip
      refine c_condF (congrArg Value.bool hc33) ?_
      refine wp_exit ?_
      cases hs
      exact ⟨rfl, _, f31, fr_ovl 19 ⟨rfl, trivial⟩, hC, hO, hv31⟩
  · skip
    exact ⟨_, pf0, fr_ovl 19 ⟨rfl, rfl, rfl, trivial⟩, hC, hO, h0⟩
  · cases o29 with
    | nx _ => exact True.intro
    | rt r_ =>
      have hs := after_rt hs
      intro a1 w1 hK
      cases hs
      exact hK
    | br s25 =>
      have hs := after_br hs
      rintro a1 w26 ⟨σ, f32, rfl, hC, hO, hv32⟩
      refine c_seq ?_
      refine c_region ?_
      refine pl_val (.int .i64 s25.1) (y_move rfl) ?_
      refine pl_val (.int .i64 s25.1) (y_assign rfl) ?_
      refine c_nil ?_
      refine wp_ret ?_
      cases hs
      exact ⟨_, f32, fr_ovl 19 ⟨rfl, trivial⟩, hC, hv32, hO.top⟩

theorem Bd19 : Bodied Try.prog 19 := bodied Try.func19 (by kernel_rfl) rfl

def k_laws_markIntSS (M : Nat → Prop) (w0 : World) (qa0 : Option Addr) (qn0 qc0 : Nat) (qf0 : List Nat) (r : Int × (List (List Int))) (a : Act) (w : World) : Prop :=
  ∃ (σ : Nat → Value) (rfi0 : List Nat), a = fr 19 (ovl σ [(4, (.int .i64 r.1))]) ∧ Chg (qf0 ++ ([])) w0 w ∧ (RT.os 22 (RT.os 3 (RT.int .i64))).val M w (.slice qa0 qn0 qc0) r.2 rfi0 ∧ Own (Nw w0 (qf0 ++ ([]))) (fun _ => True) w (rfi0 ++ ([]))
def s_laws_markIntSS (a_ : List (List Int)) (k : Int) : Option (Int × (List (List Int))) :=
  (iter (S := Int × Int × (List (List Int))) (R := Int × (List (List Int))) (fun s37 =>
  (bif (decide (s37.2.1 < (s37.2.2.length : Int))) then (idx s37.2.2 s37.2.1).bind fun x46 =>
  (s_laws_markIntS x46 s37.1).bind fun r51 =>
  some (.nx (r51.1, w64 (s37.2.1 + 1), List.set s37.2.2 (Int.toNat s37.2.1) r51.2)) else some (.br (s37.1, s37.2.1, s37.2.2)))) FU (k, 0, a_)).bind fun o41 => after o41 (fun r_ => some r_) (fun s37 =>
  some (s37.1, s37.2.2))
set_option maxHeartbeats 4000000 in
theorem c_laws_markIntSS {M : Nat → Prop} {w : World} {pa0 : Option Addr} {pn0 pc0 : Nat} {pf0 : List Nat} (a_ : List (List Int)) (k : Int) (h0 : (RT.os 22 (RT.os 3 (RT.int .i64))).val M w (.slice pa0 pn0 pc0) a_ pf0) (hI : Own (Nw w (pf0 ++ ([]))) M w (pf0 ++ ([]))) (hM : ∀ g, w.heap.size ≤ g → M g) {r : Int × (List (List Int))} (hs : s_laws_markIntSS a_ k = some r) :
    Gives Try.prog 82 [(.slice pa0 pn0 pc0), (.int .i64 k)] w (fun v w' => ∃ (rfi0 : List Nat), v = (.int .i64 r.1) ∧ Chg (pf0 ++ ([])) w w' ∧ (RT.os 22 (RT.os 3 (RT.int .i64))).val M w' (.slice pa0 pn0 pc0) r.2 rfi0 ∧ Own (Nw w (pf0 ++ ([]))) (fun _ => True) w' (rfi0 ++ ([]))) := by
  refine calls_fr Try.func82 rfl Try.ntmps82 (Nat.le_of_ble_eq_true rfl) ?_
  have hO := hI
  have hC := Chg.refl (pf0 ++ ([])) w
  unfold s_laws_markIntSS at hs
  refine wp_mono (Q := KPost (k_laws_markIntSS M w pa0 pn0 pc0 pf0 r)) ?_ (fun e a w1 h => ?_)
  rotate_left
  · cases e
    case ret =>
      obtain ⟨σ, rfi0, rfl, hrest⟩ := h
      exact ret1x Try.results82 (res_tmp rfl) ⟨rfi0, rfl, hrest⟩
    all_goals exact (h : False).elim
  refine c_seq ?_
  refine c_region ?_
  refine pl_val (.int .i64 0) (y_assign rfl) ?_
  refine c_nil ?_
  refine c_seq ?_
  refine c_seq ?_
  refine c_region ?_
  refine pl_val (.int .i64 0) (y_assign rfl) ?_
  refine c_nil ?_
  obtain ⟨o41, hl42, hs⟩ := bind_some hs
  refine wp_block ?_
  refine wp_iter (id := 0) (I := fun s37 a w38 => ∃ (σ : Nat → Value) (f43 : List Nat), a = fr 19 (ovl σ [(0, (.slice pa0 pn0 pc0)), (1, (.int .i64 s37.1)), (5, (.int .i64 s37.2.1))]) ∧ Chg (pf0 ++ ([])) w w38 ∧ Own (Nw w (pf0 ++ ([]))) M w38 (f43 ++ []) ∧ (RT.os 22 (RT.os 3 (RT.int .i64))).val M w38 (.slice pa0 pn0 pc0) s37.2.2 f43) (J := fun s37 a w38 => ∃ (σ : Nat → Value) (f44 : List Nat), a = fr 19 (ovl σ [(1, (.int .i64 s37.1))]) ∧ Chg (pf0 ++ ([])) w w38 ∧ Own (Nw w (pf0 ++ ([]))) M w38 (f44 ++ []) ∧ (RT.os 22 (RT.os 3 (RT.int .i64))).val M w38 (.slice pa0 pn0 pc0) s37.2.2 f44) (K := (k_laws_markIntSS M w pa0 pn0 pc0 pf0)) ?_ FU (k, 0, a_) o41 _ _ ?_ hl42 ?_
  · rintro s37 o41 a w38 ⟨σ, f43, rfl, hC, hO, hv43⟩ hs
    refine c_seq ?_
    refine c_seq ?_
    refine c_region ?_
    refine pl_val (.int .i64 s37.2.1) (y_move rfl) ?_
    refine pl_val (.slice pa0 pn0 pc0) (y_move rfl) ?_
    refine pl_val (.int .i64 (s37.2.2.length : Int)) (y_len' Sl29 (os_len hv43) rfl) ?_
    refine pl_val (.bool (decide (s37.2.1 < (s37.2.2.length : Int)))) (y_lss rfl rfl) ?_
    refine c_nil ?_
    rcases bif_some hs with ⟨hc45, hs⟩ | ⟨hc45, hs⟩
    · skip
      refine c_condT (congrArg Value.bool hc45) ?_
      refine wp_skip ?_
      refine c_seq ?_
      refine wp_block ?_
      refine c_region ?_
      refine pl_val (.slice pa0 pn0 pc0) (y_move rfl) ?_
      refine pl_val (.int .i64 s37.2.1) (y_move rfl) ?_
      obtain ⟨x46, hx46, hs⟩ := bind_some hs
      obtain ⟨g47, f47, hg47, hk47, hp47, ha47, hf47⟩ := os_idx Sl29 Sz22 hv43 hx46
      have hb47 := own_row (Frz.os Frz.int) ha47 hf47
      refine pl_val (.pointer (some ⟨g47, 0 + Int.toNat s37.2.1 * 1, none⟩)) (hp47 _ _ _ _ _ _ _ _ _ rfl rfl) ?_
      obtain ⟨v48, hl48, hrow48, hv48⟩ := at_load1 Ag22 Sz22 rfl rfl hb47
      obtain ⟨a48, n48, c48, rfl⟩ := rs_sl hv48
      refine pl_val (.slice a48 n48 c48) (y_load rfl (hl48 _ (Chg.refl _ _))) ?_
      refine pl_val (.int .i64 s37.1) (y_move rfl) ?_
      obtain ⟨fg50, hrr50, hsf50, hnf50, hput50⟩ := os_put hg47 hv43 hx46 hrow48 rfl hO.inM
      have hg50x0 : (RT.os 3 (RT.int .i64)).val M w38 (.slice a48 n48 c48) x46 fg50 := ⟨[_], rfl, hrr50⟩
      have hfs50 : ∀ q ∈ (fg50 ++ ([])), q ∈ f43 := fun q hq => hsf50 q (by simpa using hq)
      have hfn50 : List.Nodup (fg50 ++ ([])) := by simpa using hnf50
      have hL50 := hO
      have hI50 := Own.part (X := (fg50 ++ ([]))) (hL50) hfs50 hfn50
      obtain ⟨r51, hr51, hs⟩ := bind_some hs
      refine pl_call Bd19 rfl (c_laws_markIntS (M := M) x46 s37.1 hg50x0 hI50 hI50.fut hr51) ?_
      rintro _ w50 ⟨fi50x0, rfl, hC50, hvi50x0, hOc50⟩
      obtain ⟨fq50, hvq50, hsq50⟩ := hput50 w50 (fg50 ++ ([])) r51.2 fi50x0 hC50 (fun q hq => by simpa using hq) (os_unval hvi50x0) (by simpa using hOc50.1) (fun q hq => (hOc50.2.1 q (by simpa using hq)).2.2.imp (fun h => by simpa using h) id)
      have hC := hC.step hC50 (fun g hg => hO.inN g (hfs50 g hg))
      have hO := hO.grow hC50 hsq50 (os_nodup hvq50) hvq50.fpl
      refine pl_val (.int .i64 r51.1) (y_assign rfl) ?_
      refine c_nil ?_
      refine c_region ?_
      refine pl_val (.int .i64 s37.2.1) (y_move rfl) ?_
      refine pl_val (.int .i64 (w64 (s37.2.1 + 1))) (y_add rfl rfl) ?_
      refine pl_val (.int .i64 (w64 (s37.2.1 + 1))) (y_assign rfl) ?_
      refine c_nil ?_
      cases hs
      exact ⟨_, fq50, fr_ovl 19 ⟨rfl, rfl, rfl, trivial⟩, hC, hO, hvq50⟩
    · skip
      refine c_condF (congrArg Value.bool hc45) ?_
      refine wp_exit ?_
      cases hs
      exact ⟨rfl, _, f43, fr_ovl 19 ⟨rfl, trivial⟩, hC, hO, hv43⟩
  · skip
    exact ⟨_, pf0, fr_ovl 19 ⟨rfl, rfl, rfl, trivial⟩, hC, hO, h0⟩
  · cases o41 with
    | nx _ => exact True.intro
    | rt r_ =>
      have hs := after_rt hs
      intro a1 w1 hK
      cases hs
      exact hK
    | br s37 =>
      have hs := after_br hs
      rintro a1 w38 ⟨σ, f44, rfl, hC, hO, hv44⟩
      refine c_seq ?_
      refine c_region ?_
      refine pl_val (.int .i64 s37.1) (y_move rfl) ?_
      refine pl_val (.int .i64 s37.1) (y_assign rfl) ?_
      refine c_nil ?_
      refine wp_ret ?_
      cases hs
      exact ⟨_, f44, fr_ovl 19 ⟨rfl, trivial⟩, hC, hv44, hO.top⟩

theorem Bd82 : Bodied Try.prog 82 := bodied Try.func82 (by kernel_rfl) rfl

def k_laws_markConstraintS (M : Nat → Prop) (w0 : World) (qa0 : Option Addr) (qn0 qc0 : Nat) (qf0 : List Nat) (r : Int × (List ((List Int) × (Int × (List (List Int)))))) (a : Act) (w : World) : Prop :=
  ∃ (σ : Nat → Value) (rfi0 : List Nat), a = fr 36 (ovl σ [(4, (.int .i64 r.1))]) ∧ Chg (qf0 ++ ([])) w0 w ∧ (RT.os 108 (RT.pr (RT.os 3 (RT.int .i64)) (RT.pr (RT.int .i64) (RT.os 22 (RT.os 3 (RT.int .i64)))))).val M w (.slice qa0 qn0 qc0) r.2 rfi0 ∧ Own (Nw w0 (qf0 ++ ([]))) (fun _ => True) w (rfi0 ++ ([]))
def s_laws_markConstraintS (a_ : List ((List Int) × (Int × (List (List Int))))) (k : Int) : Option (Int × (List ((List Int) × (Int × (List (List Int)))))) :=
  (iter (S := Int × Int × (List ((List Int) × (Int × (List (List Int)))))) (R := Int × (List ((List Int) × (Int × (List (List Int)))))) (fun s101 =>
  (bif (decide (s101.2.1 < (s101.2.2.length : Int))) then (idx s101.2.2 s101.2.1).bind fun x110 =>
  (s_laws_markIntS x110.1 s101.1).bind fun r117 =>
  (idx (List.set s101.2.2 (Int.toNat s101.2.1) (r117.2, (x110.2.1, x110.2.2))) s101.2.1).bind fun x118 =>
  (idx (List.set (List.set s101.2.2 (Int.toNat s101.2.1) (r117.2, (x110.2.1, x110.2.2))) (Int.toNat s101.2.1) (x118.1, (r117.1, x118.2.2))) s101.2.1).bind fun x123 =>
  (s_laws_markIntSS x123.2.2 (w64 (r117.1 + 1))).bind fun r131 =>
  some (.nx (r131.1, w64 (s101.2.1 + 1), List.set (List.set (List.set s101.2.2 (Int.toNat s101.2.1) (r117.2, (x110.2.1, x110.2.2))) (Int.toNat s101.2.1) (x118.1, (r117.1, x118.2.2))) (Int.toNat s101.2.1) (x123.1, (x123.2.1, r131.2)))) else some (.br (s101.1, s101.2.1, s101.2.2)))) FU (k, 0, a_)).bind fun o105 => after o105 (fun r_ => some r_) (fun s101 =>
  some (s101.1, s101.2.2))
set_option maxHeartbeats 4000000 in
theorem c_laws_markConstraintS {M : Nat → Prop} {w : World} {pa0 : Option Addr} {pn0 pc0 : Nat} {pf0 : List Nat} (a_ : List ((List Int) × (Int × (List (List Int))))) (k : Int) (h0 : (RT.os 108 (RT.pr (RT.os 3 (RT.int .i64)) (RT.pr (RT.int .i64) (RT.os 22 (RT.os 3 (RT.int .i64)))))).val M w (.slice pa0 pn0 pc0) a_ pf0) (hI : Own (Nw w (pf0 ++ ([]))) M w (pf0 ++ ([]))) (hM : ∀ g, w.heap.size ≤ g → M g) {r : Int × (List ((List Int) × (Int × (List (List Int)))))} (hs : s_laws_markConstraintS a_ k = some r) :
    Gives Try.prog 135 [(.slice pa0 pn0 pc0), (.int .i64 k)] w (fun v w' => ∃ (rfi0 : List Nat), v = (.int .i64 r.1) ∧ Chg (pf0 ++ ([])) w w' ∧ (RT.os 108 (RT.pr (RT.os 3 (RT.int .i64)) (RT.pr (RT.int .i64) (RT.os 22 (RT.os 3 (RT.int .i64)))))).val M w' (.slice pa0 pn0 pc0) r.2 rfi0 ∧ Own (Nw w (pf0 ++ ([]))) (fun _ => True) w' (rfi0 ++ ([]))) := by
  refine calls_fr Try.func135 rfl Try.ntmps135 (Nat.le_of_ble_eq_true rfl) ?_
  have hO := hI
  have hC := Chg.refl (pf0 ++ ([])) w
  unfold s_laws_markConstraintS at hs
  refine wp_mono (Q := KPost (k_laws_markConstraintS M w pa0 pn0 pc0 pf0 r)) ?_ (fun e a w1 h => ?_)
  rotate_left
  · cases e
    case ret =>
      obtain ⟨σ, rfi0, rfl, hrest⟩ := h
      exact ret1x Try.results135 (res_tmp rfl) ⟨rfi0, rfl, hrest⟩
    all_goals exact (h : False).elim
  refine c_seq ?_
  refine c_region ?_
  refine pl_val (.int .i64 0) (y_assign rfl) ?_
  refine c_nil ?_
  refine c_seq ?_
  refine c_seq ?_
  refine c_region ?_
  refine pl_val (.int .i64 0) (y_assign rfl) ?_
  refine c_nil ?_
  obtain ⟨o105, hl106, hs⟩ := bind_some hs
  refine wp_block ?_
  refine wp_iter (id := 0) (I := fun s101 a w102 => ∃ (σ : Nat → Value) (f107 : List Nat), a = fr 36 (ovl σ [(0, (.slice pa0 pn0 pc0)), (1, (.int .i64 s101.1)), (5, (.int .i64 s101.2.1))]) ∧ Chg (pf0 ++ ([])) w w102 ∧ Own (Nw w (pf0 ++ ([]))) M w102 (f107 ++ []) ∧ (RT.os 108 (RT.pr (RT.os 3 (RT.int .i64)) (RT.pr (RT.int .i64) (RT.os 22 (RT.os 3 (RT.int .i64)))))).val M w102 (.slice pa0 pn0 pc0) s101.2.2 f107) (J := fun s101 a w102 => ∃ (σ : Nat → Value) (f108 : List Nat), a = fr 36 (ovl σ [(1, (.int .i64 s101.1))]) ∧ Chg (pf0 ++ ([])) w w102 ∧ Own (Nw w (pf0 ++ ([]))) M w102 (f108 ++ []) ∧ (RT.os 108 (RT.pr (RT.os 3 (RT.int .i64)) (RT.pr (RT.int .i64) (RT.os 22 (RT.os 3 (RT.int .i64)))))).val M w102 (.slice pa0 pn0 pc0) s101.2.2 f108) (K := (k_laws_markConstraintS M w pa0 pn0 pc0 pf0)) ?_ FU (k, 0, a_) o105 _ _ ?_ hl106 ?_
  · rintro s101 o105 a w102 ⟨σ, f107, rfl, hC, hO, hv107⟩ hs
    refine c_seq ?_
    refine c_seq ?_
    refine c_region ?_
    refine pl_val (.int .i64 s101.2.1) (y_move rfl) ?_
    refine pl_val (.slice pa0 pn0 pc0) (y_move rfl) ?_
    refine pl_val (.int .i64 (s101.2.2.length : Int)) (y_len' Sl47 (os_len hv107) rfl) ?_
    refine pl_val (.bool (decide (s101.2.1 < (s101.2.2.length : Int)))) (y_lss rfl rfl) ?_
    refine c_nil ?_
    rcases bif_some hs with ⟨hc109, hs⟩ | ⟨hc109, hs⟩
    · skip
      refine c_condT (congrArg Value.bool hc109) ?_
      refine wp_skip ?_
      refine c_seq ?_
      refine wp_block ?_
      refine c_seq ?_
      refine c_region ?_
      refine pl_val (.slice pa0 pn0 pc0) (y_move rfl) ?_
      refine pl_val (.int .i64 s101.2.1) (y_move rfl) ?_
      obtain ⟨x110, hx110, hs⟩ := bind_some hs
      obtain ⟨g111, f111, hg111, hk111, hp111, ha111, hf111⟩ := os_idx Sl47 Sz108 hv107 hx110
      have hb111 := own_row (Frz.pr (Frz.os Frz.int) (Frz.pr Frz.int (Frz.os (Frz.os Frz.int)))) ha111 hf111
      refine pl_val (.pointer (some ⟨g111, 0 + Int.toNat s101.2.1 * 3, none⟩)) (hp111 _ _ _ _ _ _ _ _ _ rfl rfl) ?_
      obtain ⟨hq112, _⟩ := pr_at hb111
      refine pl_val (.pointer (some ⟨g111, (0 + Int.toNat s101.2.1 * 3) + 0, none⟩)) (y_faddr rfl Fa108x0) ?_
      obtain ⟨cs113, hrow113, hr113⟩ := at_open hb111
      obtain ⟨cc113x1, cd113x1, rfl, hh113x1, ht113x1⟩ := pr_open hr113
      obtain ⟨a113x1, n113x1, c113x1, rfl, hv113x1⟩ := rs_rel hh113x1
      obtain ⟨cc113x3, cd113x3, rfl, hh113x3, ht113x3⟩ := pr_open ht113x1
      obtain rfl := int_rel hh113x3
      obtain ⟨a113x4, n113x4, c113x4, rfl, hv113x4⟩ := rs_rel ht113x3
      refine pl_val (.slice a113x1 n113x1 c113x1) (y_load rfl ((part_load (l1 := []) (c := [(.slice a113x1 n113x1 c113x1)]) (l2 := [(.int .i64 x110.2.1), (.slice a113x4 n113x4 c113x4)]) Ag22 Sz22 hrow113 rfl rfl (fun _ => rfl)) _ (Chg.refl _ _))) ?_
      refine pl_val (.int .i64 s101.1) (y_move rfl) ?_
      obtain ⟨fg116, hrr116, hsf116, hnf116, hput116⟩ := os_put hg111 hv107 hx110 hrow113 rfl hO.inM
      obtain ⟨fa116x1, fb116x1, rfl, hp116x1, hq116x1⟩ := pr_split (c := [(.slice a113x1 n113x1 c113x1)]) (d := [(.int .i64 x110.2.1), (.slice a113x4 n113x4 c113x4)]) hrr116 rfl
      obtain ⟨fa116x2, fb116x2, rfl, hp116x2, hq116x2⟩ := pr_split (c := [(.int .i64 x110.2.1)]) (d := [(.slice a113x4 n113x4 c113x4)]) hq116x1 rfl
      obtain rfl := int_fp hp116x2
      have hg116x0 : (RT.os 3 (RT.int .i64)).val M w102 (.slice a113x1 n113x1 c113x1) x110.1 fa116x1 := ⟨[_], rfl, hp116x1⟩
      have hfs116 : ∀ q ∈ (fa116x1 ++ ([])), q ∈ f107 := fun q hq => hsf116 q (by simp only [List.mem_append, List.not_mem_nil, or_false] at hq; simp [hq])
      have hfn116 : List.Nodup (fa116x1 ++ ([])) := by simpa using (List.nodup_append.1 (show List.Nodup (fa116x1 ++ fb116x2) by simpa using hnf116)).1
      have hL116 := hO
      have hI116 := Own.part (X := (fa116x1 ++ ([]))) (hL116) hfs116 hfn116
      obtain ⟨r117, hr117, hs⟩ := bind_some hs
      refine pl_call Bd19 rfl (c_laws_markIntS (M := M) x110.1 s101.1 hg116x0 hI116 hI116.fut hr117) ?_
      rintro _ w116 ⟨fi116x0, rfl, hC116, hvi116x0, hOc116⟩
      obtain ⟨fq116, hvq116, hsq116⟩ := hput116 w116 (fa116x1 ++ ([])) (r117.2, (x110.2.1, x110.2.2)) (fi116x0 ++ (([] : List Nat) ++ fb116x2)) hC116 (fun q hq => by simp only [List.mem_append, List.not_mem_nil, or_false] at hq; simp [hq]) ⟨_, _, _, _, rfl, rfl, (os_unval hvi116x0), ⟨_, _, _, _, rfl, rfl, ⟨rfl, rfl⟩, (RT.mono _ hq116x2 hC116 (fun q hq => .inl (hO.inM q (hfs116 q hq))) (fun q hq hq' => (fun A B (hd : (A ++ B).Nodup) (ha : q ∈ A) (hb : q ∈ B) => (List.nodup_append.1 hd).2.2 q ha q hb rfl) fa116x1 fb116x2 (by simpa using hnf116) (by simpa using hq) hq') (fun _ h => .inl h))⟩⟩ (by simpa using nd_first (X := fa116x1) (X' := fi116x0) (s := (w102).heap.size) (show List.Nodup (fa116x1 ++ fb116x2) by simpa using hnf116) (by simpa using hOc116.1) (fun q hq => (hOc116.2.1 q (by simpa using hq)).2.2.imp (fun h => by simpa using h) id) (fun q hq => RT.fpl _ hq116x2 q hq)) (fun q hq => by simp only [List.mem_append, List.not_mem_nil, or_false, false_or] at hq ⊢; rcases hq with hq | hq <;> first | exact .inl (by simp [hq]) | exact ((fun q hq => (hOc116.2.1 q (by simpa using hq)).2.2.imp (fun h => by simpa using h) id) q hq).imp (fun h => by simp [h]) id)
      have hC := hC.step hC116 (fun g hg => hO.inN g (hfs116 g hg))
      have hO := hO.grow hC116 hsq116 (os_nodup hvq116) hvq116.fpl
      refine pl_val (.int .i64 r117.1) (y_assign rfl) ?_
      refine c_nil ?_
      refine c_seq ?_
      refine c_region ?_
      refine pl_val (.slice pa0 pn0 pc0) (y_move rfl) ?_
      refine pl_val (.int .i64 s101.2.1) (y_move rfl) ?_
      refine pl_val (.int .i64 r117.1) (y_move rfl) ?_
      obtain ⟨x118, hx118, hs⟩ := bind_some hs
      obtain ⟨g119, f119, hg119, hk119, hp119, ha119, hf119⟩ := os_idx Sl47 Sz108 hvq116 hx118
      have hb119 := own_row (Frz.pr (Frz.os Frz.int) (Frz.pr Frz.int (Frz.os (Frz.os Frz.int)))) ha119 hf119
      refine pl_val (.pointer (some ⟨g119, 0 + Int.toNat s101.2.1 * 3, none⟩)) (hp119 _ _ _ _ _ _ _ _ _ rfl rfl) ?_
      obtain ⟨_, hq120x0⟩ := pr_at hb119
      refine pl_val (.pointer (some ⟨g119, (0 + Int.toNat s101.2.1 * 3) + 1, none⟩)) (y_faddr rfl Fa108x1) ?_
      obtain ⟨hq121, _⟩ := pr_at hq120x0
      refine pl_val (.pointer (some ⟨g119, ((0 + Int.toNat s101.2.1 * 3) + 1) + 0, none⟩)) (y_faddr rfl Fa31x0) ?_
      obtain ⟨L1122, c122, L2122, fq122, hL122, hc122, hbx122, hr122, hsf122, hnf122, hgi122, hgn122, hput122⟩ := os_focus hg119 hvq116 hx118 hO.inM
      obtain ⟨c122x1, d122x1, f122x1, k122x1, rfl, rfl, hl122x1, ht122x1⟩ := hr122
      obtain ⟨c122x2, d122x2, f122x2, k122x2, rfl, rfl, hl122x2, ht122x2⟩ := ht122x1
      obtain ⟨rfl, rfl⟩ := hl122x2
      have hn122x0 := RT.len _ hl122x1
      have hn122x2 := RT.len _ ht122x2
      obtain ⟨w122, hst122, hC122, hb122⟩ := box_store (P := Try.prog) hbx122 (L1122 ++ c122x1) [(Value.int .i64 x118.2.1)] (d122x2 ++ (L2122)) [(Value.int .i64 r117.1)] (by simp) rfl (by intro u hu; rw [List.mem_singleton.1 hu]; rfl)
      have hA122 : (L1122 ++ c122x1).length = (((0 + Int.toNat s101.2.1 * 3) + 1) + 0) := by
        simp only [List.length_append, hL122, hn122x0]
        try rfl
      rw [hA122] at hst122
      have hGM122 : ∀ q ∈ [g119], M q ∨ (w116).heap.size ≤ q := fun q hq => .inl (by rw [List.mem_singleton.1 hq]; exact hO.inM _ hgi122)
      obtain ⟨fz122, hv122, hf122⟩ := hput122 w122 [g119] (c122x1 ++ ([(Value.int .i64 r117.1)] ++ d122x2)) (x118.1, (r117.1, x118.2.2)) (f122x1 ++ (([] : List Nat) ++ k122x2)) hC122 (fun q hq => .inl (List.mem_singleton.1 hq)) (by simpa using hb122) ⟨_, _, _, _, rfl, rfl, (RT.mono _ hl122x1 hC122 hGM122 (fun q hq hq' => hgn122 (by rw [List.mem_singleton.1 hq] at hq'; simp [hq'])) (fun _ h => .inl h)), ⟨_, _, _, _, rfl, rfl, ⟨rfl, rfl⟩, (RT.mono _ ht122x2 hC122 hGM122 (fun q hq hq' => hgn122 (by rw [List.mem_singleton.1 hq] at hq'; simp [hq'])) (fun _ h => .inl h))⟩⟩ hnf122 (fun q hq => .inl hq)
      refine pl_skip (w' := w122) (ys_store rfl rfl (hst122 _ _ rfl Sz3)) ?_
      have hG122 : ∀ q ∈ [g119], q ∈ fq116 := fun q hq => by rw [List.mem_singleton.1 hq]; exact hgi122
      have hC := hC.step hC122 (fun g hg => hO.inN g (hG122 g hg))
      have hO := hO.grow hC122 hf122 (os_nodup hv122) hv122.fpl
      refine c_nil ?_
      refine c_seq ?_
      refine c_region ?_
      refine pl_val (.int .i64 r117.1) (y_move rfl) ?_
      refine pl_val (.int .i64 (w64 (r117.1 + 1))) (y_add rfl rfl) ?_
      refine pl_val (.int .i64 (w64 (r117.1 + 1))) (y_assign rfl) ?_
      refine c_nil ?_
      refine c_region ?_
      refine pl_val (.slice pa0 pn0 pc0) (y_move rfl) ?_
      refine pl_val (.int .i64 s101.2.1) (y_move rfl) ?_
      obtain ⟨x123, hx123, hs⟩ := bind_some hs
      obtain ⟨g124, f124, hg124, hk124, hp124, ha124, hf124⟩ := os_idx Sl47 Sz108 hv122 hx123
      have hb124 := own_row (Frz.pr (Frz.os Frz.int) (Frz.pr Frz.int (Frz.os (Frz.os Frz.int)))) ha124 hf124
      refine pl_val (.pointer (some ⟨g124, 0 + Int.toNat s101.2.1 * 3, none⟩)) (hp124 _ _ _ _ _ _ _ _ _ rfl rfl) ?_
      obtain ⟨_, hq125x0⟩ := pr_at hb124
      refine pl_val (.pointer (some ⟨g124, (0 + Int.toNat s101.2.1 * 3) + 1, none⟩)) (y_faddr rfl Fa108x1) ?_
      obtain ⟨_, hq126x0⟩ := pr_at hq125x0
      refine pl_val (.pointer (some ⟨g124, ((0 + Int.toNat s101.2.1 * 3) + 1) + 1, none⟩)) (y_faddr rfl Fa31x1) ?_
      obtain ⟨cs127, hrow127, hr127⟩ := at_open hb124
      obtain ⟨cc127x1, cd127x1, rfl, hh127x1, ht127x1⟩ := pr_open hr127
      obtain ⟨a127x1, n127x1, c127x1, rfl, hv127x1⟩ := rs_rel hh127x1
      obtain ⟨cc127x3, cd127x3, rfl, hh127x3, ht127x3⟩ := pr_open ht127x1
      obtain rfl := int_rel hh127x3
      obtain ⟨a127x4, n127x4, c127x4, rfl, hv127x4⟩ := rs_rel ht127x3
      refine pl_val (.slice a127x4 n127x4 c127x4) (y_load rfl ((part_load (l1 := [(.slice a127x1 n127x1 c127x1), (.int .i64 x123.2.1)]) (c := [(.slice a127x4 n127x4 c127x4)]) (l2 := []) Ag29 Sz29 hrow127 rfl rfl (fun _ => rfl)) _ (Chg.refl _ _))) ?_
      refine pl_val (.int .i64 (w64 (r117.1 + 1))) (y_move rfl) ?_
      obtain ⟨fg130, hrr130, hsf130, hnf130, hput130⟩ := os_put hg124 hv122 hx123 hrow127 rfl hO.inM
      obtain ⟨fa130x1, fb130x1, rfl, hp130x1, hq130x1⟩ := pr_split (c := [(.slice a127x1 n127x1 c127x1)]) (d := [(.int .i64 x123.2.1), (.slice a127x4 n127x4 c127x4)]) hrr130 rfl
      obtain ⟨fa130x2, fb130x2, rfl, hp130x2, hq130x2⟩ := pr_split (c := [(.int .i64 x123.2.1)]) (d := [(.slice a127x4 n127x4 c127x4)]) hq130x1 rfl
      obtain rfl := int_fp hp130x2
      have hg130x0 : (RT.os 22 (RT.os 3 (RT.int .i64))).val M w122 (.slice a127x4 n127x4 c127x4) x123.2.2 fb130x2 := ⟨[_], rfl, hq130x2⟩
      have hfs130 : ∀ q ∈ (fb130x2 ++ ([])), q ∈ fz122 := fun q hq => hsf130 q (by simp only [List.mem_append, List.not_mem_nil, or_false] at hq; simp [hq])
      have hfn130 : List.Nodup (fb130x2 ++ ([])) := by simpa using (List.nodup_append.1 (show List.Nodup (fa130x1 ++ fb130x2) by simpa using hnf130)).2.1
      have hL130 := hO
      have hI130 := Own.part (X := (fb130x2 ++ ([]))) (hL130) hfs130 hfn130
      obtain ⟨r131, hr131, hs⟩ := bind_some hs
      refine pl_call Bd82 rfl (c_laws_markIntSS (M := M) x123.2.2 (w64 (r117.1 + 1)) hg130x0 hI130 hI130.fut hr131) ?_
      rintro _ w130 ⟨fi130x0, rfl, hC130, hvi130x0, hOc130⟩
      obtain ⟨fq130, hvq130, hsq130⟩ := hput130 w130 (fb130x2 ++ ([])) (x123.1, (x123.2.1, r131.2)) (fa130x1 ++ (([] : List Nat) ++ fi130x0)) hC130 (fun q hq => by simp only [List.mem_append, List.not_mem_nil, or_false] at hq; simp [hq]) ⟨_, _, _, _, rfl, rfl, (RT.mono _ hp130x1 hC130 (fun q hq => .inl (hO.inM q (hfs130 q hq))) (fun q hq hq' => (fun A B (hd : (A ++ B).Nodup) (ha : q ∈ A) (hb : q ∈ B) => (List.nodup_append.1 hd).2.2 q ha q hb rfl) fa130x1 fb130x2 (by simpa using hnf130) hq' (by simpa using hq)) (fun _ h => .inl h)), ⟨_, _, _, _, rfl, rfl, ⟨rfl, rfl⟩, (os_unval hvi130x0)⟩⟩ (by simpa using nd_last (X := fb130x2) (X' := fi130x0) (s := (w122).heap.size) (show List.Nodup (fa130x1 ++ fb130x2) by simpa using hnf130) (by simpa using hOc130.1) (fun q hq => (hOc130.2.1 q (by simpa using hq)).2.2.imp (fun h => by simpa using h) id) (fun q hq => RT.fpl _ hp130x1 q hq)) (fun q hq => by simp only [List.mem_append, List.not_mem_nil, or_false, false_or] at hq ⊢; rcases hq with hq | hq <;> first | exact .inl (by simp [hq]) | exact ((fun q hq => (hOc130.2.1 q (by simpa using hq)).2.2.imp (fun h => by simpa using h) id) q hq).imp (fun h => by simp [h]) id)
      have hC := hC.step hC130 (fun g hg => hO.inN g (hfs130 g hg))
      have hO := hO.grow hC130 hsq130 (os_nodup hvq130) hvq130.fpl
      refine pl_val (.int .i64 r131.1) (y_assign rfl) ?_
      refine c_nil ?_
      refine c_region ?_
      refine pl_val (.int .i64 s101.2.1) (y_move rfl) ?_
      refine pl_val (.int .i64 (w64 (s101.2.1 + 1))) (y_add rfl rfl) ?_
      refine pl_val (.int .i64 (w64 (s101.2.1 + 1))) (y_assign rfl) ?_
      refine c_nil ?_
      cases hs
      exact ⟨_, fq130, fr_ovl 36 ⟨rfl, rfl, rfl, trivial⟩, hC, hO, hvq130⟩
    · skip
      refine c_condF (congrArg Value.bool hc109) ?_
      refine wp_exit ?_
      cases hs
      exact ⟨rfl, _, f107, fr_ovl 36 ⟨rfl, trivial⟩, hC, hO, hv107⟩
  · skip
    exact ⟨_, pf0, fr_ovl 36 ⟨rfl, rfl, rfl, trivial⟩, hC, hO, h0⟩
  · cases o105 with
    | nx _ => exact True.intro
    | rt r_ =>
      have hs := after_rt hs
      intro a1 w1 hK
      cases hs
      exact hK
    | br s101 =>
      have hs := after_br hs
      rintro a1 w102 ⟨σ, f108, rfl, hC, hO, hv108⟩
      refine c_seq ?_
      refine c_region ?_
      refine pl_val (.int .i64 s101.1) (y_move rfl) ?_
      refine pl_val (.int .i64 s101.1) (y_assign rfl) ?_
      refine c_nil ?_
      refine wp_ret ?_
      cases hs
      exact ⟨_, f108, fr_ovl 36 ⟨rfl, trivial⟩, hC, hv108, hO.top⟩

theorem Bd135 : Bodied Try.prog 135 := bodied Try.func135 (by kernel_rfl) rfl

def k_laws_markNetwork (M : Nat → Prop) (w0 : World) (qa0 : Option Addr) (qn0 qc0 : Nat) (qf0 : List Nat) (r : Int × (List ((List Int) × (Int × (List (List Int)))))) (a : Act) (w : World) : Prop :=
  ∃ (σ : Nat → Value) (rfi0 : List Nat), a = fr 10 (ovl σ [(4, (.int .i64 r.1))]) ∧ Chg (qf0 ++ ([])) w0 w ∧ (RT.os 108 (RT.pr (RT.os 3 (RT.int .i64)) (RT.pr (RT.int .i64) (RT.os 22 (RT.os 3 (RT.int .i64)))))).val M w (.slice qa0 qn0 qc0) r.2 rfi0 ∧ Own (Nw w0 (qf0 ++ ([]))) (fun _ => True) w (rfi0 ++ ([]))
def s_laws_markNetwork (a_ : Int × Int × (List ((List Int) × (Int × (List (List Int)))))) (k : Int) : Option (Int × (List ((List Int) × (Int × (List (List Int)))))) :=
  (s_laws_markConstraintS a_.2.2 k).bind fun r4 =>
  some (r4.1, r4.2)
set_option maxHeartbeats 4000000 in
theorem c_laws_markNetwork {M : Nat → Prop} {w : World} {pa0 : Option Addr} {pn0 pc0 : Nat} {pf0 : List Nat} (a_ : Int × Int × (List ((List Int) × (Int × (List (List Int)))))) (k : Int) (h0 : (RT.os 108 (RT.pr (RT.os 3 (RT.int .i64)) (RT.pr (RT.int .i64) (RT.os 22 (RT.os 3 (RT.int .i64)))))).val M w (.slice pa0 pn0 pc0) a_.2.2 pf0) (hI : Own (Nw w (pf0 ++ ([]))) M w (pf0 ++ ([]))) (hM : ∀ g, w.heap.size ≤ g → M g) {r : Int × (List ((List Int) × (Int × (List (List Int)))))} (hs : s_laws_markNetwork a_ k = some r) :
    Gives Try.prog 69 [(.agg #[(.int .i64 a_.1), (.int .i64 a_.2.1), (.slice pa0 pn0 pc0)]), (.int .i64 k)] w (fun v w' => ∃ (rfi0 : List Nat), v = (.int .i64 r.1) ∧ Chg (pf0 ++ ([])) w w' ∧ (RT.os 108 (RT.pr (RT.os 3 (RT.int .i64)) (RT.pr (RT.int .i64) (RT.os 22 (RT.os 3 (RT.int .i64)))))).val M w' (.slice pa0 pn0 pc0) r.2 rfi0 ∧ Own (Nw w (pf0 ++ ([]))) (fun _ => True) w' (rfi0 ++ ([]))) := by
  refine calls_fr Try.func69 rfl Try.ntmps69 (Nat.le_of_ble_eq_true rfl) ?_
  have hO := hI
  have hC := Chg.refl (pf0 ++ ([])) w
  unfold s_laws_markNetwork at hs
  refine wp_mono (Q := KPost (k_laws_markNetwork M w pa0 pn0 pc0 pf0 r)) ?_ (fun e a w1 h => ?_)
  rotate_left
  · cases e
    case ret =>
      obtain ⟨σ, rfi0, rfl, hrest⟩ := h
      exact ret1x Try.results69 (res_tmp rfl) ⟨rfi0, rfl, hrest⟩
    all_goals exact (h : False).elim
  refine c_seq ?_
  refine c_region ?_
  obtain ⟨w2, g2, ew2, eg2, hC2, hb2⟩ := new_block w [(.int .i64 a_.1), (.int .i64 a_.2.1), (.slice pa0 pn0 pc0)] 49
  refine pl_val (w' := w2) (.pointer (some ⟨g2, 0, none⟩)) (y_box rfl (by rw [ew2, eg2]; kernel_rfl)) ?_
  have h0 := h0.ext hC2
  have hC := hC.ext hC2
  have hO := hO.new (X' := [g2]) hC2 (fun q hq => by rw [List.mem_singleton.1 hq, eg2]; exact Nat.le_refl _) (List.nodup_cons.2 ⟨(fun h => nomatch h), List.nodup_nil⟩) (fun q hq => by rw [List.mem_singleton.1 hq]; exact hb2.lt)
  refine pl_val (.int .i64 0) (y_assign rfl) ?_
  refine c_nil ?_
  refine c_seq ?_
  refine c_region ?_
  refine pl_val (.pointer (some ⟨g2, 2, none⟩)) (y_faddr rfl Fa49x2) ?_
  refine pl_val (.slice pa0 pn0 pc0) (y_load rfl ((box_load Ag47 Sz47 hb2 [(.int .i64 a_.1), (.int .i64 a_.2.1)] [(.slice pa0 pn0 pc0)] [] rfl rfl (fun _ => rfl)) _ (Chg.refl _ _))) ?_
  refine pl_val (.int .i64 k) (y_move rfl) ?_
  have hO := hO.fr1
  have hL3 := hO
  have hI3 := Own.lend (F := (pf0 ++ ([]))) (R := ([g2]) ++ ([])) (Own.perm (hL3) (by simp))
  obtain ⟨r4, hr4, hs⟩ := bind_some hs
  refine pl_call Bd135 rfl (c_laws_markConstraintS (M := M) a_.2.2 k h0 hI3 hI3.fut hr4) ?_
  rintro _ w3 ⟨fi3x0, rfl, hC3, hvi3x0, hOc3⟩
  have hO := hO.perm (R := (pf0 ++ ([])) ++ (([g2]) ++ ([]))) (by simp)
  have hb2 := hb2.chg hC3 (fun hg => hO.apart _ ((fun _ h => h) _ hg) (mem_l (List.mem_singleton.2 rfl)))
  have hC := hC.step hC3 (fun g hg => hO.inN g ((fun _ h => h) g hg))
  have hO := Own.join hO hC3 hOc3
  have hO := hO.perm (R := fi3x0 ++ (([g2]) ++ ([]))) (by simp)
  refine pl_val (.int .i64 r4.1) (y_assign rfl) ?_
  refine c_nil ?_
  refine c_seq ?_
  refine c_region ?_
  refine pl_val (.int .i64 r4.1) (y_move rfl) ?_
  refine pl_val (.int .i64 r4.1) (y_assign rfl) ?_
  refine c_nil ?_
  refine wp_ret ?_
  cases hs
  have hO := hO.fr1
  have hO := hO.drop
  exact ⟨_, fi3x0, fr_ovl 10 ⟨rfl, trivial⟩, hC, hvi3x0, hO.top⟩

def k_laws_heldIntS (M : Nat → Prop) (w0 : World) (r : Int) (a : Act) (w : World) : Prop :=
  ∃ (σ : Nat → Value) , a = fr 21 (ovl σ [(4, (.int .i64 r))]) ∧ Chg [] w0 w
def s_laws_heldIntS (a_ : List Int) (k : Int) : Option (Int) :=
  (forC (S := Int) (R := Int) (fun k7 s5 =>
  (idx a_ k7).bind fun x11 =>
  (bif (x11 != s5) then some (.rt (-1)) else some (.nx (w64 (s5 + 1))))) 0 (a_.length : Int) k).bind fun o9 => after o9 (fun r_ => some r_) (fun s5 =>
  some s5)
set_option maxHeartbeats 4000000 in
theorem c_laws_heldIntS {M : Nat → Prop} {w : World} {pa0 : Option Addr} {pn0 pc0 : Nat} (a_ : List Int) (k : Int) (h0 : (RT.rs (RT.int .i64)).val M w (.slice pa0 pn0 pc0) a_ ([])) (hM : ∀ g, w.heap.size ≤ g → M g) {r : Int} (hs : s_laws_heldIntS a_ k = some r) :
    Gives Try.prog 20 [(.slice pa0 pn0 pc0), (.int .i64 k)] w (fun v w' => v = (.int .i64 r) ∧ Chg [] w w') := by
  refine calls_fr Try.func20 rfl Try.ntmps20 (Nat.le_of_ble_eq_true rfl) ?_
  have hO := Own.start (N := Nw w []) hM Nw.fut
  have hC := Chg.refl [] w
  unfold s_laws_heldIntS at hs
  refine wp_mono (Q := KPost (k_laws_heldIntS M w r)) ?_ (fun e a w1 h => ?_)
  rotate_left
  · cases e
    case ret =>
      obtain ⟨σ, rfl, hrest⟩ := h
      exact ret1x Try.results20 (res_tmp rfl) ⟨rfl, hrest⟩
    all_goals exact (h : False).elim
  refine c_seq ?_
  refine c_region ?_
  refine pl_val (.int .i64 0) (y_assign rfl) ?_
  refine c_nil ?_
  refine c_seq ?_
  refine c_seq ?_
  refine c_region ?_
  refine pl_val (.int .i64 0) (y_assign rfl) ?_
  refine c_nil ?_
  obtain ⟨o9, hl10, hs⟩ := bind_some hs
  refine wp_block ?_
  refine wp_forC (id := 0) (a_.length : Int) (I := fun k7 s5 a w6 => ∃ (σ : Nat → Value), a = fr 21 (ovl σ [(0, (.slice pa0 pn0 pc0)), (1, (.int .i64 s5)), (5, (.int .i64 k7))]) ∧ Chg [] w w6 ∧ Own (Nw w []) M w6 ([]) ∧ (RT.rs (RT.int .i64)).val M w6 (.slice pa0 pn0 pc0) a_ ([])) (J := fun s5 a w6 => ∃ (σ : Nat → Value), a = fr 21 (ovl σ [(1, (.int .i64 s5))]) ∧ Chg [] w w6 ∧ Own (Nw w []) M w6 ([]) ∧ (RT.rs (RT.int .i64)).val M w6 (.slice pa0 pn0 pc0) a_ ([])) (K := (k_laws_heldIntS M w)) ?_ ?_ 0 k o9 _ _ ?_ hl10 ?_
  · rintro k7 s5 a w6 ⟨σ, rfl, hC, hO, h0⟩ hlt
    refine c_seq ?_
    refine c_seq ?_
    refine c_region ?_
    refine pl_val (.int .i64 k7) (y_move rfl) ?_
    refine pl_val (.slice pa0 pn0 pc0) (y_move rfl) ?_
    refine pl_val (.int .i64 (a_.length : Int)) (y_len' Sl22 (rs_len h0) rfl) ?_
    refine pl_val (.bool (decide (k7 < (a_.length : Int)))) (y_lss rfl rfl) ?_
    refine c_nil ?_
    refine c_condF (congrArg Value.bool (decide_eq_false hlt)) ?_
    refine wp_exit ?_
    exact ⟨rfl, _, fr_ovl 21 ⟨rfl, trivial⟩, hC, hO, h0⟩
  · rintro k7 s5 o9 a w6 ⟨σ, rfl, hC, hO, h0⟩ hlt hw hs
    refine c_seq ?_
    refine c_seq ?_
    refine c_region ?_
    refine pl_val (.int .i64 k7) (y_move rfl) ?_
    refine pl_val (.slice pa0 pn0 pc0) (y_move rfl) ?_
    refine pl_val (.int .i64 (a_.length : Int)) (y_len' Sl22 (rs_len h0) rfl) ?_
    refine pl_val (.bool (decide (k7 < (a_.length : Int)))) (y_lss rfl rfl) ?_
    refine c_nil ?_
    refine c_condT (congrArg Value.bool (decide_eq_true hlt)) ?_
    refine wp_skip ?_
    refine c_seq ?_
    refine wp_block ?_
    refine c_seq ?_
    refine c_seq ?_
    refine c_region ?_
    refine pl_val (.slice pa0 pn0 pc0) (y_move rfl) ?_
    refine pl_val (.int .i64 k7) (y_move rfl) ?_
    obtain ⟨x11, hx11, hs⟩ := bind_some hs
    obtain ⟨b12, o12, hp12, ha12⟩ := rs_idx Sl22 Sz3 h0 hx11
    refine pl_val (.pointer (some ⟨b12, o12, none⟩)) (hp12 _ _ _ _ _ _ _ _ _ rfl rfl) ?_
    refine pl_val (.int .i64 x11) (y_load rfl ((at_load_int Ag3 Sz3 ha12) _ (Chg.refl _ _))) ?_
    refine pl_val (.int .i64 s5) (y_move rfl) ?_
    refine pl_val (.bool (x11 != s5)) (y_neq rfl rfl) ?_
    refine c_nil ?_
    rcases bif_some hs with ⟨hc13, hs⟩ | ⟨hc13, hs⟩
    · skip
      refine c_condT (congrArg Value.bool hc13) ?_
      refine c_seq ?_
      refine c_region ?_
      refine pl_val (.int .i64 (-1)) (y_assign rfl) ?_
      refine c_nil ?_
      refine wp_ret ?_
      cases hs
      exact ⟨_, fr_ovl 21 ⟨rfl, trivial⟩, hC⟩
    · skip
      refine c_condF (congrArg Value.bool hc13) ?_
      refine wp_skip ?_
      refine c_region ?_
      refine pl_val (.int .i64 s5) (y_move rfl) ?_
      refine pl_val (.int .i64 (w64 (s5 + 1))) (y_add rfl rfl) ?_
      refine pl_val (.int .i64 (w64 (s5 + 1))) (y_assign rfl) ?_
      refine c_nil ?_
      refine c_region ?_
      refine pl_val (.int .i64 k7) (y_move rfl) ?_
      refine pl_val (.int .i64 (w64 (k7 + 1))) (y_add rfl rfl) ?_
      refine pl_val (.int .i64 (w64 (k7 + 1))) (y_assign rfl) ?_
      refine c_nil ?_
      cases hs
      exact ⟨_, fr_ovl 21 ⟨rfl, rfl, congrArg (Value.int .i64) hw, trivial⟩, hC, hO, h0⟩
  · skip
    exact ⟨_, fr_ovl 21 ⟨rfl, rfl, rfl, trivial⟩, hC, hO, h0⟩
  · cases o9 with
    | nx _ => exact True.intro
    | rt r_ =>
      have hs := after_rt hs
      intro a1 w1 hK
      cases hs
      exact hK
    | br s5 =>
      have hs := after_br hs
      rintro a1 w6 ⟨σ, rfl, hC, hO, h0⟩
      refine c_seq ?_
      refine c_region ?_
      refine pl_val (.int .i64 s5) (y_move rfl) ?_
      refine pl_val (.int .i64 s5) (y_assign rfl) ?_
      refine c_nil ?_
      refine wp_ret ?_
      cases hs
      exact ⟨_, fr_ovl 21 ⟨rfl, trivial⟩, hC⟩

theorem Bd20 : Bodied Try.prog 20 := bodied Try.func20 (by kernel_rfl) rfl

def k_laws_heldIntSS (M : Nat → Prop) (w0 : World) (r : Int) (a : Act) (w : World) : Prop :=
  ∃ (σ : Nat → Value) , a = fr 21 (ovl σ [(4, (.int .i64 r))]) ∧ Chg [] w0 w
def s_laws_heldIntSS (a_ : List (List Int)) (k : Int) : Option (Int) :=
  (forC (S := Int) (R := Int) (fun k11 s9 =>
  (idx a_ k11).bind fun x15 =>
  (s_laws_heldIntS x15 s9).bind fun r20 =>
  (bif (decide (r20 < 0)) then some (.rt (-1)) else some (.nx r20))) 0 (a_.length : Int) k).bind fun o13 => after o13 (fun r_ => some r_) (fun s9 =>
  some s9)
set_option maxHeartbeats 4000000 in
theorem c_laws_heldIntSS {M : Nat → Prop} {w : World} {pa0 : Option Addr} {pn0 pc0 : Nat} (a_ : List (List Int)) (k : Int) (h0 : (RT.rs (RT.rs (RT.int .i64))).val M w (.slice pa0 pn0 pc0) a_ ([])) (hM : ∀ g, w.heap.size ≤ g → M g) {r : Int} (hs : s_laws_heldIntSS a_ k = some r) :
    Gives Try.prog 83 [(.slice pa0 pn0 pc0), (.int .i64 k)] w (fun v w' => v = (.int .i64 r) ∧ Chg [] w w') := by
  refine calls_fr Try.func83 rfl Try.ntmps83 (Nat.le_of_ble_eq_true rfl) ?_
  have hO := Own.start (N := Nw w []) hM Nw.fut
  have hC := Chg.refl [] w
  unfold s_laws_heldIntSS at hs
  refine wp_mono (Q := KPost (k_laws_heldIntSS M w r)) ?_ (fun e a w1 h => ?_)
  rotate_left
  · cases e
    case ret =>
      obtain ⟨σ, rfl, hrest⟩ := h
      exact ret1x Try.results83 (res_tmp rfl) ⟨rfl, hrest⟩
    all_goals exact (h : False).elim
  refine c_seq ?_
  refine c_region ?_
  refine pl_val (.int .i64 0) (y_assign rfl) ?_
  refine c_nil ?_
  refine c_seq ?_
  refine c_seq ?_
  refine c_region ?_
  refine pl_val (.int .i64 0) (y_assign rfl) ?_
  refine c_nil ?_
  obtain ⟨o13, hl14, hs⟩ := bind_some hs
  refine wp_block ?_
  refine wp_forC (id := 0) (a_.length : Int) (I := fun k11 s9 a w10 => ∃ (σ : Nat → Value), a = fr 21 (ovl σ [(0, (.slice pa0 pn0 pc0)), (1, (.int .i64 s9)), (5, (.int .i64 k11))]) ∧ Chg [] w w10 ∧ Own (Nw w []) M w10 ([]) ∧ (RT.rs (RT.rs (RT.int .i64))).val M w10 (.slice pa0 pn0 pc0) a_ ([])) (J := fun s9 a w10 => ∃ (σ : Nat → Value), a = fr 21 (ovl σ [(1, (.int .i64 s9))]) ∧ Chg [] w w10 ∧ Own (Nw w []) M w10 ([]) ∧ (RT.rs (RT.rs (RT.int .i64))).val M w10 (.slice pa0 pn0 pc0) a_ ([])) (K := (k_laws_heldIntSS M w)) ?_ ?_ 0 k o13 _ _ ?_ hl14 ?_
  · rintro k11 s9 a w10 ⟨σ, rfl, hC, hO, h0⟩ hlt
    refine c_seq ?_
    refine c_seq ?_
    refine c_region ?_
    refine pl_val (.int .i64 k11) (y_move rfl) ?_
    refine pl_val (.slice pa0 pn0 pc0) (y_move rfl) ?_
    refine pl_val (.int .i64 (a_.length : Int)) (y_len' Sl29 (rs_len h0) rfl) ?_
    refine pl_val (.bool (decide (k11 < (a_.length : Int)))) (y_lss rfl rfl) ?_
    refine c_nil ?_
    refine c_condF (congrArg Value.bool (decide_eq_false hlt)) ?_
    refine wp_exit ?_
    exact ⟨rfl, _, fr_ovl 21 ⟨rfl, trivial⟩, hC, hO, h0⟩
  · rintro k11 s9 o13 a w10 ⟨σ, rfl, hC, hO, h0⟩ hlt hw hs
    refine c_seq ?_
    refine c_seq ?_
    refine c_region ?_
    refine pl_val (.int .i64 k11) (y_move rfl) ?_
    refine pl_val (.slice pa0 pn0 pc0) (y_move rfl) ?_
    refine pl_val (.int .i64 (a_.length : Int)) (y_len' Sl29 (rs_len h0) rfl) ?_
    refine pl_val (.bool (decide (k11 < (a_.length : Int)))) (y_lss rfl rfl) ?_
    refine c_nil ?_
    refine c_condT (congrArg Value.bool (decide_eq_true hlt)) ?_
    refine wp_skip ?_
    refine c_seq ?_
    refine wp_block ?_
    refine c_seq ?_
    refine c_region ?_
    refine pl_val (.slice pa0 pn0 pc0) (y_move rfl) ?_
    refine pl_val (.int .i64 k11) (y_move rfl) ?_
    obtain ⟨x15, hx15, hs⟩ := bind_some hs
    obtain ⟨b16, o16, hp16, ha16⟩ := rs_idx Sl29 Sz22 h0 hx15
    refine pl_val (.pointer (some ⟨b16, o16, none⟩)) (hp16 _ _ _ _ _ _ _ _ _ rfl rfl) ?_
    obtain ⟨v17, hl17, hv17⟩ := at_load Ag22 Sz22 (fun _ => rfl) ha16
    obtain ⟨a17, n17, c17, rfl⟩ := rs_sl hv17
    refine pl_val (.slice a17 n17 c17) (y_load rfl (hl17 _ (Chg.refl _ _))) ?_
    refine pl_val (.int .i64 s9) (y_move rfl) ?_
    obtain ⟨r20, hr20, hs⟩ := bind_some hs
    refine pl_call Bd20 rfl (c_laws_heldIntS (M := M) x15 s9 hv17 hO.fut hr20) ?_
    rintro _ w19 ⟨rfl, hC19⟩
    have h0 := h0.ext hC19
    have hv17 := hv17.ext hC19
    have hC := hC.ext hC19
    have hO := hO.ext hC19
    refine pl_val (.int .i64 r20) (y_assign rfl) ?_
    refine c_nil ?_
    refine c_seq ?_
    refine c_region ?_
    refine pl_val (.int .i64 r20) (y_move rfl) ?_
    refine pl_val (.bool (decide (r20 < 0))) (y_lss rfl rfl) ?_
    refine c_nil ?_
    rcases bif_some hs with ⟨hc21, hs⟩ | ⟨hc21, hs⟩
    · skip
      refine c_condT (congrArg Value.bool hc21) ?_
      refine c_seq ?_
      refine c_region ?_
      refine pl_val (.int .i64 (-1)) (y_assign rfl) ?_
      refine c_nil ?_
      refine wp_ret ?_
      cases hs
      exact ⟨_, fr_ovl 21 ⟨rfl, trivial⟩, hC⟩
    · skip
      refine c_condF (congrArg Value.bool hc21) ?_
      refine wp_skip ?_
      refine c_region ?_
      refine pl_val (.int .i64 k11) (y_move rfl) ?_
      refine pl_val (.int .i64 (w64 (k11 + 1))) (y_add rfl rfl) ?_
      refine pl_val (.int .i64 (w64 (k11 + 1))) (y_assign rfl) ?_
      refine c_nil ?_
      cases hs
      exact ⟨_, fr_ovl 21 ⟨rfl, rfl, congrArg (Value.int .i64) hw, trivial⟩, hC, hO, h0⟩
  · skip
    exact ⟨_, fr_ovl 21 ⟨rfl, rfl, rfl, trivial⟩, hC, hO, h0⟩
  · cases o13 with
    | nx _ => exact True.intro
    | rt r_ =>
      have hs := after_rt hs
      intro a1 w1 hK
      cases hs
      exact hK
    | br s9 =>
      have hs := after_br hs
      rintro a1 w10 ⟨σ, rfl, hC, hO, h0⟩
      refine c_seq ?_
      refine c_region ?_
      refine pl_val (.int .i64 s9) (y_move rfl) ?_
      refine pl_val (.int .i64 s9) (y_assign rfl) ?_
      refine c_nil ?_
      refine wp_ret ?_
      cases hs
      exact ⟨_, fr_ovl 21 ⟨rfl, trivial⟩, hC⟩

theorem Bd83 : Bodied Try.prog 83 := bodied Try.func83 (by kernel_rfl) rfl

def k_laws_heldConstraintS (M : Nat → Prop) (w0 : World) (r : Int) (a : Act) (w : World) : Prop :=
  ∃ (σ : Nat → Value) , a = fr 42 (ovl σ [(4, (.int .i64 r))]) ∧ Chg [] w0 w
def s_laws_heldConstraintS (a_ : List ((List Int) × (Int × (List (List Int))))) (k : Int) : Option (Int) :=
  (forC (S := Int) (R := Int) (fun k26 s24 =>
  (idx a_ k26).bind fun x30 =>
  (s_laws_heldIntS x30.1 s24).bind fun r36 =>
  (bif (decide (r36 < 0)) then some (.rt (-1)) else (idx a_ k26).bind fun x38 =>
  (bif (x38.2.1 != r36) then some (.rt (-1)) else (idx a_ k26).bind fun x43 =>
  (s_laws_heldIntSS x43.2.2 (w64 (r36 + 1))).bind fun r50 =>
  (bif (decide (r50 < 0)) then some (.rt (-1)) else some (.nx r50))))) 0 (a_.length : Int) k).bind fun o28 => after o28 (fun r_ => some r_) (fun s24 =>
  some s24)
set_option maxHeartbeats 4000000 in
theorem c_laws_heldConstraintS {M : Nat → Prop} {w : World} {pa0 : Option Addr} {pn0 pc0 : Nat} (a_ : List ((List Int) × (Int × (List (List Int))))) (k : Int) (h0 : (RT.rs (RT.pr (RT.rs (RT.int .i64)) (RT.pr (RT.int .i64) (RT.rs (RT.rs (RT.int .i64)))))).val M w (.slice pa0 pn0 pc0) a_ ([])) (hM : ∀ g, w.heap.size ≤ g → M g) {r : Int} (hs : s_laws_heldConstraintS a_ k = some r) :
    Gives Try.prog 136 [(.slice pa0 pn0 pc0), (.int .i64 k)] w (fun v w' => v = (.int .i64 r) ∧ Chg [] w w') := by
  refine calls_fr Try.func136 rfl Try.ntmps136 (Nat.le_of_ble_eq_true rfl) ?_
  have hO := Own.start (N := Nw w []) hM Nw.fut
  have hC := Chg.refl [] w
  unfold s_laws_heldConstraintS at hs
  refine wp_mono (Q := KPost (k_laws_heldConstraintS M w r)) ?_ (fun e a w1 h => ?_)
  rotate_left
  · cases e
    case ret =>
      obtain ⟨σ, rfl, hrest⟩ := h
      exact ret1x Try.results136 (res_tmp rfl) ⟨rfl, hrest⟩
    all_goals exact (h : False).elim
  refine c_seq ?_
  refine c_region ?_
  refine pl_val (.int .i64 0) (y_assign rfl) ?_
  refine c_nil ?_
  refine c_seq ?_
  refine c_seq ?_
  refine c_region ?_
  refine pl_val (.int .i64 0) (y_assign rfl) ?_
  refine c_nil ?_
  obtain ⟨o28, hl29, hs⟩ := bind_some hs
  refine wp_block ?_
  refine wp_forC (id := 0) (a_.length : Int) (I := fun k26 s24 a w25 => ∃ (σ : Nat → Value), a = fr 42 (ovl σ [(0, (.slice pa0 pn0 pc0)), (1, (.int .i64 s24)), (5, (.int .i64 k26))]) ∧ Chg [] w w25 ∧ Own (Nw w []) M w25 ([]) ∧ (RT.rs (RT.pr (RT.rs (RT.int .i64)) (RT.pr (RT.int .i64) (RT.rs (RT.rs (RT.int .i64)))))).val M w25 (.slice pa0 pn0 pc0) a_ ([])) (J := fun s24 a w25 => ∃ (σ : Nat → Value), a = fr 42 (ovl σ [(1, (.int .i64 s24))]) ∧ Chg [] w w25 ∧ Own (Nw w []) M w25 ([]) ∧ (RT.rs (RT.pr (RT.rs (RT.int .i64)) (RT.pr (RT.int .i64) (RT.rs (RT.rs (RT.int .i64)))))).val M w25 (.slice pa0 pn0 pc0) a_ ([])) (K := (k_laws_heldConstraintS M w)) ?_ ?_ 0 k o28 _ _ ?_ hl29 ?_
  · rintro k26 s24 a w25 ⟨σ, rfl, hC, hO, h0⟩ hlt
    refine c_seq ?_
    refine c_seq ?_
    refine c_region ?_
    refine pl_val (.int .i64 k26) (y_move rfl) ?_
    refine pl_val (.slice pa0 pn0 pc0) (y_move rfl) ?_
    refine pl_val (.int .i64 (a_.length : Int)) (y_len' Sl47 (rs_len h0) rfl) ?_
    refine pl_val (.bool (decide (k26 < (a_.length : Int)))) (y_lss rfl rfl) ?_
    refine c_nil ?_
    refine c_condF (congrArg Value.bool (decide_eq_false hlt)) ?_
    refine wp_exit ?_
    exact ⟨rfl, _, fr_ovl 42 ⟨rfl, trivial⟩, hC, hO, h0⟩
  · rintro k26 s24 o28 a w25 ⟨σ, rfl, hC, hO, h0⟩ hlt hw hs
    refine c_seq ?_
    refine c_seq ?_
    refine c_region ?_
    refine pl_val (.int .i64 k26) (y_move rfl) ?_
    refine pl_val (.slice pa0 pn0 pc0) (y_move rfl) ?_
    refine pl_val (.int .i64 (a_.length : Int)) (y_len' Sl47 (rs_len h0) rfl) ?_
    refine pl_val (.bool (decide (k26 < (a_.length : Int)))) (y_lss rfl rfl) ?_
    refine c_nil ?_
    refine c_condT (congrArg Value.bool (decide_eq_true hlt)) ?_
    refine wp_skip ?_
    refine c_seq ?_
    refine wp_block ?_
    refine c_seq ?_
    refine c_region ?_
    refine pl_val (.slice pa0 pn0 pc0) (y_move rfl) ?_
    refine pl_val (.int .i64 k26) (y_move rfl) ?_
    obtain ⟨x30, hx30, hs⟩ := bind_some hs
    obtain ⟨b31, o31, hp31, ha31⟩ := rs_idx Sl47 Sz108 h0 hx30
    refine pl_val (.pointer (some ⟨b31, o31, none⟩)) (hp31 _ _ _ _ _ _ _ _ _ rfl rfl) ?_
    obtain ⟨hq32, _⟩ := pr_at ha31
    refine pl_val (.pointer (some ⟨b31, o31 + 0, none⟩)) (y_faddr rfl Fa108x0) ?_
    obtain ⟨v33, hl33, hv33⟩ := at_load Ag22 Sz22 (fun _ => rfl) hq32
    obtain ⟨a33, n33, c33, rfl⟩ := rs_sl hv33
    refine pl_val (.slice a33 n33 c33) (y_load rfl (hl33 _ (Chg.refl _ _))) ?_
    refine pl_val (.int .i64 s24) (y_move rfl) ?_
    obtain ⟨r36, hr36, hs⟩ := bind_some hs
    refine pl_call Bd20 rfl (c_laws_heldIntS (M := M) x30.1 s24 hv33 hO.fut hr36) ?_
    rintro _ w35 ⟨rfl, hC35⟩
    have h0 := h0.ext hC35
    have hv33 := hv33.ext hC35
    have hC := hC.ext hC35
    have hO := hO.ext hC35
    refine pl_val (.int .i64 r36) (y_assign rfl) ?_
    refine c_nil ?_
    refine c_seq ?_
    refine c_seq ?_
    refine c_region ?_
    refine pl_val (.int .i64 r36) (y_move rfl) ?_
    refine pl_val (.bool (decide (r36 < 0))) (y_lss rfl rfl) ?_
    refine c_nil ?_
    rcases bif_some hs with ⟨hc37, hs⟩ | ⟨hc37, hs⟩
    · skip
      refine c_condT (congrArg Value.bool hc37) ?_
      refine c_seq ?_
      refine c_region ?_
      refine pl_val (.int .i64 (-1)) (y_assign rfl) ?_
      refine c_nil ?_
      refine wp_ret ?_
      cases hs
      exact ⟨_, fr_ovl 42 ⟨rfl, trivial⟩, hC⟩
    · skip
      refine c_condF (congrArg Value.bool hc37) ?_
      refine wp_skip ?_
      refine c_seq ?_
      refine c_seq ?_
      refine c_region ?_
      refine pl_val (.slice pa0 pn0 pc0) (y_move rfl) ?_
      refine pl_val (.int .i64 k26) (y_move rfl) ?_
      obtain ⟨x38, hx38, hs⟩ := bind_some hs
      obtain ⟨b39, o39, hp39, ha39⟩ := rs_idx Sl47 Sz108 h0 hx38
      refine pl_val (.pointer (some ⟨b39, o39, none⟩)) (hp39 _ _ _ _ _ _ _ _ _ rfl rfl) ?_
      obtain ⟨_, hq40x0⟩ := pr_at ha39
      refine pl_val (.pointer (some ⟨b39, o39 + 1, none⟩)) (y_faddr rfl Fa108x1) ?_
      obtain ⟨hq41, _⟩ := pr_at hq40x0
      refine pl_val (.pointer (some ⟨b39, (o39 + 1) + 0, none⟩)) (y_faddr rfl Fa31x0) ?_
      refine pl_val (.int .i64 x38.2.1) (y_load rfl ((at_load_int Ag3 Sz3 hq41) _ (Chg.refl _ _))) ?_
      refine pl_val (.int .i64 r36) (y_move rfl) ?_
      refine pl_val (.bool (x38.2.1 != r36)) (y_neq rfl rfl) ?_
      refine c_nil ?_
      rcases bif_some hs with ⟨hc42, hs⟩ | ⟨hc42, hs⟩
      · skip
        refine c_condT (congrArg Value.bool hc42) ?_
        refine c_seq ?_
        refine c_region ?_
        refine pl_val (.int .i64 (-1)) (y_assign rfl) ?_
        refine c_nil ?_
        refine wp_ret ?_
        cases hs
        exact ⟨_, fr_ovl 42 ⟨rfl, trivial⟩, hC⟩
      · skip
        refine c_condF (congrArg Value.bool hc42) ?_
        refine wp_skip ?_
        refine c_seq ?_
        refine c_region ?_
        refine pl_val (.int .i64 r36) (y_move rfl) ?_
        refine pl_val (.int .i64 (w64 (r36 + 1))) (y_add rfl rfl) ?_
        refine pl_val (.int .i64 (w64 (r36 + 1))) (y_assign rfl) ?_
        refine c_nil ?_
        refine c_seq ?_
        refine c_region ?_
        refine pl_val (.slice pa0 pn0 pc0) (y_move rfl) ?_
        refine pl_val (.int .i64 k26) (y_move rfl) ?_
        obtain ⟨x43, hx43, hs⟩ := bind_some hs
        obtain ⟨b44, o44, hp44, ha44⟩ := rs_idx Sl47 Sz108 h0 hx43
        refine pl_val (.pointer (some ⟨b44, o44, none⟩)) (hp44 _ _ _ _ _ _ _ _ _ rfl rfl) ?_
        obtain ⟨_, hq45x0⟩ := pr_at ha44
        refine pl_val (.pointer (some ⟨b44, o44 + 1, none⟩)) (y_faddr rfl Fa108x1) ?_
        obtain ⟨_, hq46x0⟩ := pr_at hq45x0
        refine pl_val (.pointer (some ⟨b44, (o44 + 1) + 1, none⟩)) (y_faddr rfl Fa31x1) ?_
        obtain ⟨v47, hl47, hv47⟩ := at_load Ag29 Sz29 (fun _ => rfl) hq46x0
        obtain ⟨a47, n47, c47, rfl⟩ := rs_sl hv47
        refine pl_val (.slice a47 n47 c47) (y_load rfl (hl47 _ (Chg.refl _ _))) ?_
        refine pl_val (.int .i64 (w64 (r36 + 1))) (y_move rfl) ?_
        obtain ⟨r50, hr50, hs⟩ := bind_some hs
        refine pl_call Bd83 rfl (c_laws_heldIntSS (M := M) x43.2.2 (w64 (r36 + 1)) hv47 hO.fut hr50) ?_
        rintro _ w49 ⟨rfl, hC49⟩
        have h0 := h0.ext hC49
        have hv47 := hv47.ext hC49
        have hC := hC.ext hC49
        have hO := hO.ext hC49
        refine pl_val (.int .i64 r50) (y_assign rfl) ?_
        refine c_nil ?_
        refine c_seq ?_
        refine c_region ?_
        refine pl_val (.int .i64 r50) (y_move rfl) ?_
        refine pl_val (.bool (decide (r50 < 0))) (y_lss rfl rfl) ?_
        refine c_nil ?_
        rcases bif_some hs with ⟨hc51, hs⟩ | ⟨hc51, hs⟩
        · skip
          refine c_condT (congrArg Value.bool hc51) ?_
          refine c_seq ?_
          refine c_region ?_
          refine pl_val (.int .i64 (-1)) (y_assign rfl) ?_
          refine c_nil ?_
          refine wp_ret ?_
          cases hs
          exact ⟨_, fr_ovl 42 ⟨rfl, trivial⟩, hC⟩
        · skip
          refine c_condF (congrArg Value.bool hc51) ?_
          refine wp_skip ?_
          refine c_region ?_
          refine pl_val (.int .i64 k26) (y_move rfl) ?_
          refine pl_val (.int .i64 (w64 (k26 + 1))) (y_add rfl rfl) ?_
          refine pl_val (.int .i64 (w64 (k26 + 1))) (y_assign rfl) ?_
          refine c_nil ?_
          cases hs
          exact ⟨_, fr_ovl 42 ⟨rfl, rfl, congrArg (Value.int .i64) hw, trivial⟩, hC, hO, h0⟩
  · skip
    exact ⟨_, fr_ovl 42 ⟨rfl, rfl, rfl, trivial⟩, hC, hO, h0⟩
  · cases o28 with
    | nx _ => exact True.intro
    | rt r_ =>
      have hs := after_rt hs
      intro a1 w1 hK
      cases hs
      exact hK
    | br s24 =>
      have hs := after_br hs
      rintro a1 w25 ⟨σ, rfl, hC, hO, h0⟩
      refine c_seq ?_
      refine c_region ?_
      refine pl_val (.int .i64 s24) (y_move rfl) ?_
      refine pl_val (.int .i64 s24) (y_assign rfl) ?_
      refine c_nil ?_
      refine wp_ret ?_
      cases hs
      exact ⟨_, fr_ovl 42 ⟨rfl, trivial⟩, hC⟩

theorem Bd136 : Bodied Try.prog 136 := bodied Try.func136 (by kernel_rfl) rfl

def k_laws_heldNetwork (M : Nat → Prop) (w0 : World) (r : Int) (a : Act) (w : World) : Prop :=
  ∃ (σ : Nat → Value) , a = fr 12 (ovl σ [(4, (.int .i64 r))]) ∧ Chg [] w0 w
def s_laws_heldNetwork (a_ : Int × Int × (List ((List Int) × (Int × (List (List Int)))))) (k : Int) : Option (Int) :=
  (s_laws_heldConstraintS a_.2.2 k).bind fun r4 =>
  (bif (decide (r4 < 0)) then some (-1) else some r4)
set_option maxHeartbeats 4000000 in
theorem c_laws_heldNetwork {M : Nat → Prop} {w : World} {pa0 : Option Addr} {pn0 pc0 : Nat} (a_ : Int × Int × (List ((List Int) × (Int × (List (List Int)))))) (k : Int) (h0 : (RT.rs (RT.pr (RT.rs (RT.int .i64)) (RT.pr (RT.int .i64) (RT.rs (RT.rs (RT.int .i64)))))).val M w (.slice pa0 pn0 pc0) a_.2.2 ([])) (hM : ∀ g, w.heap.size ≤ g → M g) {r : Int} (hs : s_laws_heldNetwork a_ k = some r) :
    Gives Try.prog 70 [(.agg #[(.int .i64 a_.1), (.int .i64 a_.2.1), (.slice pa0 pn0 pc0)]), (.int .i64 k)] w (fun v w' => v = (.int .i64 r) ∧ Chg [] w w') := by
  refine calls_fr Try.func70 rfl Try.ntmps70 (Nat.le_of_ble_eq_true rfl) ?_
  have hO := Own.start (N := Nw w []) hM Nw.fut
  have hC := Chg.refl [] w
  unfold s_laws_heldNetwork at hs
  refine wp_mono (Q := KPost (k_laws_heldNetwork M w r)) ?_ (fun e a w1 h => ?_)
  rotate_left
  · cases e
    case ret =>
      obtain ⟨σ, rfl, hrest⟩ := h
      exact ret1x Try.results70 (res_tmp rfl) ⟨rfl, hrest⟩
    all_goals exact (h : False).elim
  refine c_seq ?_
  refine c_region ?_
  obtain ⟨w2, g2, ew2, eg2, hC2, hb2⟩ := new_block w [(.int .i64 a_.1), (.int .i64 a_.2.1), (.slice pa0 pn0 pc0)] 49
  refine pl_val (w' := w2) (.pointer (some ⟨g2, 0, none⟩)) (y_box rfl (by rw [ew2, eg2]; kernel_rfl)) ?_
  have h0 := h0.ext hC2
  have hC := hC.ext hC2
  have hO := hO.new (X' := [g2]) hC2 (fun q hq => by rw [List.mem_singleton.1 hq, eg2]; exact Nat.le_refl _) (List.nodup_cons.2 ⟨(fun h => nomatch h), List.nodup_nil⟩) (fun q hq => by rw [List.mem_singleton.1 hq]; exact hb2.lt)
  refine pl_val (.int .i64 0) (y_assign rfl) ?_
  refine c_nil ?_
  refine c_seq ?_
  refine c_region ?_
  refine pl_val (.pointer (some ⟨g2, 2, none⟩)) (y_faddr rfl Fa49x2) ?_
  refine pl_val (.slice pa0 pn0 pc0) (y_load rfl ((box_load Ag47 Sz47 hb2 [(.int .i64 a_.1), (.int .i64 a_.2.1)] [(.slice pa0 pn0 pc0)] [] rfl rfl (fun _ => rfl)) _ (Chg.refl _ _))) ?_
  refine pl_val (.int .i64 k) (y_move rfl) ?_
  obtain ⟨r4, hr4, hs⟩ := bind_some hs
  refine pl_call Bd136 rfl (c_laws_heldConstraintS (M := M) a_.2.2 k h0 hO.fut hr4) ?_
  rintro _ w3 ⟨rfl, hC3⟩
  have h0 := h0.ext hC3
  have hb2 := hb2.chg hC3 (fun h => nomatch h)
  have hC := hC.ext hC3
  have hO := hO.ext hC3
  refine pl_val (.int .i64 r4) (y_assign rfl) ?_
  refine c_nil ?_
  refine c_seq ?_
  refine c_seq ?_
  refine c_region ?_
  refine pl_val (.int .i64 r4) (y_move rfl) ?_
  refine pl_val (.bool (decide (r4 < 0))) (y_lss rfl rfl) ?_
  refine c_nil ?_
  rcases bif_some hs with ⟨hc5, hs⟩ | ⟨hc5, hs⟩
  · skip
    refine c_condT (congrArg Value.bool hc5) ?_
    refine c_seq ?_
    refine c_region ?_
    refine pl_val (.int .i64 (-1)) (y_assign rfl) ?_
    refine c_nil ?_
    refine wp_ret ?_
    cases hs
    exact ⟨_, fr_ovl 12 ⟨rfl, trivial⟩, hC⟩
  · skip
    refine c_condF (congrArg Value.bool hc5) ?_
    refine wp_skip ?_
    refine c_seq ?_
    refine c_region ?_
    refine pl_val (.int .i64 r4) (y_move rfl) ?_
    refine pl_val (.int .i64 r4) (y_assign rfl) ?_
    refine c_nil ?_
    refine wp_ret ?_
    cases hs
    exact ⟨_, fr_ovl 12 ⟨rfl, trivial⟩, hC⟩

theorem Ag44 : AggT Try.prog 44 true := fun _ => by kernel_rfl

theorem Sz44 : SzT Try.prog 44 3 := ⟨_, rfl, rfl⟩

theorem Bd30 : Bodied Try.prog 30 := bodied Try.func30 (by kernel_rfl) rfl

theorem Bd32 : Bodied Try.prog 32 := bodied Try.func32 (by kernel_rfl) rfl

theorem Bd71 : Bodied Try.prog 71 := bodied Try.func71 (by kernel_rfl) rfl

theorem Bd72 : Bodied Try.prog 72 := bodied Try.func72 (by kernel_rfl) rfl

theorem Bd34 : Bodied Try.prog 34 := bodied Try.func34 (by kernel_rfl) rfl

theorem Bd69 : Bodied Try.prog 69 := bodied Try.func69 (by kernel_rfl) rfl

theorem Bd70 : Bodied Try.prog 70 := bodied Try.func70 (by kernel_rfl) rfl

end Go.Proofs
