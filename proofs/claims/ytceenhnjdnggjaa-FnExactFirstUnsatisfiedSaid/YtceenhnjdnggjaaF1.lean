/- What functions of the program compute, as plain functions, and that a call gives just that. Conditions: those named in each theorem. -/
import Derived.Test.YtceenhnjdnggjaaF0
set_option linter.unusedVariables false
namespace Go.Proofs
open Go.G Go.RowKit
set_option maxRecDepth 100000

def k_spec_l8Find (M : Nat → Prop) (w0 : World) (r : Int × Bool) (a : Act) (w : World) : Prop :=
  ∃ (σ : Nat → Value) , a = fr 40 (ovl σ [(4, (.int .i64 r.1)), (5, (.bool r.2))]) ∧ Chg [] w0 w
def s_spec_l8Find (list : List (List Int)) (t : List Int) : Option (Int × Bool) :=
  (iter (S := Int × Int) (R := Int × Bool) (fun s11 =>
  (bif (decide (s11.1 < s11.2)) then (idx list (w64 (Int.tdiv (w64 (s11.1 + s11.2)) 2))).bind fun x18 =>
  (s_spec_l3Less x18 t).bind fun r23 =>
  (bif r23 then some (.nx (w64 ((w64 (Int.tdiv (w64 (s11.1 + s11.2)) 2)) + 1), s11.2)) else some (.nx (s11.1, w64 (Int.tdiv (w64 (s11.1 + s11.2)) 2)))) else some (.br (s11.1, s11.2)))) FU (0, (list.length : Int))).bind fun o15 => after o15 (fun r_ => some r_) (fun s11 =>
  (bif (decide (s11.1 < (list.length : Int))) then (idx list s11.1).bind fun x26 =>
  (s_spec_l1Same x26 t).bind fun r31 =>
  some (s11.1, r31) else some (s11.1, false)))
set_option maxHeartbeats 4000000 in
theorem c_spec_l8Find {M : Nat → Prop} {w : World} {pa0 : Option Addr} {pn0 pc0 : Nat} {pa1 : Option Addr} {pn1 pc1 : Nat} (list : List (List Int)) (t : List Int) (h0 : (RT.rs (RT.rs (RT.int .i64))).val M w (.slice pa0 pn0 pc0) list ([])) (h1 : (RT.rs (RT.int .i64)).val M w (.slice pa1 pn1 pc1) t ([])) (hM : ∀ g, w.heap.size ≤ g → M g) {r : Int × Bool} (hs : s_spec_l8Find list t = some r) :
    Gives Try.prog 144 [(.slice pa0 pn0 pc0), (.slice pa1 pn1 pc1)] w (fun v w' => v = (.tuple #[(.int .i64 r.1), (.bool r.2)]) ∧ Chg [] w w') := by
  refine calls_fr Try.func144 rfl Try.ntmps144 (Nat.le_of_ble_eq_true rfl) ?_
  have hO := Own.start (N := Nw w []) hM Nw.fut
  have hC := Chg.refl [] w
  unfold s_spec_l8Find at hs
  refine wp_mono (Q := KPost (k_spec_l8Find M w r)) ?_ (fun e a w1 h => ?_)
  rotate_left
  · cases e
    case ret =>
      obtain ⟨σ, rfl, hrest⟩ := h
      exact ret2x Try.results144 (res_tmp rfl) (res_tmp rfl) ⟨rfl, hrest⟩
    all_goals exact (h : False).elim
  refine c_seq ?_
  refine c_region ?_
  refine pl_val (.int .i64 0) (y_assign rfl) ?_
  refine pl_val (.bool false) (y_assign rfl) ?_
  refine c_nil ?_
  refine c_seq ?_
  refine c_region ?_
  refine pl_val (.slice pa0 pn0 pc0) (y_move rfl) ?_
  refine pl_val (.int .i64 (list.length : Int)) (y_len' Sl29 (rs_len h0) rfl) ?_
  refine pl_val (.int .i64 0) (y_assign rfl) ?_
  refine pl_val (.int .i64 (list.length : Int)) (y_assign rfl) ?_
  refine c_nil ?_
  refine c_seq ?_
  obtain ⟨o15, hl16, hs⟩ := bind_some hs
  refine wp_block ?_
  refine wp_iter (id := 0) (I := fun s11 a w12 => ∃ (σ : Nat → Value), a = fr 40 (ovl σ [(0, (.slice pa0 pn0 pc0)), (1, (.slice pa1 pn1 pc1)), (6, (.int .i64 s11.1)), (7, (.int .i64 s11.2))]) ∧ Chg [] w w12 ∧ Own (Nw w []) M w12 ([]) ∧ (RT.rs (RT.rs (RT.int .i64))).val M w12 (.slice pa0 pn0 pc0) list ([]) ∧ (RT.rs (RT.int .i64)).val M w12 (.slice pa1 pn1 pc1) t ([])) (J := fun s11 a w12 => ∃ (σ : Nat → Value), a = fr 40 (ovl σ [(0, (.slice pa0 pn0 pc0)), (1, (.slice pa1 pn1 pc1)), (6, (.int .i64 s11.1))]) ∧ Chg [] w w12 ∧ Own (Nw w []) M w12 ([]) ∧ (RT.rs (RT.rs (RT.int .i64))).val M w12 (.slice pa0 pn0 pc0) list ([]) ∧ (RT.rs (RT.int .i64)).val M w12 (.slice pa1 pn1 pc1) t ([])) (K := (k_spec_l8Find M w)) ?_ FU (0, (list.length : Int)) o15 _ _ ?_ hl16 ?_
  · rintro s11 o15 a w12 ⟨σ, rfl, hC, hO, h0, h1⟩ hs
    refine c_seq ?_
    refine c_seq ?_
    refine c_region ?_
    refine pl_val (.int .i64 s11.1) (y_move rfl) ?_
    refine pl_val (.int .i64 s11.2) (y_move rfl) ?_
    refine pl_val (.bool (decide (s11.1 < s11.2))) (y_lss rfl rfl) ?_
    refine c_nil ?_
    rcases bif_some hs with ⟨hc17, hs⟩ | ⟨hc17, hs⟩
    · skip
      refine c_condT (congrArg Value.bool hc17) ?_
      refine wp_skip ?_
      refine wp_block ?_
      refine c_seq ?_
      refine c_region ?_
      refine pl_val (.int .i64 s11.1) (y_move rfl) ?_
      refine pl_val (.int .i64 s11.2) (y_move rfl) ?_
      refine pl_val (.int .i64 (w64 (s11.1 + s11.2))) (y_add rfl rfl) ?_
      refine pl_val (.int .i64 (w64 (Int.tdiv (w64 (s11.1 + s11.2)) 2))) (y_quo rfl rfl (by decide)) ?_
      refine pl_val (.int .i64 (w64 (Int.tdiv (w64 (s11.1 + s11.2)) 2))) (y_assign rfl) ?_
      refine c_nil ?_
      refine c_seq ?_
      refine c_region ?_
      refine pl_val (.slice pa0 pn0 pc0) (y_move rfl) ?_
      refine pl_val (.int .i64 (w64 (Int.tdiv (w64 (s11.1 + s11.2)) 2))) (y_move rfl) ?_
      obtain ⟨x18, hx18, hs⟩ := bind_some hs
      obtain ⟨b19, o19, hp19, ha19⟩ := rs_idx Sl29 Sz22 h0 hx18
      refine pl_val (.pointer (some ⟨b19, o19, none⟩)) (hp19 _ _ _ _ _ _ _ _ _ rfl rfl) ?_
      obtain ⟨v20, hl20, hv20⟩ := at_load Ag22 Sz22 (fun _ => rfl) ha19
      obtain ⟨a20, n20, c20, rfl⟩ := rs_sl hv20
      refine pl_val (.slice a20 n20 c20) (y_load rfl (hl20 _ (Chg.refl _ _))) ?_
      refine pl_val (.slice pa1 pn1 pc1) (y_move rfl) ?_
      obtain ⟨r23, hr23, hs⟩ := bind_some hs
      refine pl_call Bd177 rfl (c_spec_l3Less (M := M) x18 t hv20 h1 hO.fut hr23) ?_
      rintro _ w22 ⟨rfl, hC22⟩
      have h0 := h0.ext hC22
      have h1 := h1.ext hC22
      have hv20 := hv20.ext hC22
      have hC := hC.ext hC22
      have hO := hO.ext hC22
      refine c_nil ?_
      rcases bif_some hs with ⟨hc24, hs⟩ | ⟨hc24, hs⟩
      · skip
        refine c_condT (congrArg Value.bool hc24) ?_
        refine c_region ?_
        refine pl_val (.int .i64 (w64 (Int.tdiv (w64 (s11.1 + s11.2)) 2))) (y_move rfl) ?_
        refine pl_val (.int .i64 (w64 ((w64 (Int.tdiv (w64 (s11.1 + s11.2)) 2)) + 1))) (y_add rfl rfl) ?_
        refine pl_val (.int .i64 (w64 ((w64 (Int.tdiv (w64 (s11.1 + s11.2)) 2)) + 1))) (y_assign rfl) ?_
        refine c_nil ?_
        cases hs
        exact ⟨_, fr_ovl 40 ⟨rfl, rfl, rfl, rfl, trivial⟩, hC, hO, h0, h1⟩
      · skip
        refine c_condF (congrArg Value.bool hc24) ?_
        refine c_region ?_
        refine pl_val (.int .i64 (w64 (Int.tdiv (w64 (s11.1 + s11.2)) 2))) (y_move rfl) ?_
        refine pl_val (.int .i64 (w64 (Int.tdiv (w64 (s11.1 + s11.2)) 2))) (y_assign rfl) ?_
        refine c_nil ?_
        cases hs
        exact ⟨_, fr_ovl 40 ⟨rfl, rfl, rfl, rfl, trivial⟩, hC, hO, h0, h1⟩
    · skip
      refine c_condF (congrArg Value.bool hc17) ?_
      refine wp_exit ?_
      cases hs
      exact ⟨rfl, _, fr_ovl 40 ⟨rfl, rfl, rfl, trivial⟩, hC, hO, h0, h1⟩
  · skip
    exact ⟨_, fr_ovl 40 ⟨rfl, rfl, rfl, rfl, trivial⟩, hC, hO, h0, h1⟩
  · cases o15 with
    | nx _ => exact True.intro
    | rt r_ =>
      have hs := after_rt hs
      intro a1 w1 hK
      cases hs
      exact hK
    | br s11 =>
      have hs := after_br hs
      rintro a1 w12 ⟨σ, rfl, hC, hO, h0, h1⟩
      refine c_seq ?_
      refine c_region ?_
      refine pl_val (.int .i64 s11.1) (y_move rfl) ?_
      refine pl_val (.int .i64 s11.1) (y_move rfl) ?_
      refine pl_val (.slice pa0 pn0 pc0) (y_move rfl) ?_
      refine pl_val (.int .i64 (list.length : Int)) (y_len' Sl29 (rs_len h0) rfl) ?_
      refine pl_val (.bool (decide (s11.1 < (list.length : Int)))) (y_lss rfl rfl) ?_
      refine pl_val (.bool (decide (s11.1 < (list.length : Int)))) (y_move rfl) ?_
      rcases bif_some hs with ⟨hc25, hs⟩ | ⟨hc25, hs⟩
      · skip
        refine pl_yes (.slice pa0 pn0 pc0) (tg := 32) (by kernel_rfl) (congrArg Value.bool hc25) (y_move rfl) ?_
        refine pl_yes (.int .i64 s11.1) (tg := 32) (by kernel_rfl) (congrArg Value.bool hc25) (y_move rfl) ?_
        obtain ⟨x26, hx26, hs⟩ := bind_some hs
        obtain ⟨b27, o27, hp27, ha27⟩ := rs_idx Sl29 Sz22 h0 hx26
        refine pl_yes (.pointer (some ⟨b27, o27, none⟩)) (tg := 32) (by kernel_rfl) (congrArg Value.bool hc25) (hp27 _ _ _ _ _ _ _ _ _ rfl rfl) ?_
        obtain ⟨v28, hl28, hv28⟩ := at_load Ag22 Sz22 (fun _ => rfl) ha27
        obtain ⟨a28, n28, c28, rfl⟩ := rs_sl hv28
        refine pl_yes (.slice a28 n28 c28) (tg := 32) (by kernel_rfl) (congrArg Value.bool hc25) (y_load rfl (hl28 _ (Chg.refl _ _))) ?_
        refine pl_yes (.slice pa1 pn1 pc1) (tg := 32) (by kernel_rfl) (congrArg Value.bool hc25) (y_move rfl) ?_
        obtain ⟨r31, hr31, hs⟩ := bind_some hs
        refine pl_cally (tg := 32) (by kernel_rfl) (congrArg Value.bool hc25) Bd130 rfl (c_spec_l1Same (M := M) x26 t hv28 h1 hO.fut hr31) ?_
        rintro _ w30 ⟨rfl, hC30⟩
        have h0 := h0.ext hC30
        have h1 := h1.ext hC30
        have hv28 := hv28.ext hC30
        have hC := hC.ext hC30
        have hO := hO.ext hC30
        refine pl_val (.bool r31) (y_pick_t (congrArg Value.bool hc25) rfl) ?_
        refine pl_val (.int .i64 s11.1) (y_assign rfl) ?_
        refine pl_val (.bool r31) (y_assign rfl) ?_
        refine c_nil ?_
        refine wp_ret ?_
        cases hs
        exact ⟨_, fr_ovl 40 ⟨rfl, rfl, trivial⟩, hC⟩
      · skip
        refine pl_not (tg := 32) (by kernel_rfl) (congrArg Value.bool hc25) ?_
        refine pl_not (tg := 32) (by kernel_rfl) (congrArg Value.bool hc25) ?_
        refine pl_not (tg := 32) (by kernel_rfl) (congrArg Value.bool hc25) ?_
        refine pl_not (tg := 32) (by kernel_rfl) (congrArg Value.bool hc25) ?_
        refine pl_not (tg := 32) (by kernel_rfl) (congrArg Value.bool hc25) ?_
        refine pl_not (tg := 32) (by kernel_rfl) (congrArg Value.bool hc25) ?_
        refine pl_val (.bool false) (y_pick_f (congrArg Value.bool hc25) rfl) ?_
        refine pl_val (.int .i64 s11.1) (y_assign rfl) ?_
        refine pl_val (.bool false) (y_assign rfl) ?_
        refine c_nil ?_
        refine wp_ret ?_
        cases hs
        exact ⟨_, fr_ovl 40 ⟨rfl, rfl, trivial⟩, hC⟩

theorem Bd144 : Bodied Try.prog 144 := bodied Try.func144 (by kernel_rfl) rfl

def k_spec_l13Has (M : Nat → Prop) (w0 : World) (r : Bool) (a : Act) (w : World) : Prop :=
  ∃ (σ : Nat → Value) , a = fr 20 (ovl σ [(4, (.bool r))]) ∧ Chg [] w0 w
def s_spec_l13Has (r_ : Int × (List (List Int))) (t : List Int) : Option (Bool) :=
  (bif ((t.length : Int) != r_.1) then some false else (s_spec_l8Find r_.2 t).bind fun r6 =>
  some r6.2)
set_option maxHeartbeats 4000000 in
theorem c_spec_l13Has {M : Nat → Prop} {w : World} {pa0 : Option Addr} {pn0 pc0 : Nat} {pa1 : Option Addr} {pn1 pc1 : Nat} (r_ : Int × (List (List Int))) (t : List Int) (h0 : (RT.rs (RT.rs (RT.int .i64))).val M w (.slice pa0 pn0 pc0) r_.2 ([])) (h1 : (RT.rs (RT.int .i64)).val M w (.slice pa1 pn1 pc1) t ([])) (hM : ∀ g, w.heap.size ≤ g → M g) {r : Bool} (hs : s_spec_l13Has r_ t = some r) :
    Gives Try.prog 77 [(.agg #[(.int .i64 r_.1), (.slice pa0 pn0 pc0)]), (.slice pa1 pn1 pc1)] w (fun v w' => v = (.bool r) ∧ Chg [] w w') := by
  refine calls_fr Try.func77 rfl Try.ntmps77 (Nat.le_of_ble_eq_true rfl) ?_
  have hO := Own.start (N := Nw w []) hM Nw.fut
  have hC := Chg.refl [] w
  unfold s_spec_l13Has at hs
  refine wp_mono (Q := KPost (k_spec_l13Has M w r)) ?_ (fun e a w1 h => ?_)
  rotate_left
  · cases e
    case ret =>
      obtain ⟨σ, rfl, hrest⟩ := h
      exact ret1x Try.results77 (res_tmp rfl) ⟨rfl, hrest⟩
    all_goals exact (h : False).elim
  refine c_seq ?_
  refine c_region ?_
  obtain ⟨w3, g3, ew3, eg3, hC3, hb3⟩ := new_block w [(.int .i64 r_.1), (.slice pa0 pn0 pc0)] 31
  refine pl_val (w' := w3) (.pointer (some ⟨g3, 0, none⟩)) (y_box rfl (by rw [ew3, eg3]; kernel_rfl)) ?_
  have h0 := h0.ext hC3
  have h1 := h1.ext hC3
  have hC := hC.ext hC3
  have hO := hO.new (X' := [g3]) hC3 (fun q hq => by rw [List.mem_singleton.1 hq, eg3]; exact Nat.le_refl _) (List.nodup_cons.2 ⟨(fun h => nomatch h), List.nodup_nil⟩) (fun q hq => by rw [List.mem_singleton.1 hq]; exact hb3.lt)
  refine pl_val (.bool false) (y_assign rfl) ?_
  refine c_nil ?_
  refine c_seq ?_
  refine c_seq ?_
  refine c_region ?_
  refine pl_val (.slice pa1 pn1 pc1) (y_move rfl) ?_
  refine pl_val (.int .i64 (t.length : Int)) (y_len' Sl22 (rs_len h1) rfl) ?_
  refine pl_val (.pointer (some ⟨g3, 0, none⟩)) (y_faddr rfl Fa31x0) ?_
  refine pl_val (.int .i64 r_.1) (y_load rfl ((box_load Ag3 Sz3 hb3 [] [(.int .i64 r_.1)] [(.slice pa0 pn0 pc0)] rfl rfl (fun _ => rfl)) _ (Chg.refl _ _))) ?_
  refine pl_val (.bool ((t.length : Int) != r_.1)) (y_neq rfl rfl) ?_
  refine c_nil ?_
  rcases bif_some hs with ⟨hc4, hs⟩ | ⟨hc4, hs⟩
  · skip
    refine c_condT (congrArg Value.bool hc4) ?_
    refine c_seq ?_
    refine c_region ?_
    refine pl_val (.bool false) (y_assign rfl) ?_
    refine c_nil ?_
    refine wp_ret ?_
    cases hs
    exact ⟨_, fr_ovl 20 ⟨rfl, trivial⟩, hC⟩
  · skip
    refine c_condF (congrArg Value.bool hc4) ?_
    refine wp_skip ?_
    refine c_seq ?_
    refine c_region ?_
    refine pl_val (.pointer (some ⟨g3, 1, none⟩)) (y_faddr rfl Fa31x1) ?_
    refine pl_val (.slice pa0 pn0 pc0) (y_load rfl ((box_load Ag29 Sz29 hb3 [(.int .i64 r_.1)] [(.slice pa0 pn0 pc0)] [] rfl rfl (fun _ => rfl)) _ (Chg.refl _ _))) ?_
    refine pl_val (.slice pa1 pn1 pc1) (y_move rfl) ?_
    obtain ⟨r6, hr6, hs⟩ := bind_some hs
    refine pl_call Bd144 rfl (c_spec_l8Find (M := M) r_.2 t h0 h1 hO.fut hr6) ?_
    rintro _ w5 ⟨rfl, hC5⟩
    have h0 := h0.ext hC5
    have h1 := h1.ext hC5
    have hb3 := hb3.chg hC5 (fun h => nomatch h)
    have hC := hC.ext hC5
    have hO := hO.ext hC5
    refine pl_val (.tuple #[(.int .i64 r6.1), (.bool r6.2)]) (y_move rfl) ?_
    refine pl_val (.int .i64 r6.1) (y_extract rfl (by kernel_rfl)) ?_
    refine pl_val (.bool r6.2) (y_extract rfl (by kernel_rfl)) ?_
    refine pl_val (.int .i64 r6.1) (y_assign rfl) ?_
    refine pl_val (.bool r6.2) (y_assign rfl) ?_
    refine c_nil ?_
    refine c_seq ?_
    refine c_region ?_
    refine pl_val (.bool r6.2) (y_move rfl) ?_
    refine pl_val (.bool r6.2) (y_assign rfl) ?_
    refine c_nil ?_
    refine wp_ret ?_
    cases hs
    exact ⟨_, fr_ovl 20 ⟨rfl, trivial⟩, hC⟩

theorem Bd77 : Bodied Try.prog 77 := bodied Try.func77 (by kernel_rfl) rfl

def k_spec_l19Satisfies (M : Nat → Prop) (w0 : World) (r : Bool) (a : Act) (w : World) : Prop :=
  ∃ (σ : Nat → Value) , a = fr 30 (ovl σ [(4, (.bool r))]) ∧ Chg [] w0 w
def s_spec_l19Satisfies (c : (List Int) × (Int × (List (List Int)))) (values : List Int) : Option (Bool) :=
  (forC (S := (List Int)) (R := Bool) (fun k20 s18 =>
  (idx c.1 k20).bind fun x28 =>
  (idx values x28).bind fun x30 =>
  (app s18 ([x30])).bind fun y35 =>
  some (.nx y35)) 0 (c.1.length : Int) ([])).bind fun o22 => after o22 (fun r_ => some r_) (fun s18 =>
  (s_spec_l13Has (c.2.1, c.2.2) s18).bind fun r38 =>
  some r38)
set_option maxHeartbeats 4000000 in
theorem c_spec_l19Satisfies {M : Nat → Prop} {w : World} {pa0 : Option Addr} {pn0 pc0 : Nat} {pa1 : Option Addr} {pn1 pc1 : Nat} {pa2 : Option Addr} {pn2 pc2 : Nat} (c : (List Int) × (Int × (List (List Int)))) (values : List Int) (h0 : (RT.rs (RT.int .i64)).val M w (.slice pa0 pn0 pc0) c.1 ([])) (h1 : (RT.rs (RT.rs (RT.int .i64))).val M w (.slice pa1 pn1 pc1) c.2.2 ([])) (h2 : (RT.rs (RT.int .i64)).val M w (.slice pa2 pn2 pc2) values ([])) (hM : ∀ g, w.heap.size ≤ g → M g) {r : Bool} (hs : s_spec_l19Satisfies c values = some r) :
    Gives Try.prog 156 [(.agg #[(.slice pa0 pn0 pc0), (.int .i64 c.2.1), (.slice pa1 pn1 pc1)]), (.slice pa2 pn2 pc2)] w (fun v w' => v = (.bool r) ∧ Chg [] w w') := by
  refine calls_fr Try.func156 rfl Try.ntmps156 (Nat.le_of_ble_eq_true rfl) ?_
  have hO := Own.start (N := Nw w []) hM Nw.fut
  have hC := Chg.refl [] w
  unfold s_spec_l19Satisfies at hs
  refine wp_mono (Q := KPost (k_spec_l19Satisfies M w r)) ?_ (fun e a w1 h => ?_)
  rotate_left
  · cases e
    case ret =>
      obtain ⟨σ, rfl, hrest⟩ := h
      exact ret1x Try.results156 (res_tmp rfl) ⟨rfl, hrest⟩
    all_goals exact (h : False).elim
  refine c_seq ?_
  refine c_region ?_
  obtain ⟨w4, g4, ew4, eg4, hC4, hb4⟩ := new_block w [(.slice pa0 pn0 pc0), (.int .i64 c.2.1), (.slice pa1 pn1 pc1)] 108
  refine pl_val (w' := w4) (.pointer (some ⟨g4, 0, none⟩)) (y_box rfl (by rw [ew4, eg4]; kernel_rfl)) ?_
  have h0 := h0.ext hC4
  have h1 := h1.ext hC4
  have h2 := h2.ext hC4
  have hC := hC.ext hC4
  have hO := hO.new (X' := [g4]) hC4 (fun q hq => by rw [List.mem_singleton.1 hq, eg4]; exact Nat.le_refl _) (List.nodup_cons.2 ⟨(fun h => nomatch h), List.nodup_nil⟩) (fun q hq => by rw [List.mem_singleton.1 hq]; exact hb4.lt)
  refine pl_val (.bool false) (y_assign rfl) ?_
  refine c_nil ?_
  refine c_seq ?_
  refine c_region ?_
  obtain ⟨w5, g5, ew5, eg5, hC5, hb5⟩ := new_block w4 [] 3
  refine pl_val (w' := w5) (.slice (some ⟨g5, 0, none⟩) 0 0) (y_bslice rfl (by rw [ew5, eg5]; kernel_rfl)) ?_
  have h0 := h0.ext hC5
  have h1 := h1.ext hC5
  have h2 := h2.ext hC5
  have hb4 := hb4.chg hC5 (fun h => nomatch h)
  have hC := hC.ext hC5
  have hO := hO.new (X' := [g5]) hC5 (fun q hq => by rw [List.mem_singleton.1 hq, eg5]; exact Nat.le_refl _) (List.nodup_cons.2 ⟨(fun h => nomatch h), List.nodup_nil⟩) (fun q hq => by rw [List.mem_singleton.1 hq]; exact hb5.lt)
  have hv5 := os_of_box (r := (RT.int .i64)) (M := M) (css := []) (fps := []) (xs := ([] : List Int)) hb5 trivial (Nat.zero_le _) (List.nodup_cons.2 ⟨(fun h => nomatch h), List.nodup_nil⟩)
  have hv5 : (RT.os 3 (RT.int .i64)).val M w5 (.slice (some ⟨g5, 0, none⟩) 0 0) [] [g5] := hv5
  refine pl_val (.slice (some ⟨g5, 0, none⟩) 0 0) (y_assign rfl) ?_
  refine c_nil ?_
  refine c_seq ?_
  refine c_seq ?_
  refine c_region ?_
  refine pl_val (.int .i64 0) (y_assign rfl) ?_
  refine c_nil ?_
  obtain ⟨o22, hl23, hs⟩ := bind_some hs
  refine wp_block ?_
  refine wp_forC (id := 0) (c.1.length : Int) (I := fun k20 s18 a w19 => ∃ (σ : Nat → Value) (a24 : Option Addr) (n24 : Nat) (c24 : Nat) (f24 : List Nat), a = fr 30 (ovl σ [(1, (.slice pa2 pn2 pc2)), (2, (.pointer (some ⟨g4, 0, none⟩))), (5, (.slice a24 n24 c24)), (6, (.int .i64 k20))]) ∧ Chg [] w w19 ∧ Own (Nw w []) M w19 (f24 ++ (([g4]) ++ [])) ∧ (RT.rs (RT.int .i64)).val M w19 (.slice pa0 pn0 pc0) c.1 ([]) ∧ (RT.rs (RT.rs (RT.int .i64))).val M w19 (.slice pa1 pn1 pc1) c.2.2 ([]) ∧ (RT.rs (RT.int .i64)).val M w19 (.slice pa2 pn2 pc2) values ([]) ∧ BoxV w19 g4 108 [(.slice pa0 pn0 pc0), (.int .i64 c.2.1), (.slice pa1 pn1 pc1)] ∧ (RT.os 3 (RT.int .i64)).val M w19 (.slice a24 n24 c24) s18 f24) (J := fun s18 a w19 => ∃ (σ : Nat → Value) (a26 : Option Addr) (n26 : Nat) (c26 : Nat) (f26 : List Nat), a = fr 30 (ovl σ [(2, (.pointer (some ⟨g4, 0, none⟩))), (5, (.slice a26 n26 c26))]) ∧ Chg [] w w19 ∧ Own (Nw w []) M w19 (f26 ++ (([g4]) ++ [])) ∧ (RT.rs (RT.int .i64)).val M w19 (.slice pa0 pn0 pc0) c.1 ([]) ∧ (RT.rs (RT.rs (RT.int .i64))).val M w19 (.slice pa1 pn1 pc1) c.2.2 ([]) ∧ (RT.rs (RT.int .i64)).val M w19 (.slice pa2 pn2 pc2) values ([]) ∧ BoxV w19 g4 108 [(.slice pa0 pn0 pc0), (.int .i64 c.2.1), (.slice pa1 pn1 pc1)] ∧ (RT.os 3 (RT.int .i64)).val M w19 (.slice a26 n26 c26) s18 f26) (K := (k_spec_l19Satisfies M w)) ?_ ?_ 0 ([]) o22 _ _ ?_ hl23 ?_
  · rintro k20 s18 a w19 ⟨σ, a24, n24, c24, f24, rfl, hC, hO, h0, h1, h2, hb4, hv24⟩ hlt
    refine c_seq ?_
    refine c_seq ?_
    refine c_region ?_
    refine pl_val (.int .i64 k20) (y_move rfl) ?_
    refine pl_val (.pointer (some ⟨g4, 0, none⟩)) (y_faddr rfl Fa108x0) ?_
    refine pl_val (.slice pa0 pn0 pc0) (y_load rfl ((box_load Ag22 Sz22 hb4 [] [(.slice pa0 pn0 pc0)] [(.int .i64 c.2.1), (.slice pa1 pn1 pc1)] rfl rfl (fun _ => rfl)) _ (Chg.refl _ _))) ?_
    refine pl_val (.int .i64 (c.1.length : Int)) (y_len' Sl22 (rs_len h0) rfl) ?_
    refine pl_val (.bool (decide (k20 < (c.1.length : Int)))) (y_lss rfl rfl) ?_
    refine c_nil ?_
    refine c_condF (congrArg Value.bool (decide_eq_false hlt)) ?_
    refine wp_exit ?_
    have hO := hO.fr1
    have hO := hO.fr1
    exact ⟨rfl, _, a24, n24, c24, f24, fr_ovl 30 ⟨rfl, rfl, trivial⟩, hC, hO, h0, h1, h2, hb4, hv24⟩
  · rintro k20 s18 o22 a w19 ⟨σ, a24, n24, c24, f24, rfl, hC, hO, h0, h1, h2, hb4, hv24⟩ hlt hw hs
    refine c_seq ?_
    refine c_seq ?_
    refine c_region ?_
    refine pl_val (.int .i64 k20) (y_move rfl) ?_
    refine pl_val (.pointer (some ⟨g4, 0, none⟩)) (y_faddr rfl Fa108x0) ?_
    refine pl_val (.slice pa0 pn0 pc0) (y_load rfl ((box_load Ag22 Sz22 hb4 [] [(.slice pa0 pn0 pc0)] [(.int .i64 c.2.1), (.slice pa1 pn1 pc1)] rfl rfl (fun _ => rfl)) _ (Chg.refl _ _))) ?_
    refine pl_val (.int .i64 (c.1.length : Int)) (y_len' Sl22 (rs_len h0) rfl) ?_
    refine pl_val (.bool (decide (k20 < (c.1.length : Int)))) (y_lss rfl rfl) ?_
    refine c_nil ?_
    refine c_condT (congrArg Value.bool (decide_eq_true hlt)) ?_
    refine wp_skip ?_
    refine c_seq ?_
    refine wp_block ?_
    refine c_region ?_
    refine pl_val (.slice a24 n24 c24) (y_move rfl) ?_
    refine pl_val (.slice pa2 pn2 pc2) (y_move rfl) ?_
    refine pl_val (.pointer (some ⟨g4, 0, none⟩)) (y_faddr rfl Fa108x0) ?_
    refine pl_val (.slice pa0 pn0 pc0) (y_load rfl ((box_load Ag22 Sz22 hb4 [] [(.slice pa0 pn0 pc0)] [(.int .i64 c.2.1), (.slice pa1 pn1 pc1)] rfl rfl (fun _ => rfl)) _ (Chg.refl _ _))) ?_
    refine pl_val (.int .i64 k20) (y_move rfl) ?_
    obtain ⟨x28, hx28, hs⟩ := bind_some hs
    obtain ⟨b29, o29, hp29, ha29⟩ := rs_idx Sl22 Sz3 h0 hx28
    refine pl_val (.pointer (some ⟨b29, o29, none⟩)) (hp29 _ _ _ _ _ _ _ _ _ rfl rfl) ?_
    refine pl_val (.int .i64 x28) (y_load rfl ((at_load_int Ag3 Sz3 ha29) _ (Chg.refl _ _))) ?_
    obtain ⟨x30, hx30, hs⟩ := bind_some hs
    obtain ⟨b31, o31, hp31, ha31⟩ := rs_idx Sl22 Sz3 h2 hx30
    refine pl_val (.pointer (some ⟨b31, o31, none⟩)) (hp31 _ _ _ _ _ _ _ _ _ rfl rfl) ?_
    refine pl_val (.int .i64 x30) (y_load rfl ((at_load_int Ag3 Sz3 ha31) _ (Chg.refl _ _))) ?_
    obtain ⟨w32, g32, ew32, eg32, hC32, hb32⟩ := new_block w19 [(.int .i64 x30)] 3
    refine pl_val (w' := w32) (.slice (some ⟨g32, 0, none⟩) 1 1) (y_bslice rfl (by rw [ew32, eg32]; kernel_rfl)) ?_
    have h0 := h0.ext hC32
    have h1 := h1.ext hC32
    have h2 := h2.ext hC32
    have hb4 := hb4.chg hC32 (fun h => nomatch h)
    have hv24 := hv24.ext hC32
    have hC := hC.ext hC32
    have hO := hO.new (X' := [g32]) hC32 (fun q hq => by rw [List.mem_singleton.1 hq, eg32]; exact Nat.le_refl _) (List.nodup_cons.2 ⟨(fun h => nomatch h), List.nodup_nil⟩) (fun q hq => by rw [List.mem_singleton.1 hq]; exact hb32.lt)
    have hv32 := os_of_box (r := (RT.int .i64)) (M := M) (css := [[(.int .i64 x30)]]) (fps := [([] : List Nat)]) (xs := ([x30] : List Int)) hb32 ⟨⟨rfl, rfl⟩, trivial⟩ (Nat.le_of_ble_eq_true rfl) (List.nodup_cons.2 ⟨(fun h => nomatch h), List.nodup_nil⟩)
    have hv32 : (RT.os 3 (RT.int .i64)).val M w32 (.slice (some ⟨g32, 0, none⟩) 1 1) [x30] [g32] := hv32
    obtain ⟨y35, hy35, hs⟩ := bind_some hs
    have hO := hO.fr1
    obtain ⟨a34, n34, c34, w34, f34, hr34, hC34, hf34, hv34⟩ := app_os Rw22 hy35 hv24 hv32 hO.inM (fun g hg hq => hO.apart g hq (mem_l hg))
    have hG34 := os_block hv24
    refine pl_val (w' := w34) (.slice a34 n34 c34) (y_append rfl rfl (hr34 _)) ?_
    have hO := hO.fr1
    have hO := hO.fr1
    have h0 := h0.mut hC34 (fun g hg => hO.inM g (hG34 g hg)) (fun _ _ h => nomatch h)
    have h1 := h1.mut hC34 (fun g hg => hO.inM g (hG34 g hg)) (fun _ _ h => nomatch h)
    have h2 := h2.mut hC34 (fun g hg => hO.inM g (hG34 g hg)) (fun _ _ h => nomatch h)
    have hb4 := hb4.chg hC34 (fun hg => hO.apart _ (hG34 _ hg) (mem_r (mem_l (List.mem_singleton.2 rfl))))
    have hC := hC.step hC34 (fun g hg => hO.inN g (hG34 g hg))
    have hO := hO.eat hC34 hf34 (os_nodup hv34) hv34.fpl
    refine pl_val (.slice a34 n34 c34) (y_assign rfl) ?_
    refine c_nil ?_
    refine c_region ?_
    refine pl_val (.int .i64 k20) (y_move rfl) ?_
    refine pl_val (.int .i64 (w64 (k20 + 1))) (y_add rfl rfl) ?_
    refine pl_val (.int .i64 (w64 (k20 + 1))) (y_assign rfl) ?_
    refine c_nil ?_
    cases hs
    have hO := hO.fr1
    have hO := hO.fr1
    exact ⟨_, a34, n34, c34, f34, fr_ovl 30 ⟨rfl, rfl, rfl, congrArg (Value.int .i64) hw, trivial⟩, hC, hO, h0, h1, h2, hb4, hv34⟩
  · skip
    have hO := hO.fr1
    have hO := hO.fr1
    exact ⟨_, (some ⟨g5, 0, none⟩), 0, 0, ([g5]), fr_ovl 30 ⟨rfl, rfl, rfl, rfl, trivial⟩, hC, hO, h0, h1, h2, hb4, hv5⟩
  · cases o22 with
    | nx _ => exact True.intro
    | rt r_ =>
      have hs := after_rt hs
      intro a1 w1 hK
      cases hs
      exact hK
    | br s18 =>
      have hs := after_br hs
      rintro a1 w19 ⟨σ, a26, n26, c26, f26, rfl, hC, hO, h0, h1, h2, hb4, hv26⟩
      refine c_seq ?_
      refine c_region ?_
      refine pl_val (.pointer (some ⟨g4, 1, none⟩)) (y_faddr rfl Fa108x1) ?_
      refine pl_val (.agg #[(.int .i64 c.2.1), (.slice pa1 pn1 pc1)]) (y_load rfl ((box_load Ag31 Sz31 hb4 [(.slice pa0 pn0 pc0)] [(.int .i64 c.2.1), (.slice pa1 pn1 pc1)] [] rfl rfl (fun h => nomatch h)) _ (Chg.refl _ _))) ?_
      refine pl_val (.slice a26 n26 c26) (y_move rfl) ?_
      obtain ⟨r38, hr38, hs⟩ := bind_some hs
      refine pl_call Bd77 rfl (c_spec_l13Has (M := (Less M f26)) (c.2.1, c.2.2) s18 (h1.sub Less.sub) (((Frz.os Frz.int)).val hv26 Less.sub Less.not) hO.less.fut hr38) ?_
      rintro _ w37 ⟨rfl, hC37⟩
      have h0 := h0.ext hC37
      have h1 := h1.ext hC37
      have h2 := h2.ext hC37
      have hb4 := hb4.chg hC37 (fun h => nomatch h)
      have hv26 := hv26.ext hC37
      have hC := hC.ext hC37
      have hO := hO.ext hC37
      refine pl_val (.bool r38) (y_assign rfl) ?_
      refine c_nil ?_
      refine wp_ret ?_
      cases hs
      exact ⟨_, fr_ovl 30 ⟨rfl, trivial⟩, hC⟩

theorem Bd156 : Bodied Try.prog 156 := bodied Try.func156 (by kernel_rfl) rfl

def k_spec_l19Fault (M : Nat → Prop) (w0 : World) (r : Int) (a : Act) (w : World) : Prop :=
  ∃ (σ : Nat → Value) , a = fr 22 (ovl σ [(4, (.int .i64 r))]) ∧ Chg [] w0 w
def s_spec_l19Fault (net : Int × Int × (List ((List Int) × (Int × (List (List Int)))))) (values : List Int) : Option (Int) :=
  (forC (S := Unit) (R := Int) (fun k14 s12 =>
  (idx net.2.2 k14).bind fun x18 =>
  (s_spec_l19Satisfies (x18.1, (x18.2.1, x18.2.2)) values).bind fun r24 =>
  (bif (!r24) then some (.rt k14) else some (.nx ()))) 0 (net.2.2.length : Int) ()).bind fun o16 => after o16 (fun r_ => some r_) (fun s12 =>
  some (-1))
set_option maxHeartbeats 4000000 in
theorem c_spec_l19Fault {M : Nat → Prop} {w : World} {pa0 : Option Addr} {pn0 pc0 : Nat} {pa1 : Option Addr} {pn1 pc1 : Nat} (net : Int × Int × (List ((List Int) × (Int × (List (List Int)))))) (values : List Int) (h0 : (RT.rs (RT.pr (RT.rs (RT.int .i64)) (RT.pr (RT.int .i64) (RT.rs (RT.rs (RT.int .i64)))))).val M w (.slice pa0 pn0 pc0) net.2.2 ([])) (h1 : (RT.rs (RT.int .i64)).val M w (.slice pa1 pn1 pc1) values ([])) (hM : ∀ g, w.heap.size ≤ g → M g) {r : Int} (hs : s_spec_l19Fault net values = some r) :
    Gives Try.prog 105 [(.agg #[(.int .i64 net.1), (.int .i64 net.2.1), (.slice pa0 pn0 pc0)]), (.slice pa1 pn1 pc1)] w (fun v w' => v = (.int .i64 r) ∧ Chg [] w w') := by
  refine calls_fr Try.func105 rfl Try.ntmps105 (Nat.le_of_ble_eq_true rfl) ?_
  have hO := Own.start (N := Nw w []) hM Nw.fut
  have hC := Chg.refl [] w
  unfold s_spec_l19Fault at hs
  refine wp_mono (Q := KPost (k_spec_l19Fault M w r)) ?_ (fun e a w1 h => ?_)
  rotate_left
  · cases e
    case ret =>
      obtain ⟨σ, rfl, hrest⟩ := h
      exact ret1x Try.results105 (res_tmp rfl) ⟨rfl, hrest⟩
    all_goals exact (h : False).elim
  refine c_seq ?_
  refine c_region ?_
  obtain ⟨w3, g3, ew3, eg3, hC3, hb3⟩ := new_block w [(.int .i64 net.1), (.int .i64 net.2.1), (.slice pa0 pn0 pc0)] 49
  refine pl_val (w' := w3) (.pointer (some ⟨g3, 0, none⟩)) (y_box rfl (by rw [ew3, eg3]; kernel_rfl)) ?_
  have h0 := h0.ext hC3
  have h1 := h1.ext hC3
  have hC := hC.ext hC3
  have hO := hO.new (X' := [g3]) hC3 (fun q hq => by rw [List.mem_singleton.1 hq, eg3]; exact Nat.le_refl _) (List.nodup_cons.2 ⟨(fun h => nomatch h), List.nodup_nil⟩) (fun q hq => by rw [List.mem_singleton.1 hq]; exact hb3.lt)
  refine pl_val (.int .i64 0) (y_assign rfl) ?_
  refine c_nil ?_
  refine c_seq ?_
  refine c_seq ?_
  refine c_region ?_
  refine pl_val (.int .i64 0) (y_assign rfl) ?_
  refine c_nil ?_
  obtain ⟨o16, hl17, hs⟩ := bind_some hs
  refine wp_block ?_
  refine wp_forC (id := 0) (net.2.2.length : Int) (I := fun k14 s12 a w13 => ∃ (σ : Nat → Value), a = fr 22 (ovl σ [(1, (.slice pa1 pn1 pc1)), (2, (.pointer (some ⟨g3, 0, none⟩))), (5, (.int .i64 k14))]) ∧ Chg [] w w13 ∧ Own (Nw w []) M w13 (([g3]) ++ []) ∧ (RT.rs (RT.pr (RT.rs (RT.int .i64)) (RT.pr (RT.int .i64) (RT.rs (RT.rs (RT.int .i64)))))).val M w13 (.slice pa0 pn0 pc0) net.2.2 ([]) ∧ (RT.rs (RT.int .i64)).val M w13 (.slice pa1 pn1 pc1) values ([]) ∧ BoxV w13 g3 49 [(.int .i64 net.1), (.int .i64 net.2.1), (.slice pa0 pn0 pc0)]) (J := fun s12 a w13 => ∃ (σ : Nat → Value), a = fr 22 (ovl σ []) ∧ Chg [] w w13 ∧ Own (Nw w []) M w13 (([g3]) ++ []) ∧ (RT.rs (RT.pr (RT.rs (RT.int .i64)) (RT.pr (RT.int .i64) (RT.rs (RT.rs (RT.int .i64)))))).val M w13 (.slice pa0 pn0 pc0) net.2.2 ([]) ∧ (RT.rs (RT.int .i64)).val M w13 (.slice pa1 pn1 pc1) values ([]) ∧ BoxV w13 g3 49 [(.int .i64 net.1), (.int .i64 net.2.1), (.slice pa0 pn0 pc0)]) (K := (k_spec_l19Fault M w)) ?_ ?_ 0 () o16 _ _ ?_ hl17 ?_
  · rintro k14 s12 a w13 ⟨σ, rfl, hC, hO, h0, h1, hb3⟩ hlt
    refine c_seq ?_
    refine c_seq ?_
    refine c_region ?_
    refine pl_val (.int .i64 k14) (y_move rfl) ?_
    refine pl_val (.pointer (some ⟨g3, 2, none⟩)) (y_faddr rfl Fa49x2) ?_
    refine pl_val (.slice pa0 pn0 pc0) (y_load rfl ((box_load Ag47 Sz47 hb3 [(.int .i64 net.1), (.int .i64 net.2.1)] [(.slice pa0 pn0 pc0)] [] rfl rfl (fun _ => rfl)) _ (Chg.refl _ _))) ?_
    refine pl_val (.int .i64 (net.2.2.length : Int)) (y_len' Sl47 (rs_len h0) rfl) ?_
    refine pl_val (.bool (decide (k14 < (net.2.2.length : Int)))) (y_lss rfl rfl) ?_
    refine c_nil ?_
    refine c_condF (congrArg Value.bool (decide_eq_false hlt)) ?_
    refine wp_exit ?_
    exact ⟨rfl, _, fr_ovl 22 trivial, hC, hO, h0, h1, hb3⟩
  · rintro k14 s12 o16 a w13 ⟨σ, rfl, hC, hO, h0, h1, hb3⟩ hlt hw hs
    refine c_seq ?_
    refine c_seq ?_
    refine c_region ?_
    refine pl_val (.int .i64 k14) (y_move rfl) ?_
    refine pl_val (.pointer (some ⟨g3, 2, none⟩)) (y_faddr rfl Fa49x2) ?_
    refine pl_val (.slice pa0 pn0 pc0) (y_load rfl ((box_load Ag47 Sz47 hb3 [(.int .i64 net.1), (.int .i64 net.2.1)] [(.slice pa0 pn0 pc0)] [] rfl rfl (fun _ => rfl)) _ (Chg.refl _ _))) ?_
    refine pl_val (.int .i64 (net.2.2.length : Int)) (y_len' Sl47 (rs_len h0) rfl) ?_
    refine pl_val (.bool (decide (k14 < (net.2.2.length : Int)))) (y_lss rfl rfl) ?_
    refine c_nil ?_
    refine c_condT (congrArg Value.bool (decide_eq_true hlt)) ?_
    refine wp_skip ?_
    refine c_seq ?_
    refine wp_block ?_
    refine c_seq ?_
    refine c_region ?_
    refine pl_val (.pointer (some ⟨g3, 2, none⟩)) (y_faddr rfl Fa49x2) ?_
    refine pl_val (.slice pa0 pn0 pc0) (y_load rfl ((box_load Ag47 Sz47 hb3 [(.int .i64 net.1), (.int .i64 net.2.1)] [(.slice pa0 pn0 pc0)] [] rfl rfl (fun _ => rfl)) _ (Chg.refl _ _))) ?_
    refine pl_val (.int .i64 k14) (y_move rfl) ?_
    obtain ⟨x18, hx18, hs⟩ := bind_some hs
    obtain ⟨b19, o19, hp19, ha19⟩ := rs_idx Sl47 Sz108 h0 hx18
    refine pl_val (.pointer (some ⟨b19, o19, none⟩)) (hp19 _ _ _ _ _ _ _ _ _ rfl rfl) ?_
    obtain ⟨v20, hl20, hv20⟩ := at_load Ag108 Sz108 (by intro h; cases h) ha19
    obtain ⟨cs20, rfl, hr20⟩ := hv20
    obtain ⟨cc20x1, cd20x1, rfl, hh20x1, ht20x1⟩ := pr_open hr20
    obtain ⟨a20x1, n20x1, c20x1, rfl, hv20x1⟩ := rs_rel hh20x1
    obtain ⟨cc20x3, cd20x3, rfl, hh20x3, ht20x3⟩ := pr_open ht20x1
    obtain rfl := int_rel hh20x3
    obtain ⟨a20x4, n20x4, c20x4, rfl, hv20x4⟩ := rs_rel ht20x3
    refine pl_val (.agg #[(.slice a20x1 n20x1 c20x1), (.int .i64 x18.2.1), (.slice a20x4 n20x4 c20x4)]) (y_load rfl (hl20 _ (Chg.refl _ _))) ?_
    refine pl_val (.slice pa1 pn1 pc1) (y_move rfl) ?_
    obtain ⟨r24, hr24, hs⟩ := bind_some hs
    refine pl_call Bd156 rfl (c_spec_l19Satisfies (M := M) (x18.1, (x18.2.1, x18.2.2)) values hv20x1 hv20x4 h1 hO.fut hr24) ?_
    rintro _ w23 ⟨rfl, hC23⟩
    have h0 := h0.ext hC23
    have h1 := h1.ext hC23
    have hb3 := hb3.chg hC23 (fun h => nomatch h)
    have hv20x1 := hv20x1.ext hC23
    have hv20x4 := hv20x4.ext hC23
    have hC := hC.ext hC23
    have hO := hO.ext hC23
    refine pl_val (.bool (!r24)) (y_not rfl) ?_
    refine c_nil ?_
    rcases bif_some hs with ⟨hc25, hs⟩ | ⟨hc25, hs⟩
    · skip
      refine c_condT (congrArg Value.bool hc25) ?_
      refine c_seq ?_
      refine c_region ?_
      refine pl_val (.int .i64 k14) (y_move rfl) ?_
      refine pl_val (.int .i64 k14) (y_assign rfl) ?_
      refine c_nil ?_
      refine wp_ret ?_
      cases hs
      exact ⟨_, fr_ovl 22 ⟨rfl, trivial⟩, hC⟩
    · skip
      refine c_condF (congrArg Value.bool hc25) ?_
      refine wp_skip ?_
      refine c_region ?_
      refine pl_val (.int .i64 k14) (y_move rfl) ?_
      refine pl_val (.int .i64 (w64 (k14 + 1))) (y_add rfl rfl) ?_
      refine pl_val (.int .i64 (w64 (k14 + 1))) (y_assign rfl) ?_
      refine c_nil ?_
      cases hs
      exact ⟨_, fr_ovl 22 ⟨rfl, rfl, congrArg (Value.int .i64) hw, trivial⟩, hC, hO, h0, h1, hb3⟩
  · skip
    exact ⟨_, fr_ovl 22 ⟨rfl, rfl, rfl, trivial⟩, hC, hO, h0, h1, hb3⟩
  · cases o16 with
    | nx _ => exact True.intro
    | rt r_ =>
      have hs := after_rt hs
      intro a1 w1 hK
      cases hs
      exact hK
    | br s12 =>
      have hs := after_br hs
      rintro a1 w13 ⟨σ, rfl, hC, hO, h0, h1, hb3⟩
      refine c_seq ?_
      refine c_region ?_
      refine pl_val (.int .i64 (-1)) (y_assign rfl) ?_
      refine c_nil ?_
      refine wp_ret ?_
      cases hs
      exact ⟨_, fr_ovl 22 ⟨rfl, trivial⟩, hC⟩

theorem Bd88 : Bodied Try.prog 88 := bodied Try.func88 (by kernel_rfl) rfl

theorem Bd104 : Bodied Try.prog 104 := bodied Try.func104 (by kernel_rfl) rfl

theorem Bd105 : Bodied Try.prog 105 := bodied Try.func105 (by kernel_rfl) rfl

def k_spec_FirstUnsatisfied (M : Nat → Prop) (w0 : World) (r : Int × Bool) (a : Act) (w : World) : Prop :=
  ∃ (σ : Nat → Value) , a = fr 22 (ovl σ [(4, (.int .i64 r.1)), (5, (.bool r.2))]) ∧ Chg [] w0 w
def s_spec_FirstUnsatisfied (net : Int × Int × (List ((List Int) × (Int × (List (List Int)))))) (values : List Int) : Option (Int × Bool) :=
  ((s_spec_l19Good (net.1, net.2.1, net.2.2)).bind fun r8 =>
  (bif (!r8) then some true else (s_spec_l19Assigned (net.1, net.2.1, net.2.2) values).bind fun r11 =>
  some (!r11))).bind fun s4 =>
  (bif s4 then some (0, false) else (s_spec_l19Fault (net.1, net.2.1, net.2.2) values).bind fun r14 =>
  (bif (decide (r14 < 0)) then some (0, false) else some (r14, true)))
set_option maxHeartbeats 4000000 in
theorem c_spec_FirstUnsatisfied {M : Nat → Prop} {w : World} {pa0 : Option Addr} {pn0 pc0 : Nat} {pa1 : Option Addr} {pn1 pc1 : Nat} (net : Int × Int × (List ((List Int) × (Int × (List (List Int)))))) (values : List Int) (h0 : (RT.rs (RT.pr (RT.rs (RT.int .i64)) (RT.pr (RT.int .i64) (RT.rs (RT.rs (RT.int .i64)))))).val M w (.slice pa0 pn0 pc0) net.2.2 ([])) (h1 : (RT.rs (RT.int .i64)).val M w (.slice pa1 pn1 pc1) values ([])) (hM : ∀ g, w.heap.size ≤ g → M g) {r : Int × Bool} (hs : s_spec_FirstUnsatisfied net values = some r) :
    Gives Try.prog 46 [(.agg #[(.int .i64 net.1), (.int .i64 net.2.1), (.slice pa0 pn0 pc0)]), (.slice pa1 pn1 pc1)] w (fun v w' => v = (.tuple #[(.int .i64 r.1), (.bool r.2)]) ∧ Chg [] w w') := by
  refine calls_fr Try.func46 rfl Try.ntmps46 (Nat.le_of_ble_eq_true rfl) ?_
  have hO := Own.start (N := Nw w []) hM Nw.fut
  have hC := Chg.refl [] w
  unfold s_spec_FirstUnsatisfied at hs
  refine wp_mono (Q := KPost (k_spec_FirstUnsatisfied M w r)) ?_ (fun e a w1 h => ?_)
  rotate_left
  · cases e
    case ret =>
      obtain ⟨σ, rfl, hrest⟩ := h
      exact ret2x Try.results46 (res_tmp rfl) (res_tmp rfl) ⟨rfl, hrest⟩
    all_goals exact (h : False).elim
  refine c_seq ?_
  refine c_region ?_
  obtain ⟨w3, g3, ew3, eg3, hC3, hb3⟩ := new_block w [(.int .i64 net.1), (.int .i64 net.2.1), (.slice pa0 pn0 pc0)] 49
  refine pl_val (w' := w3) (.pointer (some ⟨g3, 0, none⟩)) (y_box rfl (by rw [ew3, eg3]; kernel_rfl)) ?_
  have h0 := h0.ext hC3
  have h1 := h1.ext hC3
  have hC := hC.ext hC3
  have hO := hO.new (X' := [g3]) hC3 (fun q hq => by rw [List.mem_singleton.1 hq, eg3]; exact Nat.le_refl _) (List.nodup_cons.2 ⟨(fun h => nomatch h), List.nodup_nil⟩) (fun q hq => by rw [List.mem_singleton.1 hq]; exact hb3.lt)
  refine pl_val (.int .i64 0) (y_assign rfl) ?_
  refine pl_val (.bool false) (y_assign rfl) ?_
  refine c_nil ?_
  refine c_seq ?_
  refine c_seq ?_
  obtain ⟨s4, hm6, hs⟩ := bind_some hs
  refine c_mid (I := fun a w5 => ∃ (σ : Nat → Value), a = fr 22 (ovl σ [(1, (.slice pa1 pn1 pc1)), (2, (.pointer (some ⟨g3, 0, none⟩))), (4, (.int .i64 0)), (5, (.bool false)), (15, (.bool s4))]) ∧ Chg [] w3 w5) ?_ ?_
  · replace hs := hm6
    have hMid := Chg.refl [] w3
    refine c_region ?_
    refine pl_val (.agg #[(.int .i64 net.1), (.int .i64 net.2.1), (.slice pa0 pn0 pc0)]) (y_load rfl ((box_load Ag49 Sz49 hb3 [] [(.int .i64 net.1), (.int .i64 net.2.1), (.slice pa0 pn0 pc0)] [] rfl rfl (fun h => nomatch h)) _ (Chg.refl _ _))) ?_
    obtain ⟨r8, hr8, hs⟩ := bind_some hs
    refine pl_call Bd88 rfl (c_spec_l19Good (M := M) (net.1, net.2.1, net.2.2) h0 hO.fut hr8) ?_
    rintro _ w7 ⟨rfl, hC7⟩
    have h0 := h0.ext hC7
    have h1 := h1.ext hC7
    have hb3 := hb3.chg hC7 (fun h => nomatch h)
    have hMid := hMid.ext hC7
    have hC := hC.ext hC7
    have hO := hO.ext hC7
    refine pl_val (.bool (!r8)) (y_not rfl) ?_
    refine pl_val (.bool (!r8)) (y_move rfl) ?_
    rcases bif_some hs with ⟨hc9, hs⟩ | ⟨hc9, hs⟩
    · skip
      refine pl_not (tg := 10) (by kernel_rfl) (congrArg Value.bool hc9) ?_
      refine pl_not (tg := 10) (by kernel_rfl) (congrArg Value.bool hc9) ?_
      refine pl_not (tg := 10) (by kernel_rfl) (congrArg Value.bool hc9) ?_
      refine pl_not (tg := 10) (by kernel_rfl) (congrArg Value.bool hc9) ?_
      refine pl_val (.bool true) (y_pick_t (congrArg Value.bool hc9) rfl) ?_
      refine c_nil ?_
      cases hs
      exact ⟨_, fr_ovl 22 ⟨rfl, rfl, rfl, rfl, rfl, trivial⟩, hMid⟩
    · skip
      refine pl_yes (.agg #[(.int .i64 net.1), (.int .i64 net.2.1), (.slice pa0 pn0 pc0)]) (tg := 10) (by kernel_rfl) (congrArg Value.bool hc9) (y_load rfl ((box_load Ag49 Sz49 hb3 [] [(.int .i64 net.1), (.int .i64 net.2.1), (.slice pa0 pn0 pc0)] [] rfl rfl (fun h => nomatch h)) _ (Chg.refl _ _))) ?_
      refine pl_yes (.slice pa1 pn1 pc1) (tg := 10) (by kernel_rfl) (congrArg Value.bool hc9) (y_move rfl) ?_
      obtain ⟨r11, hr11, hs⟩ := bind_some hs
      refine pl_cally (tg := 10) (by kernel_rfl) (congrArg Value.bool hc9) Bd104 rfl (c_spec_l19Assigned (M := M) (net.1, net.2.1, net.2.2) values h0 h1 hO.fut hr11) ?_
      rintro _ w10 ⟨rfl, hC10⟩
      have h0 := h0.ext hC10
      have h1 := h1.ext hC10
      have hb3 := hb3.chg hC10 (fun h => nomatch h)
      have hMid := hMid.ext hC10
      have hC := hC.ext hC10
      have hO := hO.ext hC10
      refine pl_yes (.bool (!r11)) (tg := 10) (by kernel_rfl) (congrArg Value.bool hc9) (y_not rfl) ?_
      refine pl_val (.bool (!r11)) (y_pick_f (congrArg Value.bool hc9) rfl) ?_
      refine c_nil ?_
      cases hs
      exact ⟨_, fr_ovl 22 ⟨rfl, rfl, rfl, rfl, rfl, trivial⟩, hMid⟩
  · rintro a1 w5 ⟨σ, rfl, hCs4⟩
    have h0 := h0.ext hCs4
    have h1 := h1.ext hCs4
    have hb3 := hb3.chg hCs4 (fun h => nomatch h)
    have hC := hC.ext hCs4
    have hO := hO.ext hCs4
    rcases bif_some hs with ⟨hc12, hs⟩ | ⟨hc12, hs⟩
    · skip
      refine c_condT (congrArg Value.bool hc12) ?_
      refine c_seq ?_
      refine c_region ?_
      refine pl_val (.int .i64 0) (y_assign rfl) ?_
      refine pl_val (.bool false) (y_assign rfl) ?_
      refine c_nil ?_
      refine wp_ret ?_
      cases hs
      exact ⟨_, fr_ovl 22 ⟨rfl, rfl, trivial⟩, hC⟩
    · skip
      refine c_condF (congrArg Value.bool hc12) ?_
      refine wp_skip ?_
      refine c_seq ?_
      refine c_region ?_
      refine pl_val (.agg #[(.int .i64 net.1), (.int .i64 net.2.1), (.slice pa0 pn0 pc0)]) (y_load rfl ((box_load Ag49 Sz49 hb3 [] [(.int .i64 net.1), (.int .i64 net.2.1), (.slice pa0 pn0 pc0)] [] rfl rfl (fun h => nomatch h)) _ (Chg.refl _ _))) ?_
      refine pl_val (.slice pa1 pn1 pc1) (y_move rfl) ?_
      obtain ⟨r14, hr14, hs⟩ := bind_some hs
      refine pl_call Bd105 rfl (c_spec_l19Fault (M := M) (net.1, net.2.1, net.2.2) values h0 h1 hO.fut hr14) ?_
      rintro _ w13 ⟨rfl, hC13⟩
      have h0 := h0.ext hC13
      have h1 := h1.ext hC13
      have hb3 := hb3.chg hC13 (fun h => nomatch h)
      have hC := hC.ext hC13
      have hO := hO.ext hC13
      refine pl_val (.int .i64 r14) (y_assign rfl) ?_
      refine c_nil ?_
      refine c_seq ?_
      refine c_seq ?_
      refine c_region ?_
      refine pl_val (.int .i64 r14) (y_move rfl) ?_
      refine pl_val (.bool (decide (r14 < 0))) (y_lss rfl rfl) ?_
      refine c_nil ?_
      rcases bif_some hs with ⟨hc15, hs⟩ | ⟨hc15, hs⟩
      · skip
        refine c_condT (congrArg Value.bool hc15) ?_
        refine c_seq ?_
        refine c_region ?_
        refine pl_val (.int .i64 0) (y_assign rfl) ?_
        refine pl_val (.bool false) (y_assign rfl) ?_
        refine c_nil ?_
        refine wp_ret ?_
        cases hs
        exact ⟨_, fr_ovl 22 ⟨rfl, rfl, trivial⟩, hC⟩
      · skip
        refine c_condF (congrArg Value.bool hc15) ?_
        refine wp_skip ?_
        refine c_seq ?_
        refine c_region ?_
        refine pl_val (.int .i64 r14) (y_move rfl) ?_
        refine pl_val (.int .i64 r14) (y_assign rfl) ?_
        refine pl_val (.bool true) (y_assign rfl) ?_
        refine c_nil ?_
        refine wp_ret ?_
        cases hs
        exact ⟨_, fr_ovl 22 ⟨rfl, rfl, trivial⟩, hC⟩

def k_impl_isTemplateSize (M : Nat → Prop) (w0 : World) (r : Bool) (a : Act) (w : World) : Prop :=
  ∃ (σ : Nat → Value) , a = fr 9 (ovl σ [(2, (.bool r))]) ∧ Chg [] w0 w
def s_impl_isTemplateSize (n : Int) : Option (Bool) :=
  (bif (decide (1 ≤ n)) then some (decide (n ≤ 4)) else some false)
set_option maxHeartbeats 4000000 in
theorem c_impl_isTemplateSize {M : Nat → Prop} {w : World}  (n : Int)  (hM : ∀ g, w.heap.size ≤ g → M g) {r : Bool} (hs : s_impl_isTemplateSize n = some r) :
    Gives Try.prog 90 [(.int .i64 n)] w (fun v w' => v = (.bool r) ∧ Chg [] w w') := by
  refine calls_fr Try.func90 rfl Try.ntmps90 (Nat.le_of_ble_eq_true rfl) ?_
  have hO := Own.start (N := Nw w []) hM Nw.fut
  have hC := Chg.refl [] w
  unfold s_impl_isTemplateSize at hs
  refine wp_mono (Q := KPost (k_impl_isTemplateSize M w r)) ?_ (fun e a w1 h => ?_)
  rotate_left
  · cases e
    case ret =>
      obtain ⟨σ, rfl, hrest⟩ := h
      exact ret1x Try.results90 (res_tmp rfl) ⟨rfl, hrest⟩
    all_goals exact (h : False).elim
  refine c_seq ?_
  refine c_region ?_
  refine pl_val (.bool false) (y_assign rfl) ?_
  refine c_nil ?_
  refine c_seq ?_
  refine c_region ?_
  refine pl_val (.int .i64 n) (y_move rfl) ?_
  refine pl_val (.bool (decide (1 ≤ n))) (y_geq rfl rfl) ?_
  refine pl_val (.bool (decide (1 ≤ n))) (y_move rfl) ?_
  rcases bif_some hs with ⟨hc1, hs⟩ | ⟨hc1, hs⟩
  · skip
    refine pl_yes (.int .i64 n) (tg := 5) (by kernel_rfl) (congrArg Value.bool hc1) (y_move rfl) ?_
    refine pl_yes (.bool (decide (n ≤ 4))) (tg := 5) (by kernel_rfl) (congrArg Value.bool hc1) (y_leq rfl rfl) ?_
    refine pl_val (.bool (decide (n ≤ 4))) (y_pick_t (congrArg Value.bool hc1) rfl) ?_
    refine pl_val (.bool (decide (n ≤ 4))) (y_assign rfl) ?_
    refine c_nil ?_
    refine wp_ret ?_
    cases hs
    exact ⟨_, fr_ovl 9 ⟨rfl, trivial⟩, hC⟩
  · skip
    refine pl_not (tg := 5) (by kernel_rfl) (congrArg Value.bool hc1) ?_
    refine pl_not (tg := 5) (by kernel_rfl) (congrArg Value.bool hc1) ?_
    refine pl_val (.bool false) (y_pick_f (congrArg Value.bool hc1) rfl) ?_
    refine pl_val (.bool false) (y_assign rfl) ?_
    refine c_nil ?_
    refine wp_ret ?_
    cases hs
    exact ⟨_, fr_ovl 9 ⟨rfl, trivial⟩, hC⟩

def k_impl_inSize (M : Nat → Prop) (w0 : World) (r : Bool) (a : Act) (w : World) : Prop :=
  ∃ (σ : Nat → Value) , a = fr 21 (ovl σ [(4, (.bool r))]) ∧ Chg [] w0 w
def s_impl_inSize (list : List Int) (n : Int) : Option (Bool) :=
  (forR (S := Unit) (R := Bool) (fun _ x8 s5 =>
  (bif (decide (x8 < 0)) then some (.rt false) else (bif (decide (n ≤ x8)) then some (.rt false) else some (.nx ())))) 0 list ()).bind fun o9 => after o9 (fun r_ => some r_) (fun s5 =>
  some true)
set_option maxHeartbeats 4000000 in
theorem c_impl_inSize {M : Nat → Prop} {w : World} {pa0 : Option Addr} {pn0 pc0 : Nat} (list : List Int) (n : Int) (h0 : (RT.rs (RT.int .i64)).val M w (.slice pa0 pn0 pc0) list ([])) (hM : ∀ g, w.heap.size ≤ g → M g) {r : Bool} (hs : s_impl_inSize list n = some r) :
    Gives Try.prog 113 [(.slice pa0 pn0 pc0), (.int .i64 n)] w (fun v w' => v = (.bool r) ∧ Chg [] w w') := by
  refine calls_fr Try.func113 rfl Try.ntmps113 (Nat.le_of_ble_eq_true rfl) ?_
  have hO := Own.start (N := Nw w []) hM Nw.fut
  have hC := Chg.refl [] w
  unfold s_impl_inSize at hs
  refine wp_mono (Q := KPost (k_impl_inSize M w r)) ?_ (fun e a w1 h => ?_)
  rotate_left
  · cases e
    case ret =>
      obtain ⟨σ, rfl, hrest⟩ := h
      exact ret1x Try.results113 (res_tmp rfl) ⟨rfl, hrest⟩
    all_goals exact (h : False).elim
  refine c_seq ?_
  refine c_region ?_
  refine pl_val (.bool false) (y_assign rfl) ?_
  refine c_nil ?_
  refine c_seq ?_
  refine c_seq ?_
  refine c_region ?_
  refine pl_val (.slice pa0 pn0 pc0) (y_move rfl) ?_
  refine pl_val (.int .i64 (list.length : Int)) (y_len' Sl22 (rs_len h0) rfl) ?_
  refine pl_val (.int .i64 0) (y_move rfl) ?_
  refine c_nil ?_
  obtain ⟨o9, hl10, hs⟩ := bind_some hs
  refine wp_block ?_
  refine wp_forR (id := 0) (I := fun i_ xs_ s5 a w6 => ∃ k7 : Nat, i_ = (k7 : Int) ∧ List.drop k7 list = xs_ ∧ (∃ (σ : Nat → Value), a = fr 21 (ovl σ [(1, (.int .i64 n)), (7, (.slice pa0 pn0 pc0)), (8, (.int .i64 (list.length : Int))), (9, (.int .i64 (k7 : Int)))]) ∧ Chg [] w w6 ∧ Own (Nw w []) M w6 ([]) ∧ (RT.rs (RT.int .i64)).val M w6 (.slice pa0 pn0 pc0) list ([]))) (J := fun s5 a w6 => ∃ (σ : Nat → Value), a = fr 21 (ovl σ []) ∧ Chg [] w w6 ∧ Own (Nw w []) M w6 ([]) ∧ (RT.rs (RT.int .i64)).val M w6 (.slice pa0 pn0 pc0) list ([])) (K := (k_impl_inSize M w)) ?_ ?_ list 0 () o9 _ _ ?_ hl10 ?_
  · rintro _ s5 a w6 ⟨k7, rfl, hd, σ, rfl, hC, hO, h0⟩
    have hlt := drop_nil_ge hd
    refine c_seq ?_
    refine c_region ?_
    refine pl_val (.bool (decide ((k7 : Int) < (list.length : Int)))) (y_lss rfl rfl) ?_
    refine c_nil ?_
    refine c_seq ?_
    refine c_condF (congrArg Value.bool (decide_eq_false hlt)) ?_
    refine wp_exit ?_
    exact ⟨rfl, _, fr_ovl 21 trivial, hC, hO, h0⟩
  · rintro _ x8 xs_ s5 o9 a w6 ⟨k7, rfl, hd, σ, rfl, hC, hO, h0⟩ hs
    have hlt := drop_cons_lt hd
    have hxk7 := drop_cons_idx hd
    refine c_seq ?_
    refine c_region ?_
    refine pl_val (.bool (decide ((k7 : Int) < (list.length : Int)))) (y_lss rfl rfl) ?_
    refine c_nil ?_
    refine c_seq ?_
    refine c_condT (congrArg Value.bool (decide_eq_true hlt)) ?_
    refine wp_skip ?_
    refine c_seq ?_
    refine wp_block ?_
    refine c_seq ?_
    refine c_region ?_
    obtain ⟨b11, o11, hp11, ha11⟩ := rs_idx Sl22 Sz3 h0 hxk7
    refine pl_val (.pointer (some ⟨b11, o11, none⟩)) (hp11 _ _ _ _ _ _ _ _ _ rfl rfl) ?_
    refine pl_val (.int .i64 x8) (y_load rfl ((at_load_int Ag3 Sz3 ha11) _ (Chg.refl _ _))) ?_
    refine pl_val (.int .i64 x8) (y_assign rfl) ?_
    refine c_nil ?_
    refine c_seq ?_
    refine c_region ?_
    refine pl_val (.int .i64 x8) (y_move rfl) ?_
    refine pl_val (.bool (decide (x8 < 0))) (y_lss rfl rfl) ?_
    refine pl_val (.bool (decide (x8 < 0))) (y_move rfl) ?_
    rcases bif_some hs with ⟨hc12, hs⟩ | ⟨hc12, hs⟩
    · skip
      refine pl_not (tg := 15) (by kernel_rfl) (congrArg Value.bool hc12) ?_
      refine pl_not (tg := 15) (by kernel_rfl) (congrArg Value.bool hc12) ?_
      refine pl_not (tg := 15) (by kernel_rfl) (congrArg Value.bool hc12) ?_
      refine pl_val (.bool true) (y_pick_t (congrArg Value.bool hc12) rfl) ?_
      refine c_nil ?_
      refine c_condT (by rfl) ?_
      refine c_seq ?_
      refine c_region ?_
      refine pl_val (.bool false) (y_assign rfl) ?_
      refine c_nil ?_
      refine wp_ret ?_
      cases hs
      exact ⟨_, fr_ovl 21 ⟨rfl, trivial⟩, hC⟩
    · skip
      refine pl_yes (.int .i64 x8) (tg := 15) (by kernel_rfl) (congrArg Value.bool hc12) (y_move rfl) ?_
      refine pl_yes (.int .i64 n) (tg := 15) (by kernel_rfl) (congrArg Value.bool hc12) (y_move rfl) ?_
      refine pl_yes (.bool (decide (n ≤ x8))) (tg := 15) (by kernel_rfl) (congrArg Value.bool hc12) (y_geq rfl rfl) ?_
      refine pl_val (.bool (decide (n ≤ x8))) (y_pick_f (congrArg Value.bool hc12) rfl) ?_
      refine c_nil ?_
      rcases bif_some hs with ⟨hc13, hs⟩ | ⟨hc13, hs⟩
      · skip
        refine c_condT (congrArg Value.bool hc13) ?_
        refine c_seq ?_
        refine c_region ?_
        refine pl_val (.bool false) (y_assign rfl) ?_
        refine c_nil ?_
        refine wp_ret ?_
        cases hs
        exact ⟨_, fr_ovl 21 ⟨rfl, trivial⟩, hC⟩
      · skip
        refine c_condF (congrArg Value.bool hc13) ?_
        refine wp_skip ?_
        refine c_region ?_
        refine pl_val (.int .i64 (w64 ((k7 : Int) + 1))) (y_add rfl rfl) ?_
        refine pl_val (.int .i64 (w64 ((k7 : Int) + 1))) (y_move rfl) ?_
        refine c_nil ?_
        cases hs
        exact ⟨_, rfl, drop_cons_next hd, _, fr_ovl 21 ⟨rfl, rfl, rfl, congrArg (Value.int .i64) (w64_succ hlt (Int.natCast_nonneg _) (rs_max h0)), trivial⟩, hC, hO, h0⟩
  · skip
    exact ⟨0, rfl, rfl, _, fr_ovl 21 ⟨rfl, rfl, rfl, rfl, trivial⟩, hC, hO, h0⟩
  · cases o9 with
    | nx _ => exact True.intro
    | rt r_ =>
      have hs := after_rt hs
      intro a1 w1 hK
      cases hs
      exact hK
    | br s5 =>
      have hs := after_br hs
      rintro a1 w6 ⟨σ, rfl, hC, hO, h0⟩
      refine c_seq ?_
      refine c_region ?_
      refine pl_val (.bool true) (y_assign rfl) ?_
      refine c_nil ?_
      refine wp_ret ?_
      cases hs
      exact ⟨_, fr_ovl 21 ⟨rfl, trivial⟩, hC⟩

def k_impl_compareLists (M : Nat → Prop) (w0 : World) (r : Int) (a : Act) (w : World) : Prop :=
  ∃ (σ : Nat → Value) , a = fr 48 (ovl σ [(4, (.int .i64 r))]) ∧ Chg [] w0 w
def s_impl_compareLists (s_ : List Int) (t : List Int) : Option (Int) :=
  (iter (S := Int) (R := Int) (fun s25 =>
  (bif ((decide (s25 < (s_.length : Int))) && (decide (s25 < (t.length : Int)))) then (idx s_ s25).bind fun x42 =>
  (idx t s25).bind fun x44 =>
  (bif (x42 != x44) then (idx s_ s25).bind fun x48 =>
  (idx t s25).bind fun x50 =>
  (bif (decide (x48 < x50)) then some (.rt (-1)) else some (.rt 1)) else some (.nx (w64 (s25 + 1)))) else some (.br s25))) FU 0).bind fun o29 => after o29 (fun r_ => some r_) (fun s25 =>
  (bif (decide ((s_.length : Int) < (t.length : Int))) then some (-1) else (bif (decide ((t.length : Int) < (s_.length : Int))) then some 1 else some 0)))
set_option maxHeartbeats 4000000 in
theorem c_impl_compareLists {M : Nat → Prop} {w : World} {pa0 : Option Addr} {pn0 pc0 : Nat} {pa1 : Option Addr} {pn1 pc1 : Nat} (s_ : List Int) (t : List Int) (h0 : (RT.rs (RT.int .i64)).val M w (.slice pa0 pn0 pc0) s_ ([])) (h1 : (RT.rs (RT.int .i64)).val M w (.slice pa1 pn1 pc1) t ([])) (hM : ∀ g, w.heap.size ≤ g → M g) {r : Int} (hs : s_impl_compareLists s_ t = some r) :
    Gives Try.prog 180 [(.slice pa0 pn0 pc0), (.slice pa1 pn1 pc1)] w (fun v w' => v = (.int .i64 r) ∧ Chg [] w w') := by
  refine calls_fr Try.func180 rfl Try.ntmps180 (Nat.le_of_ble_eq_true rfl) ?_
  have hO := Own.start (N := Nw w []) hM Nw.fut
  have hC := Chg.refl [] w
  unfold s_impl_compareLists at hs
  refine wp_mono (Q := KPost (k_impl_compareLists M w r)) ?_ (fun e a w1 h => ?_)
  rotate_left
  · cases e
    case ret =>
      obtain ⟨σ, rfl, hrest⟩ := h
      exact ret1x Try.results180 (res_tmp rfl) ⟨rfl, hrest⟩
    all_goals exact (h : False).elim
  refine c_seq ?_
  refine c_region ?_
  refine pl_val (.int .i64 0) (y_assign rfl) ?_
  refine c_nil ?_
  refine c_seq ?_
  refine c_seq ?_
  refine c_region ?_
  refine pl_val (.int .i64 0) (y_assign rfl) ?_
  refine c_nil ?_
  obtain ⟨o29, hl30, hs⟩ := bind_some hs
  refine wp_block ?_
  refine wp_iter (id := 0) (I := fun s25 a w26 => ∃ (σ : Nat → Value), a = fr 48 (ovl σ [(0, (.slice pa0 pn0 pc0)), (1, (.slice pa1 pn1 pc1)), (5, (.int .i64 s25))]) ∧ Chg [] w w26 ∧ Own (Nw w []) M w26 ([]) ∧ (RT.rs (RT.int .i64)).val M w26 (.slice pa0 pn0 pc0) s_ ([]) ∧ (RT.rs (RT.int .i64)).val M w26 (.slice pa1 pn1 pc1) t ([])) (J := fun s25 a w26 => ∃ (σ : Nat → Value), a = fr 48 (ovl σ [(0, (.slice pa0 pn0 pc0)), (1, (.slice pa1 pn1 pc1))]) ∧ Chg [] w w26 ∧ Own (Nw w []) M w26 ([]) ∧ (RT.rs (RT.int .i64)).val M w26 (.slice pa0 pn0 pc0) s_ ([]) ∧ (RT.rs (RT.int .i64)).val M w26 (.slice pa1 pn1 pc1) t ([])) (K := (k_impl_compareLists M w)) ?_ FU 0 o29 _ _ ?_ hl30 ?_
  · rintro s25 o29 a w26 ⟨σ, rfl, hC, hO, h0, h1⟩ hs
    refine c_seq ?_
    refine c_seq ?_
    refine c_mid (I := fun a w32 => ∃ (σ : Nat → Value), a = fr 48 (ovl σ [(0, (.slice pa0 pn0 pc0)), (1, (.slice pa1 pn1 pc1)), (5, (.int .i64 s25)), (15, (.bool ((decide (s25 < (s_.length : Int))) && (decide (s25 < (t.length : Int))))))]) ∧ Chg [] w26 w32) ?_ ?_
    · have hMid := Chg.refl [] w26
      refine c_region ?_
      refine pl_val (.int .i64 s25) (y_move rfl) ?_
      refine pl_val (.slice pa0 pn0 pc0) (y_move rfl) ?_
      refine pl_val (.int .i64 (s_.length : Int)) (y_len' Sl22 (rs_len h0) rfl) ?_
      refine pl_val (.bool (decide (s25 < (s_.length : Int)))) (y_lss rfl rfl) ?_
      refine pl_val (.bool (decide (s25 < (s_.length : Int)))) (y_move rfl) ?_
      rcases Bool.eq_false_or_eq_true ((decide (s25 < (s_.length : Int)))) with hc34 | hc34
      · skip
        refine pl_yes (.int .i64 s25) (tg := 10) (by kernel_rfl) (congrArg Value.bool hc34) (y_move rfl) ?_
        refine pl_yes (.slice pa1 pn1 pc1) (tg := 10) (by kernel_rfl) (congrArg Value.bool hc34) (y_move rfl) ?_
        refine pl_yes (.int .i64 (t.length : Int)) (tg := 10) (by kernel_rfl) (congrArg Value.bool hc34) (y_len' Sl22 (rs_len h1) rfl) ?_
        refine pl_yes (.bool (decide (s25 < (t.length : Int)))) (tg := 10) (by kernel_rfl) (congrArg Value.bool hc34) (y_lss rfl rfl) ?_
        refine pl_val (.bool ((decide (s25 < (s_.length : Int))) && (decide (s25 < (t.length : Int))))) (y_pick_t (congrArg Value.bool hc34) (congrArg Value.bool (by rw [hc34]; rfl))) ?_
        refine c_nil ?_
        exact ⟨_, fr_ovl 48 ⟨rfl, rfl, rfl, rfl, trivial⟩, hMid⟩
      · skip
        refine pl_not (tg := 10) (by kernel_rfl) (congrArg Value.bool hc34) ?_
        refine pl_not (tg := 10) (by kernel_rfl) (congrArg Value.bool hc34) ?_
        refine pl_not (tg := 10) (by kernel_rfl) (congrArg Value.bool hc34) ?_
        refine pl_not (tg := 10) (by kernel_rfl) (congrArg Value.bool hc34) ?_
        refine pl_val (.bool ((decide (s25 < (s_.length : Int))) && (decide (s25 < (t.length : Int))))) (y_pick_f (congrArg Value.bool hc34) (congrArg Value.bool (by rw [hc34]; rfl))) ?_
        refine c_nil ?_
        exact ⟨_, fr_ovl 48 ⟨rfl, rfl, rfl, rfl, trivial⟩, hMid⟩
    · rintro a1 w32 ⟨σ, rfl, hCs31⟩
      have h0 := h0.ext hCs31
      have h1 := h1.ext hCs31
      have hC := hC.ext hCs31
      have hO := hO.ext hCs31
      rcases bif_some hs with ⟨hc35, hs⟩ | ⟨hc35, hs⟩
      · skip
        refine c_condT (congrArg Value.bool hc35) ?_
        refine wp_skip ?_
        refine c_seq ?_
        refine wp_block ?_
        refine c_seq ?_
        refine x_start [] Mx rfl ?_
        have hCw41 := Chg.drew w32
        generalize World.drew w32 = w41 at hCw41 ⊢
        have h0 := h0.ext hCw41
        have h1 := h1.ext hCw41
        have hC := hC.ext hCw41
        have hO := hO.ext hCw41
        have hS := Chg.refl [] w41
        refine x_p 0 (.slice pa0 pn0 pc0) rfl (by kernel_rfl)  (fun _ => y_move rfl) (fun _ => hS) ?_
        refine x_p 1 (.int .i64 s25) rfl (by kernel_rfl)  (fun _ => y_move rfl) (fun _ => hS) ?_
        obtain ⟨x42, hx42, hs⟩ := bind_some hs
        obtain ⟨b43, o43, hp43, ha43⟩ := rs_idx Sl22 Sz3 h0 hx42
        refine x_p 2 (.pointer (some ⟨b43, o43, none⟩)) rfl (by kernel_rfl)  (fun _ => hp43 _ _ _ _ _ _ _ _ _ rfl rfl) (fun _ => hS) ?_
        refine x_l 3 (.int .i64 x42) rfl (by kernel_rfl)  (fun w' hw' => y_load rfl ((at_load_int Ag3 Sz3 ha43) w' hw')) hS ?_
        refine x_p 4 (.slice pa1 pn1 pc1) rfl (by kernel_rfl)  (fun _ => y_move rfl) (fun _ => hS) ?_
        refine x_p 5 (.int .i64 s25) rfl (by kernel_rfl)  (fun _ => y_move rfl) (fun _ => hS) ?_
        obtain ⟨x44, hx44, hs⟩ := bind_some hs
        obtain ⟨b45, o45, hp45, ha45⟩ := rs_idx Sl22 Sz3 h1 hx44
        refine x_p 6 (.pointer (some ⟨b45, o45, none⟩)) rfl (by kernel_rfl)  (fun _ => hp45 _ _ _ _ _ _ _ _ _ rfl rfl) (fun _ => hS) ?_
        refine x_l 7 (.int .i64 x44) rfl (by kernel_rfl)  (fun w' hw' => y_load rfl ((at_load_int Ag3 Sz3 ha45) w' hw')) hS ?_
        refine x_p 8 (.bool (x42 != x44)) rfl (by kernel_rfl)  (fun _ => y_neq rfl rfl) (fun _ => hS) ?_
        refine x_end (by kernel_rfl) ?_
        clear hS
        rcases bif_some hs with ⟨hc46, hs⟩ | ⟨hc46, hs⟩
        · skip
          refine c_condT (congrArg Value.bool hc46) ?_
          refine c_seq ?_
          refine c_seq ?_
          refine x_start [] Mx rfl ?_
          have hCw47 := Chg.drew w41
          generalize World.drew w41 = w47 at hCw47 ⊢
          have h0 := h0.ext hCw47
          have h1 := h1.ext hCw47
          have hC := hC.ext hCw47
          have hO := hO.ext hCw47
          have hS := Chg.refl [] w47
          refine x_p 0 (.slice pa0 pn0 pc0) rfl (by kernel_rfl)  (fun _ => y_move rfl) (fun _ => hS) ?_
          refine x_p 1 (.int .i64 s25) rfl (by kernel_rfl)  (fun _ => y_move rfl) (fun _ => hS) ?_
          obtain ⟨x48, hx48, hs⟩ := bind_some hs
          obtain ⟨b49, o49, hp49, ha49⟩ := rs_idx Sl22 Sz3 h0 hx48
          refine x_p 2 (.pointer (some ⟨b49, o49, none⟩)) rfl (by kernel_rfl)  (fun _ => hp49 _ _ _ _ _ _ _ _ _ rfl rfl) (fun _ => hS) ?_
          refine x_l 3 (.int .i64 x48) rfl (by kernel_rfl)  (fun w' hw' => y_load rfl ((at_load_int Ag3 Sz3 ha49) w' hw')) hS ?_
          refine x_p 4 (.slice pa1 pn1 pc1) rfl (by kernel_rfl)  (fun _ => y_move rfl) (fun _ => hS) ?_
          refine x_p 5 (.int .i64 s25) rfl (by kernel_rfl)  (fun _ => y_move rfl) (fun _ => hS) ?_
          obtain ⟨x50, hx50, hs⟩ := bind_some hs
          obtain ⟨b51, o51, hp51, ha51⟩ := rs_idx Sl22 Sz3 h1 hx50
          refine x_p 6 (.pointer (some ⟨b51, o51, none⟩)) rfl (by kernel_rfl)  (fun _ => hp51 _ _ _ _ _ _ _ _ _ rfl rfl) (fun _ => hS) ?_
          refine x_l 7 (.int .i64 x50) rfl (by kernel_rfl)  (fun w' hw' => y_load rfl ((at_load_int Ag3 Sz3 ha51) w' hw')) hS ?_
          refine x_p 8 (.bool (decide (x48 < x50))) rfl (by kernel_rfl)  (fun _ => y_lss rfl rfl) (fun _ => hS) ?_
          refine x_end (by kernel_rfl) ?_
          clear hS
          rcases bif_some hs with ⟨hc52, hs⟩ | ⟨hc52, hs⟩
          · skip
            refine c_condT (congrArg Value.bool hc52) ?_
            refine c_seq ?_
            refine c_region ?_
            refine pl_val (.int .i64 (-1)) (y_assign rfl) ?_
            refine c_nil ?_
            refine wp_ret ?_
            cases hs
            exact ⟨_, fr_ovl 48 ⟨rfl, trivial⟩, hC⟩
          · skip
            refine c_condF (congrArg Value.bool hc52) ?_
            refine wp_skip ?_
            refine c_seq ?_
            refine c_region ?_
            refine pl_val (.int .i64 1) (y_assign rfl) ?_
            refine c_nil ?_
            refine wp_ret ?_
            cases hs
            exact ⟨_, fr_ovl 48 ⟨rfl, trivial⟩, hC⟩
        · skip
          refine c_condF (congrArg Value.bool hc46) ?_
          refine wp_skip ?_
          refine c_region ?_
          refine pl_val (.int .i64 s25) (y_move rfl) ?_
          refine pl_val (.int .i64 (w64 (s25 + 1))) (y_add rfl rfl) ?_
          refine pl_val (.int .i64 (w64 (s25 + 1))) (y_assign rfl) ?_
          refine c_nil ?_
          cases hs
          exact ⟨_, fr_ovl 48 ⟨rfl, rfl, rfl, trivial⟩, hC, hO, h0, h1⟩
      · skip
        refine c_condF (congrArg Value.bool hc35) ?_
        refine wp_exit ?_
        cases hs
        exact ⟨rfl, _, fr_ovl 48 ⟨rfl, rfl, trivial⟩, hC, hO, h0, h1⟩
  · skip
    exact ⟨_, fr_ovl 48 ⟨rfl, rfl, rfl, trivial⟩, hC, hO, h0, h1⟩
  · cases o29 with
    | nx _ => exact True.intro
    | rt r_ =>
      have hs := after_rt hs
      intro a1 w1 hK
      cases hs
      exact hK
    | br s25 =>
      have hs := after_br hs
      rintro a1 w26 ⟨σ, rfl, hC, hO, h0, h1⟩
      refine c_seq ?_
      refine wp_block ?_
      refine c_seq ?_
      refine c_region ?_
      refine pl_val (.slice pa0 pn0 pc0) (y_move rfl) ?_
      refine pl_val (.int .i64 (s_.length : Int)) (y_len' Sl22 (rs_len h0) rfl) ?_
      refine pl_val (.slice pa1 pn1 pc1) (y_move rfl) ?_
      refine pl_val (.int .i64 (t.length : Int)) (y_len' Sl22 (rs_len h1) rfl) ?_
      refine pl_val (.bool (decide ((s_.length : Int) < (t.length : Int)))) (y_lss rfl rfl) ?_
      refine pl_val (.bool (decide ((s_.length : Int) < (t.length : Int)))) (y_assign rfl) ?_
      refine c_nil ?_
      rcases bif_some hs with ⟨hc53, hs⟩ | ⟨hc53, hs⟩
      · skip
        refine c_condT (congrArg Value.bool hc53) ?_
        refine c_seq ?_
        refine c_region ?_
        refine pl_val (.int .i64 (-1)) (y_assign rfl) ?_
        refine c_nil ?_
        refine wp_ret ?_
        cases hs
        exact ⟨_, fr_ovl 48 ⟨rfl, trivial⟩, hC⟩
      · skip
        refine c_condF (congrArg Value.bool hc53) ?_
        refine c_seq ?_
        refine c_region ?_
        refine pl_val (.slice pa0 pn0 pc0) (y_move rfl) ?_
        refine pl_val (.int .i64 (s_.length : Int)) (y_len' Sl22 (rs_len h0) rfl) ?_
        refine pl_val (.slice pa1 pn1 pc1) (y_move rfl) ?_
        refine pl_val (.int .i64 (t.length : Int)) (y_len' Sl22 (rs_len h1) rfl) ?_
        refine pl_val (.bool (decide ((t.length : Int) < (s_.length : Int)))) (y_gtr rfl rfl) ?_
        refine pl_val (.bool (decide ((t.length : Int) < (s_.length : Int)))) (y_assign rfl) ?_
        refine c_nil ?_
        rcases bif_some hs with ⟨hc54, hs⟩ | ⟨hc54, hs⟩
        · skip
          refine c_condT (congrArg Value.bool hc54) ?_
          refine c_seq ?_
          refine c_region ?_
          refine pl_val (.int .i64 1) (y_assign rfl) ?_
          refine c_nil ?_
          refine wp_ret ?_
          cases hs
          exact ⟨_, fr_ovl 48 ⟨rfl, trivial⟩, hC⟩
        · skip
          refine c_condF (congrArg Value.bool hc54) ?_
          refine wp_skip ?_
          refine c_seq ?_
          refine c_region ?_
          refine pl_val (.int .i64 0) (y_assign rfl) ?_
          refine c_nil ?_
          refine wp_ret ?_
          cases hs
          exact ⟨_, fr_ovl 48 ⟨rfl, trivial⟩, hC⟩

theorem Bd113 : Bodied Try.prog 113 := bodied Try.func113 (by kernel_rfl) rfl

theorem Bd180 : Bodied Try.prog 180 := bodied Try.func180 (by kernel_rfl) rfl

def k_impl_isRelation (M : Nat → Prop) (w0 : World) (r : Bool) (a : Act) (w : World) : Prop :=
  ∃ (σ : Nat → Value) , a = fr 50 (ovl σ [(4, (.bool r))]) ∧ Chg [] w0 w
def s_impl_isRelation (n : Int) (r_ : Int × (List (List Int))) : Option (Bool) :=
  (bif ((decide (r_.1 < 1)) || (decide (3 < r_.1))) then some false else (forC (S := Unit) (R := Bool) (fun k26 s24 =>
  (idx r_.2 k26).bind fun x30 =>
  (bif ((x30.length : Int) != r_.1) then some (.rt false) else (s_impl_inSize x30 n).bind fun r36 =>
  (bif (!r36) then some (.rt false) else (bif (decide (0 < k26)) then (idx r_.2 (w64 (k26 - 1))).bind fun x39 =>
  (s_impl_compareLists x39 x30).bind fun r44 =>
  (bif (decide (0 ≤ r44)) then some (.rt false) else some (.nx ())) else some (.nx ()))))) 0 (r_.2.length : Int) ()).bind fun o28 => after o28 (fun r_ => some r_) (fun s24 =>
  some true))
set_option maxHeartbeats 4000000 in
theorem c_impl_isRelation {M : Nat → Prop} {w : World} {pa0 : Option Addr} {pn0 pc0 : Nat} (n : Int) (r_ : Int × (List (List Int))) (h0 : (RT.rs (RT.rs (RT.int .i64))).val M w (.slice pa0 pn0 pc0) r_.2 ([])) (hM : ∀ g, w.heap.size ≤ g → M g) {r : Bool} (hs : s_impl_isRelation n r_ = some r) :
    Gives Try.prog 147 [(.int .i64 n), (.agg #[(.int .i64 r_.1), (.slice pa0 pn0 pc0)])] w (fun v w' => v = (.bool r) ∧ Chg [] w w') := by
  refine calls_fr Try.func147 rfl Try.ntmps147 (Nat.le_of_ble_eq_true rfl) ?_
  have hO := Own.start (N := Nw w []) hM Nw.fut
  have hC := Chg.refl [] w
  unfold s_impl_isRelation at hs
  refine wp_mono (Q := KPost (k_impl_isRelation M w r)) ?_ (fun e a w1 h => ?_)
  rotate_left
  · cases e
    case ret =>
      obtain ⟨σ, rfl, hrest⟩ := h
      exact ret1x Try.results147 (res_tmp rfl) ⟨rfl, hrest⟩
    all_goals exact (h : False).elim
  refine c_seq ?_
  refine c_region ?_
  obtain ⟨w2, g2, ew2, eg2, hC2, hb2⟩ := new_block w [(.int .i64 r_.1), (.slice pa0 pn0 pc0)] 31
  refine pl_val (w' := w2) (.pointer (some ⟨g2, 0, none⟩)) (y_box rfl (by rw [ew2, eg2]; kernel_rfl)) ?_
  have h0 := h0.ext hC2
  have hC := hC.ext hC2
  have hO := hO.new (X' := [g2]) hC2 (fun q hq => by rw [List.mem_singleton.1 hq, eg2]; exact Nat.le_refl _) (List.nodup_cons.2 ⟨(fun h => nomatch h), List.nodup_nil⟩) (fun q hq => by rw [List.mem_singleton.1 hq]; exact hb2.lt)
  refine pl_val (.bool false) (y_assign rfl) ?_
  refine c_nil ?_
  refine c_seq ?_
  refine c_seq ?_
  refine c_mid (I := fun a w4 => ∃ (σ : Nat → Value), a = fr 50 (ovl σ [(0, (.int .i64 n)), (3, (.pointer (some ⟨g2, 0, none⟩))), (4, (.bool false)), (14, (.bool ((decide (r_.1 < 1)) || (decide (3 < r_.1)))))]) ∧ Chg [] w2 w4) ?_ ?_
  · have hMid := Chg.refl [] w2
    refine c_region ?_
    refine pl_val (.pointer (some ⟨g2, 0, none⟩)) (y_faddr rfl Fa31x0) ?_
    refine pl_val (.int .i64 r_.1) (y_load rfl ((box_load Ag3 Sz3 hb2 [] [(.int .i64 r_.1)] [(.slice pa0 pn0 pc0)] rfl rfl (fun _ => rfl)) _ (Chg.refl _ _))) ?_
    refine pl_val (.bool (decide (r_.1 < 1))) (y_lss rfl rfl) ?_
    refine pl_val (.bool (decide (r_.1 < 1))) (y_move rfl) ?_
    rcases Bool.eq_false_or_eq_true ((decide (r_.1 < 1))) with hc6 | hc6
    · skip
      refine pl_not (tg := 10) (by kernel_rfl) (congrArg Value.bool hc6) ?_
      refine pl_not (tg := 10) (by kernel_rfl) (congrArg Value.bool hc6) ?_
      refine pl_not (tg := 10) (by kernel_rfl) (congrArg Value.bool hc6) ?_
      refine pl_val (.bool ((decide (r_.1 < 1)) || (decide (3 < r_.1)))) (y_pick_t (congrArg Value.bool hc6) (congrArg Value.bool (by rw [hc6]; rfl))) ?_
      refine c_nil ?_
      exact ⟨_, fr_ovl 50 ⟨rfl, rfl, rfl, rfl, trivial⟩, hMid⟩
    · skip
      refine pl_yes (.pointer (some ⟨g2, 0, none⟩)) (tg := 10) (by kernel_rfl) (congrArg Value.bool hc6) (y_faddr rfl Fa31x0) ?_
      refine pl_yes (.int .i64 r_.1) (tg := 10) (by kernel_rfl) (congrArg Value.bool hc6) (y_load rfl ((box_load Ag3 Sz3 hb2 [] [(.int .i64 r_.1)] [(.slice pa0 pn0 pc0)] rfl rfl (fun _ => rfl)) _ (Chg.refl _ _))) ?_
      refine pl_yes (.bool (decide (3 < r_.1))) (tg := 10) (by kernel_rfl) (congrArg Value.bool hc6) (y_gtr rfl rfl) ?_
      refine pl_val (.bool ((decide (r_.1 < 1)) || (decide (3 < r_.1)))) (y_pick_f (congrArg Value.bool hc6) (congrArg Value.bool (by rw [hc6]; rfl))) ?_
      refine c_nil ?_
      exact ⟨_, fr_ovl 50 ⟨rfl, rfl, rfl, rfl, trivial⟩, hMid⟩
  · rintro a1 w4 ⟨σ, rfl, hCs3⟩
    have h0 := h0.ext hCs3
    have hb2 := hb2.chg hCs3 (fun h => nomatch h)
    have hC := hC.ext hCs3
    have hO := hO.ext hCs3
    rcases bif_some hs with ⟨hc7, hs⟩ | ⟨hc7, hs⟩
    · skip
      refine c_condT (congrArg Value.bool hc7) ?_
      refine c_seq ?_
      refine c_region ?_
      refine pl_val (.bool false) (y_assign rfl) ?_
      refine c_nil ?_
      refine wp_ret ?_
      cases hs
      exact ⟨_, fr_ovl 50 ⟨rfl, trivial⟩, hC⟩
    · skip
      refine c_condF (congrArg Value.bool hc7) ?_
      refine wp_skip ?_
      refine c_seq ?_
      refine c_seq ?_
      refine c_region ?_
      refine pl_val (.pointer (some ⟨g2, 1, none⟩)) (y_faddr rfl Fa31x1) ?_
      refine pl_val (.slice pa0 pn0 pc0) (y_load rfl ((box_load Ag29 Sz29 hb2 [(.int .i64 r_.1)] [(.slice pa0 pn0 pc0)] [] rfl rfl (fun _ => rfl)) _ (Chg.refl _ _))) ?_
      refine pl_val (.int .i64 (r_.2.length : Int)) (y_len' Sl29 (rs_len h0) rfl) ?_
      refine pl_val (.int .i64 0) (y_move rfl) ?_
      refine c_nil ?_
      obtain ⟨o28, hl29, hs⟩ := bind_some hs
      refine wp_block ?_
      refine wp_forC (id := 0) (r_.2.length : Int) (I := fun k26 s24 a w25 => ∃ (σ : Nat → Value), a = fr 50 (ovl σ [(0, (.int .i64 n)), (3, (.pointer (some ⟨g2, 0, none⟩))), (16, (.slice pa0 pn0 pc0)), (17, (.int .i64 (r_.2.length : Int))), (18, (.int .i64 k26))]) ∧ Chg [] w w25 ∧ Own (Nw w []) M w25 (([g2]) ++ []) ∧ (RT.rs (RT.rs (RT.int .i64))).val M w25 (.slice pa0 pn0 pc0) r_.2 ([]) ∧ BoxV w25 g2 31 [(.int .i64 r_.1), (.slice pa0 pn0 pc0)]) (J := fun s24 a w25 => ∃ (σ : Nat → Value), a = fr 50 (ovl σ []) ∧ Chg [] w w25 ∧ Own (Nw w []) M w25 (([g2]) ++ []) ∧ (RT.rs (RT.rs (RT.int .i64))).val M w25 (.slice pa0 pn0 pc0) r_.2 ([]) ∧ BoxV w25 g2 31 [(.int .i64 r_.1), (.slice pa0 pn0 pc0)]) (K := (k_impl_isRelation M w)) ?_ ?_ 0 () o28 _ _ ?_ hl29 ?_
      · rintro k26 s24 a w25 ⟨σ, rfl, hC, hO, h0, hb2⟩ hlt
        refine c_seq ?_
        refine c_region ?_
        refine pl_val (.bool (decide (k26 < (r_.2.length : Int)))) (y_lss rfl rfl) ?_
        refine c_nil ?_
        refine c_seq ?_
        refine c_condF (congrArg Value.bool (decide_eq_false hlt)) ?_
        refine wp_exit ?_
        exact ⟨rfl, _, fr_ovl 50 trivial, hC, hO, h0, hb2⟩
      · rintro k26 s24 o28 a w25 ⟨σ, rfl, hC, hO, h0, hb2⟩ hlt hw hs
        refine c_seq ?_
        refine c_region ?_
        refine pl_val (.bool (decide (k26 < (r_.2.length : Int)))) (y_lss rfl rfl) ?_
        refine c_nil ?_
        refine c_seq ?_
        refine c_condT (congrArg Value.bool (decide_eq_true hlt)) ?_
        refine wp_skip ?_
        refine c_seq ?_
        refine wp_block ?_
        refine c_seq ?_
        refine c_region ?_
        refine pl_val (.int .i64 k26) (y_move rfl) ?_
        obtain ⟨x30, hx30, hs⟩ := bind_some hs
        obtain ⟨b31, o31, hp31, ha31⟩ := rs_idx Sl29 Sz22 h0 hx30
        refine pl_val (.pointer (some ⟨b31, o31, none⟩)) (hp31 _ _ _ _ _ _ _ _ _ rfl rfl) ?_
        obtain ⟨v32, hl32, hv32⟩ := at_load Ag22 Sz22 (fun _ => rfl) ha31
        obtain ⟨a32, n32, c32, rfl⟩ := rs_sl hv32
        refine pl_val (.slice a32 n32 c32) (y_load rfl (hl32 _ (Chg.refl _ _))) ?_
        refine pl_val (.int .i64 k26) (y_assign rfl) ?_
        refine pl_val (.slice a32 n32 c32) (y_assign rfl) ?_
        refine c_nil ?_
        refine c_seq ?_
        refine c_region ?_
        refine pl_val (.slice a32 n32 c32) (y_move rfl) ?_
        refine pl_val (.int .i64 (x30.length : Int)) (y_len' Sl22 (rs_len hv32) rfl) ?_
        refine pl_val (.pointer (some ⟨g2, 0, none⟩)) (y_faddr rfl Fa31x0) ?_
        refine pl_val (.int .i64 r_.1) (y_load rfl ((box_load Ag3 Sz3 hb2 [] [(.int .i64 r_.1)] [(.slice pa0 pn0 pc0)] rfl rfl (fun _ => rfl)) _ (Chg.refl _ _))) ?_
        refine pl_val (.bool ((x30.length : Int) != r_.1)) (y_neq rfl rfl) ?_
        refine pl_val (.bool ((x30.length : Int) != r_.1)) (y_move rfl) ?_
        rcases bif_some hs with ⟨hc34, hs⟩ | ⟨hc34, hs⟩
        · skip
          refine pl_not (tg := 28) (by kernel_rfl) (congrArg Value.bool hc34) ?_
          refine pl_not (tg := 28) (by kernel_rfl) (congrArg Value.bool hc34) ?_
          refine pl_not (tg := 28) (by kernel_rfl) (congrArg Value.bool hc34) ?_
          refine pl_not (tg := 28) (by kernel_rfl) (congrArg Value.bool hc34) ?_
          refine pl_val (.bool true) (y_pick_t (congrArg Value.bool hc34) rfl) ?_
          refine pl_val (.bool true) (y_move rfl) ?_
          refine pl_not (tg := 34) (by kernel_rfl) (by rfl) ?_
          refine pl_not (tg := 34) (by kernel_rfl) (by rfl) ?_
          refine pl_not (tg := 34) (by kernel_rfl) (by rfl) ?_
          refine pl_nou (tg := 37) (by kernel_rfl) rfl ?_
          refine pl_nou (tg := 37) (by kernel_rfl) rfl ?_
          refine pl_nou (tg := 37) (by kernel_rfl) rfl ?_
          refine pl_nou (tg := 37) (by kernel_rfl) rfl ?_
          refine pl_nou (tg := 37) (by kernel_rfl) rfl ?_
          refine pl_nou (tg := 37) (by kernel_rfl) rfl ?_
          refine pl_nou (tg := 37) (by kernel_rfl) rfl ?_
          refine pl_nou (tg := 37) (by kernel_rfl) rfl ?_
          refine pl_nou (tg := 37) (by kernel_rfl) rfl ?_
          refine pl_not (tg := 34) (by kernel_rfl) (by rfl) ?_
          refine pl_val (.bool true) (y_pick_t (by rfl) rfl) ?_
          refine c_nil ?_
          refine c_condT (by rfl) ?_
          refine c_seq ?_
          refine c_region ?_
          refine pl_val (.bool false) (y_assign rfl) ?_
          refine c_nil ?_
          refine wp_ret ?_
          cases hs
          exact ⟨_, fr_ovl 50 ⟨rfl, trivial⟩, hC⟩
        · skip
          refine pl_yes (.slice a32 n32 c32) (tg := 28) (by kernel_rfl) (congrArg Value.bool hc34) (y_move rfl) ?_
          refine pl_yes (.int .i64 n) (tg := 28) (by kernel_rfl) (congrArg Value.bool hc34) (y_move rfl) ?_
          obtain ⟨r36, hr36, hs⟩ := bind_some hs
          refine pl_cally (tg := 28) (by kernel_rfl) (congrArg Value.bool hc34) Bd113 rfl (c_impl_inSize (M := M) x30 n hv32 hO.fut hr36) ?_
          rintro _ w35 ⟨rfl, hC35⟩
          have h0 := h0.ext hC35
          have hb2 := hb2.chg hC35 (fun h => nomatch h)
          have hv32 := hv32.ext hC35
          have hC := hC.ext hC35
          have hO := hO.ext hC35
          refine pl_yes (.bool (!r36)) (tg := 28) (by kernel_rfl) (congrArg Value.bool hc34) (y_not rfl) ?_
          refine pl_val (.bool (!r36)) (y_pick_f (congrArg Value.bool hc34) rfl) ?_
          refine pl_val (.bool (!r36)) (y_move rfl) ?_
          rcases bif_some hs with ⟨hc37, hs⟩ | ⟨hc37, hs⟩
          · skip
            refine pl_not (tg := 34) (by kernel_rfl) (congrArg Value.bool hc37) ?_
            refine pl_not (tg := 34) (by kernel_rfl) (congrArg Value.bool hc37) ?_
            refine pl_not (tg := 34) (by kernel_rfl) (congrArg Value.bool hc37) ?_
            refine pl_nou (tg := 37) (by kernel_rfl) rfl ?_
            refine pl_nou (tg := 37) (by kernel_rfl) rfl ?_
            refine pl_nou (tg := 37) (by kernel_rfl) rfl ?_
            refine pl_nou (tg := 37) (by kernel_rfl) rfl ?_
            refine pl_nou (tg := 37) (by kernel_rfl) rfl ?_
            refine pl_nou (tg := 37) (by kernel_rfl) rfl ?_
            refine pl_nou (tg := 37) (by kernel_rfl) rfl ?_
            refine pl_nou (tg := 37) (by kernel_rfl) rfl ?_
            refine pl_nou (tg := 37) (by kernel_rfl) rfl ?_
            refine pl_not (tg := 34) (by kernel_rfl) (congrArg Value.bool hc37) ?_
            refine pl_val (.bool true) (y_pick_t (congrArg Value.bool hc37) rfl) ?_
            refine c_nil ?_
            refine c_condT (by rfl) ?_
            refine c_seq ?_
            refine c_region ?_
            refine pl_val (.bool false) (y_assign rfl) ?_
            refine c_nil ?_
            refine wp_ret ?_
            cases hs
            exact ⟨_, fr_ovl 50 ⟨rfl, trivial⟩, hC⟩
          · skip
            refine pl_yes (.int .i64 k26) (tg := 34) (by kernel_rfl) (congrArg Value.bool hc37) (y_move rfl) ?_
            refine pl_yes (.bool (decide (0 < k26))) (tg := 34) (by kernel_rfl) (congrArg Value.bool hc37) (y_gtr rfl rfl) ?_
            refine pl_yes (.bool (decide (0 < k26))) (tg := 34) (by kernel_rfl) (congrArg Value.bool hc37) (y_move rfl) ?_
            rcases bif_some hs with ⟨hc38, hs⟩ | ⟨hc38, hs⟩
            · skip
              refine pl_yes (.pointer (some ⟨g2, 1, none⟩)) (tg := 37) (by kernel_rfl) (congrArg Value.bool hc38) (y_faddr rfl Fa31x1) ?_
              refine pl_yes (.slice pa0 pn0 pc0) (tg := 37) (by kernel_rfl) (congrArg Value.bool hc38) (y_load rfl ((box_load Ag29 Sz29 hb2 [(.int .i64 r_.1)] [(.slice pa0 pn0 pc0)] [] rfl rfl (fun _ => rfl)) _ (Chg.refl _ _))) ?_
              refine pl_yes (.int .i64 k26) (tg := 37) (by kernel_rfl) (congrArg Value.bool hc38) (y_move rfl) ?_
              refine pl_yes (.int .i64 (w64 (k26 - 1))) (tg := 37) (by kernel_rfl) (congrArg Value.bool hc38) (y_sub rfl rfl) ?_
              obtain ⟨x39, hx39, hs⟩ := bind_some hs
              obtain ⟨b40, o40, hp40, ha40⟩ := rs_idx Sl29 Sz22 h0 hx39
              refine pl_yes (.pointer (some ⟨b40, o40, none⟩)) (tg := 37) (by kernel_rfl) (congrArg Value.bool hc38) (hp40 _ _ _ _ _ _ _ _ _ rfl rfl) ?_
              obtain ⟨v41, hl41, hv41⟩ := at_load Ag22 Sz22 (fun _ => rfl) ha40
              obtain ⟨a41, n41, c41, rfl⟩ := rs_sl hv41
              refine pl_yes (.slice a41 n41 c41) (tg := 37) (by kernel_rfl) (congrArg Value.bool hc38) (y_load rfl (hl41 _ (Chg.refl _ _))) ?_
              refine pl_yes (.slice a32 n32 c32) (tg := 37) (by kernel_rfl) (congrArg Value.bool hc38) (y_move rfl) ?_
              obtain ⟨r44, hr44, hs⟩ := bind_some hs
              refine pl_cally (tg := 37) (by kernel_rfl) (congrArg Value.bool hc38) Bd180 rfl (c_impl_compareLists (M := M) x39 x30 hv41 hv32 hO.fut hr44) ?_
              rintro _ w43 ⟨rfl, hC43⟩
              have h0 := h0.ext hC43
              have hb2 := hb2.chg hC43 (fun h => nomatch h)
              have hv32 := hv32.ext hC43
              have hv41 := hv41.ext hC43
              have hC := hC.ext hC43
              have hO := hO.ext hC43
              refine pl_yes (.bool (decide (0 ≤ r44))) (tg := 37) (by kernel_rfl) (congrArg Value.bool hc38) (y_geq rfl rfl) ?_
              refine pl_yes (.bool (decide (0 ≤ r44))) (tg := 34) (by kernel_rfl) (congrArg Value.bool hc37) (y_pick_t (congrArg Value.bool hc38) rfl) ?_
              refine pl_val (.bool (decide (0 ≤ r44))) (y_pick_f (congrArg Value.bool hc37) rfl) ?_
              refine c_nil ?_
              rcases bif_some hs with ⟨hc45, hs⟩ | ⟨hc45, hs⟩
              · skip
                refine c_condT (congrArg Value.bool hc45) ?_
                refine c_seq ?_
                refine c_region ?_
                refine pl_val (.bool false) (y_assign rfl) ?_
                refine c_nil ?_
                refine wp_ret ?_
                cases hs
                exact ⟨_, fr_ovl 50 ⟨rfl, trivial⟩, hC⟩
              · skip
                refine c_condF (congrArg Value.bool hc45) ?_
                refine wp_skip ?_
                refine c_region ?_
                refine pl_val (.int .i64 (w64 (k26 + 1))) (y_add rfl rfl) ?_
                refine pl_val (.int .i64 (w64 (k26 + 1))) (y_move rfl) ?_
                refine c_nil ?_
                cases hs
                exact ⟨_, fr_ovl 50 ⟨rfl, rfl, rfl, rfl, congrArg (Value.int .i64) hw, trivial⟩, hC, hO, h0, hb2⟩
            · skip
              refine pl_not (tg := 37) (by kernel_rfl) (congrArg Value.bool hc38) ?_
              refine pl_not (tg := 37) (by kernel_rfl) (congrArg Value.bool hc38) ?_
              refine pl_not (tg := 37) (by kernel_rfl) (congrArg Value.bool hc38) ?_
              refine pl_not (tg := 37) (by kernel_rfl) (congrArg Value.bool hc38) ?_
              refine pl_not (tg := 37) (by kernel_rfl) (congrArg Value.bool hc38) ?_
              refine pl_not (tg := 37) (by kernel_rfl) (congrArg Value.bool hc38) ?_
              refine pl_not (tg := 37) (by kernel_rfl) (congrArg Value.bool hc38) ?_
              refine pl_not (tg := 37) (by kernel_rfl) (congrArg Value.bool hc38) ?_
              refine pl_not (tg := 37) (by kernel_rfl) (congrArg Value.bool hc38) ?_
              refine pl_yes (.bool false) (tg := 34) (by kernel_rfl) (congrArg Value.bool hc37) (y_pick_f (congrArg Value.bool hc38) rfl) ?_
              refine pl_val (.bool false) (y_pick_f (congrArg Value.bool hc37) rfl) ?_
              refine c_nil ?_
              refine c_condF (by rfl) ?_
              refine wp_skip ?_
              refine c_region ?_
              refine pl_val (.int .i64 (w64 (k26 + 1))) (y_add rfl rfl) ?_
              refine pl_val (.int .i64 (w64 (k26 + 1))) (y_move rfl) ?_
              refine c_nil ?_
              cases hs
              exact ⟨_, fr_ovl 50 ⟨rfl, rfl, rfl, rfl, congrArg (Value.int .i64) hw, trivial⟩, hC, hO, h0, hb2⟩
      · skip
        exact ⟨_, fr_ovl 50 ⟨rfl, rfl, rfl, rfl, rfl, trivial⟩, hC, hO, h0, hb2⟩
      · cases o28 with
        | nx _ => exact True.intro
        | rt r_ =>
          have hs := after_rt hs
          intro a1 w1 hK
          cases hs
          exact hK
        | br s24 =>
          have hs := after_br hs
          rintro a1 w25 ⟨σ, rfl, hC, hO, h0, hb2⟩
          refine c_seq ?_
          refine c_region ?_
          refine pl_val (.bool true) (y_assign rfl) ?_
          refine c_nil ?_
          refine wp_ret ?_
          cases hs
          exact ⟨_, fr_ovl 50 ⟨rfl, trivial⟩, hC⟩

theorem Bd147 : Bodied Try.prog 147 := bodied Try.func147 (by kernel_rfl) rfl

def k_impl_isConstraint (M : Nat → Prop) (w0 : World) (r : Bool) (a : Act) (w : World) : Prop :=
  ∃ (σ : Nat → Value) , a = fr 26 (ovl σ [(6, (.bool r))]) ∧ Chg [] w0 w
def s_impl_isConstraint (vars : Int) (size : Int) (c : (List Int) × (Int × (List (List Int)))) : Option (Bool) :=
  (s_impl_isRelation size (c.2.1, c.2.2)).bind fun r5 =>
  (bif r5 then (bif ((c.1.length : Int) == c.2.1) then (s_impl_inSize c.1 vars).bind fun r9 =>
  some r9 else some false) else some false)
set_option maxHeartbeats 4000000 in
theorem c_impl_isConstraint {M : Nat → Prop} {w : World} {pa0 : Option Addr} {pn0 pc0 : Nat} {pa1 : Option Addr} {pn1 pc1 : Nat} (vars : Int) (size : Int) (c : (List Int) × (Int × (List (List Int)))) (h0 : (RT.rs (RT.int .i64)).val M w (.slice pa0 pn0 pc0) c.1 ([])) (h1 : (RT.rs (RT.rs (RT.int .i64))).val M w (.slice pa1 pn1 pc1) c.2.2 ([])) (hM : ∀ g, w.heap.size ≤ g → M g) {r : Bool} (hs : s_impl_isConstraint vars size c = some r) :
    Gives Try.prog 91 [(.int .i64 vars), (.int .i64 size), (.agg #[(.slice pa0 pn0 pc0), (.int .i64 c.2.1), (.slice pa1 pn1 pc1)])] w (fun v w' => v = (.bool r) ∧ Chg [] w w') := by
  refine calls_fr Try.func91 rfl Try.ntmps91 (Nat.le_of_ble_eq_true rfl) ?_
  have hO := Own.start (N := Nw w []) hM Nw.fut
  have hC := Chg.refl [] w
  unfold s_impl_isConstraint at hs
  refine wp_mono (Q := KPost (k_impl_isConstraint M w r)) ?_ (fun e a w1 h => ?_)
  rotate_left
  · cases e
    case ret =>
      obtain ⟨σ, rfl, hrest⟩ := h
      exact ret1x Try.results91 (res_tmp rfl) ⟨rfl, hrest⟩
    all_goals exact (h : False).elim
  refine c_seq ?_
  refine c_region ?_
  obtain ⟨w3, g3, ew3, eg3, hC3, hb3⟩ := new_block w [(.slice pa0 pn0 pc0), (.int .i64 c.2.1), (.slice pa1 pn1 pc1)] 108
  refine pl_val (w' := w3) (.pointer (some ⟨g3, 0, none⟩)) (y_box rfl (by rw [ew3, eg3]; kernel_rfl)) ?_
  have h0 := h0.ext hC3
  have h1 := h1.ext hC3
  have hC := hC.ext hC3
  have hO := hO.new (X' := [g3]) hC3 (fun q hq => by rw [List.mem_singleton.1 hq, eg3]; exact Nat.le_refl _) (List.nodup_cons.2 ⟨(fun h => nomatch h), List.nodup_nil⟩) (fun q hq => by rw [List.mem_singleton.1 hq]; exact hb3.lt)
  refine pl_val (.bool false) (y_assign rfl) ?_
  refine c_nil ?_
  refine c_seq ?_
  refine c_region ?_
  refine pl_val (.int .i64 size) (y_move rfl) ?_
  refine pl_val (.pointer (some ⟨g3, 1, none⟩)) (y_faddr rfl Fa108x1) ?_
  refine pl_val (.agg #[(.int .i64 c.2.1), (.slice pa1 pn1 pc1)]) (y_load rfl ((box_load Ag31 Sz31 hb3 [(.slice pa0 pn0 pc0)] [(.int .i64 c.2.1), (.slice pa1 pn1 pc1)] [] rfl rfl (fun h => nomatch h)) _ (Chg.refl _ _))) ?_
  obtain ⟨r5, hr5, hs⟩ := bind_some hs
  refine pl_call Bd147 rfl (c_impl_isRelation (M := M) size (c.2.1, c.2.2) h1 hO.fut hr5) ?_
  rintro _ w4 ⟨rfl, hC4⟩
  have h0 := h0.ext hC4
  have h1 := h1.ext hC4
  have hb3 := hb3.chg hC4 (fun h => nomatch h)
  have hC := hC.ext hC4
  have hO := hO.ext hC4
  refine pl_val (.bool r5) (y_move rfl) ?_
  rcases bif_some hs with ⟨hc6, hs⟩ | ⟨hc6, hs⟩
  · skip
    refine pl_yes (.pointer (some ⟨g3, 0, none⟩)) (tg := 11) (by kernel_rfl) (congrArg Value.bool hc6) (y_faddr rfl Fa108x0) ?_
    refine pl_yes (.slice pa0 pn0 pc0) (tg := 11) (by kernel_rfl) (congrArg Value.bool hc6) (y_load rfl ((box_load Ag22 Sz22 hb3 [] [(.slice pa0 pn0 pc0)] [(.int .i64 c.2.1), (.slice pa1 pn1 pc1)] rfl rfl (fun _ => rfl)) _ (Chg.refl _ _))) ?_
    refine pl_yes (.int .i64 (c.1.length : Int)) (tg := 11) (by kernel_rfl) (congrArg Value.bool hc6) (y_len' Sl22 (rs_len h0) rfl) ?_
    refine pl_yes (.pointer (some ⟨g3, 1, none⟩)) (tg := 11) (by kernel_rfl) (congrArg Value.bool hc6) (y_faddr rfl Fa108x1) ?_
    refine pl_yes (.pointer (some ⟨g3, 1, none⟩)) (tg := 11) (by kernel_rfl) (congrArg Value.bool hc6) (y_faddr rfl Fa31x0) ?_
    refine pl_yes (.int .i64 c.2.1) (tg := 11) (by kernel_rfl) (congrArg Value.bool hc6) (y_load rfl ((box_load Ag3 Sz3 hb3 [(.slice pa0 pn0 pc0)] [(.int .i64 c.2.1)] [(.slice pa1 pn1 pc1)] rfl rfl (fun _ => rfl)) _ (Chg.refl _ _))) ?_
    refine pl_yes (.bool ((c.1.length : Int) == c.2.1)) (tg := 11) (by kernel_rfl) (congrArg Value.bool hc6) (y_eql rfl rfl) ?_
    refine pl_val (.bool ((c.1.length : Int) == c.2.1)) (y_pick_t (congrArg Value.bool hc6) rfl) ?_
    refine pl_val (.bool ((c.1.length : Int) == c.2.1)) (y_move rfl) ?_
    rcases bif_some hs with ⟨hc7, hs⟩ | ⟨hc7, hs⟩
    · skip
      refine pl_yes (.pointer (some ⟨g3, 0, none⟩)) (tg := 20) (by kernel_rfl) (congrArg Value.bool hc7) (y_faddr rfl Fa108x0) ?_
      refine pl_yes (.slice pa0 pn0 pc0) (tg := 20) (by kernel_rfl) (congrArg Value.bool hc7) (y_load rfl ((box_load Ag22 Sz22 hb3 [] [(.slice pa0 pn0 pc0)] [(.int .i64 c.2.1), (.slice pa1 pn1 pc1)] rfl rfl (fun _ => rfl)) _ (Chg.refl _ _))) ?_
      refine pl_yes (.int .i64 vars) (tg := 20) (by kernel_rfl) (congrArg Value.bool hc7) (y_move rfl) ?_
      obtain ⟨r9, hr9, hs⟩ := bind_some hs
      refine pl_cally (tg := 20) (by kernel_rfl) (congrArg Value.bool hc7) Bd113 rfl (c_impl_inSize (M := M) c.1 vars h0 hO.fut hr9) ?_
      rintro _ w8 ⟨rfl, hC8⟩
      have h0 := h0.ext hC8
      have h1 := h1.ext hC8
      have hb3 := hb3.chg hC8 (fun h => nomatch h)
      have hC := hC.ext hC8
      have hO := hO.ext hC8
      refine pl_val (.bool r9) (y_pick_t (congrArg Value.bool hc7) rfl) ?_
      refine pl_val (.bool r9) (y_assign rfl) ?_
      refine c_nil ?_
      refine wp_ret ?_
      cases hs
      exact ⟨_, fr_ovl 26 ⟨rfl, trivial⟩, hC⟩
    · skip
      refine pl_not (tg := 20) (by kernel_rfl) (congrArg Value.bool hc7) ?_
      refine pl_not (tg := 20) (by kernel_rfl) (congrArg Value.bool hc7) ?_
      refine pl_not (tg := 20) (by kernel_rfl) (congrArg Value.bool hc7) ?_
      refine pl_not (tg := 20) (by kernel_rfl) (congrArg Value.bool hc7) ?_
      refine pl_val (.bool false) (y_pick_f (congrArg Value.bool hc7) rfl) ?_
      refine pl_val (.bool false) (y_assign rfl) ?_
      refine c_nil ?_
      refine wp_ret ?_
      cases hs
      exact ⟨_, fr_ovl 26 ⟨rfl, trivial⟩, hC⟩
  · skip
    refine pl_not (tg := 11) (by kernel_rfl) (congrArg Value.bool hc6) ?_
    refine pl_not (tg := 11) (by kernel_rfl) (congrArg Value.bool hc6) ?_
    refine pl_not (tg := 11) (by kernel_rfl) (congrArg Value.bool hc6) ?_
    refine pl_not (tg := 11) (by kernel_rfl) (congrArg Value.bool hc6) ?_
    refine pl_not (tg := 11) (by kernel_rfl) (congrArg Value.bool hc6) ?_
    refine pl_not (tg := 11) (by kernel_rfl) (congrArg Value.bool hc6) ?_
    refine pl_not (tg := 11) (by kernel_rfl) (congrArg Value.bool hc6) ?_
    refine pl_val (.bool false) (y_pick_f (congrArg Value.bool hc6) rfl) ?_
    refine pl_val (.bool false) (y_move rfl) ?_
    refine pl_not (tg := 20) (by kernel_rfl) (by rfl) ?_
    refine pl_not (tg := 20) (by kernel_rfl) (by rfl) ?_
    refine pl_not (tg := 20) (by kernel_rfl) (by rfl) ?_
    refine pl_not (tg := 20) (by kernel_rfl) (by rfl) ?_
    refine pl_val (.bool false) (y_pick_f (by rfl) rfl) ?_
    refine pl_val (.bool false) (y_assign rfl) ?_
    refine c_nil ?_
    refine wp_ret ?_
    cases hs
    exact ⟨_, fr_ovl 26 ⟨rfl, trivial⟩, hC⟩

theorem Bd90 : Bodied Try.prog 90 := bodied Try.func90 (by kernel_rfl) rfl

theorem Bd91 : Bodied Try.prog 91 := bodied Try.func91 (by kernel_rfl) rfl

def k_impl_IsNetwork (M : Nat → Prop) (w0 : World) (r : Bool) (a : Act) (w : World) : Prop :=
  ∃ (σ : Nat → Value) , a = fr 40 (ovl σ [(2, (.bool r))]) ∧ Chg [] w0 w
def s_impl_IsNetwork (net : Int × Int × (List ((List Int) × (Int × (List (List Int)))))) : Option (Bool) :=
  ((bif (decide (net.1 < 0)) then some true else (bif (decide (9 < net.1)) then some true else (s_impl_isTemplateSize net.2.1).bind fun r9 =>
  (bif (!r9) then some true else some (decide (40 < (net.2.2.length : Int))))))).bind fun s3 =>
  (bif s3 then some false else (forR (S := Unit) (R := Bool) (fun _ x24 s21 =>
  (s_impl_isConstraint net.1 net.2.1 (x24.1, (x24.2.1, x24.2.2))).bind fun r34 =>
  (bif (!r34) then some (.rt false) else some (.nx ()))) 0 net.2.2 ()).bind fun o25 => after o25 (fun r_ => some r_) (fun s21 =>
  some true))
set_option maxHeartbeats 4000000 in
theorem c_impl_IsNetwork {M : Nat → Prop} {w : World} {pa0 : Option Addr} {pn0 pc0 : Nat} (net : Int × Int × (List ((List Int) × (Int × (List (List Int)))))) (h0 : (RT.rs (RT.pr (RT.rs (RT.int .i64)) (RT.pr (RT.int .i64) (RT.rs (RT.rs (RT.int .i64)))))).val M w (.slice pa0 pn0 pc0) net.2.2 ([])) (hM : ∀ g, w.heap.size ≤ g → M g) {r : Bool} (hs : s_impl_IsNetwork net = some r) :
    Gives Try.prog 33 [(.agg #[(.int .i64 net.1), (.int .i64 net.2.1), (.slice pa0 pn0 pc0)])] w (fun v w' => v = (.bool r) ∧ Chg [] w w') := by
  refine calls_fr Try.func33 rfl Try.ntmps33 (Nat.le_of_ble_eq_true rfl) ?_
  have hO := Own.start (N := Nw w []) hM Nw.fut
  have hC := Chg.refl [] w
  unfold s_impl_IsNetwork at hs
  refine wp_mono (Q := KPost (k_impl_IsNetwork M w r)) ?_ (fun e a w1 h => ?_)
  rotate_left
  · cases e
    case ret =>
      obtain ⟨σ, rfl, hrest⟩ := h
      exact ret1x Try.results33 (res_tmp rfl) ⟨rfl, hrest⟩
    all_goals exact (h : False).elim
  refine c_seq ?_
  refine c_region ?_
  obtain ⟨w2, g2, ew2, eg2, hC2, hb2⟩ := new_block w [(.int .i64 net.1), (.int .i64 net.2.1), (.slice pa0 pn0 pc0)] 49
  refine pl_val (w' := w2) (.pointer (some ⟨g2, 0, none⟩)) (y_box rfl (by rw [ew2, eg2]; kernel_rfl)) ?_
  have h0 := h0.ext hC2
  have hC := hC.ext hC2
  have hO := hO.new (X' := [g2]) hC2 (fun q hq => by rw [List.mem_singleton.1 hq, eg2]; exact Nat.le_refl _) (List.nodup_cons.2 ⟨(fun h => nomatch h), List.nodup_nil⟩) (fun q hq => by rw [List.mem_singleton.1 hq]; exact hb2.lt)
  refine pl_val (.bool false) (y_assign rfl) ?_
  refine c_nil ?_
  refine c_seq ?_
  refine c_seq ?_
  obtain ⟨s3, hm5, hs⟩ := bind_some hs
  refine c_mid (I := fun a w4 => ∃ (σ : Nat → Value), a = fr 40 (ovl σ [(1, (.pointer (some ⟨g2, 0, none⟩))), (2, (.bool false)), (24, (.bool s3))]) ∧ Chg [] w2 w4) ?_ ?_
  · replace hs := hm5
    have hMid := Chg.refl [] w2
    refine c_region ?_
    refine pl_val (.pointer (some ⟨g2, 0, none⟩)) (y_faddr rfl Fa49x0) ?_
    refine pl_val (.int .i64 net.1) (y_load rfl ((box_load Ag3 Sz3 hb2 [] [(.int .i64 net.1)] [(.int .i64 net.2.1), (.slice pa0 pn0 pc0)] rfl rfl (fun _ => rfl)) _ (Chg.refl _ _))) ?_
    refine pl_val (.bool (decide (net.1 < 0))) (y_lss rfl rfl) ?_
    refine pl_val (.bool (decide (net.1 < 0))) (y_move rfl) ?_
    rcases bif_some hs with ⟨hc6, hs⟩ | ⟨hc6, hs⟩
    · skip
      refine pl_not (tg := 8) (by kernel_rfl) (congrArg Value.bool hc6) ?_
      refine pl_not (tg := 8) (by kernel_rfl) (congrArg Value.bool hc6) ?_
      refine pl_not (tg := 8) (by kernel_rfl) (congrArg Value.bool hc6) ?_
      refine pl_val (.bool true) (y_pick_t (congrArg Value.bool hc6) rfl) ?_
      refine pl_val (.bool true) (y_move rfl) ?_
      refine pl_not (tg := 13) (by kernel_rfl) (by rfl) ?_
      refine pl_not (tg := 13) (by kernel_rfl) (by rfl) ?_
      refine pl_not (tg := 13) (by kernel_rfl) (by rfl) ?_
      refine pl_not (tg := 13) (by kernel_rfl) (by rfl) ?_
      refine pl_val (.bool true) (y_pick_t (by rfl) rfl) ?_
      refine pl_val (.bool true) (y_move rfl) ?_
      refine pl_not (tg := 19) (by kernel_rfl) (by rfl) ?_
      refine pl_not (tg := 19) (by kernel_rfl) (by rfl) ?_
      refine pl_not (tg := 19) (by kernel_rfl) (by rfl) ?_
      refine pl_not (tg := 19) (by kernel_rfl) (by rfl) ?_
      refine pl_val (.bool true) (y_pick_t (by rfl) rfl) ?_
      refine c_nil ?_
      cases hs
      exact ⟨_, fr_ovl 40 ⟨rfl, rfl, rfl, trivial⟩, hMid⟩
    · skip
      refine pl_yes (.pointer (some ⟨g2, 0, none⟩)) (tg := 8) (by kernel_rfl) (congrArg Value.bool hc6) (y_faddr rfl Fa49x0) ?_
      refine pl_yes (.int .i64 net.1) (tg := 8) (by kernel_rfl) (congrArg Value.bool hc6) (y_load rfl ((box_load Ag3 Sz3 hb2 [] [(.int .i64 net.1)] [(.int .i64 net.2.1), (.slice pa0 pn0 pc0)] rfl rfl (fun _ => rfl)) _ (Chg.refl _ _))) ?_
      refine pl_yes (.bool (decide (9 < net.1))) (tg := 8) (by kernel_rfl) (congrArg Value.bool hc6) (y_gtr rfl rfl) ?_
      refine pl_val (.bool (decide (9 < net.1))) (y_pick_f (congrArg Value.bool hc6) rfl) ?_
      refine pl_val (.bool (decide (9 < net.1))) (y_move rfl) ?_
      rcases bif_some hs with ⟨hc7, hs⟩ | ⟨hc7, hs⟩
      · skip
        refine pl_not (tg := 13) (by kernel_rfl) (congrArg Value.bool hc7) ?_
        refine pl_not (tg := 13) (by kernel_rfl) (congrArg Value.bool hc7) ?_
        refine pl_not (tg := 13) (by kernel_rfl) (congrArg Value.bool hc7) ?_
        refine pl_not (tg := 13) (by kernel_rfl) (congrArg Value.bool hc7) ?_
        refine pl_val (.bool true) (y_pick_t (congrArg Value.bool hc7) rfl) ?_
        refine pl_val (.bool true) (y_move rfl) ?_
        refine pl_not (tg := 19) (by kernel_rfl) (by rfl) ?_
        refine pl_not (tg := 19) (by kernel_rfl) (by rfl) ?_
        refine pl_not (tg := 19) (by kernel_rfl) (by rfl) ?_
        refine pl_not (tg := 19) (by kernel_rfl) (by rfl) ?_
        refine pl_val (.bool true) (y_pick_t (by rfl) rfl) ?_
        refine c_nil ?_
        cases hs
        exact ⟨_, fr_ovl 40 ⟨rfl, rfl, rfl, trivial⟩, hMid⟩
      · skip
        refine pl_yes (.pointer (some ⟨g2, 1, none⟩)) (tg := 13) (by kernel_rfl) (congrArg Value.bool hc7) (y_faddr rfl Fa49x1) ?_
        refine pl_yes (.int .i64 net.2.1) (tg := 13) (by kernel_rfl) (congrArg Value.bool hc7) (y_load rfl ((box_load Ag3 Sz3 hb2 [(.int .i64 net.1)] [(.int .i64 net.2.1)] [(.slice pa0 pn0 pc0)] rfl rfl (fun _ => rfl)) _ (Chg.refl _ _))) ?_
        obtain ⟨r9, hr9, hs⟩ := bind_some hs
        refine pl_cally (tg := 13) (by kernel_rfl) (congrArg Value.bool hc7) Bd90 rfl (c_impl_isTemplateSize (M := M) net.2.1  hO.fut hr9) ?_
        rintro _ w8 ⟨rfl, hC8⟩
        have h0 := h0.ext hC8
        have hb2 := hb2.chg hC8 (fun h => nomatch h)
        have hMid := hMid.ext hC8
        have hC := hC.ext hC8
        have hO := hO.ext hC8
        refine pl_yes (.bool (!r9)) (tg := 13) (by kernel_rfl) (congrArg Value.bool hc7) (y_not rfl) ?_
        refine pl_val (.bool (!r9)) (y_pick_f (congrArg Value.bool hc7) rfl) ?_
        refine pl_val (.bool (!r9)) (y_move rfl) ?_
        rcases bif_some hs with ⟨hc10, hs⟩ | ⟨hc10, hs⟩
        · skip
          refine pl_not (tg := 19) (by kernel_rfl) (congrArg Value.bool hc10) ?_
          refine pl_not (tg := 19) (by kernel_rfl) (congrArg Value.bool hc10) ?_
          refine pl_not (tg := 19) (by kernel_rfl) (congrArg Value.bool hc10) ?_
          refine pl_not (tg := 19) (by kernel_rfl) (congrArg Value.bool hc10) ?_
          refine pl_val (.bool true) (y_pick_t (congrArg Value.bool hc10) rfl) ?_
          refine c_nil ?_
          cases hs
          exact ⟨_, fr_ovl 40 ⟨rfl, rfl, rfl, trivial⟩, hMid⟩
        · skip
          refine pl_yes (.pointer (some ⟨g2, 2, none⟩)) (tg := 19) (by kernel_rfl) (congrArg Value.bool hc10) (y_faddr rfl Fa49x2) ?_
          refine pl_yes (.slice pa0 pn0 pc0) (tg := 19) (by kernel_rfl) (congrArg Value.bool hc10) (y_load rfl ((box_load Ag47 Sz47 hb2 [(.int .i64 net.1), (.int .i64 net.2.1)] [(.slice pa0 pn0 pc0)] [] rfl rfl (fun _ => rfl)) _ (Chg.refl _ _))) ?_
          refine pl_yes (.int .i64 (net.2.2.length : Int)) (tg := 19) (by kernel_rfl) (congrArg Value.bool hc10) (y_len' Sl47 (rs_len h0) rfl) ?_
          refine pl_yes (.bool (decide (40 < (net.2.2.length : Int)))) (tg := 19) (by kernel_rfl) (congrArg Value.bool hc10) (y_gtr rfl rfl) ?_
          refine pl_val (.bool (decide (40 < (net.2.2.length : Int)))) (y_pick_f (congrArg Value.bool hc10) rfl) ?_
          refine c_nil ?_
          cases hs
          exact ⟨_, fr_ovl 40 ⟨rfl, rfl, rfl, trivial⟩, hMid⟩
  · rintro a1 w4 ⟨σ, rfl, hCs3⟩
    have h0 := h0.ext hCs3
    have hb2 := hb2.chg hCs3 (fun h => nomatch h)
    have hC := hC.ext hCs3
    have hO := hO.ext hCs3
    rcases bif_some hs with ⟨hc11, hs⟩ | ⟨hc11, hs⟩
    · skip
      refine c_condT (congrArg Value.bool hc11) ?_
      refine c_seq ?_
      refine c_region ?_
      refine pl_val (.bool false) (y_assign rfl) ?_
      refine c_nil ?_
      refine wp_ret ?_
      cases hs
      exact ⟨_, fr_ovl 40 ⟨rfl, trivial⟩, hC⟩
    · skip
      refine c_condF (congrArg Value.bool hc11) ?_
      refine wp_skip ?_
      refine c_seq ?_
      refine c_seq ?_
      refine c_region ?_
      refine pl_val (.pointer (some ⟨g2, 2, none⟩)) (y_faddr rfl Fa49x2) ?_
      refine pl_val (.slice pa0 pn0 pc0) (y_load rfl ((box_load Ag47 Sz47 hb2 [(.int .i64 net.1), (.int .i64 net.2.1)] [(.slice pa0 pn0 pc0)] [] rfl rfl (fun _ => rfl)) _ (Chg.refl _ _))) ?_
      refine pl_val (.int .i64 (net.2.2.length : Int)) (y_len' Sl47 (rs_len h0) rfl) ?_
      refine pl_val (.int .i64 0) (y_move rfl) ?_
      refine c_nil ?_
      obtain ⟨o25, hl26, hs⟩ := bind_some hs
      refine wp_block ?_
      refine wp_forR (id := 0) (I := fun i_ xs_ s21 a w22 => ∃ k23 : Nat, i_ = (k23 : Int) ∧ List.drop k23 net.2.2 = xs_ ∧ (∃ (σ : Nat → Value), a = fr 40 (ovl σ [(1, (.pointer (some ⟨g2, 0, none⟩))), (26, (.slice pa0 pn0 pc0)), (27, (.int .i64 (net.2.2.length : Int))), (28, (.int .i64 (k23 : Int)))]) ∧ Chg [] w w22 ∧ Own (Nw w []) M w22 (([g2]) ++ []) ∧ (RT.rs (RT.pr (RT.rs (RT.int .i64)) (RT.pr (RT.int .i64) (RT.rs (RT.rs (RT.int .i64)))))).val M w22 (.slice pa0 pn0 pc0) net.2.2 ([]) ∧ BoxV w22 g2 49 [(.int .i64 net.1), (.int .i64 net.2.1), (.slice pa0 pn0 pc0)])) (J := fun s21 a w22 => ∃ (σ : Nat → Value), a = fr 40 (ovl σ []) ∧ Chg [] w w22 ∧ Own (Nw w []) M w22 (([g2]) ++ []) ∧ (RT.rs (RT.pr (RT.rs (RT.int .i64)) (RT.pr (RT.int .i64) (RT.rs (RT.rs (RT.int .i64)))))).val M w22 (.slice pa0 pn0 pc0) net.2.2 ([]) ∧ BoxV w22 g2 49 [(.int .i64 net.1), (.int .i64 net.2.1), (.slice pa0 pn0 pc0)]) (K := (k_impl_IsNetwork M w)) ?_ ?_ net.2.2 0 () o25 _ _ ?_ hl26 ?_
      · rintro _ s21 a w22 ⟨k23, rfl, hd, σ, rfl, hC, hO, h0, hb2⟩
        have hlt := drop_nil_ge hd
        refine c_seq ?_
        refine c_region ?_
        refine pl_val (.bool (decide ((k23 : Int) < (net.2.2.length : Int)))) (y_lss rfl rfl) ?_
        refine c_nil ?_
        refine c_seq ?_
        refine c_condF (congrArg Value.bool (decide_eq_false hlt)) ?_
        refine wp_exit ?_
        exact ⟨rfl, _, fr_ovl 40 trivial, hC, hO, h0, hb2⟩
      · rintro _ x24 xs_ s21 o25 a w22 ⟨k23, rfl, hd, σ, rfl, hC, hO, h0, hb2⟩ hs
        have hlt := drop_cons_lt hd
        have hxk23 := drop_cons_idx hd
        refine c_seq ?_
        refine c_region ?_
        refine pl_val (.bool (decide ((k23 : Int) < (net.2.2.length : Int)))) (y_lss rfl rfl) ?_
        refine c_nil ?_
        refine c_seq ?_
        refine c_condT (congrArg Value.bool (decide_eq_true hlt)) ?_
        refine wp_skip ?_
        refine c_seq ?_
        refine wp_block ?_
        refine c_seq ?_
        refine c_region ?_
        obtain ⟨b27, o27, hp27, ha27⟩ := rs_idx Sl47 Sz108 h0 hxk23
        refine pl_val (.pointer (some ⟨b27, o27, none⟩)) (hp27 _ _ _ _ _ _ _ _ _ rfl rfl) ?_
        obtain ⟨v28, hl28, hv28⟩ := at_load Ag108 Sz108 (by intro h; cases h) ha27
        obtain ⟨cs28, rfl, hr28⟩ := hv28
        obtain ⟨cc28x1, cd28x1, rfl, hh28x1, ht28x1⟩ := pr_open hr28
        obtain ⟨a28x1, n28x1, c28x1, rfl, hv28x1⟩ := rs_rel hh28x1
        obtain ⟨cc28x3, cd28x3, rfl, hh28x3, ht28x3⟩ := pr_open ht28x1
        obtain rfl := int_rel hh28x3
        obtain ⟨a28x4, n28x4, c28x4, rfl, hv28x4⟩ := rs_rel ht28x3
        refine pl_val (.agg #[(.slice a28x1 n28x1 c28x1), (.int .i64 x24.2.1), (.slice a28x4 n28x4 c28x4)]) (y_load rfl (hl28 _ (Chg.refl _ _))) ?_
        obtain ⟨w31, g31, ew31, eg31, hC31, hb31⟩ := new_block w22 [(.slice none 0 0), (.int .i64 0), (.slice none 0 0)] 108
        refine pl_val (w' := w31) (.pointer (some ⟨g31, 0, none⟩)) (y_alloc (by rw [ew31, eg31]; kernel_rfl)) ?_
        have h0 := h0.ext hC31
        have hb2 := hb2.chg hC31 (fun h => nomatch h)
        have hv28x1 := hv28x1.ext hC31
        have hv28x4 := hv28x4.ext hC31
        have hC := hC.ext hC31
        have hO := hO.new (X' := [g31]) hC31 (fun q hq => by rw [List.mem_singleton.1 hq, eg31]; exact Nat.le_refl _) (List.nodup_cons.2 ⟨(fun h => nomatch h), List.nodup_nil⟩) (fun q hq => by rw [List.mem_singleton.1 hq]; exact hb31.lt)
        obtain ⟨w32, hst32, hC32, hb32⟩ := box_store (P := Try.prog) hb31 [] [(.slice none 0 0), (.int .i64 0), (.slice none 0 0)] [] [(.slice a28x1 n28x1 c28x1), (.int .i64 x24.2.1), (.slice a28x4 n28x4 c28x4)] rfl rfl (by intro u hu; simp only [List.mem_cons, List.not_mem_nil, or_false] at hu; rcases hu with rfl | rfl | rfl <;> rfl)
        refine pl_skip (w' := w32) (ys_store rfl rfl (hst32 _ _ rfl Sz108)) ?_
        have h0 := h0.mut hC32 (fun g hg => hO.inM g ((fun _ h => h) g hg)) (fun _ _ h => nomatch h)
        have hb2 := hb2.chg hC32 (fun hg => hO.apart _ ((fun _ h => h) _ hg) (mem_l (List.mem_singleton.2 rfl)))
        have hv28x1 := hv28x1.mut hC32 (fun g hg => hO.inM g ((fun _ h => h) g hg)) (fun _ _ h => nomatch h)
        have hv28x4 := hv28x4.mut hC32 (fun g hg => hO.inM g ((fun _ h => h) g hg)) (fun _ _ h => nomatch h)
        have hC := hC.step hC32 (fun g hg => hO.inN g ((fun _ h => h) g hg))
        have hO := hO.ext hC32
        have hb32 : BoxV w32 g31 108 [(.slice a28x1 n28x1 c28x1), (.int .i64 x24.2.1), (.slice a28x4 n28x4 c28x4)] := hb32
        refine c_nil ?_
        refine c_seq ?_
        refine c_region ?_
        refine pl_val (.pointer (some ⟨g2, 0, none⟩)) (y_faddr rfl Fa49x0) ?_
        refine pl_val (.int .i64 net.1) (y_load rfl ((box_load Ag3 Sz3 hb2 [] [(.int .i64 net.1)] [(.int .i64 net.2.1), (.slice pa0 pn0 pc0)] rfl rfl (fun _ => rfl)) _ (Chg.refl _ _))) ?_
        refine pl_val (.pointer (some ⟨g2, 1, none⟩)) (y_faddr rfl Fa49x1) ?_
        refine pl_val (.int .i64 net.2.1) (y_load rfl ((box_load Ag3 Sz3 hb2 [(.int .i64 net.1)] [(.int .i64 net.2.1)] [(.slice pa0 pn0 pc0)] rfl rfl (fun _ => rfl)) _ (Chg.refl _ _))) ?_
        refine pl_val (.agg #[(.slice a28x1 n28x1 c28x1), (.int .i64 x24.2.1), (.slice a28x4 n28x4 c28x4)]) (y_load rfl ((box_load Ag108 Sz108 hb32 [] [(.slice a28x1 n28x1 c28x1), (.int .i64 x24.2.1), (.slice a28x4 n28x4 c28x4)] [] rfl rfl (fun h => nomatch h)) _ (Chg.refl _ _))) ?_
        obtain ⟨r34, hr34, hs⟩ := bind_some hs
        refine pl_call Bd91 rfl (c_impl_isConstraint (M := M) net.1 net.2.1 (x24.1, (x24.2.1, x24.2.2)) hv28x1 hv28x4 hO.fut hr34) ?_
        rintro _ w33 ⟨rfl, hC33⟩
        have h0 := h0.ext hC33
        have hb2 := hb2.chg hC33 (fun h => nomatch h)
        have hv28x1 := hv28x1.ext hC33
        have hv28x4 := hv28x4.ext hC33
        have hb32 := hb32.chg hC33 (fun h => nomatch h)
        have hC := hC.ext hC33
        have hO := hO.ext hC33
        refine pl_val (.bool (!r34)) (y_not rfl) ?_
        refine c_nil ?_
        rcases bif_some hs with ⟨hc35, hs⟩ | ⟨hc35, hs⟩
        · skip
          refine c_condT (congrArg Value.bool hc35) ?_
          refine c_seq ?_
          refine c_region ?_
          refine pl_val (.bool false) (y_assign rfl) ?_
          refine c_nil ?_
          refine wp_ret ?_
          cases hs
          exact ⟨_, fr_ovl 40 ⟨rfl, trivial⟩, hC⟩
        · skip
          refine c_condF (congrArg Value.bool hc35) ?_
          refine wp_skip ?_
          refine c_region ?_
          refine pl_val (.int .i64 (w64 ((k23 : Int) + 1))) (y_add rfl rfl) ?_
          refine pl_val (.int .i64 (w64 ((k23 : Int) + 1))) (y_move rfl) ?_
          refine c_nil ?_
          cases hs
          have hO := hO.drop
          exact ⟨_, rfl, drop_cons_next hd, _, fr_ovl 40 ⟨rfl, rfl, rfl, congrArg (Value.int .i64) (w64_succ hlt (Int.natCast_nonneg _) (rs_max h0)), trivial⟩, hC, hO, h0, hb2⟩
      · skip
        exact ⟨0, rfl, rfl, _, fr_ovl 40 ⟨rfl, rfl, rfl, rfl, trivial⟩, hC, hO, h0, hb2⟩
      · cases o25 with
        | nx _ => exact True.intro
        | rt r_ =>
          have hs := after_rt hs
          intro a1 w1 hK
          cases hs
          exact hK
        | br s21 =>
          have hs := after_br hs
          rintro a1 w22 ⟨σ, rfl, hC, hO, h0, hb2⟩
          refine c_seq ?_
          refine c_region ?_
          refine pl_val (.bool true) (y_assign rfl) ?_
          refine c_nil ?_
          refine wp_ret ?_
          cases hs
          exact ⟨_, fr_ovl 40 ⟨rfl, trivial⟩, hC⟩

def k_impl_isAssignment (M : Nat → Prop) (w0 : World) (r : Bool) (a : Act) (w : World) : Prop :=
  ∃ (σ : Nat → Value) , a = fr 16 (ovl σ [(4, (.bool r))]) ∧ Chg [] w0 w
def s_impl_isAssignment (net : Int × Int × (List ((List Int) × (Int × (List (List Int)))))) (values : List Int) : Option (Bool) :=
  (bif ((values.length : Int) == net.1) then (s_impl_inSize values net.2.1).bind fun r6 =>
  some r6 else some false)
set_option maxHeartbeats 4000000 in
theorem c_impl_isAssignment {M : Nat → Prop} {w : World} {pa0 : Option Addr} {pn0 pc0 : Nat} {pa1 : Option Addr} {pn1 pc1 : Nat} (net : Int × Int × (List ((List Int) × (Int × (List (List Int)))))) (values : List Int) (h0 : (RT.rs (RT.pr (RT.rs (RT.int .i64)) (RT.pr (RT.int .i64) (RT.rs (RT.rs (RT.int .i64)))))).val M w (.slice pa0 pn0 pc0) net.2.2 ([])) (h1 : (RT.rs (RT.int .i64)).val M w (.slice pa1 pn1 pc1) values ([])) (hM : ∀ g, w.heap.size ≤ g → M g) {r : Bool} (hs : s_impl_isAssignment net values = some r) :
    Gives Try.prog 106 [(.agg #[(.int .i64 net.1), (.int .i64 net.2.1), (.slice pa0 pn0 pc0)]), (.slice pa1 pn1 pc1)] w (fun v w' => v = (.bool r) ∧ Chg [] w w') := by
  refine calls_fr Try.func106 rfl Try.ntmps106 (Nat.le_of_ble_eq_true rfl) ?_
  have hO := Own.start (N := Nw w []) hM Nw.fut
  have hC := Chg.refl [] w
  unfold s_impl_isAssignment at hs
  refine wp_mono (Q := KPost (k_impl_isAssignment M w r)) ?_ (fun e a w1 h => ?_)
  rotate_left
  · cases e
    case ret =>
      obtain ⟨σ, rfl, hrest⟩ := h
      exact ret1x Try.results106 (res_tmp rfl) ⟨rfl, hrest⟩
    all_goals exact (h : False).elim
  refine c_seq ?_
  refine c_region ?_
  obtain ⟨w3, g3, ew3, eg3, hC3, hb3⟩ := new_block w [(.int .i64 net.1), (.int .i64 net.2.1), (.slice pa0 pn0 pc0)] 49
  refine pl_val (w' := w3) (.pointer (some ⟨g3, 0, none⟩)) (y_box rfl (by rw [ew3, eg3]; kernel_rfl)) ?_
  have h0 := h0.ext hC3
  have h1 := h1.ext hC3
  have hC := hC.ext hC3
  have hO := hO.new (X' := [g3]) hC3 (fun q hq => by rw [List.mem_singleton.1 hq, eg3]; exact Nat.le_refl _) (List.nodup_cons.2 ⟨(fun h => nomatch h), List.nodup_nil⟩) (fun q hq => by rw [List.mem_singleton.1 hq]; exact hb3.lt)
  refine pl_val (.bool false) (y_assign rfl) ?_
  refine c_nil ?_
  refine c_seq ?_
  refine c_region ?_
  refine pl_val (.slice pa1 pn1 pc1) (y_move rfl) ?_
  refine pl_val (.int .i64 (values.length : Int)) (y_len' Sl22 (rs_len h1) rfl) ?_
  refine pl_val (.pointer (some ⟨g3, 0, none⟩)) (y_faddr rfl Fa49x0) ?_
  refine pl_val (.int .i64 net.1) (y_load rfl ((box_load Ag3 Sz3 hb3 [] [(.int .i64 net.1)] [(.int .i64 net.2.1), (.slice pa0 pn0 pc0)] rfl rfl (fun _ => rfl)) _ (Chg.refl _ _))) ?_
  refine pl_val (.bool ((values.length : Int) == net.1)) (y_eql rfl rfl) ?_
  refine pl_val (.bool ((values.length : Int) == net.1)) (y_move rfl) ?_
  rcases bif_some hs with ⟨hc4, hs⟩ | ⟨hc4, hs⟩
  · skip
    refine pl_yes (.slice pa1 pn1 pc1) (tg := 10) (by kernel_rfl) (congrArg Value.bool hc4) (y_move rfl) ?_
    refine pl_yes (.pointer (some ⟨g3, 1, none⟩)) (tg := 10) (by kernel_rfl) (congrArg Value.bool hc4) (y_faddr rfl Fa49x1) ?_
    refine pl_yes (.int .i64 net.2.1) (tg := 10) (by kernel_rfl) (congrArg Value.bool hc4) (y_load rfl ((box_load Ag3 Sz3 hb3 [(.int .i64 net.1)] [(.int .i64 net.2.1)] [(.slice pa0 pn0 pc0)] rfl rfl (fun _ => rfl)) _ (Chg.refl _ _))) ?_
    obtain ⟨r6, hr6, hs⟩ := bind_some hs
    refine pl_cally (tg := 10) (by kernel_rfl) (congrArg Value.bool hc4) Bd113 rfl (c_impl_inSize (M := M) values net.2.1 h1 hO.fut hr6) ?_
    rintro _ w5 ⟨rfl, hC5⟩
    have h0 := h0.ext hC5
    have h1 := h1.ext hC5
    have hb3 := hb3.chg hC5 (fun h => nomatch h)
    have hC := hC.ext hC5
    have hO := hO.ext hC5
    refine pl_val (.bool r6) (y_pick_t (congrArg Value.bool hc4) rfl) ?_
    refine pl_val (.bool r6) (y_assign rfl) ?_
    refine c_nil ?_
    refine wp_ret ?_
    cases hs
    exact ⟨_, fr_ovl 16 ⟨rfl, trivial⟩, hC⟩
  · skip
    refine pl_not (tg := 10) (by kernel_rfl) (congrArg Value.bool hc4) ?_
    refine pl_not (tg := 10) (by kernel_rfl) (congrArg Value.bool hc4) ?_
    refine pl_not (tg := 10) (by kernel_rfl) (congrArg Value.bool hc4) ?_
    refine pl_not (tg := 10) (by kernel_rfl) (congrArg Value.bool hc4) ?_
    refine pl_val (.bool false) (y_pick_f (congrArg Value.bool hc4) rfl) ?_
    refine pl_val (.bool false) (y_assign rfl) ?_
    refine c_nil ?_
    refine wp_ret ?_
    cases hs
    exact ⟨_, fr_ovl 16 ⟨rfl, trivial⟩, hC⟩

def k_impl_compose (M : Nat → Prop) (w0 : World) (r : (List Int)) (a : Act) (w : World) : Prop :=
  ∃ (σ : Nat → Value) (ra0 : Option Addr) (rn0 rc0 : Nat) (rf0 : List Nat), a = fr 27 (ovl σ [(4, (.slice ra0 rn0 rc0))]) ∧ Chg [] w0 w ∧ (RT.os 3 (RT.int .i64)).val M w (.slice ra0 rn0 rc0) r rf0 ∧ Own (Nw w0 []) (fun _ => True) w (rf0 ++ ([]))
def s_impl_compose (f : List Int) (g : List Int) : Option ((List Int)) :=
  (mks (f.length : Int) (0 : Int)).bind fun y4 =>
  (forC (S := (List Int)) (R := (List Int)) (fun k23 s21 =>
  (idx f k23).bind fun x29 =>
  (idx g x29).bind fun x31 =>
  (idx s21 k23).bind fun x33 =>
  some (.nx (List.set s21 (Int.toNat k23) x31))) 0 (f.length : Int) y4).bind fun o25 => after o25 (fun r_ => some r_) (fun s21 =>
  some s21)
set_option maxHeartbeats 4000000 in
theorem c_impl_compose {M : Nat → Prop} {w : World} {pa0 : Option Addr} {pn0 pc0 : Nat} {pa1 : Option Addr} {pn1 pc1 : Nat} (f : List Int) (g : List Int) (h0 : (RT.rs (RT.int .i64)).val M w (.slice pa0 pn0 pc0) f ([])) (h1 : (RT.rs (RT.int .i64)).val M w (.slice pa1 pn1 pc1) g ([])) (hM : ∀ g, w.heap.size ≤ g → M g) {r : (List Int)} (hs : s_impl_compose f g = some r) :
    Gives Try.prog 158 [(.slice pa0 pn0 pc0), (.slice pa1 pn1 pc1)] w (fun v w' => ∃ (ra0 : Option Addr) (rn0 rc0 : Nat) (rf0 : List Nat), v = (.slice ra0 rn0 rc0) ∧ Chg [] w w' ∧ (RT.os 3 (RT.int .i64)).val M w' (.slice ra0 rn0 rc0) r rf0 ∧ Own (Nw w []) (fun _ => True) w' (rf0 ++ ([]))) := by
  refine calls_fr Try.func158 rfl Try.ntmps158 (Nat.le_of_ble_eq_true rfl) ?_
  have hO := Own.start (N := Nw w []) hM Nw.fut
  have hC := Chg.refl [] w
  unfold s_impl_compose at hs
  refine wp_mono (Q := KPost (k_impl_compose M w r)) ?_ (fun e a w1 h => ?_)
  rotate_left
  · cases e
    case ret =>
      obtain ⟨σ, ra0, rn0, rc0, rf0, rfl, hrest⟩ := h
      exact ret1x Try.results158 (res_tmp rfl) ⟨ra0, rn0, rc0, rf0, rfl, hrest⟩
    all_goals exact (h : False).elim
  refine c_seq ?_
  refine c_region ?_
  refine pl_val (.slice none 0 0) (y_assign rfl) ?_
  refine c_nil ?_
  refine c_seq ?_
  refine c_region ?_
  refine pl_val (.slice pa0 pn0 pc0) (y_move rfl) ?_
  refine pl_val (.int .i64 (f.length : Int)) (y_len' Sl22 (rs_len h0) rfl) ?_
  obtain ⟨y4, hy4, hs⟩ := bind_some hs
  obtain ⟨a3, n3, c3, w3, f3, hm3, hC3, hfr3, hv3⟩ := mk_os (M := M) (w := w) (r := (RT.int .i64)) Rw22 hy4 (fun _ _ => ⟨rfl, rfl⟩)
  refine pl_val (w' := w3) (.slice a3 n3 c3) (y_make rfl rfl hm3) ?_
  have h0 := h0.ext hC3
  have h1 := h1.ext hC3
  have hC := hC.ext hC3
  have hO := hO.new hC3 hfr3 (os_nodup hv3) hv3.fpl
  refine pl_val (.slice a3 n3 c3) (y_assign rfl) ?_
  refine c_nil ?_
  refine c_seq ?_
  refine c_seq ?_
  refine c_region ?_
  refine pl_val (.slice pa0 pn0 pc0) (y_move rfl) ?_
  refine pl_val (.int .i64 (f.length : Int)) (y_len' Sl22 (rs_len h0) rfl) ?_
  refine pl_val (.int .i64 0) (y_move rfl) ?_
  refine c_nil ?_
  obtain ⟨o25, hl26, hs⟩ := bind_some hs
  refine wp_block ?_
  refine wp_forC (id := 0) (f.length : Int) (I := fun k23 s21 a w22 => ∃ (σ : Nat → Value) (f27 : List Nat), a = fr 27 (ovl σ [(1, (.slice pa1 pn1 pc1)), (5, (.slice a3 n3 c3)), (11, (.slice pa0 pn0 pc0)), (12, (.int .i64 (f.length : Int))), (13, (.int .i64 k23))]) ∧ Chg [] w w22 ∧ Own (Nw w []) M w22 (f27 ++ []) ∧ (RT.rs (RT.int .i64)).val M w22 (.slice pa0 pn0 pc0) f ([]) ∧ (RT.rs (RT.int .i64)).val M w22 (.slice pa1 pn1 pc1) g ([]) ∧ (RT.os 3 (RT.int .i64)).val M w22 (.slice a3 n3 c3) s21 f27) (J := fun s21 a w22 => ∃ (σ : Nat → Value) (f28 : List Nat), a = fr 27 (ovl σ [(5, (.slice a3 n3 c3))]) ∧ Chg [] w w22 ∧ Own (Nw w []) M w22 (f28 ++ []) ∧ (RT.rs (RT.int .i64)).val M w22 (.slice pa0 pn0 pc0) f ([]) ∧ (RT.rs (RT.int .i64)).val M w22 (.slice pa1 pn1 pc1) g ([]) ∧ (RT.os 3 (RT.int .i64)).val M w22 (.slice a3 n3 c3) s21 f28) (K := (k_impl_compose M w)) ?_ ?_ 0 y4 o25 _ _ ?_ hl26 ?_
  · rintro k23 s21 a w22 ⟨σ, f27, rfl, hC, hO, h0, h1, hv27⟩ hlt
    refine c_seq ?_
    refine c_region ?_
    refine pl_val (.bool (decide (k23 < (f.length : Int)))) (y_lss rfl rfl) ?_
    refine c_nil ?_
    refine c_seq ?_
    refine c_condF (congrArg Value.bool (decide_eq_false hlt)) ?_
    refine wp_exit ?_
    exact ⟨rfl, _, f27, fr_ovl 27 ⟨rfl, trivial⟩, hC, hO, h0, h1, hv27⟩
  · rintro k23 s21 o25 a w22 ⟨σ, f27, rfl, hC, hO, h0, h1, hv27⟩ hlt hw hs
    refine c_seq ?_
    refine c_region ?_
    refine pl_val (.bool (decide (k23 < (f.length : Int)))) (y_lss rfl rfl) ?_
    refine c_nil ?_
    refine c_seq ?_
    refine c_condT (congrArg Value.bool (decide_eq_true hlt)) ?_
    refine wp_skip ?_
    refine c_seq ?_
    refine wp_block ?_
    refine c_seq ?_
    refine c_region ?_
    refine pl_val (.int .i64 k23) (y_move rfl) ?_
    obtain ⟨x29, hx29, hs⟩ := bind_some hs
    obtain ⟨b30, o30, hp30, ha30⟩ := rs_idx Sl22 Sz3 h0 hx29
    refine pl_val (.pointer (some ⟨b30, o30, none⟩)) (hp30 _ _ _ _ _ _ _ _ _ rfl rfl) ?_
    refine pl_val (.int .i64 x29) (y_load rfl ((at_load_int Ag3 Sz3 ha30) _ (Chg.refl _ _))) ?_
    refine pl_val (.int .i64 k23) (y_assign rfl) ?_
    refine pl_val (.int .i64 x29) (y_assign rfl) ?_
    refine c_nil ?_
    refine c_region ?_
    refine pl_val (.slice a3 n3 c3) (y_move rfl) ?_
    refine pl_val (.int .i64 k23) (y_move rfl) ?_
    refine pl_val (.slice pa1 pn1 pc1) (y_move rfl) ?_
    refine pl_val (.int .i64 x29) (y_move rfl) ?_
    obtain ⟨x31, hx31, hs⟩ := bind_some hs
    obtain ⟨b32, o32, hp32, ha32⟩ := rs_idx Sl22 Sz3 h1 hx31
    refine pl_val (.pointer (some ⟨b32, o32, none⟩)) (hp32 _ _ _ _ _ _ _ _ _ rfl rfl) ?_
    refine pl_val (.int .i64 x31) (y_load rfl ((at_load_int Ag3 Sz3 ha32) _ (Chg.refl _ _))) ?_
    obtain ⟨x33, hx33, hs⟩ := bind_some hs
    obtain ⟨g34, f34, hg34, hk34, hp34, ha34, hf34⟩ := os_idx Sl22 Sz3 hv27 hx33
    refine pl_val (.pointer (some ⟨g34, 0 + Int.toNat k23 * 1, none⟩)) (hp34 _ _ _ _ _ _ _ _ _ rfl rfl) ?_
    obtain ⟨w35, f35, hst35, hC35, hf35, hv35⟩ := os_store (P := Try.prog) (c' := [(.int .i64 x31)]) hg34 hv27 hk34 (fun g hg => hO.inM g (os_block hv27 g (by simpa using hg))) ⟨rfl, rfl⟩ List.nodup_nil (fun _ h => nomatch h) (fun _ h => .inl h)
    have hG35 : ∀ q ∈ [g34], q ∈ f27 := fun q hq => os_block hv27 q (by rw [hg34]; exact hq)
    refine pl_skip (w' := w35) (ys_store rfl rfl (hst35 _ _ rfl Sz3)) ?_
    have h0 := h0.mut hC35 (fun g hg => hO.inM g (hG35 g hg)) (fun _ _ h => nomatch h)
    have h1 := h1.mut hC35 (fun g hg => hO.inM g (hG35 g hg)) (fun _ _ h => nomatch h)
    have hC := hC.step hC35 (fun g hg => hO.inN g (hG35 g hg))
    have hO := hO.grow hC35 (fun q hq => .inl ((hf35 q hq).resolve_right (fun h => nomatch h))) (os_nodup hv35) hv35.fpl
    refine c_nil ?_
    refine c_region ?_
    refine pl_val (.int .i64 (w64 (k23 + 1))) (y_add rfl rfl) ?_
    refine pl_val (.int .i64 (w64 (k23 + 1))) (y_move rfl) ?_
    refine c_nil ?_
    cases hs
    exact ⟨_, f35, fr_ovl 27 ⟨rfl, rfl, rfl, rfl, congrArg (Value.int .i64) hw, trivial⟩, hC, hO, h0, h1, hv35⟩
  · skip
    exact ⟨_, f3, fr_ovl 27 ⟨rfl, rfl, rfl, rfl, rfl, trivial⟩, hC, hO, h0, h1, hv3⟩
  · cases o25 with
    | nx _ => exact True.intro
    | rt r_ =>
      have hs := after_rt hs
      intro a1 w1 hK
      cases hs
      exact hK
    | br s21 =>
      have hs := after_br hs
      rintro a1 w22 ⟨σ, f28, rfl, hC, hO, h0, h1, hv28⟩
      refine c_seq ?_
      refine c_region ?_
      refine pl_val (.slice a3 n3 c3) (y_move rfl) ?_
      refine pl_val (.slice a3 n3 c3) (y_assign rfl) ?_
      refine c_nil ?_
      refine wp_ret ?_
      cases hs
      exact ⟨_, a3, n3, c3, f28, fr_ovl 27 ⟨rfl, trivial⟩, hC, hv28, hO.top⟩

def k_impl_sameList (M : Nat → Prop) (w0 : World) (r : Bool) (a : Act) (w : World) : Prop :=
  ∃ (σ : Nat → Value) , a = fr 26 (ovl σ [(4, (.bool r))]) ∧ Chg [] w0 w
def s_impl_sameList (a_ : List Int) (b : List Int) : Option (Bool) :=
  (bif ((a_.length : Int) != (b.length : Int)) then some false else (forC (S := Unit) (R := Bool) (fun k11 s9 =>
  (idx a_ k11).bind fun x15 =>
  (idx b k11).bind fun x17 =>
  (bif (x17 != x15) then some (.rt false) else some (.nx ()))) 0 (a_.length : Int) ()).bind fun o13 => after o13 (fun r_ => some r_) (fun s9 =>
  some true))
set_option maxHeartbeats 4000000 in
theorem c_impl_sameList {M : Nat → Prop} {w : World} {pa0 : Option Addr} {pn0 pc0 : Nat} {pa1 : Option Addr} {pn1 pc1 : Nat} (a_ : List Int) (b : List Int) (h0 : (RT.rs (RT.int .i64)).val M w (.slice pa0 pn0 pc0) a_ ([])) (h1 : (RT.rs (RT.int .i64)).val M w (.slice pa1 pn1 pc1) b ([])) (hM : ∀ g, w.heap.size ≤ g → M g) {r : Bool} (hs : s_impl_sameList a_ b = some r) :
    Gives Try.prog 126 [(.slice pa0 pn0 pc0), (.slice pa1 pn1 pc1)] w (fun v w' => v = (.bool r) ∧ Chg [] w w') := by
  refine calls_fr Try.func126 rfl Try.ntmps126 (Nat.le_of_ble_eq_true rfl) ?_
  have hO := Own.start (N := Nw w []) hM Nw.fut
  have hC := Chg.refl [] w
  unfold s_impl_sameList at hs
  refine wp_mono (Q := KPost (k_impl_sameList M w r)) ?_ (fun e a w1 h => ?_)
  rotate_left
  · cases e
    case ret =>
      obtain ⟨σ, rfl, hrest⟩ := h
      exact ret1x Try.results126 (res_tmp rfl) ⟨rfl, hrest⟩
    all_goals exact (h : False).elim
  refine c_seq ?_
  refine c_region ?_
  refine pl_val (.bool false) (y_assign rfl) ?_
  refine c_nil ?_
  refine c_seq ?_
  refine c_seq ?_
  refine c_region ?_
  refine pl_val (.slice pa0 pn0 pc0) (y_move rfl) ?_
  refine pl_val (.int .i64 (a_.length : Int)) (y_len' Sl22 (rs_len h0) rfl) ?_
  refine pl_val (.slice pa1 pn1 pc1) (y_move rfl) ?_
  refine pl_val (.int .i64 (b.length : Int)) (y_len' Sl22 (rs_len h1) rfl) ?_
  refine pl_val (.bool ((a_.length : Int) != (b.length : Int))) (y_neq rfl rfl) ?_
  refine c_nil ?_
  rcases bif_some hs with ⟨hc3, hs⟩ | ⟨hc3, hs⟩
  · skip
    refine c_condT (congrArg Value.bool hc3) ?_
    refine c_seq ?_
    refine c_region ?_
    refine pl_val (.bool false) (y_assign rfl) ?_
    refine c_nil ?_
    refine wp_ret ?_
    cases hs
    exact ⟨_, fr_ovl 26 ⟨rfl, trivial⟩, hC⟩
  · skip
    refine c_condF (congrArg Value.bool hc3) ?_
    refine wp_skip ?_
    refine c_seq ?_
    refine c_seq ?_
    refine c_region ?_
    refine pl_val (.slice pa0 pn0 pc0) (y_move rfl) ?_
    refine pl_val (.int .i64 (a_.length : Int)) (y_len' Sl22 (rs_len h0) rfl) ?_
    refine pl_val (.int .i64 0) (y_move rfl) ?_
    refine c_nil ?_
    obtain ⟨o13, hl14, hs⟩ := bind_some hs
    refine wp_block ?_
    refine wp_forC (id := 0) (a_.length : Int) (I := fun k11 s9 a w10 => ∃ (σ : Nat → Value), a = fr 26 (ovl σ [(1, (.slice pa1 pn1 pc1)), (12, (.slice pa0 pn0 pc0)), (13, (.int .i64 (a_.length : Int))), (14, (.int .i64 k11))]) ∧ Chg [] w w10 ∧ Own (Nw w []) M w10 ([]) ∧ (RT.rs (RT.int .i64)).val M w10 (.slice pa0 pn0 pc0) a_ ([]) ∧ (RT.rs (RT.int .i64)).val M w10 (.slice pa1 pn1 pc1) b ([])) (J := fun s9 a w10 => ∃ (σ : Nat → Value), a = fr 26 (ovl σ []) ∧ Chg [] w w10 ∧ Own (Nw w []) M w10 ([]) ∧ (RT.rs (RT.int .i64)).val M w10 (.slice pa0 pn0 pc0) a_ ([]) ∧ (RT.rs (RT.int .i64)).val M w10 (.slice pa1 pn1 pc1) b ([])) (K := (k_impl_sameList M w)) ?_ ?_ 0 () o13 _ _ ?_ hl14 ?_
    · rintro k11 s9 a w10 ⟨σ, rfl, hC, hO, h0, h1⟩ hlt
      refine c_seq ?_
      refine c_region ?_
      refine pl_val (.bool (decide (k11 < (a_.length : Int)))) (y_lss rfl rfl) ?_
      refine c_nil ?_
      refine c_seq ?_
      refine c_condF (congrArg Value.bool (decide_eq_false hlt)) ?_
      refine wp_exit ?_
      exact ⟨rfl, _, fr_ovl 26 trivial, hC, hO, h0, h1⟩
    · rintro k11 s9 o13 a w10 ⟨σ, rfl, hC, hO, h0, h1⟩ hlt hw hs
      refine c_seq ?_
      refine c_region ?_
      refine pl_val (.bool (decide (k11 < (a_.length : Int)))) (y_lss rfl rfl) ?_
      refine c_nil ?_
      refine c_seq ?_
      refine c_condT (congrArg Value.bool (decide_eq_true hlt)) ?_
      refine wp_skip ?_
      refine c_seq ?_
      refine wp_block ?_
      refine c_seq ?_
      refine c_region ?_
      refine pl_val (.int .i64 k11) (y_move rfl) ?_
      obtain ⟨x15, hx15, hs⟩ := bind_some hs
      obtain ⟨b16, o16, hp16, ha16⟩ := rs_idx Sl22 Sz3 h0 hx15
      refine pl_val (.pointer (some ⟨b16, o16, none⟩)) (hp16 _ _ _ _ _ _ _ _ _ rfl rfl) ?_
      refine pl_val (.int .i64 x15) (y_load rfl ((at_load_int Ag3 Sz3 ha16) _ (Chg.refl _ _))) ?_
      refine pl_val (.int .i64 k11) (y_assign rfl) ?_
      refine pl_val (.int .i64 x15) (y_assign rfl) ?_
      refine c_nil ?_
      refine c_seq ?_
      refine c_region ?_
      refine pl_val (.slice pa1 pn1 pc1) (y_move rfl) ?_
      refine pl_val (.int .i64 k11) (y_move rfl) ?_
      obtain ⟨x17, hx17, hs⟩ := bind_some hs
      obtain ⟨b18, o18, hp18, ha18⟩ := rs_idx Sl22 Sz3 h1 hx17
      refine pl_val (.pointer (some ⟨b18, o18, none⟩)) (hp18 _ _ _ _ _ _ _ _ _ rfl rfl) ?_
      refine pl_val (.int .i64 x17) (y_load rfl ((at_load_int Ag3 Sz3 ha18) _ (Chg.refl _ _))) ?_
      refine pl_val (.int .i64 x15) (y_move rfl) ?_
      refine pl_val (.bool (x17 != x15)) (y_neq rfl rfl) ?_
      refine c_nil ?_
      rcases bif_some hs with ⟨hc19, hs⟩ | ⟨hc19, hs⟩
      · skip
        refine c_condT (congrArg Value.bool hc19) ?_
        refine c_seq ?_
        refine c_region ?_
        refine pl_val (.bool false) (y_assign rfl) ?_
        refine c_nil ?_
        refine wp_ret ?_
        cases hs
        exact ⟨_, fr_ovl 26 ⟨rfl, trivial⟩, hC⟩
      · skip
        refine c_condF (congrArg Value.bool hc19) ?_
        refine wp_skip ?_
        refine c_region ?_
        refine pl_val (.int .i64 (w64 (k11 + 1))) (y_add rfl rfl) ?_
        refine pl_val (.int .i64 (w64 (k11 + 1))) (y_move rfl) ?_
        refine c_nil ?_
        cases hs
        exact ⟨_, fr_ovl 26 ⟨rfl, rfl, rfl, congrArg (Value.int .i64) hw, trivial⟩, hC, hO, h0, h1⟩
    · skip
      exact ⟨_, fr_ovl 26 ⟨rfl, rfl, rfl, rfl, trivial⟩, hC, hO, h0, h1⟩
    · cases o13 with
      | nx _ => exact True.intro
      | rt r_ =>
        have hs := after_rt hs
        intro a1 w1 hK
        cases hs
        exact hK
      | br s9 =>
        have hs := after_br hs
        rintro a1 w10 ⟨σ, rfl, hC, hO, h0, h1⟩
        refine c_seq ?_
        refine c_region ?_
        refine pl_val (.bool true) (y_assign rfl) ?_
        refine c_nil ?_
        refine wp_ret ?_
        cases hs
        exact ⟨_, fr_ovl 26 ⟨rfl, trivial⟩, hC⟩

theorem Bd126 : Bodied Try.prog 126 := bodied Try.func126 (by kernel_rfl) rfl

def k_impl_hasRow (M : Nat → Prop) (w0 : World) (r : Bool) (a : Act) (w : World) : Prop :=
  ∃ (σ : Nat → Value) , a = fr 18 (ovl σ [(4, (.bool r))]) ∧ Chg [] w0 w
def s_impl_hasRow (r_ : Int × (List (List Int))) (t : List Int) : Option (Bool) :=
  (forR (S := Unit) (R := Bool) (fun _ x13 s10 =>
  (s_impl_sameList t x13).bind fun r20 =>
  (bif r20 then some (.rt true) else some (.nx ()))) 0 r_.2 ()).bind fun o14 => after o14 (fun r_ => some r_) (fun s10 =>
  some false)
set_option maxHeartbeats 4000000 in
theorem c_impl_hasRow {M : Nat → Prop} {w : World} {pa0 : Option Addr} {pn0 pc0 : Nat} {pa1 : Option Addr} {pn1 pc1 : Nat} (r_ : Int × (List (List Int))) (t : List Int) (h0 : (RT.rs (RT.rs (RT.int .i64))).val M w (.slice pa0 pn0 pc0) r_.2 ([])) (h1 : (RT.rs (RT.int .i64)).val M w (.slice pa1 pn1 pc1) t ([])) (hM : ∀ g, w.heap.size ≤ g → M g) {r : Bool} (hs : s_impl_hasRow r_ t = some r) :
    Gives Try.prog 157 [(.agg #[(.int .i64 r_.1), (.slice pa0 pn0 pc0)]), (.slice pa1 pn1 pc1)] w (fun v w' => v = (.bool r) ∧ Chg [] w w') := by
  refine calls_fr Try.func157 rfl Try.ntmps157 (Nat.le_of_ble_eq_true rfl) ?_
  have hO := Own.start (N := Nw w []) hM Nw.fut
  have hC := Chg.refl [] w
  unfold s_impl_hasRow at hs
  refine wp_mono (Q := KPost (k_impl_hasRow M w r)) ?_ (fun e a w1 h => ?_)
  rotate_left
  · cases e
    case ret =>
      obtain ⟨σ, rfl, hrest⟩ := h
      exact ret1x Try.results157 (res_tmp rfl) ⟨rfl, hrest⟩
    all_goals exact (h : False).elim
  refine c_seq ?_
  refine c_region ?_
  obtain ⟨w3, g3, ew3, eg3, hC3, hb3⟩ := new_block w [(.int .i64 r_.1), (.slice pa0 pn0 pc0)] 31
  refine pl_val (w' := w3) (.pointer (some ⟨g3, 0, none⟩)) (y_box rfl (by rw [ew3, eg3]; kernel_rfl)) ?_
  have h0 := h0.ext hC3
  have h1 := h1.ext hC3
  have hC := hC.ext hC3
  have hO := hO.new (X' := [g3]) hC3 (fun q hq => by rw [List.mem_singleton.1 hq, eg3]; exact Nat.le_refl _) (List.nodup_cons.2 ⟨(fun h => nomatch h), List.nodup_nil⟩) (fun q hq => by rw [List.mem_singleton.1 hq]; exact hb3.lt)
  refine pl_val (.bool false) (y_assign rfl) ?_
  refine c_nil ?_
  refine c_seq ?_
  refine c_seq ?_
  refine c_region ?_
  refine pl_val (.pointer (some ⟨g3, 1, none⟩)) (y_faddr rfl Fa31x1) ?_
  refine pl_val (.slice pa0 pn0 pc0) (y_load rfl ((box_load Ag29 Sz29 hb3 [(.int .i64 r_.1)] [(.slice pa0 pn0 pc0)] [] rfl rfl (fun _ => rfl)) _ (Chg.refl _ _))) ?_
  refine pl_val (.int .i64 (r_.2.length : Int)) (y_len' Sl29 (rs_len h0) rfl) ?_
  refine pl_val (.int .i64 0) (y_move rfl) ?_
  refine c_nil ?_
  have hO := hO.drop
  obtain ⟨o14, hl15, hs⟩ := bind_some hs
  refine wp_block ?_
  refine wp_forR (id := 0) (I := fun i_ xs_ s10 a w11 => ∃ k12 : Nat, i_ = (k12 : Int) ∧ List.drop k12 r_.2 = xs_ ∧ (∃ (σ : Nat → Value), a = fr 18 (ovl σ [(1, (.slice pa1 pn1 pc1)), (8, (.slice pa0 pn0 pc0)), (9, (.int .i64 (r_.2.length : Int))), (10, (.int .i64 (k12 : Int)))]) ∧ Chg [] w w11 ∧ Own (Nw w []) M w11 ([]) ∧ (RT.rs (RT.rs (RT.int .i64))).val M w11 (.slice pa0 pn0 pc0) r_.2 ([]) ∧ (RT.rs (RT.int .i64)).val M w11 (.slice pa1 pn1 pc1) t ([]))) (J := fun s10 a w11 => ∃ (σ : Nat → Value), a = fr 18 (ovl σ []) ∧ Chg [] w w11 ∧ Own (Nw w []) M w11 ([]) ∧ (RT.rs (RT.rs (RT.int .i64))).val M w11 (.slice pa0 pn0 pc0) r_.2 ([]) ∧ (RT.rs (RT.int .i64)).val M w11 (.slice pa1 pn1 pc1) t ([])) (K := (k_impl_hasRow M w)) ?_ ?_ r_.2 0 () o14 _ _ ?_ hl15 ?_
  · rintro _ s10 a w11 ⟨k12, rfl, hd, σ, rfl, hC, hO, h0, h1⟩
    have hlt := drop_nil_ge hd
    refine c_seq ?_
    refine c_region ?_
    refine pl_val (.bool (decide ((k12 : Int) < (r_.2.length : Int)))) (y_lss rfl rfl) ?_
    refine c_nil ?_
    refine c_seq ?_
    refine c_condF (congrArg Value.bool (decide_eq_false hlt)) ?_
    refine wp_exit ?_
    exact ⟨rfl, _, fr_ovl 18 trivial, hC, hO, h0, h1⟩
  · rintro _ x13 xs_ s10 o14 a w11 ⟨k12, rfl, hd, σ, rfl, hC, hO, h0, h1⟩ hs
    have hlt := drop_cons_lt hd
    have hxk12 := drop_cons_idx hd
    refine c_seq ?_
    refine c_region ?_
    refine pl_val (.bool (decide ((k12 : Int) < (r_.2.length : Int)))) (y_lss rfl rfl) ?_
    refine c_nil ?_
    refine c_seq ?_
    refine c_condT (congrArg Value.bool (decide_eq_true hlt)) ?_
    refine wp_skip ?_
    refine c_seq ?_
    refine wp_block ?_
    refine c_seq ?_
    refine c_region ?_
    obtain ⟨b16, o16, hp16, ha16⟩ := rs_idx Sl29 Sz22 h0 hxk12
    refine pl_val (.pointer (some ⟨b16, o16, none⟩)) (hp16 _ _ _ _ _ _ _ _ _ rfl rfl) ?_
    obtain ⟨v17, hl17, hv17⟩ := at_load Ag22 Sz22 (fun _ => rfl) ha16
    obtain ⟨a17, n17, c17, rfl⟩ := rs_sl hv17
    refine pl_val (.slice a17 n17 c17) (y_load rfl (hl17 _ (Chg.refl _ _))) ?_
    refine pl_val (.slice a17 n17 c17) (y_assign rfl) ?_
    refine c_nil ?_
    refine c_seq ?_
    refine c_region ?_
    refine pl_val (.slice pa1 pn1 pc1) (y_move rfl) ?_
    refine pl_val (.slice a17 n17 c17) (y_move rfl) ?_
    obtain ⟨r20, hr20, hs⟩ := bind_some hs
    refine pl_call Bd126 rfl (c_impl_sameList (M := M) t x13 h1 hv17 hO.fut hr20) ?_
    rintro _ w19 ⟨rfl, hC19⟩
    have h0 := h0.ext hC19
    have h1 := h1.ext hC19
    have hv17 := hv17.ext hC19
    have hC := hC.ext hC19
    have hO := hO.ext hC19
    refine c_nil ?_
    rcases bif_some hs with ⟨hc21, hs⟩ | ⟨hc21, hs⟩
    · skip
      refine c_condT (congrArg Value.bool hc21) ?_
      refine c_seq ?_
      refine c_region ?_
      refine pl_val (.bool true) (y_assign rfl) ?_
      refine c_nil ?_
      refine wp_ret ?_
      cases hs
      exact ⟨_, fr_ovl 18 ⟨rfl, trivial⟩, hC⟩
    · skip
      refine c_condF (congrArg Value.bool hc21) ?_
      refine wp_skip ?_
      refine c_region ?_
      refine pl_val (.int .i64 (w64 ((k12 : Int) + 1))) (y_add rfl rfl) ?_
      refine pl_val (.int .i64 (w64 ((k12 : Int) + 1))) (y_move rfl) ?_
      refine c_nil ?_
      cases hs
      exact ⟨_, rfl, drop_cons_next hd, _, fr_ovl 18 ⟨rfl, rfl, rfl, congrArg (Value.int .i64) (w64_succ hlt (Int.natCast_nonneg _) (rs_max h0)), trivial⟩, hC, hO, h0, h1⟩
  · skip
    exact ⟨0, rfl, rfl, _, fr_ovl 18 ⟨rfl, rfl, rfl, rfl, trivial⟩, hC, hO, h0, h1⟩
  · cases o14 with
    | nx _ => exact True.intro
    | rt r_ =>
      have hs := after_rt hs
      intro a1 w1 hK
      cases hs
      exact hK
    | br s10 =>
      have hs := after_br hs
      rintro a1 w11 ⟨σ, rfl, hC, hO, h0, h1⟩
      refine c_seq ?_
      refine c_region ?_
      refine pl_val (.bool false) (y_assign rfl) ?_
      refine c_nil ?_
      refine wp_ret ?_
      cases hs
      exact ⟨_, fr_ovl 18 ⟨rfl, trivial⟩, hC⟩

theorem Bd158 : Bodied Try.prog 158 := bodied Try.func158 (by kernel_rfl) rfl

theorem Bd157 : Bodied Try.prog 157 := bodied Try.func157 (by kernel_rfl) rfl

def k_impl_unsatisfied (M : Nat → Prop) (w0 : World) (r : Int) (a : Act) (w : World) : Prop :=
  ∃ (σ : Nat → Value) , a = fr 25 (ovl σ [(4, (.int .i64 r))]) ∧ Chg [] w0 w
def s_impl_unsatisfied (net : Int × Int × (List ((List Int) × (Int × (List (List Int)))))) (values : List Int) : Option (Int) :=
  (forC (S := Unit) (R := Int) (fun k20 s18 =>
  (idx net.2.2 k20).bind fun x24 =>
  (s_impl_compose x24.1 values).bind fun r33 =>
  (s_impl_hasRow (x24.2.1, x24.2.2) r33).bind fun r36 =>
  (bif (!r36) then some (.rt k20) else some (.nx ()))) 0 (net.2.2.length : Int) ()).bind fun o22 => after o22 (fun r_ => some r_) (fun s18 =>
  some (-1))
set_option maxHeartbeats 4000000 in
theorem c_impl_unsatisfied {M : Nat → Prop} {w : World} {pa0 : Option Addr} {pn0 pc0 : Nat} {pa1 : Option Addr} {pn1 pc1 : Nat} (net : Int × Int × (List ((List Int) × (Int × (List (List Int)))))) (values : List Int) (h0 : (RT.rs (RT.pr (RT.rs (RT.int .i64)) (RT.pr (RT.int .i64) (RT.rs (RT.rs (RT.int .i64)))))).val M w (.slice pa0 pn0 pc0) net.2.2 ([])) (h1 : (RT.rs (RT.int .i64)).val M w (.slice pa1 pn1 pc1) values ([])) (hM : ∀ g, w.heap.size ≤ g → M g) {r : Int} (hs : s_impl_unsatisfied net values = some r) :
    Gives Try.prog 107 [(.agg #[(.int .i64 net.1), (.int .i64 net.2.1), (.slice pa0 pn0 pc0)]), (.slice pa1 pn1 pc1)] w (fun v w' => v = (.int .i64 r) ∧ Chg [] w w') := by
  refine calls_fr Try.func107 rfl Try.ntmps107 (Nat.le_of_ble_eq_true rfl) ?_
  have hO := Own.start (N := Nw w []) hM Nw.fut
  have hC := Chg.refl [] w
  unfold s_impl_unsatisfied at hs
  refine wp_mono (Q := KPost (k_impl_unsatisfied M w r)) ?_ (fun e a w1 h => ?_)
  rotate_left
  · cases e
    case ret =>
      obtain ⟨σ, rfl, hrest⟩ := h
      exact ret1x Try.results107 (res_tmp rfl) ⟨rfl, hrest⟩
    all_goals exact (h : False).elim
  refine c_seq ?_
  refine c_region ?_
  obtain ⟨w3, g3, ew3, eg3, hC3, hb3⟩ := new_block w [(.int .i64 net.1), (.int .i64 net.2.1), (.slice pa0 pn0 pc0)] 49
  refine pl_val (w' := w3) (.pointer (some ⟨g3, 0, none⟩)) (y_box rfl (by rw [ew3, eg3]; kernel_rfl)) ?_
  have h0 := h0.ext hC3
  have h1 := h1.ext hC3
  have hC := hC.ext hC3
  have hO := hO.new (X' := [g3]) hC3 (fun q hq => by rw [List.mem_singleton.1 hq, eg3]; exact Nat.le_refl _) (List.nodup_cons.2 ⟨(fun h => nomatch h), List.nodup_nil⟩) (fun q hq => by rw [List.mem_singleton.1 hq]; exact hb3.lt)
  refine pl_val (.int .i64 0) (y_assign rfl) ?_
  refine c_nil ?_
  refine c_seq ?_
  refine c_seq ?_
  refine c_region ?_
  refine pl_val (.pointer (some ⟨g3, 2, none⟩)) (y_faddr rfl Fa49x2) ?_
  refine pl_val (.slice pa0 pn0 pc0) (y_load rfl ((box_load Ag47 Sz47 hb3 [(.int .i64 net.1), (.int .i64 net.2.1)] [(.slice pa0 pn0 pc0)] [] rfl rfl (fun _ => rfl)) _ (Chg.refl _ _))) ?_
  refine pl_val (.int .i64 (net.2.2.length : Int)) (y_len' Sl47 (rs_len h0) rfl) ?_
  refine pl_val (.int .i64 0) (y_move rfl) ?_
  refine c_nil ?_
  have hO := hO.drop
  obtain ⟨o22, hl23, hs⟩ := bind_some hs
  refine wp_block ?_
  refine wp_forC (id := 0) (net.2.2.length : Int) (I := fun k20 s18 a w19 => ∃ (σ : Nat → Value), a = fr 25 (ovl σ [(1, (.slice pa1 pn1 pc1)), (8, (.slice pa0 pn0 pc0)), (9, (.int .i64 (net.2.2.length : Int))), (10, (.int .i64 k20))]) ∧ Chg [] w w19 ∧ Own (Nw w []) M w19 ([]) ∧ (RT.rs (RT.pr (RT.rs (RT.int .i64)) (RT.pr (RT.int .i64) (RT.rs (RT.rs (RT.int .i64)))))).val M w19 (.slice pa0 pn0 pc0) net.2.2 ([]) ∧ (RT.rs (RT.int .i64)).val M w19 (.slice pa1 pn1 pc1) values ([])) (J := fun s18 a w19 => ∃ (σ : Nat → Value), a = fr 25 (ovl σ []) ∧ Chg [] w w19 ∧ Own (Nw w []) M w19 ([]) ∧ (RT.rs (RT.pr (RT.rs (RT.int .i64)) (RT.pr (RT.int .i64) (RT.rs (RT.rs (RT.int .i64)))))).val M w19 (.slice pa0 pn0 pc0) net.2.2 ([]) ∧ (RT.rs (RT.int .i64)).val M w19 (.slice pa1 pn1 pc1) values ([])) (K := (k_impl_unsatisfied M w)) ?_ ?_ 0 () o22 _ _ ?_ hl23 ?_
  · rintro k20 s18 a w19 ⟨σ, rfl, hC, hO, h0, h1⟩ hlt
    refine c_seq ?_
    refine c_region ?_
    refine pl_val (.bool (decide (k20 < (net.2.2.length : Int)))) (y_lss rfl rfl) ?_
    refine c_nil ?_
    refine c_seq ?_
    refine c_condF (congrArg Value.bool (decide_eq_false hlt)) ?_
    refine wp_exit ?_
    exact ⟨rfl, _, fr_ovl 25 trivial, hC, hO, h0, h1⟩
  · rintro k20 s18 o22 a w19 ⟨σ, rfl, hC, hO, h0, h1⟩ hlt hw hs
    refine c_seq ?_
    refine c_region ?_
    refine pl_val (.bool (decide (k20 < (net.2.2.length : Int)))) (y_lss rfl rfl) ?_
    refine c_nil ?_
    refine c_seq ?_
    refine c_condT (congrArg Value.bool (decide_eq_true hlt)) ?_
    refine wp_skip ?_
    refine c_seq ?_
    refine wp_block ?_
    refine c_seq ?_
    refine c_region ?_
    refine pl_val (.int .i64 k20) (y_move rfl) ?_
    obtain ⟨x24, hx24, hs⟩ := bind_some hs
    obtain ⟨b25, o25, hp25, ha25⟩ := rs_idx Sl47 Sz108 h0 hx24
    refine pl_val (.pointer (some ⟨b25, o25, none⟩)) (hp25 _ _ _ _ _ _ _ _ _ rfl rfl) ?_
    obtain ⟨v26, hl26, hv26⟩ := at_load Ag108 Sz108 (by intro h; cases h) ha25
    obtain ⟨cs26, rfl, hr26⟩ := hv26
    obtain ⟨cc26x1, cd26x1, rfl, hh26x1, ht26x1⟩ := pr_open hr26
    obtain ⟨a26x1, n26x1, c26x1, rfl, hv26x1⟩ := rs_rel hh26x1
    obtain ⟨cc26x3, cd26x3, rfl, hh26x3, ht26x3⟩ := pr_open ht26x1
    obtain rfl := int_rel hh26x3
    obtain ⟨a26x4, n26x4, c26x4, rfl, hv26x4⟩ := rs_rel ht26x3
    refine pl_val (.agg #[(.slice a26x1 n26x1 c26x1), (.int .i64 x24.2.1), (.slice a26x4 n26x4 c26x4)]) (y_load rfl (hl26 _ (Chg.refl _ _))) ?_
    obtain ⟨w29, g29, ew29, eg29, hC29, hb29⟩ := new_block w19 [(.slice none 0 0), (.int .i64 0), (.slice none 0 0)] 108
    refine pl_val (w' := w29) (.pointer (some ⟨g29, 0, none⟩)) (y_alloc (by rw [ew29, eg29]; kernel_rfl)) ?_
    have h0 := h0.ext hC29
    have h1 := h1.ext hC29
    have hv26x1 := hv26x1.ext hC29
    have hv26x4 := hv26x4.ext hC29
    have hC := hC.ext hC29
    have hO := hO.new (X' := [g29]) hC29 (fun q hq => by rw [List.mem_singleton.1 hq, eg29]; exact Nat.le_refl _) (List.nodup_cons.2 ⟨(fun h => nomatch h), List.nodup_nil⟩) (fun q hq => by rw [List.mem_singleton.1 hq]; exact hb29.lt)
    refine pl_val (.int .i64 k20) (y_assign rfl) ?_
    obtain ⟨w30, hst30, hC30, hb30⟩ := box_store (P := Try.prog) hb29 [] [(.slice none 0 0), (.int .i64 0), (.slice none 0 0)] [] [(.slice a26x1 n26x1 c26x1), (.int .i64 x24.2.1), (.slice a26x4 n26x4 c26x4)] rfl rfl (by intro u hu; simp only [List.mem_cons, List.not_mem_nil, or_false] at hu; rcases hu with rfl | rfl | rfl <;> rfl)
    refine pl_skip (w' := w30) (ys_store rfl rfl (hst30 _ _ rfl Sz108)) ?_
    have h0 := h0.mut hC30 (fun g hg => hO.inM g ((fun _ h => h) g hg)) (fun _ _ h => nomatch h)
    have h1 := h1.mut hC30 (fun g hg => hO.inM g ((fun _ h => h) g hg)) (fun _ _ h => nomatch h)
    have hv26x1 := hv26x1.mut hC30 (fun g hg => hO.inM g ((fun _ h => h) g hg)) (fun _ _ h => nomatch h)
    have hv26x4 := hv26x4.mut hC30 (fun g hg => hO.inM g ((fun _ h => h) g hg)) (fun _ _ h => nomatch h)
    have hC := hC.step hC30 (fun g hg => hO.inN g ((fun _ h => h) g hg))
    have hO := hO.ext hC30
    have hb30 : BoxV w30 g29 108 [(.slice a26x1 n26x1 c26x1), (.int .i64 x24.2.1), (.slice a26x4 n26x4 c26x4)] := hb30
    refine c_nil ?_
    refine c_seq ?_
    refine x_start [] Mx rfl ?_
    have hCw31 := Chg.drew w30
    generalize World.drew w30 = w31 at hCw31 ⊢
    have h0 := h0.ext hCw31
    have h1 := h1.ext hCw31
    have hv26x1 := hv26x1.ext hCw31
    have hv26x4 := hv26x4.ext hCw31
    have hb30 := hb30.chg hCw31 (fun h => nomatch h)
    have hC := hC.ext hCw31
    have hO := hO.ext hCw31
    have hS := Chg.refl [] w31
    refine x_p 0 (.pointer (some ⟨g29, 1, none⟩)) rfl (by kernel_rfl)  (fun _ => y_faddr rfl Fa108x1) (fun _ => hS) ?_
    refine x_l 1 (.agg #[(.int .i64 x24.2.1), (.slice a26x4 n26x4 c26x4)]) rfl (by kernel_rfl)  (fun w' hw' => y_load rfl ((box_load Ag31 Sz31 hb30 [(.slice a26x1 n26x1 c26x1)] [(.int .i64 x24.2.1), (.slice a26x4 n26x4 c26x4)] [] rfl rfl (fun h => nomatch h)) w' hw')) hS ?_
    refine x_p 2 (.pointer (some ⟨g29, 0, none⟩)) rfl (by kernel_rfl)  (fun _ => y_faddr rfl Fa108x0) (fun _ => hS) ?_
    refine x_l 3 (.slice a26x1 n26x1 c26x1) rfl (by kernel_rfl)  (fun w' hw' => y_load rfl ((box_load Ag22 Sz22 hb30 [] [(.slice a26x1 n26x1 c26x1)] [(.int .i64 x24.2.1), (.slice a26x4 n26x4 c26x4)] rfl rfl (fun _ => rfl)) w' hw')) hS ?_
    refine x_p 4 (.slice pa1 pn1 pc1) rfl (by kernel_rfl)  (fun _ => y_move rfl) (fun _ => hS) ?_
    refine x_one (i := 5) (by kernel_rfl) ?_
    obtain ⟨r33, hr33, hs⟩ := bind_some hs
    refine xk_call (b := false) rfl  Bd158 rfl (c_impl_compose (M := M) x24.1 values hv26x1 h1 hO.fut hr33) rfl (by rintro _ _ _ ⟨a32x0, n32x0, c32x0, f32x0, rfl, hC32, hv32x0, hOc32⟩; exact hS.ext hC32) ?_
    rintro _ w32 ⟨a32x0, n32x0, c32x0, f32x0, rfl, hC32, hv32x0, hOc32⟩
    have h0 := h0.ext hC32
    have h1 := h1.ext hC32
    have hv26x1 := hv26x1.ext hC32
    have hv26x4 := hv26x4.ext hC32
    have hb30 := hb30.chg hC32 (fun h => nomatch h)
    have hC := hC.ext hC32
    have hO := Own.join0 hO hC32 hOc32
    have hO := hO.perm (R := f32x0 ++ (([g29]) ++ ([]))) (by simp)
    have hS := hS.ext hC32
    refine x_one (i := 6) (by kernel_rfl) ?_
    obtain ⟨r36, hr36, hs⟩ := bind_some hs
    refine xk_call (b := false) rfl  Bd157 rfl (c_impl_hasRow (M := (Less M f32x0)) (x24.2.1, x24.2.2) r33 (hv26x4.sub Less.sub) (((Frz.os Frz.int)).val hv32x0 Less.sub Less.not) hO.less.fut hr36) rfl (by rintro _ _ _ ⟨rfl, hC35⟩; exact hS.ext hC35) ?_
    rintro _ w35 ⟨rfl, hC35⟩
    have h0 := h0.ext hC35
    have h1 := h1.ext hC35
    have hv26x1 := hv26x1.ext hC35
    have hv26x4 := hv26x4.ext hC35
    have hb30 := hb30.chg hC35 (fun h => nomatch h)
    have hv32x0 := hv32x0.ext hC35
    have hC := hC.ext hC35
    have hO := hO.ext hC35
    have hS := hS.ext hC35
    refine x_p 7 (.bool (!r36)) rfl (by kernel_rfl)  (fun _ => y_not rfl) (fun _ => hS) ?_
    refine x_end (by kernel_rfl) ?_
    clear hS
    rcases bif_some hs with ⟨hc37, hs⟩ | ⟨hc37, hs⟩
    · skip
      refine c_condT (congrArg Value.bool hc37) ?_
      refine c_seq ?_
      refine c_region ?_
      refine pl_val (.int .i64 k20) (y_move rfl) ?_
      refine pl_val (.int .i64 k20) (y_assign rfl) ?_
      refine c_nil ?_
      refine wp_ret ?_
      cases hs
      exact ⟨_, fr_ovl 25 ⟨rfl, trivial⟩, hC⟩
    · skip
      refine c_condF (congrArg Value.bool hc37) ?_
      refine wp_skip ?_
      refine c_region ?_
      refine pl_val (.int .i64 (w64 (k20 + 1))) (y_add rfl rfl) ?_
      refine pl_val (.int .i64 (w64 (k20 + 1))) (y_move rfl) ?_
      refine c_nil ?_
      cases hs
      have hO := hO.drop
      have hO := hO.drop
      exact ⟨_, fr_ovl 25 ⟨rfl, rfl, rfl, congrArg (Value.int .i64) hw, trivial⟩, hC, hO, h0, h1⟩
  · skip
    exact ⟨_, fr_ovl 25 ⟨rfl, rfl, rfl, rfl, trivial⟩, hC, hO, h0, h1⟩
  · cases o22 with
    | nx _ => exact True.intro
    | rt r_ =>
      have hs := after_rt hs
      intro a1 w1 hK
      cases hs
      exact hK
    | br s18 =>
      have hs := after_br hs
      rintro a1 w19 ⟨σ, rfl, hC, hO, h0, h1⟩
      refine c_seq ?_
      refine c_region ?_
      refine pl_val (.int .i64 (-1)) (y_assign rfl) ?_
      refine c_nil ?_
      refine wp_ret ?_
      cases hs
      exact ⟨_, fr_ovl 25 ⟨rfl, trivial⟩, hC⟩

theorem Bd33 : Bodied Try.prog 33 := bodied Try.func33 (by kernel_rfl) rfl

theorem Bd106 : Bodied Try.prog 106 := bodied Try.func106 (by kernel_rfl) rfl

theorem Bd107 : Bodied Try.prog 107 := bodied Try.func107 (by kernel_rfl) rfl

def k_impl_FirstUnsatisfied (M : Nat → Prop) (w0 : World) (r : Int × Bool) (a : Act) (w : World) : Prop :=
  ∃ (σ : Nat → Value) , a = fr 22 (ovl σ [(4, (.int .i64 r.1)), (5, (.bool r.2))]) ∧ Chg [] w0 w
def s_impl_FirstUnsatisfied (net : Int × Int × (List ((List Int) × (Int × (List (List Int)))))) (values : List Int) : Option (Int × Bool) :=
  ((s_impl_IsNetwork (net.1, net.2.1, net.2.2)).bind fun r8 =>
  (bif (!r8) then some true else (s_impl_isAssignment (net.1, net.2.1, net.2.2) values).bind fun r11 =>
  some (!r11))).bind fun s4 =>
  (bif s4 then some (0, false) else (s_impl_unsatisfied (net.1, net.2.1, net.2.2) values).bind fun r14 =>
  (bif (decide (r14 < 0)) then some (0, false) else some (r14, true)))
set_option maxHeartbeats 4000000 in
theorem c_impl_FirstUnsatisfied {M : Nat → Prop} {w : World} {pa0 : Option Addr} {pn0 pc0 : Nat} {pa1 : Option Addr} {pn1 pc1 : Nat} (net : Int × Int × (List ((List Int) × (Int × (List (List Int)))))) (values : List Int) (h0 : (RT.rs (RT.pr (RT.rs (RT.int .i64)) (RT.pr (RT.int .i64) (RT.rs (RT.rs (RT.int .i64)))))).val M w (.slice pa0 pn0 pc0) net.2.2 ([])) (h1 : (RT.rs (RT.int .i64)).val M w (.slice pa1 pn1 pc1) values ([])) (hM : ∀ g, w.heap.size ≤ g → M g) {r : Int × Bool} (hs : s_impl_FirstUnsatisfied net values = some r) :
    Gives Try.prog 47 [(.agg #[(.int .i64 net.1), (.int .i64 net.2.1), (.slice pa0 pn0 pc0)]), (.slice pa1 pn1 pc1)] w (fun v w' => v = (.tuple #[(.int .i64 r.1), (.bool r.2)]) ∧ Chg [] w w') := by
  refine calls_fr Try.func47 rfl Try.ntmps47 (Nat.le_of_ble_eq_true rfl) ?_
  have hO := Own.start (N := Nw w []) hM Nw.fut
  have hC := Chg.refl [] w
  unfold s_impl_FirstUnsatisfied at hs
  refine wp_mono (Q := KPost (k_impl_FirstUnsatisfied M w r)) ?_ (fun e a w1 h => ?_)
  rotate_left
  · cases e
    case ret =>
      obtain ⟨σ, rfl, hrest⟩ := h
      exact ret2x Try.results47 (res_tmp rfl) (res_tmp rfl) ⟨rfl, hrest⟩
    all_goals exact (h : False).elim
  refine c_seq ?_
  refine c_region ?_
  obtain ⟨w3, g3, ew3, eg3, hC3, hb3⟩ := new_block w [(.int .i64 net.1), (.int .i64 net.2.1), (.slice pa0 pn0 pc0)] 49
  refine pl_val (w' := w3) (.pointer (some ⟨g3, 0, none⟩)) (y_box rfl (by rw [ew3, eg3]; kernel_rfl)) ?_
  have h0 := h0.ext hC3
  have h1 := h1.ext hC3
  have hC := hC.ext hC3
  have hO := hO.new (X' := [g3]) hC3 (fun q hq => by rw [List.mem_singleton.1 hq, eg3]; exact Nat.le_refl _) (List.nodup_cons.2 ⟨(fun h => nomatch h), List.nodup_nil⟩) (fun q hq => by rw [List.mem_singleton.1 hq]; exact hb3.lt)
  refine pl_val (.int .i64 0) (y_assign rfl) ?_
  refine pl_val (.bool false) (y_assign rfl) ?_
  refine c_nil ?_
  refine c_seq ?_
  refine c_seq ?_
  obtain ⟨s4, hm6, hs⟩ := bind_some hs
  refine c_mid (I := fun a w5 => ∃ (σ : Nat → Value), a = fr 22 (ovl σ [(1, (.slice pa1 pn1 pc1)), (2, (.pointer (some ⟨g3, 0, none⟩))), (4, (.int .i64 0)), (5, (.bool false)), (15, (.bool s4))]) ∧ Chg [] w3 w5) ?_ ?_
  · replace hs := hm6
    have hMid := Chg.refl [] w3
    refine c_region ?_
    refine pl_val (.agg #[(.int .i64 net.1), (.int .i64 net.2.1), (.slice pa0 pn0 pc0)]) (y_load rfl ((box_load Ag49 Sz49 hb3 [] [(.int .i64 net.1), (.int .i64 net.2.1), (.slice pa0 pn0 pc0)] [] rfl rfl (fun h => nomatch h)) _ (Chg.refl _ _))) ?_
    obtain ⟨r8, hr8, hs⟩ := bind_some hs
    refine pl_call Bd33 rfl (c_impl_IsNetwork (M := M) (net.1, net.2.1, net.2.2) h0 hO.fut hr8) ?_
    rintro _ w7 ⟨rfl, hC7⟩
    have h0 := h0.ext hC7
    have h1 := h1.ext hC7
    have hb3 := hb3.chg hC7 (fun h => nomatch h)
    have hMid := hMid.ext hC7
    have hC := hC.ext hC7
    have hO := hO.ext hC7
    refine pl_val (.bool (!r8)) (y_not rfl) ?_
    refine pl_val (.bool (!r8)) (y_move rfl) ?_
    rcases bif_some hs with ⟨hc9, hs⟩ | ⟨hc9, hs⟩
    · skip
      refine pl_not (tg := 10) (by kernel_rfl) (congrArg Value.bool hc9) ?_
      refine pl_not (tg := 10) (by kernel_rfl) (congrArg Value.bool hc9) ?_
      refine pl_not (tg := 10) (by kernel_rfl) (congrArg Value.bool hc9) ?_
      refine pl_not (tg := 10) (by kernel_rfl) (congrArg Value.bool hc9) ?_
      refine pl_val (.bool true) (y_pick_t (congrArg Value.bool hc9) rfl) ?_
      refine c_nil ?_
      cases hs
      exact ⟨_, fr_ovl 22 ⟨rfl, rfl, rfl, rfl, rfl, trivial⟩, hMid⟩
    · skip
      refine pl_yes (.agg #[(.int .i64 net.1), (.int .i64 net.2.1), (.slice pa0 pn0 pc0)]) (tg := 10) (by kernel_rfl) (congrArg Value.bool hc9) (y_load rfl ((box_load Ag49 Sz49 hb3 [] [(.int .i64 net.1), (.int .i64 net.2.1), (.slice pa0 pn0 pc0)] [] rfl rfl (fun h => nomatch h)) _ (Chg.refl _ _))) ?_
      refine pl_yes (.slice pa1 pn1 pc1) (tg := 10) (by kernel_rfl) (congrArg Value.bool hc9) (y_move rfl) ?_
      obtain ⟨r11, hr11, hs⟩ := bind_some hs
      refine pl_cally (tg := 10) (by kernel_rfl) (congrArg Value.bool hc9) Bd106 rfl (c_impl_isAssignment (M := M) (net.1, net.2.1, net.2.2) values h0 h1 hO.fut hr11) ?_
      rintro _ w10 ⟨rfl, hC10⟩
      have h0 := h0.ext hC10
      have h1 := h1.ext hC10
      have hb3 := hb3.chg hC10 (fun h => nomatch h)
      have hMid := hMid.ext hC10
      have hC := hC.ext hC10
      have hO := hO.ext hC10
      refine pl_yes (.bool (!r11)) (tg := 10) (by kernel_rfl) (congrArg Value.bool hc9) (y_not rfl) ?_
      refine pl_val (.bool (!r11)) (y_pick_f (congrArg Value.bool hc9) rfl) ?_
      refine c_nil ?_
      cases hs
      exact ⟨_, fr_ovl 22 ⟨rfl, rfl, rfl, rfl, rfl, trivial⟩, hMid⟩
  · rintro a1 w5 ⟨σ, rfl, hCs4⟩
    have h0 := h0.ext hCs4
    have h1 := h1.ext hCs4
    have hb3 := hb3.chg hCs4 (fun h => nomatch h)
    have hC := hC.ext hCs4
    have hO := hO.ext hCs4
    rcases bif_some hs with ⟨hc12, hs⟩ | ⟨hc12, hs⟩
    · skip
      refine c_condT (congrArg Value.bool hc12) ?_
      refine c_seq ?_
      refine c_region ?_
      refine pl_val (.int .i64 0) (y_assign rfl) ?_
      refine pl_val (.bool false) (y_assign rfl) ?_
      refine c_nil ?_
      refine wp_ret ?_
      cases hs
      exact ⟨_, fr_ovl 22 ⟨rfl, rfl, trivial⟩, hC⟩
    · skip
      refine c_condF (congrArg Value.bool hc12) ?_
      refine wp_skip ?_
      refine c_seq ?_
      refine c_region ?_
      refine pl_val (.agg #[(.int .i64 net.1), (.int .i64 net.2.1), (.slice pa0 pn0 pc0)]) (y_load rfl ((box_load Ag49 Sz49 hb3 [] [(.int .i64 net.1), (.int .i64 net.2.1), (.slice pa0 pn0 pc0)] [] rfl rfl (fun h => nomatch h)) _ (Chg.refl _ _))) ?_
      refine pl_val (.slice pa1 pn1 pc1) (y_move rfl) ?_
      obtain ⟨r14, hr14, hs⟩ := bind_some hs
      refine pl_call Bd107 rfl (c_impl_unsatisfied (M := M) (net.1, net.2.1, net.2.2) values h0 h1 hO.fut hr14) ?_
      rintro _ w13 ⟨rfl, hC13⟩
      have h0 := h0.ext hC13
      have h1 := h1.ext hC13
      have hb3 := hb3.chg hC13 (fun h => nomatch h)
      have hC := hC.ext hC13
      have hO := hO.ext hC13
      refine pl_val (.int .i64 r14) (y_assign rfl) ?_
      refine c_nil ?_
      refine c_seq ?_
      refine c_seq ?_
      refine c_region ?_
      refine pl_val (.int .i64 r14) (y_move rfl) ?_
      refine pl_val (.bool (decide (r14 < 0))) (y_lss rfl rfl) ?_
      refine c_nil ?_
      rcases bif_some hs with ⟨hc15, hs⟩ | ⟨hc15, hs⟩
      · skip
        refine c_condT (congrArg Value.bool hc15) ?_
        refine c_seq ?_
        refine c_region ?_
        refine pl_val (.int .i64 0) (y_assign rfl) ?_
        refine pl_val (.bool false) (y_assign rfl) ?_
        refine c_nil ?_
        refine wp_ret ?_
        cases hs
        exact ⟨_, fr_ovl 22 ⟨rfl, rfl, trivial⟩, hC⟩
      · skip
        refine c_condF (congrArg Value.bool hc15) ?_
        refine wp_skip ?_
        refine c_seq ?_
        refine c_region ?_
        refine pl_val (.int .i64 r14) (y_move rfl) ?_
        refine pl_val (.int .i64 r14) (y_assign rfl) ?_
        refine pl_val (.bool true) (y_assign rfl) ?_
        refine c_nil ?_
        refine wp_ret ?_
        cases hs
        exact ⟨_, fr_ovl 22 ⟨rfl, rfl, trivial⟩, hC⟩

def k_laws_eqIntS (M : Nat → Prop) (w0 : World) (r : Bool) (a : Act) (w : World) : Prop :=
  ∃ (σ : Nat → Value) , a = fr 26 (ovl σ [(4, (.bool r))]) ∧ Chg [] w0 w
def s_laws_eqIntS (a_ : List Int) (b : List Int) : Option (Bool) :=
  (bif ((a_.length : Int) != (b.length : Int)) then some false else (forC (S := Unit) (R := Bool) (fun k12 s10 =>
  (idx a_ k12).bind fun x17 =>
  (idx b k12).bind fun x19 =>
  (bif (x17 != x19) then some (.rt false) else some (.nx ()))) 0 (a_.length : Int) ()).bind fun o14 => after o14 (fun r_ => some r_) (fun s10 =>
  some true))
set_option maxHeartbeats 4000000 in
theorem c_laws_eqIntS {M : Nat → Prop} {w : World} {pa0 : Option Addr} {pn0 pc0 : Nat} {pa1 : Option Addr} {pn1 pc1 : Nat} (a_ : List Int) (b : List Int) (h0 : (RT.rs (RT.int .i64)).val M w (.slice pa0 pn0 pc0) a_ ([])) (h1 : (RT.rs (RT.int .i64)).val M w (.slice pa1 pn1 pc1) b ([])) (hM : ∀ g, w.heap.size ≤ g → M g) {r : Bool} (hs : s_laws_eqIntS a_ b = some r) :
    Gives Try.prog 18 [(.slice pa0 pn0 pc0), (.slice pa1 pn1 pc1)] w (fun v w' => v = (.bool r) ∧ Chg [] w w') := by
  refine calls_fr Try.func18 rfl Try.ntmps18 (Nat.le_of_ble_eq_true rfl) ?_
  have hO := Own.start (N := Nw w []) hM Nw.fut
  have hC := Chg.refl [] w
  unfold s_laws_eqIntS at hs
  refine wp_mono (Q := KPost (k_laws_eqIntS M w r)) ?_ (fun e a w1 h => ?_)
  rotate_left
  · cases e
    case ret =>
      obtain ⟨σ, rfl, hrest⟩ := h
      exact ret1x Try.results18 (res_tmp rfl) ⟨rfl, hrest⟩
    all_goals exact (h : False).elim
  refine c_seq ?_
  refine c_region ?_
  refine pl_val (.bool false) (y_assign rfl) ?_
  refine c_nil ?_
  refine c_seq ?_
  refine c_seq ?_
  refine c_region ?_
  refine pl_val (.slice pa0 pn0 pc0) (y_move rfl) ?_
  refine pl_val (.int .i64 (a_.length : Int)) (y_len' Sl22 (rs_len h0) rfl) ?_
  refine pl_val (.slice pa1 pn1 pc1) (y_move rfl) ?_
  refine pl_val (.int .i64 (b.length : Int)) (y_len' Sl22 (rs_len h1) rfl) ?_
  refine pl_val (.bool ((a_.length : Int) != (b.length : Int))) (y_neq rfl rfl) ?_
  refine c_nil ?_
  rcases bif_some hs with ⟨hc3, hs⟩ | ⟨hc3, hs⟩
  · skip
    refine c_condT (congrArg Value.bool hc3) ?_
    refine c_seq ?_
    refine c_region ?_
    refine pl_val (.bool false) (y_assign rfl) ?_
    refine c_nil ?_
    refine wp_ret ?_
    cases hs
    exact ⟨_, fr_ovl 26 ⟨rfl, trivial⟩, hC⟩
  · skip
    refine c_condF (congrArg Value.bool hc3) ?_
    refine wp_skip ?_
    refine c_seq ?_
    refine c_seq ?_
    refine c_region ?_
    refine pl_val (.int .i64 0) (y_assign rfl) ?_
    refine c_nil ?_
    obtain ⟨o14, hl15, hs⟩ := bind_some hs
    refine wp_block ?_
    refine wp_forC (id := 0) (a_.length : Int) (I := fun k12 s10 a w11 => ∃ (σ : Nat → Value), a = fr 26 (ovl σ [(0, (.slice pa0 pn0 pc0)), (1, (.slice pa1 pn1 pc1)), (5, (.int .i64 k12))]) ∧ Chg [] w w11 ∧ Own (Nw w []) M w11 ([]) ∧ (RT.rs (RT.int .i64)).val M w11 (.slice pa0 pn0 pc0) a_ ([]) ∧ (RT.rs (RT.int .i64)).val M w11 (.slice pa1 pn1 pc1) b ([])) (J := fun s10 a w11 => ∃ (σ : Nat → Value), a = fr 26 (ovl σ []) ∧ Chg [] w w11 ∧ Own (Nw w []) M w11 ([]) ∧ (RT.rs (RT.int .i64)).val M w11 (.slice pa0 pn0 pc0) a_ ([]) ∧ (RT.rs (RT.int .i64)).val M w11 (.slice pa1 pn1 pc1) b ([])) (K := (k_laws_eqIntS M w)) ?_ ?_ 0 () o14 _ _ ?_ hl15 ?_
    · rintro k12 s10 a w11 ⟨σ, rfl, hC, hO, h0, h1⟩ hlt
      refine c_seq ?_
      refine c_seq ?_
      refine c_region ?_
      refine pl_val (.int .i64 k12) (y_move rfl) ?_
      refine pl_val (.slice pa0 pn0 pc0) (y_move rfl) ?_
      refine pl_val (.int .i64 (a_.length : Int)) (y_len' Sl22 (rs_len h0) rfl) ?_
      refine pl_val (.bool (decide (k12 < (a_.length : Int)))) (y_lss rfl rfl) ?_
      refine c_nil ?_
      refine c_condF (congrArg Value.bool (decide_eq_false hlt)) ?_
      refine wp_exit ?_
      exact ⟨rfl, _, fr_ovl 26 trivial, hC, hO, h0, h1⟩
    · rintro k12 s10 o14 a w11 ⟨σ, rfl, hC, hO, h0, h1⟩ hlt hw hs
      refine c_seq ?_
      refine c_seq ?_
      refine c_region ?_
      refine pl_val (.int .i64 k12) (y_move rfl) ?_
      refine pl_val (.slice pa0 pn0 pc0) (y_move rfl) ?_
      refine pl_val (.int .i64 (a_.length : Int)) (y_len' Sl22 (rs_len h0) rfl) ?_
      refine pl_val (.bool (decide (k12 < (a_.length : Int)))) (y_lss rfl rfl) ?_
      refine c_nil ?_
      refine c_condT (congrArg Value.bool (decide_eq_true hlt)) ?_
      refine wp_skip ?_
      refine c_seq ?_
      refine wp_block ?_
      refine c_seq ?_
      refine x_start [] Mx rfl ?_
      have hCw16 := Chg.drew w11
      generalize World.drew w11 = w16 at hCw16 ⊢
      have h0 := h0.ext hCw16
      have h1 := h1.ext hCw16
      have hC := hC.ext hCw16
      have hO := hO.ext hCw16
      have hS := Chg.refl [] w16
      refine x_p 0 (.slice pa0 pn0 pc0) rfl (by kernel_rfl)  (fun _ => y_move rfl) (fun _ => hS) ?_
      refine x_p 1 (.int .i64 k12) rfl (by kernel_rfl)  (fun _ => y_move rfl) (fun _ => hS) ?_
      obtain ⟨x17, hx17, hs⟩ := bind_some hs
      obtain ⟨b18, o18, hp18, ha18⟩ := rs_idx Sl22 Sz3 h0 hx17
      refine x_p 2 (.pointer (some ⟨b18, o18, none⟩)) rfl (by kernel_rfl)  (fun _ => hp18 _ _ _ _ _ _ _ _ _ rfl rfl) (fun _ => hS) ?_
      refine x_l 3 (.int .i64 x17) rfl (by kernel_rfl)  (fun w' hw' => y_load rfl ((at_load_int Ag3 Sz3 ha18) w' hw')) hS ?_
      refine x_p 4 (.slice pa1 pn1 pc1) rfl (by kernel_rfl)  (fun _ => y_move rfl) (fun _ => hS) ?_
      refine x_p 5 (.int .i64 k12) rfl (by kernel_rfl)  (fun _ => y_move rfl) (fun _ => hS) ?_
      obtain ⟨x19, hx19, hs⟩ := bind_some hs
      obtain ⟨b20, o20, hp20, ha20⟩ := rs_idx Sl22 Sz3 h1 hx19
      refine x_p 6 (.pointer (some ⟨b20, o20, none⟩)) rfl (by kernel_rfl)  (fun _ => hp20 _ _ _ _ _ _ _ _ _ rfl rfl) (fun _ => hS) ?_
      refine x_l 7 (.int .i64 x19) rfl (by kernel_rfl)  (fun w' hw' => y_load rfl ((at_load_int Ag3 Sz3 ha20) w' hw')) hS ?_
      refine x_p 8 (.bool (x17 != x19)) rfl (by kernel_rfl)  (fun _ => y_neq rfl rfl) (fun _ => hS) ?_
      refine x_end (by kernel_rfl) ?_
      clear hS
      rcases bif_some hs with ⟨hc21, hs⟩ | ⟨hc21, hs⟩
      · skip
        refine c_condT (congrArg Value.bool hc21) ?_
        refine c_seq ?_
        refine c_region ?_
        refine pl_val (.bool false) (y_assign rfl) ?_
        refine c_nil ?_
        refine wp_ret ?_
        cases hs
        exact ⟨_, fr_ovl 26 ⟨rfl, trivial⟩, hC⟩
      · skip
        refine c_condF (congrArg Value.bool hc21) ?_
        refine wp_skip ?_
        refine c_region ?_
        refine pl_val (.int .i64 k12) (y_move rfl) ?_
        refine pl_val (.int .i64 (w64 (k12 + 1))) (y_add rfl rfl) ?_
        refine pl_val (.int .i64 (w64 (k12 + 1))) (y_assign rfl) ?_
        refine c_nil ?_
        cases hs
        exact ⟨_, fr_ovl 26 ⟨rfl, rfl, congrArg (Value.int .i64) hw, trivial⟩, hC, hO, h0, h1⟩
    · skip
      exact ⟨_, fr_ovl 26 ⟨rfl, rfl, rfl, trivial⟩, hC, hO, h0, h1⟩
    · cases o14 with
      | nx _ => exact True.intro
      | rt r_ =>
        have hs := after_rt hs
        intro a1 w1 hK
        cases hs
        exact hK
      | br s10 =>
        have hs := after_br hs
        rintro a1 w11 ⟨σ, rfl, hC, hO, h0, h1⟩
        refine c_seq ?_
        refine c_region ?_
        refine pl_val (.bool true) (y_assign rfl) ?_
        refine c_nil ?_
        refine wp_ret ?_
        cases hs
        exact ⟨_, fr_ovl 26 ⟨rfl, trivial⟩, hC⟩

theorem Bd18 : Bodied Try.prog 18 := bodied Try.func18 (by kernel_rfl) rfl

def k_laws_eqIntSS (M : Nat → Prop) (w0 : World) (r : Bool) (a : Act) (w : World) : Prop :=
  ∃ (σ : Nat → Value) , a = fr 27 (ovl σ [(4, (.bool r))]) ∧ Chg [] w0 w
def s_laws_eqIntSS (a_ : List (List Int)) (b : List (List Int)) : Option (Bool) :=
  (bif ((a_.length : Int) != (b.length : Int)) then some false else (forC (S := Unit) (R := Bool) (fun k18 s16 =>
  (idx a_ k18).bind fun x23 =>
  (idx b k18).bind fun x27 =>
  (s_laws_eqIntS x23 x27).bind fun r32 =>
  (bif (!r32) then some (.rt false) else some (.nx ()))) 0 (a_.length : Int) ()).bind fun o20 => after o20 (fun r_ => some r_) (fun s16 =>
  some true))
set_option maxHeartbeats 4000000 in
theorem c_laws_eqIntSS {M : Nat → Prop} {w : World} {pa0 : Option Addr} {pn0 pc0 : Nat} {pa1 : Option Addr} {pn1 pc1 : Nat} (a_ : List (List Int)) (b : List (List Int)) (h0 : (RT.rs (RT.rs (RT.int .i64))).val M w (.slice pa0 pn0 pc0) a_ ([])) (h1 : (RT.rs (RT.rs (RT.int .i64))).val M w (.slice pa1 pn1 pc1) b ([])) (hM : ∀ g, w.heap.size ≤ g → M g) {r : Bool} (hs : s_laws_eqIntSS a_ b = some r) :
    Gives Try.prog 52 [(.slice pa0 pn0 pc0), (.slice pa1 pn1 pc1)] w (fun v w' => v = (.bool r) ∧ Chg [] w w') := by
  refine calls_fr Try.func52 rfl Try.ntmps52 (Nat.le_of_ble_eq_true rfl) ?_
  have hO := Own.start (N := Nw w []) hM Nw.fut
  have hC := Chg.refl [] w
  unfold s_laws_eqIntSS at hs
  refine wp_mono (Q := KPost (k_laws_eqIntSS M w r)) ?_ (fun e a w1 h => ?_)
  rotate_left
  · cases e
    case ret =>
      obtain ⟨σ, rfl, hrest⟩ := h
      exact ret1x Try.results52 (res_tmp rfl) ⟨rfl, hrest⟩
    all_goals exact (h : False).elim
  refine c_seq ?_
  refine c_region ?_
  refine pl_val (.bool false) (y_assign rfl) ?_
  refine c_nil ?_
  refine c_seq ?_
  refine c_seq ?_
  refine c_region ?_
  refine pl_val (.slice pa0 pn0 pc0) (y_move rfl) ?_
  refine pl_val (.int .i64 (a_.length : Int)) (y_len' Sl29 (rs_len h0) rfl) ?_
  refine pl_val (.slice pa1 pn1 pc1) (y_move rfl) ?_
  refine pl_val (.int .i64 (b.length : Int)) (y_len' Sl29 (rs_len h1) rfl) ?_
  refine pl_val (.bool ((a_.length : Int) != (b.length : Int))) (y_neq rfl rfl) ?_
  refine c_nil ?_
  rcases bif_some hs with ⟨hc3, hs⟩ | ⟨hc3, hs⟩
  · skip
    refine c_condT (congrArg Value.bool hc3) ?_
    refine c_seq ?_
    refine c_region ?_
    refine pl_val (.bool false) (y_assign rfl) ?_
    refine c_nil ?_
    refine wp_ret ?_
    cases hs
    exact ⟨_, fr_ovl 27 ⟨rfl, trivial⟩, hC⟩
  · skip
    refine c_condF (congrArg Value.bool hc3) ?_
    refine wp_skip ?_
    refine c_seq ?_
    refine c_seq ?_
    refine c_region ?_
    refine pl_val (.int .i64 0) (y_assign rfl) ?_
    refine c_nil ?_
    obtain ⟨o20, hl21, hs⟩ := bind_some hs
    refine wp_block ?_
    refine wp_forC (id := 0) (a_.length : Int) (I := fun k18 s16 a w17 => ∃ (σ : Nat → Value), a = fr 27 (ovl σ [(0, (.slice pa0 pn0 pc0)), (1, (.slice pa1 pn1 pc1)), (5, (.int .i64 k18))]) ∧ Chg [] w w17 ∧ Own (Nw w []) M w17 ([]) ∧ (RT.rs (RT.rs (RT.int .i64))).val M w17 (.slice pa0 pn0 pc0) a_ ([]) ∧ (RT.rs (RT.rs (RT.int .i64))).val M w17 (.slice pa1 pn1 pc1) b ([])) (J := fun s16 a w17 => ∃ (σ : Nat → Value), a = fr 27 (ovl σ []) ∧ Chg [] w w17 ∧ Own (Nw w []) M w17 ([]) ∧ (RT.rs (RT.rs (RT.int .i64))).val M w17 (.slice pa0 pn0 pc0) a_ ([]) ∧ (RT.rs (RT.rs (RT.int .i64))).val M w17 (.slice pa1 pn1 pc1) b ([])) (K := (k_laws_eqIntSS M w)) ?_ ?_ 0 () o20 _ _ ?_ hl21 ?_
    · rintro k18 s16 a w17 ⟨σ, rfl, hC, hO, h0, h1⟩ hlt
      refine c_seq ?_
      refine c_seq ?_
      refine c_region ?_
      refine pl_val (.int .i64 k18) (y_move rfl) ?_
      refine pl_val (.slice pa0 pn0 pc0) (y_move rfl) ?_
      refine pl_val (.int .i64 (a_.length : Int)) (y_len' Sl29 (rs_len h0) rfl) ?_
      refine pl_val (.bool (decide (k18 < (a_.length : Int)))) (y_lss rfl rfl) ?_
      refine c_nil ?_
      refine c_condF (congrArg Value.bool (decide_eq_false hlt)) ?_
      refine wp_exit ?_
      exact ⟨rfl, _, fr_ovl 27 trivial, hC, hO, h0, h1⟩
    · rintro k18 s16 o20 a w17 ⟨σ, rfl, hC, hO, h0, h1⟩ hlt hw hs
      refine c_seq ?_
      refine c_seq ?_
      refine c_region ?_
      refine pl_val (.int .i64 k18) (y_move rfl) ?_
      refine pl_val (.slice pa0 pn0 pc0) (y_move rfl) ?_
      refine pl_val (.int .i64 (a_.length : Int)) (y_len' Sl29 (rs_len h0) rfl) ?_
      refine pl_val (.bool (decide (k18 < (a_.length : Int)))) (y_lss rfl rfl) ?_
      refine c_nil ?_
      refine c_condT (congrArg Value.bool (decide_eq_true hlt)) ?_
      refine wp_skip ?_
      refine c_seq ?_
      refine wp_block ?_
      refine c_seq ?_
      refine x_start [] Mx rfl ?_
      have hCw22 := Chg.drew w17
      generalize World.drew w17 = w22 at hCw22 ⊢
      have h0 := h0.ext hCw22
      have h1 := h1.ext hCw22
      have hC := hC.ext hCw22
      have hO := hO.ext hCw22
      have hS := Chg.refl [] w22
      refine x_p 0 (.slice pa0 pn0 pc0) rfl (by kernel_rfl)  (fun _ => y_move rfl) (fun _ => hS) ?_
      refine x_p 1 (.int .i64 k18) rfl (by kernel_rfl)  (fun _ => y_move rfl) (fun _ => hS) ?_
      obtain ⟨x23, hx23, hs⟩ := bind_some hs
      obtain ⟨b24, o24, hp24, ha24⟩ := rs_idx Sl29 Sz22 h0 hx23
      refine x_p 2 (.pointer (some ⟨b24, o24, none⟩)) rfl (by kernel_rfl)  (fun _ => hp24 _ _ _ _ _ _ _ _ _ rfl rfl) (fun _ => hS) ?_
      obtain ⟨v25, hl25, hv25⟩ := at_load Ag22 Sz22 (fun _ => rfl) ha24
      obtain ⟨a25, n25, c25, rfl⟩ := rs_sl hv25
      refine x_l 3 (.slice a25 n25 c25) rfl (by kernel_rfl)  (fun w' hw' => y_load rfl (hl25 w' hw')) hS ?_
      refine x_p 4 (.slice pa1 pn1 pc1) rfl (by kernel_rfl)  (fun _ => y_move rfl) (fun _ => hS) ?_
      refine x_p 5 (.int .i64 k18) rfl (by kernel_rfl)  (fun _ => y_move rfl) (fun _ => hS) ?_
      obtain ⟨x27, hx27, hs⟩ := bind_some hs
      obtain ⟨b28, o28, hp28, ha28⟩ := rs_idx Sl29 Sz22 h1 hx27
      refine x_p 6 (.pointer (some ⟨b28, o28, none⟩)) rfl (by kernel_rfl)  (fun _ => hp28 _ _ _ _ _ _ _ _ _ rfl rfl) (fun _ => hS) ?_
      obtain ⟨v29, hl29, hv29⟩ := at_load Ag22 Sz22 (fun _ => rfl) ha28
      obtain ⟨a29, n29, c29, rfl⟩ := rs_sl hv29
      refine x_l 7 (.slice a29 n29 c29) rfl (by kernel_rfl)  (fun w' hw' => y_load rfl (hl29 w' hw')) hS ?_
      refine x_one (i := 8) (by kernel_rfl) ?_
      obtain ⟨r32, hr32, hs⟩ := bind_some hs
      refine xk_call (b := false) rfl  Bd18 rfl (c_laws_eqIntS (M := M) x23 x27 hv25 hv29 hO.fut hr32) rfl (by rintro _ _ _ ⟨rfl, hC31⟩; exact hS.ext hC31) ?_
      rintro _ w31 ⟨rfl, hC31⟩
      have h0 := h0.ext hC31
      have h1 := h1.ext hC31
      have hv25 := hv25.ext hC31
      have hv29 := hv29.ext hC31
      have hC := hC.ext hC31
      have hO := hO.ext hC31
      have hS := hS.ext hC31
      refine x_p 9 (.bool (!r32)) rfl (by kernel_rfl)  (fun _ => y_not rfl) (fun _ => hS) ?_
      refine x_end (by kernel_rfl) ?_
      clear hS
      rcases bif_some hs with ⟨hc33, hs⟩ | ⟨hc33, hs⟩
      · skip
        refine c_condT (congrArg Value.bool hc33) ?_
        refine c_seq ?_
        refine c_region ?_
        refine pl_val (.bool false) (y_assign rfl) ?_
        refine c_nil ?_
        refine wp_ret ?_
        cases hs
        exact ⟨_, fr_ovl 27 ⟨rfl, trivial⟩, hC⟩
      · skip
        refine c_condF (congrArg Value.bool hc33) ?_
        refine wp_skip ?_
        refine c_region ?_
        refine pl_val (.int .i64 k18) (y_move rfl) ?_
        refine pl_val (.int .i64 (w64 (k18 + 1))) (y_add rfl rfl) ?_
        refine pl_val (.int .i64 (w64 (k18 + 1))) (y_assign rfl) ?_
        refine c_nil ?_
        cases hs
        exact ⟨_, fr_ovl 27 ⟨rfl, rfl, congrArg (Value.int .i64) hw, trivial⟩, hC, hO, h0, h1⟩
    · skip
      exact ⟨_, fr_ovl 27 ⟨rfl, rfl, rfl, trivial⟩, hC, hO, h0, h1⟩
    · cases o20 with
      | nx _ => exact True.intro
      | rt r_ =>
        have hs := after_rt hs
        intro a1 w1 hK
        cases hs
        exact hK
      | br s16 =>
        have hs := after_br hs
        rintro a1 w17 ⟨σ, rfl, hC, hO, h0, h1⟩
        refine c_seq ?_
        refine c_region ?_
        refine pl_val (.bool true) (y_assign rfl) ?_
        refine c_nil ?_
        refine wp_ret ?_
        cases hs
        exact ⟨_, fr_ovl 27 ⟨rfl, trivial⟩, hC⟩

theorem Bd52 : Bodied Try.prog 52 := bodied Try.func52 (by kernel_rfl) rfl

def k_laws_eqRelation (M : Nat → Prop) (w0 : World) (r : Bool) (a : Act) (w : World) : Prop :=
  ∃ (σ : Nat → Value) , a = fr 16 (ovl σ [(4, (.bool r))]) ∧ Chg [] w0 w
def s_laws_eqRelation (a_ : Int × (List (List Int))) (b : Int × (List (List Int))) : Option (Bool) :=
  (bif (a_.1 != b.1) then some false else (s_laws_eqIntSS a_.2 b.2).bind fun r7 =>
  (bif (!r7) then some false else some true))
set_option maxHeartbeats 4000000 in
theorem c_laws_eqRelation {M : Nat → Prop} {w : World} {pa0 : Option Addr} {pn0 pc0 : Nat} {pa1 : Option Addr} {pn1 pc1 : Nat} (a_ : Int × (List (List Int))) (b : Int × (List (List Int))) (h0 : (RT.rs (RT.rs (RT.int .i64))).val M w (.slice pa0 pn0 pc0) a_.2 ([])) (h1 : (RT.rs (RT.rs (RT.int .i64))).val M w (.slice pa1 pn1 pc1) b.2 ([])) (hM : ∀ g, w.heap.size ≤ g → M g) {r : Bool} (hs : s_laws_eqRelation a_ b = some r) :
    Gives Try.prog 23 [(.agg #[(.int .i64 a_.1), (.slice pa0 pn0 pc0)]), (.agg #[(.int .i64 b.1), (.slice pa1 pn1 pc1)])] w (fun v w' => v = (.bool r) ∧ Chg [] w w') := by
  refine calls_fr Try.func23 rfl Try.ntmps23 (Nat.le_of_ble_eq_true rfl) ?_
  have hO := Own.start (N := Nw w []) hM Nw.fut
  have hC := Chg.refl [] w
  unfold s_laws_eqRelation at hs
  refine wp_mono (Q := KPost (k_laws_eqRelation M w r)) ?_ (fun e a w1 h => ?_)
  rotate_left
  · cases e
    case ret =>
      obtain ⟨σ, rfl, hrest⟩ := h
      exact ret1x Try.results23 (res_tmp rfl) ⟨rfl, hrest⟩
    all_goals exact (h : False).elim
  refine c_seq ?_
  refine c_region ?_
  obtain ⟨w3, g3, ew3, eg3, hC3, hb3⟩ := new_block w [(.int .i64 a_.1), (.slice pa0 pn0 pc0)] 31
  refine pl_val (w' := w3) (.pointer (some ⟨g3, 0, none⟩)) (y_box rfl (by rw [ew3, eg3]; kernel_rfl)) ?_
  have h0 := h0.ext hC3
  have h1 := h1.ext hC3
  have hC := hC.ext hC3
  have hO := hO.new (X' := [g3]) hC3 (fun q hq => by rw [List.mem_singleton.1 hq, eg3]; exact Nat.le_refl _) (List.nodup_cons.2 ⟨(fun h => nomatch h), List.nodup_nil⟩) (fun q hq => by rw [List.mem_singleton.1 hq]; exact hb3.lt)
  obtain ⟨w4, g4, ew4, eg4, hC4, hb4⟩ := new_block w3 [(.int .i64 b.1), (.slice pa1 pn1 pc1)] 31
  refine pl_val (w' := w4) (.pointer (some ⟨g4, 0, none⟩)) (y_box rfl (by rw [ew4, eg4]; kernel_rfl)) ?_
  have h0 := h0.ext hC4
  have h1 := h1.ext hC4
  have hb3 := hb3.chg hC4 (fun h => nomatch h)
  have hC := hC.ext hC4
  have hO := hO.new (X' := [g4]) hC4 (fun q hq => by rw [List.mem_singleton.1 hq, eg4]; exact Nat.le_refl _) (List.nodup_cons.2 ⟨(fun h => nomatch h), List.nodup_nil⟩) (fun q hq => by rw [List.mem_singleton.1 hq]; exact hb4.lt)
  refine pl_val (.bool false) (y_assign rfl) ?_
  refine c_nil ?_
  refine c_seq ?_
  refine c_seq ?_
  refine c_region ?_
  refine pl_val (.pointer (some ⟨g3, 0, none⟩)) (y_faddr rfl Fa31x0) ?_
  refine pl_val (.int .i64 a_.1) (y_load rfl ((box_load Ag3 Sz3 hb3 [] [(.int .i64 a_.1)] [(.slice pa0 pn0 pc0)] rfl rfl (fun _ => rfl)) _ (Chg.refl _ _))) ?_
  refine pl_val (.pointer (some ⟨g4, 0, none⟩)) (y_faddr rfl Fa31x0) ?_
  refine pl_val (.int .i64 b.1) (y_load rfl ((box_load Ag3 Sz3 hb4 [] [(.int .i64 b.1)] [(.slice pa1 pn1 pc1)] rfl rfl (fun _ => rfl)) _ (Chg.refl _ _))) ?_
  refine pl_val (.bool (a_.1 != b.1)) (y_neq rfl rfl) ?_
  refine c_nil ?_
  rcases bif_some hs with ⟨hc5, hs⟩ | ⟨hc5, hs⟩
  · skip
    refine c_condT (congrArg Value.bool hc5) ?_
    refine c_seq ?_
    refine c_region ?_
    refine pl_val (.bool false) (y_assign rfl) ?_
    refine c_nil ?_
    refine wp_ret ?_
    cases hs
    exact ⟨_, fr_ovl 16 ⟨rfl, trivial⟩, hC⟩
  · skip
    refine c_condF (congrArg Value.bool hc5) ?_
    refine wp_skip ?_
    refine c_seq ?_
    refine c_seq ?_
    refine c_region ?_
    refine pl_val (.pointer (some ⟨g3, 1, none⟩)) (y_faddr rfl Fa31x1) ?_
    refine pl_val (.slice pa0 pn0 pc0) (y_load rfl ((box_load Ag29 Sz29 hb3 [(.int .i64 a_.1)] [(.slice pa0 pn0 pc0)] [] rfl rfl (fun _ => rfl)) _ (Chg.refl _ _))) ?_
    refine pl_val (.pointer (some ⟨g4, 1, none⟩)) (y_faddr rfl Fa31x1) ?_
    refine pl_val (.slice pa1 pn1 pc1) (y_load rfl ((box_load Ag29 Sz29 hb4 [(.int .i64 b.1)] [(.slice pa1 pn1 pc1)] [] rfl rfl (fun _ => rfl)) _ (Chg.refl _ _))) ?_
    obtain ⟨r7, hr7, hs⟩ := bind_some hs
    refine pl_call Bd52 rfl (c_laws_eqIntSS (M := M) a_.2 b.2 h0 h1 hO.fut hr7) ?_
    rintro _ w6 ⟨rfl, hC6⟩
    have h0 := h0.ext hC6
    have h1 := h1.ext hC6
    have hb3 := hb3.chg hC6 (fun h => nomatch h)
    have hb4 := hb4.chg hC6 (fun h => nomatch h)
    have hC := hC.ext hC6
    have hO := hO.ext hC6
    refine pl_val (.bool (!r7)) (y_not rfl) ?_
    refine c_nil ?_
    rcases bif_some hs with ⟨hc8, hs⟩ | ⟨hc8, hs⟩
    · skip
      refine c_condT (congrArg Value.bool hc8) ?_
      refine c_seq ?_
      refine c_region ?_
      refine pl_val (.bool false) (y_assign rfl) ?_
      refine c_nil ?_
      refine wp_ret ?_
      cases hs
      exact ⟨_, fr_ovl 16 ⟨rfl, trivial⟩, hC⟩
    · skip
      refine c_condF (congrArg Value.bool hc8) ?_
      refine wp_skip ?_
      refine c_seq ?_
      refine c_region ?_
      refine pl_val (.bool true) (y_assign rfl) ?_
      refine c_nil ?_
      refine wp_ret ?_
      cases hs
      exact ⟨_, fr_ovl 16 ⟨rfl, trivial⟩, hC⟩

theorem Bd23 : Bodied Try.prog 23 := bodied Try.func23 (by kernel_rfl) rfl

def k_laws_eqConstraint (M : Nat → Prop) (w0 : World) (r : Bool) (a : Act) (w : World) : Prop :=
  ∃ (σ : Nat → Value) , a = fr 17 (ovl σ [(4, (.bool r))]) ∧ Chg [] w0 w
def s_laws_eqConstraint (a_ : (List Int) × (Int × (List (List Int)))) (b : (List Int) × (Int × (List (List Int)))) : Option (Bool) :=
  (s_laws_eqIntS a_.1 b.1).bind fun r8 =>
  (bif (!r8) then some false else (s_laws_eqRelation (a_.2.1, a_.2.2) (b.2.1, b.2.2)).bind fun r11 =>
  (bif (!r11) then some false else some true))
set_option maxHeartbeats 4000000 in
theorem c_laws_eqConstraint {M : Nat → Prop} {w : World} {pa0 : Option Addr} {pn0 pc0 : Nat} {pa1 : Option Addr} {pn1 pc1 : Nat} {pa2 : Option Addr} {pn2 pc2 : Nat} {pa3 : Option Addr} {pn3 pc3 : Nat} (a_ : (List Int) × (Int × (List (List Int)))) (b : (List Int) × (Int × (List (List Int)))) (h0 : (RT.rs (RT.int .i64)).val M w (.slice pa0 pn0 pc0) a_.1 ([])) (h1 : (RT.rs (RT.rs (RT.int .i64))).val M w (.slice pa1 pn1 pc1) a_.2.2 ([])) (h2 : (RT.rs (RT.int .i64)).val M w (.slice pa2 pn2 pc2) b.1 ([])) (h3 : (RT.rs (RT.rs (RT.int .i64))).val M w (.slice pa3 pn3 pc3) b.2.2 ([])) (hM : ∀ g, w.heap.size ≤ g → M g) {r : Bool} (hs : s_laws_eqConstraint a_ b = some r) :
    Gives Try.prog 151 [(.agg #[(.slice pa0 pn0 pc0), (.int .i64 a_.2.1), (.slice pa1 pn1 pc1)]), (.agg #[(.slice pa2 pn2 pc2), (.int .i64 b.2.1), (.slice pa3 pn3 pc3)])] w (fun v w' => v = (.bool r) ∧ Chg [] w w') := by
  refine calls_fr Try.func151 rfl Try.ntmps151 (Nat.le_of_ble_eq_true rfl) ?_
  have hO := Own.start (N := Nw w []) hM Nw.fut
  have hC := Chg.refl [] w
  unfold s_laws_eqConstraint at hs
  refine wp_mono (Q := KPost (k_laws_eqConstraint M w r)) ?_ (fun e a w1 h => ?_)
  rotate_left
  · cases e
    case ret =>
      obtain ⟨σ, rfl, hrest⟩ := h
      exact ret1x Try.results151 (res_tmp rfl) ⟨rfl, hrest⟩
    all_goals exact (h : False).elim
  refine c_seq ?_
  refine c_region ?_
  obtain ⟨w5, g5, ew5, eg5, hC5, hb5⟩ := new_block w [(.slice pa0 pn0 pc0), (.int .i64 a_.2.1), (.slice pa1 pn1 pc1)] 108
  refine pl_val (w' := w5) (.pointer (some ⟨g5, 0, none⟩)) (y_box rfl (by rw [ew5, eg5]; kernel_rfl)) ?_
  have h0 := h0.ext hC5
  have h1 := h1.ext hC5
  have h2 := h2.ext hC5
  have h3 := h3.ext hC5
  have hC := hC.ext hC5
  have hO := hO.new (X' := [g5]) hC5 (fun q hq => by rw [List.mem_singleton.1 hq, eg5]; exact Nat.le_refl _) (List.nodup_cons.2 ⟨(fun h => nomatch h), List.nodup_nil⟩) (fun q hq => by rw [List.mem_singleton.1 hq]; exact hb5.lt)
  obtain ⟨w6, g6, ew6, eg6, hC6, hb6⟩ := new_block w5 [(.slice pa2 pn2 pc2), (.int .i64 b.2.1), (.slice pa3 pn3 pc3)] 108
  refine pl_val (w' := w6) (.pointer (some ⟨g6, 0, none⟩)) (y_box rfl (by rw [ew6, eg6]; kernel_rfl)) ?_
  have h0 := h0.ext hC6
  have h1 := h1.ext hC6
  have h2 := h2.ext hC6
  have h3 := h3.ext hC6
  have hb5 := hb5.chg hC6 (fun h => nomatch h)
  have hC := hC.ext hC6
  have hO := hO.new (X' := [g6]) hC6 (fun q hq => by rw [List.mem_singleton.1 hq, eg6]; exact Nat.le_refl _) (List.nodup_cons.2 ⟨(fun h => nomatch h), List.nodup_nil⟩) (fun q hq => by rw [List.mem_singleton.1 hq]; exact hb6.lt)
  refine pl_val (.bool false) (y_assign rfl) ?_
  refine c_nil ?_
  refine c_seq ?_
  refine c_seq ?_
  refine c_region ?_
  refine pl_val (.pointer (some ⟨g5, 0, none⟩)) (y_faddr rfl Fa108x0) ?_
  refine pl_val (.slice pa0 pn0 pc0) (y_load rfl ((box_load Ag22 Sz22 hb5 [] [(.slice pa0 pn0 pc0)] [(.int .i64 a_.2.1), (.slice pa1 pn1 pc1)] rfl rfl (fun _ => rfl)) _ (Chg.refl _ _))) ?_
  refine pl_val (.pointer (some ⟨g6, 0, none⟩)) (y_faddr rfl Fa108x0) ?_
  refine pl_val (.slice pa2 pn2 pc2) (y_load rfl ((box_load Ag22 Sz22 hb6 [] [(.slice pa2 pn2 pc2)] [(.int .i64 b.2.1), (.slice pa3 pn3 pc3)] rfl rfl (fun _ => rfl)) _ (Chg.refl _ _))) ?_
  obtain ⟨r8, hr8, hs⟩ := bind_some hs
  refine pl_call Bd18 rfl (c_laws_eqIntS (M := M) a_.1 b.1 h0 h2 hO.fut hr8) ?_
  rintro _ w7 ⟨rfl, hC7⟩
  have h0 := h0.ext hC7
  have h1 := h1.ext hC7
  have h2 := h2.ext hC7
  have h3 := h3.ext hC7
  have hb5 := hb5.chg hC7 (fun h => nomatch h)
  have hb6 := hb6.chg hC7 (fun h => nomatch h)
  have hC := hC.ext hC7
  have hO := hO.ext hC7
  refine pl_val (.bool (!r8)) (y_not rfl) ?_
  refine c_nil ?_
  rcases bif_some hs with ⟨hc9, hs⟩ | ⟨hc9, hs⟩
  · skip
    refine c_condT (congrArg Value.bool hc9) ?_
    refine c_seq ?_
    refine c_region ?_
    refine pl_val (.bool false) (y_assign rfl) ?_
    refine c_nil ?_
    refine wp_ret ?_
    cases hs
    exact ⟨_, fr_ovl 17 ⟨rfl, trivial⟩, hC⟩
  · skip
    refine c_condF (congrArg Value.bool hc9) ?_
    refine wp_skip ?_
    refine c_seq ?_
    refine c_seq ?_
    refine c_region ?_
    refine pl_val (.pointer (some ⟨g5, 1, none⟩)) (y_faddr rfl Fa108x1) ?_
    refine pl_val (.agg #[(.int .i64 a_.2.1), (.slice pa1 pn1 pc1)]) (y_load rfl ((box_load Ag31 Sz31 hb5 [(.slice pa0 pn0 pc0)] [(.int .i64 a_.2.1), (.slice pa1 pn1 pc1)] [] rfl rfl (fun h => nomatch h)) _ (Chg.refl _ _))) ?_
    refine pl_val (.pointer (some ⟨g6, 1, none⟩)) (y_faddr rfl Fa108x1) ?_
    refine pl_val (.agg #[(.int .i64 b.2.1), (.slice pa3 pn3 pc3)]) (y_load rfl ((box_load Ag31 Sz31 hb6 [(.slice pa2 pn2 pc2)] [(.int .i64 b.2.1), (.slice pa3 pn3 pc3)] [] rfl rfl (fun h => nomatch h)) _ (Chg.refl _ _))) ?_
    obtain ⟨r11, hr11, hs⟩ := bind_some hs
    refine pl_call Bd23 rfl (c_laws_eqRelation (M := M) (a_.2.1, a_.2.2) (b.2.1, b.2.2) h1 h3 hO.fut hr11) ?_
    rintro _ w10 ⟨rfl, hC10⟩
    have h0 := h0.ext hC10
    have h1 := h1.ext hC10
    have h2 := h2.ext hC10
    have h3 := h3.ext hC10
    have hb5 := hb5.chg hC10 (fun h => nomatch h)
    have hb6 := hb6.chg hC10 (fun h => nomatch h)
    have hC := hC.ext hC10
    have hO := hO.ext hC10
    refine pl_val (.bool (!r11)) (y_not rfl) ?_
    refine c_nil ?_
    rcases bif_some hs with ⟨hc12, hs⟩ | ⟨hc12, hs⟩
    · skip
      refine c_condT (congrArg Value.bool hc12) ?_
      refine c_seq ?_
      refine c_region ?_
      refine pl_val (.bool false) (y_assign rfl) ?_
      refine c_nil ?_
      refine wp_ret ?_
      cases hs
      exact ⟨_, fr_ovl 17 ⟨rfl, trivial⟩, hC⟩
    · skip
      refine c_condF (congrArg Value.bool hc12) ?_
      refine wp_skip ?_
      refine c_seq ?_
      refine c_region ?_
      refine pl_val (.bool true) (y_assign rfl) ?_
      refine c_nil ?_
      refine wp_ret ?_
      cases hs
      exact ⟨_, fr_ovl 17 ⟨rfl, trivial⟩, hC⟩

theorem Bd151 : Bodied Try.prog 151 := bodied Try.func151 (by kernel_rfl) rfl

def k_laws_eqConstraintS (M : Nat → Prop) (w0 : World) (r : Bool) (a : Act) (w : World) : Prop :=
  ∃ (σ : Nat → Value) , a = fr 27 (ovl σ [(4, (.bool r))]) ∧ Chg [] w0 w
def s_laws_eqConstraintS (a_ : List ((List Int) × (Int × (List (List Int))))) (b : List ((List Int) × (Int × (List (List Int))))) : Option (Bool) :=
  (bif ((a_.length : Int) != (b.length : Int)) then some false else (forC (S := Unit) (R := Bool) (fun k20 s18 =>
  (idx a_ k20).bind fun x25 =>
  (idx b k20).bind fun x30 =>
  (s_laws_eqConstraint (x25.1, (x25.2.1, x25.2.2)) (x30.1, (x30.2.1, x30.2.2))).bind fun r36 =>
  (bif (!r36) then some (.rt false) else some (.nx ()))) 0 (a_.length : Int) ()).bind fun o22 => after o22 (fun r_ => some r_) (fun s18 =>
  some true))
set_option maxHeartbeats 4000000 in
theorem c_laws_eqConstraintS {M : Nat → Prop} {w : World} {pa0 : Option Addr} {pn0 pc0 : Nat} {pa1 : Option Addr} {pn1 pc1 : Nat} (a_ : List ((List Int) × (Int × (List (List Int))))) (b : List ((List Int) × (Int × (List (List Int))))) (h0 : (RT.rs (RT.pr (RT.rs (RT.int .i64)) (RT.pr (RT.int .i64) (RT.rs (RT.rs (RT.int .i64)))))).val M w (.slice pa0 pn0 pc0) a_ ([])) (h1 : (RT.rs (RT.pr (RT.rs (RT.int .i64)) (RT.pr (RT.int .i64) (RT.rs (RT.rs (RT.int .i64)))))).val M w (.slice pa1 pn1 pc1) b ([])) (hM : ∀ g, w.heap.size ≤ g → M g) {r : Bool} (hs : s_laws_eqConstraintS a_ b = some r) :
    Gives Try.prog 92 [(.slice pa0 pn0 pc0), (.slice pa1 pn1 pc1)] w (fun v w' => v = (.bool r) ∧ Chg [] w w') := by
  refine calls_fr Try.func92 rfl Try.ntmps92 (Nat.le_of_ble_eq_true rfl) ?_
  have hO := Own.start (N := Nw w []) hM Nw.fut
  have hC := Chg.refl [] w
  unfold s_laws_eqConstraintS at hs
  refine wp_mono (Q := KPost (k_laws_eqConstraintS M w r)) ?_ (fun e a w1 h => ?_)
  rotate_left
  · cases e
    case ret =>
      obtain ⟨σ, rfl, hrest⟩ := h
      exact ret1x Try.results92 (res_tmp rfl) ⟨rfl, hrest⟩
    all_goals exact (h : False).elim
  refine c_seq ?_
  refine c_region ?_
  refine pl_val (.bool false) (y_assign rfl) ?_
  refine c_nil ?_
  refine c_seq ?_
  refine c_seq ?_
  refine c_region ?_
  refine pl_val (.slice pa0 pn0 pc0) (y_move rfl) ?_
  refine pl_val (.int .i64 (a_.length : Int)) (y_len' Sl47 (rs_len h0) rfl) ?_
  refine pl_val (.slice pa1 pn1 pc1) (y_move rfl) ?_
  refine pl_val (.int .i64 (b.length : Int)) (y_len' Sl47 (rs_len h1) rfl) ?_
  refine pl_val (.bool ((a_.length : Int) != (b.length : Int))) (y_neq rfl rfl) ?_
  refine c_nil ?_
  rcases bif_some hs with ⟨hc3, hs⟩ | ⟨hc3, hs⟩
  · skip
    refine c_condT (congrArg Value.bool hc3) ?_
    refine c_seq ?_
    refine c_region ?_
    refine pl_val (.bool false) (y_assign rfl) ?_
    refine c_nil ?_
    refine wp_ret ?_
    cases hs
    exact ⟨_, fr_ovl 27 ⟨rfl, trivial⟩, hC⟩
  · skip
    refine c_condF (congrArg Value.bool hc3) ?_
    refine wp_skip ?_
    refine c_seq ?_
    refine c_seq ?_
    refine c_region ?_
    refine pl_val (.int .i64 0) (y_assign rfl) ?_
    refine c_nil ?_
    obtain ⟨o22, hl23, hs⟩ := bind_some hs
    refine wp_block ?_
    refine wp_forC (id := 0) (a_.length : Int) (I := fun k20 s18 a w19 => ∃ (σ : Nat → Value), a = fr 27 (ovl σ [(0, (.slice pa0 pn0 pc0)), (1, (.slice pa1 pn1 pc1)), (5, (.int .i64 k20))]) ∧ Chg [] w w19 ∧ Own (Nw w []) M w19 ([]) ∧ (RT.rs (RT.pr (RT.rs (RT.int .i64)) (RT.pr (RT.int .i64) (RT.rs (RT.rs (RT.int .i64)))))).val M w19 (.slice pa0 pn0 pc0) a_ ([]) ∧ (RT.rs (RT.pr (RT.rs (RT.int .i64)) (RT.pr (RT.int .i64) (RT.rs (RT.rs (RT.int .i64)))))).val M w19 (.slice pa1 pn1 pc1) b ([])) (J := fun s18 a w19 => ∃ (σ : Nat → Value), a = fr 27 (ovl σ []) ∧ Chg [] w w19 ∧ Own (Nw w []) M w19 ([]) ∧ (RT.rs (RT.pr (RT.rs (RT.int .i64)) (RT.pr (RT.int .i64) (RT.rs (RT.rs (RT.int .i64)))))).val M w19 (.slice pa0 pn0 pc0) a_ ([]) ∧ (RT.rs (RT.pr (RT.rs (RT.int .i64)) (RT.pr (RT.int .i64) (RT.rs (RT.rs (RT.int .i64)))))).val M w19 (.slice pa1 pn1 pc1) b ([])) (K := (k_laws_eqConstraintS M w)) ?_ ?_ 0 () o22 _ _ ?_ hl23 ?_
    · rintro k20 s18 a w19 ⟨σ, rfl, hC, hO, h0, h1⟩ hlt
      refine c_seq ?_
      refine c_seq ?_
      refine c_region ?_
      refine pl_val (.int .i64 k20) (y_move rfl) ?_
      refine pl_val (.slice pa0 pn0 pc0) (y_move rfl) ?_
      refine pl_val (.int .i64 (a_.length : Int)) (y_len' Sl47 (rs_len h0) rfl) ?_
      refine pl_val (.bool (decide (k20 < (a_.length : Int)))) (y_lss rfl rfl) ?_
      refine c_nil ?_
      refine c_condF (congrArg Value.bool (decide_eq_false hlt)) ?_
      refine wp_exit ?_
      exact ⟨rfl, _, fr_ovl 27 trivial, hC, hO, h0, h1⟩
    · rintro k20 s18 o22 a w19 ⟨σ, rfl, hC, hO, h0, h1⟩ hlt hw hs
      refine c_seq ?_
      refine c_seq ?_
      refine c_region ?_
      refine pl_val (.int .i64 k20) (y_move rfl) ?_
      refine pl_val (.slice pa0 pn0 pc0) (y_move rfl) ?_
      refine pl_val (.int .i64 (a_.length : Int)) (y_len' Sl47 (rs_len h0) rfl) ?_
      refine pl_val (.bool (decide (k20 < (a_.length : Int)))) (y_lss rfl rfl) ?_
      refine c_nil ?_
      refine c_condT (congrArg Value.bool (decide_eq_true hlt)) ?_
      refine wp_skip ?_
      refine c_seq ?_
      refine wp_block ?_
      refine c_seq ?_
      refine x_start [] Mx rfl ?_
      have hCw24 := Chg.drew w19
      generalize World.drew w19 = w24 at hCw24 ⊢
      have h0 := h0.ext hCw24
      have h1 := h1.ext hCw24
      have hC := hC.ext hCw24
      have hO := hO.ext hCw24
      have hS := Chg.refl [] w24
      refine x_p 0 (.slice pa0 pn0 pc0) rfl (by kernel_rfl)  (fun _ => y_move rfl) (fun _ => hS) ?_
      refine x_p 1 (.int .i64 k20) rfl (by kernel_rfl)  (fun _ => y_move rfl) (fun _ => hS) ?_
      obtain ⟨x25, hx25, hs⟩ := bind_some hs
      obtain ⟨b26, o26, hp26, ha26⟩ := rs_idx Sl47 Sz108 h0 hx25
      refine x_p 2 (.pointer (some ⟨b26, o26, none⟩)) rfl (by kernel_rfl)  (fun _ => hp26 _ _ _ _ _ _ _ _ _ rfl rfl) (fun _ => hS) ?_
      obtain ⟨v27, hl27, hv27⟩ := at_load Ag108 Sz108 (by intro h; cases h) ha26
      obtain ⟨cs27, rfl, hr27⟩ := hv27
      obtain ⟨cc27x1, cd27x1, rfl, hh27x1, ht27x1⟩ := pr_open hr27
      obtain ⟨a27x1, n27x1, c27x1, rfl, hv27x1⟩ := rs_rel hh27x1
      obtain ⟨cc27x3, cd27x3, rfl, hh27x3, ht27x3⟩ := pr_open ht27x1
      obtain rfl := int_rel hh27x3
      obtain ⟨a27x4, n27x4, c27x4, rfl, hv27x4⟩ := rs_rel ht27x3
      refine x_l 3 (.agg #[(.slice a27x1 n27x1 c27x1), (.int .i64 x25.2.1), (.slice a27x4 n27x4 c27x4)]) rfl (by kernel_rfl)  (fun w' hw' => y_load rfl (hl27 w' hw')) hS ?_
      refine x_p 4 (.slice pa1 pn1 pc1) rfl (by kernel_rfl)  (fun _ => y_move rfl) (fun _ => hS) ?_
      refine x_p 5 (.int .i64 k20) rfl (by kernel_rfl)  (fun _ => y_move rfl) (fun _ => hS) ?_
      obtain ⟨x30, hx30, hs⟩ := bind_some hs
      obtain ⟨b31, o31, hp31, ha31⟩ := rs_idx Sl47 Sz108 h1 hx30
      refine x_p 6 (.pointer (some ⟨b31, o31, none⟩)) rfl (by kernel_rfl)  (fun _ => hp31 _ _ _ _ _ _ _ _ _ rfl rfl) (fun _ => hS) ?_
      obtain ⟨v32, hl32, hv32⟩ := at_load Ag108 Sz108 (by intro h; cases h) ha31
      obtain ⟨cs32, rfl, hr32⟩ := hv32
      obtain ⟨cc32x1, cd32x1, rfl, hh32x1, ht32x1⟩ := pr_open hr32
      obtain ⟨a32x1, n32x1, c32x1, rfl, hv32x1⟩ := rs_rel hh32x1
      obtain ⟨cc32x3, cd32x3, rfl, hh32x3, ht32x3⟩ := pr_open ht32x1
      obtain rfl := int_rel hh32x3
      obtain ⟨a32x4, n32x4, c32x4, rfl, hv32x4⟩ := rs_rel ht32x3
      refine x_l 7 (.agg #[(.slice a32x1 n32x1 c32x1), (.int .i64 x30.2.1), (.slice a32x4 n32x4 c32x4)]) rfl (by kernel_rfl)  (fun w' hw' => y_load rfl (hl32 w' hw')) hS ?_
      refine x_one (i := 8) (by kernel_rfl) ?_
      obtain ⟨r36, hr36, hs⟩ := bind_some hs
      refine xk_call (b := false) rfl  Bd151 rfl (c_laws_eqConstraint (M := M) (x25.1, (x25.2.1, x25.2.2)) (x30.1, (x30.2.1, x30.2.2)) hv27x1 hv27x4 hv32x1 hv32x4 hO.fut hr36) rfl (by rintro _ _ _ ⟨rfl, hC35⟩; exact hS.ext hC35) ?_
      rintro _ w35 ⟨rfl, hC35⟩
      have h0 := h0.ext hC35
      have h1 := h1.ext hC35
      have hv27x1 := hv27x1.ext hC35
      have hv27x4 := hv27x4.ext hC35
      have hv32x1 := hv32x1.ext hC35
      have hv32x4 := hv32x4.ext hC35
      have hC := hC.ext hC35
      have hO := hO.ext hC35
      have hS := hS.ext hC35
      refine x_p 9 (.bool (!r36)) rfl (by kernel_rfl)  (fun _ => y_not rfl) (fun _ => hS) ?_
      refine x_end (by kernel_rfl) ?_
      clear hS
      rcases bif_some hs with ⟨hc37, hs⟩ | ⟨hc37, hs⟩
      · skip
        refine c_condT (congrArg Value.bool hc37) ?_
        refine c_seq ?_
        refine c_region ?_
        refine pl_val (.bool false) (y_assign rfl) ?_
        refine c_nil ?_
        refine wp_ret ?_
        cases hs
        exact ⟨_, fr_ovl 27 ⟨rfl, trivial⟩, hC⟩
      · skip
        refine c_condF (congrArg Value.bool hc37) ?_
        refine wp_skip ?_
        refine c_region ?_
        refine pl_val (.int .i64 k20) (y_move rfl) ?_
        refine pl_val (.int .i64 (w64 (k20 + 1))) (y_add rfl rfl) ?_
        refine pl_val (.int .i64 (w64 (k20 + 1))) (y_assign rfl) ?_
        refine c_nil ?_
        cases hs
        exact ⟨_, fr_ovl 27 ⟨rfl, rfl, congrArg (Value.int .i64) hw, trivial⟩, hC, hO, h0, h1⟩
    · skip
      exact ⟨_, fr_ovl 27 ⟨rfl, rfl, rfl, trivial⟩, hC, hO, h0, h1⟩
    · cases o22 with
      | nx _ => exact True.intro
      | rt r_ =>
        have hs := after_rt hs
        intro a1 w1 hK
        cases hs
        exact hK
      | br s18 =>
        have hs := after_br hs
        rintro a1 w19 ⟨σ, rfl, hC, hO, h0, h1⟩
        refine c_seq ?_
        refine c_region ?_
        refine pl_val (.bool true) (y_assign rfl) ?_
        refine c_nil ?_
        refine wp_ret ?_
        cases hs
        exact ⟨_, fr_ovl 27 ⟨rfl, trivial⟩, hC⟩

theorem Bd92 : Bodied Try.prog 92 := bodied Try.func92 (by kernel_rfl) rfl

def k_laws_eqNetwork (M : Nat → Prop) (w0 : World) (r : Bool) (a : Act) (w : World) : Prop :=
  ∃ (σ : Nat → Value) , a = fr 21 (ovl σ [(4, (.bool r))]) ∧ Chg [] w0 w
def s_laws_eqNetwork (a_ : Int × Int × (List ((List Int) × (Int × (List (List Int)))))) (b : Int × Int × (List ((List Int) × (Int × (List (List Int)))))) : Option (Bool) :=
  (bif (a_.1 != b.1) then some false else (bif (a_.2.1 != b.2.1) then some false else (s_laws_eqConstraintS a_.2.2 b.2.2).bind fun r8 =>
  (bif (!r8) then some false else some true)))
set_option maxHeartbeats 4000000 in
theorem c_laws_eqNetwork {M : Nat → Prop} {w : World} {pa0 : Option Addr} {pn0 pc0 : Nat} {pa1 : Option Addr} {pn1 pc1 : Nat} (a_ : Int × Int × (List ((List Int) × (Int × (List (List Int)))))) (b : Int × Int × (List ((List Int) × (Int × (List (List Int)))))) (h0 : (RT.rs (RT.pr (RT.rs (RT.int .i64)) (RT.pr (RT.int .i64) (RT.rs (RT.rs (RT.int .i64)))))).val M w (.slice pa0 pn0 pc0) a_.2.2 ([])) (h1 : (RT.rs (RT.pr (RT.rs (RT.int .i64)) (RT.pr (RT.int .i64) (RT.rs (RT.rs (RT.int .i64)))))).val M w (.slice pa1 pn1 pc1) b.2.2 ([])) (hM : ∀ g, w.heap.size ≤ g → M g) {r : Bool} (hs : s_laws_eqNetwork a_ b = some r) :
    Gives Try.prog 34 [(.agg #[(.int .i64 a_.1), (.int .i64 a_.2.1), (.slice pa0 pn0 pc0)]), (.agg #[(.int .i64 b.1), (.int .i64 b.2.1), (.slice pa1 pn1 pc1)])] w (fun v w' => v = (.bool r) ∧ Chg [] w w') := by
  refine calls_fr Try.func34 rfl Try.ntmps34 (Nat.le_of_ble_eq_true rfl) ?_
  have hO := Own.start (N := Nw w []) hM Nw.fut
  have hC := Chg.refl [] w
  unfold s_laws_eqNetwork at hs
  refine wp_mono (Q := KPost (k_laws_eqNetwork M w r)) ?_ (fun e a w1 h => ?_)
  rotate_left
  · cases e
    case ret =>
      obtain ⟨σ, rfl, hrest⟩ := h
      exact ret1x Try.results34 (res_tmp rfl) ⟨rfl, hrest⟩
    all_goals exact (h : False).elim
  refine c_seq ?_
  refine c_region ?_
  obtain ⟨w3, g3, ew3, eg3, hC3, hb3⟩ := new_block w [(.int .i64 a_.1), (.int .i64 a_.2.1), (.slice pa0 pn0 pc0)] 49
  refine pl_val (w' := w3) (.pointer (some ⟨g3, 0, none⟩)) (y_box rfl (by rw [ew3, eg3]; kernel_rfl)) ?_
  have h0 := h0.ext hC3
  have h1 := h1.ext hC3
  have hC := hC.ext hC3
  have hO := hO.new (X' := [g3]) hC3 (fun q hq => by rw [List.mem_singleton.1 hq, eg3]; exact Nat.le_refl _) (List.nodup_cons.2 ⟨(fun h => nomatch h), List.nodup_nil⟩) (fun q hq => by rw [List.mem_singleton.1 hq]; exact hb3.lt)
  obtain ⟨w4, g4, ew4, eg4, hC4, hb4⟩ := new_block w3 [(.int .i64 b.1), (.int .i64 b.2.1), (.slice pa1 pn1 pc1)] 49
  refine pl_val (w' := w4) (.pointer (some ⟨g4, 0, none⟩)) (y_box rfl (by rw [ew4, eg4]; kernel_rfl)) ?_
  have h0 := h0.ext hC4
  have h1 := h1.ext hC4
  have hb3 := hb3.chg hC4 (fun h => nomatch h)
  have hC := hC.ext hC4
  have hO := hO.new (X' := [g4]) hC4 (fun q hq => by rw [List.mem_singleton.1 hq, eg4]; exact Nat.le_refl _) (List.nodup_cons.2 ⟨(fun h => nomatch h), List.nodup_nil⟩) (fun q hq => by rw [List.mem_singleton.1 hq]; exact hb4.lt)
  refine pl_val (.bool false) (y_assign rfl) ?_
  refine c_nil ?_
  refine c_seq ?_
  refine c_seq ?_
  refine c_region ?_
  refine pl_val (.pointer (some ⟨g3, 0, none⟩)) (y_faddr rfl Fa49x0) ?_
  refine pl_val (.int .i64 a_.1) (y_load rfl ((box_load Ag3 Sz3 hb3 [] [(.int .i64 a_.1)] [(.int .i64 a_.2.1), (.slice pa0 pn0 pc0)] rfl rfl (fun _ => rfl)) _ (Chg.refl _ _))) ?_
  refine pl_val (.pointer (some ⟨g4, 0, none⟩)) (y_faddr rfl Fa49x0) ?_
  refine pl_val (.int .i64 b.1) (y_load rfl ((box_load Ag3 Sz3 hb4 [] [(.int .i64 b.1)] [(.int .i64 b.2.1), (.slice pa1 pn1 pc1)] rfl rfl (fun _ => rfl)) _ (Chg.refl _ _))) ?_
  refine pl_val (.bool (a_.1 != b.1)) (y_neq rfl rfl) ?_
  refine c_nil ?_
  rcases bif_some hs with ⟨hc5, hs⟩ | ⟨hc5, hs⟩
  · skip
    refine c_condT (congrArg Value.bool hc5) ?_
    refine c_seq ?_
    refine c_region ?_
    refine pl_val (.bool false) (y_assign rfl) ?_
    refine c_nil ?_
    refine wp_ret ?_
    cases hs
    exact ⟨_, fr_ovl 21 ⟨rfl, trivial⟩, hC⟩
  · skip
    refine c_condF (congrArg Value.bool hc5) ?_
    refine wp_skip ?_
    refine c_seq ?_
    refine c_seq ?_
    refine c_region ?_
    refine pl_val (.pointer (some ⟨g3, 1, none⟩)) (y_faddr rfl Fa49x1) ?_
    refine pl_val (.int .i64 a_.2.1) (y_load rfl ((box_load Ag3 Sz3 hb3 [(.int .i64 a_.1)] [(.int .i64 a_.2.1)] [(.slice pa0 pn0 pc0)] rfl rfl (fun _ => rfl)) _ (Chg.refl _ _))) ?_
    refine pl_val (.pointer (some ⟨g4, 1, none⟩)) (y_faddr rfl Fa49x1) ?_
    refine pl_val (.int .i64 b.2.1) (y_load rfl ((box_load Ag3 Sz3 hb4 [(.int .i64 b.1)] [(.int .i64 b.2.1)] [(.slice pa1 pn1 pc1)] rfl rfl (fun _ => rfl)) _ (Chg.refl _ _))) ?_
    refine pl_val (.bool (a_.2.1 != b.2.1)) (y_neq rfl rfl) ?_
    refine c_nil ?_
    rcases bif_some hs with ⟨hc6, hs⟩ | ⟨hc6, hs⟩
    · skip
      refine c_condT (congrArg Value.bool hc6) ?_
      refine c_seq ?_
      refine c_region ?_
      refine pl_val (.bool false) (y_assign rfl) ?_
      refine c_nil ?_
      refine wp_ret ?_
      cases hs
      exact ⟨_, fr_ovl 21 ⟨rfl, trivial⟩, hC⟩
    · skip
      refine c_condF (congrArg Value.bool hc6) ?_
      refine wp_skip ?_
      refine c_seq ?_
      refine c_seq ?_
      refine c_region ?_
      refine pl_val (.pointer (some ⟨g3, 2, none⟩)) (y_faddr rfl Fa49x2) ?_
      refine pl_val (.slice pa0 pn0 pc0) (y_load rfl ((box_load Ag47 Sz47 hb3 [(.int .i64 a_.1), (.int .i64 a_.2.1)] [(.slice pa0 pn0 pc0)] [] rfl rfl (fun _ => rfl)) _ (Chg.refl _ _))) ?_
      refine pl_val (.pointer (some ⟨g4, 2, none⟩)) (y_faddr rfl Fa49x2) ?_
      refine pl_val (.slice pa1 pn1 pc1) (y_load rfl ((box_load Ag47 Sz47 hb4 [(.int .i64 b.1), (.int .i64 b.2.1)] [(.slice pa1 pn1 pc1)] [] rfl rfl (fun _ => rfl)) _ (Chg.refl _ _))) ?_
      obtain ⟨r8, hr8, hs⟩ := bind_some hs
      refine pl_call Bd92 rfl (c_laws_eqConstraintS (M := M) a_.2.2 b.2.2 h0 h1 hO.fut hr8) ?_
      rintro _ w7 ⟨rfl, hC7⟩
      have h0 := h0.ext hC7
      have h1 := h1.ext hC7
      have hb3 := hb3.chg hC7 (fun h => nomatch h)
      have hb4 := hb4.chg hC7 (fun h => nomatch h)
      have hC := hC.ext hC7
      have hO := hO.ext hC7
      refine pl_val (.bool (!r8)) (y_not rfl) ?_
      refine c_nil ?_
      rcases bif_some hs with ⟨hc9, hs⟩ | ⟨hc9, hs⟩
      · skip
        refine c_condT (congrArg Value.bool hc9) ?_
        refine c_seq ?_
        refine c_region ?_
        refine pl_val (.bool false) (y_assign rfl) ?_
        refine c_nil ?_
        refine wp_ret ?_
        cases hs
        exact ⟨_, fr_ovl 21 ⟨rfl, trivial⟩, hC⟩
      · skip
        refine c_condF (congrArg Value.bool hc9) ?_
        refine wp_skip ?_
        refine c_seq ?_
        refine c_region ?_
        refine pl_val (.bool true) (y_assign rfl) ?_
        refine c_nil ?_
        refine wp_ret ?_
        cases hs
        exact ⟨_, fr_ovl 21 ⟨rfl, trivial⟩, hC⟩

theorem Ag44 : AggT Try.prog 44 true := fun _ => by kernel_rfl

theorem Sz44 : SzT Try.prog 44 3 := ⟨_, rfl, rfl⟩

theorem Bd30 : Bodied Try.prog 30 := bodied Try.func30 (by kernel_rfl) rfl

theorem Bd32 : Bodied Try.prog 32 := bodied Try.func32 (by kernel_rfl) rfl

theorem Bd46 : Bodied Try.prog 46 := bodied Try.func46 (by kernel_rfl) rfl

theorem Bd47 : Bodied Try.prog 47 := bodied Try.func47 (by kernel_rfl) rfl

theorem Bd34 : Bodied Try.prog 34 := bodied Try.func34 (by kernel_rfl) rfl

end Go.Proofs
