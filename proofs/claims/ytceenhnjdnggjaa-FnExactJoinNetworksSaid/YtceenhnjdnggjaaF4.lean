/- What functions of the program compute, as plain functions, and that a call gives just that. Conditions: those named in each theorem. -/
import Derived.Test.YtceenhnjdnggjaaF3
set_option linter.unusedVariables false
namespace Go.Proofs
open Go.G Go.RowKit
set_option maxRecDepth 100000

def k_laws_heldConstraintS (M : Nat → Prop) (w0 : World) (r : Int) (a : Act) (w : World) : Prop :=
  ∃ (σ : Nat → Value) , a = fr 42 (ovl σ [(4, (.int .i64 r))]) ∧ Chg [] w0 w
def s_laws_heldConstraintS (a_ : List ((List Int) × (Int × (List (List Int))))) (k : Int) : Option (Int) :=
  (forC (S := Int) (R := Int) (fun k26 s24 =>
  (idx a_ k26).bind fun x30 =>
  (s_laws_heldIntS x30.1 s24).bind fun r36 =>
  (bif (decide (r36 < 0)) then some (.rt (-1)) else (idx a_ k26).bind fun x38 =>
  (bif (x38.2.1 != r36) then some (.rt (-1)) else (idx a_ k26).bind fun x43 =>
  (s_laws_heldIntSS x43.2.2 (w64 (r36 + 1))).bind fun r50 =>
  (bif (decide (r50 < 0)) then some (.rt (-1)) else some (.nx r50))))) 0 (a_.length : Int) k).bind fun o28 => after o28 (fun r_ => some r_) (fun s24 =>
  some s24)
set_option maxHeartbeats 4000000 in
theorem c_laws_heldConstraintS {M : Nat → Prop} {w : World} {pa0 : Option Addr} {pn0 pc0 : Nat} (a_ : List ((List Int) × (Int × (List (List Int))))) (k : Int) (h0 : (RT.rs (RT.pr (RT.rs (RT.int .i64)) (RT.pr (RT.int .i64) (RT.rs (RT.rs (RT.int .i64)))))).val M w (.slice pa0 pn0 pc0) a_ ([])) (hM : ∀ g, w.heap.size ≤ g → M g) {r : Int} (hs : s_laws_heldConstraintS a_ k = some r) :
    Gives Try.prog 136 [(.slice pa0 pn0 pc0), (.int .i64 k)] w (fun v w' => v = (.int .i64 r) ∧ Chg [] w w') := by
  refine calls_fr Try.func136 rfl Try.ntmps136 (Nat.le_of_ble_eq_true rfl) ?_
  have hO := Own.start (N := Nw w []) hM Nw.fut
  have hC := Chg.refl [] w
  unfold s_laws_heldConstraintS at hs
  refine wp_mono (Q := KPost (k_laws_heldConstraintS M w r)) ?_ (fun e a w1 h => ?_)
  rotate_left
  · cases e
    case ret =>
      obtain ⟨σ, rfl, hrest⟩ := h
      exact ret1x Try.results136 (res_tmp rfl) ⟨rfl, hrest⟩
    all_goals exact (h : False).elim
  refine c_seq ?_
  refine c_region ?_
  refine pl_val (.int .i64 0) (y_assign rfl) ?_
  refine c_nil ?_
  refine c_seq ?_
  refine c_seq ?_
  refine c_region ?_
  refine pl_val (.int .i64 0) (y_assign rfl) ?_
  refine c_nil ?_
  obtain ⟨o28, hl29, hs⟩ := bind_some hs
  refine wp_block ?_
  refine wp_forC (id := 0) (a_.length : Int) (I := fun k26 s24 a w25 => ∃ (σ : Nat → Value), a = fr 42 (ovl σ [(0, (.slice pa0 pn0 pc0)), (1, (.int .i64 s24)), (5, (.int .i64 k26))]) ∧ Chg [] w w25 ∧ Own (Nw w []) M w25 ([]) ∧ (RT.rs (RT.pr (RT.rs (RT.int .i64)) (RT.pr (RT.int .i64) (RT.rs (RT.rs (RT.int .i64)))))).val M w25 (.slice pa0 pn0 pc0) a_ ([])) (J := fun s24 a w25 => ∃ (σ : Nat → Value), a = fr 42 (ovl σ [(1, (.int .i64 s24))]) ∧ Chg [] w w25 ∧ Own (Nw w []) M w25 ([]) ∧ (RT.rs (RT.pr (RT.rs (RT.int .i64)) (RT.pr (RT.int .i64) (RT.rs (RT.rs (RT.int .i64)))))).val M w25 (.slice pa0 pn0 pc0) a_ ([])) (K := (k_laws_heldConstraintS M w)) ?_ ?_ 0 k o28 _ _ ?_ hl29 ?_
  · rintro k26 s24 a w25 ⟨σ, rfl, hC, hO, h0⟩ hlt
    refine c_seq ?_
    refine c_seq ?_
    refine c_region ?_
    refine pl_val (.int .i64 k26) (y_move rfl) ?_
    refine pl_val (.slice pa0 pn0 pc0) (y_move rfl) ?_
    refine pl_val (.int .i64 (a_.length : Int)) (y_len' Sl47 (rs_len h0) rfl) ?_
    refine pl_val (.bool (decide (k26 < (a_.length : Int)))) (y_lss rfl rfl) ?_
    refine c_nil ?_
    refine c_condF (congrArg Value.bool (decide_eq_false hlt)) ?_
    refine wp_exit ?_
    exact ⟨rfl, _, fr_ovl 42 ⟨rfl, trivial⟩, hC, hO, h0⟩
  · rintro k26 s24 o28 a w25 ⟨σ, rfl, hC, hO, h0⟩ hlt hw hs
    refine c_seq ?_
    refine c_seq ?_
    refine c_region ?_
    refine pl_val (.int .i64 k26) (y_move rfl) ?_
    refine pl_val (.slice pa0 pn0 pc0) (y_move rfl) ?_
    refine pl_val (.int .i64 (a_.length : Int)) (y_len' Sl47 (rs_len h0) rfl) ?_
    refine pl_val (.bool (decide (k26 < (a_.length : Int)))) (y_lss rfl rfl) ?_
    refine c_nil ?_
    refine c_condT (congrArg Value.bool (decide_eq_true hlt)) ?_
    refine wp_skip ?_
    refine c_seq ?_
    refine wp_block ?_
    refine c_seq ?_
    refine c_region ?_
    refine pl_val (.slice pa0 pn0 pc0) (y_move rfl) ?_
    refine pl_val (.int .i64 k26) (y_move rfl) ?_
    obtain ⟨x30, hx30, hs⟩ := bind_some hs
    obtain ⟨b31, o31, hp31, ha31⟩ := rs_idx Sl47 Sz108 h0 hx30
    refine pl_val (.pointer (some ⟨b31, o31, none⟩)) (hp31 _ _ _ _ _ _ _ _ _ rfl rfl) ?_
    obtain ⟨hq32, _⟩ := pr_at ha31
    refine pl_val (.pointer (some ⟨b31, o31 + 0, none⟩)) (y_faddr rfl Fa108x0) ?_
    obtain ⟨v33, hl33, hv33⟩ := at_load Ag22 Sz22 (fun _ => rfl) hq32
    obtain ⟨a33, n33, c33, rfl⟩ := rs_sl hv33
    refine pl_val (.slice a33 n33 c33) (y_load rfl (hl33 _ (Chg.refl _ _))) ?_
    refine pl_val (.int .i64 s24) (y_move rfl) ?_
    obtain ⟨r36, hr36, hs⟩ := bind_some hs
    refine pl_call Bd20 rfl (c_laws_heldIntS (M := M) x30.1 s24 hv33 hO.fut hr36) ?_
    rintro _ w35 ⟨rfl, hC35⟩
    have h0 := h0.ext hC35
    have hv33 := hv33.ext hC35
    have hC := hC.ext hC35
    have hO := hO.ext hC35
    refine pl_val (.int .i64 r36) (y_assign rfl) ?_
    refine c_nil ?_
    refine c_seq ?_
    refine c_seq ?_
    refine c_region ?_
    refine pl_val (.int .i64 r36) (y_move rfl) ?_
    refine pl_val (.bool (decide (r36 < 0))) (y_lss rfl rfl) ?_
    refine c_nil ?_
    rcases bif_some hs with ⟨hc37, hs⟩ | ⟨hc37, hs⟩
    · skip
      refine c_condT (congrArg Value.bool hc37) ?_
      refine c_seq ?_
      refine c_region ?_
      refine pl_val (.int .i64 (-1)) (y_assign rfl) ?_
      refine c_nil ?_
      refine wp_ret ?_
      cases hs
      exact ⟨_, fr_ovl 42 ⟨rfl, trivial⟩, hC⟩
    · skip
      refine c_condF (congrArg Value.bool hc37) ?_
      refine wp_skip ?_
      refine c_seq ?_
      refine c_seq ?_
      refine c_region ?_
      refine pl_val (.slice pa0 pn0 pc0) (y_move rfl) ?_
      refine pl_val (.int .i64 k26) (y_move rfl) ?_
      obtain ⟨x38, hx38, hs⟩ := bind_some hs
      obtain ⟨b39, o39, hp39, ha39⟩ := rs_idx Sl47 Sz108 h0 hx38
      refine pl_val (.pointer (some ⟨b39, o39, none⟩)) (hp39 _ _ _ _ _ _ _ _ _ rfl rfl) ?_
      obtain ⟨_, hq40x0⟩ := pr_at ha39
      refine pl_val (.pointer (some ⟨b39, o39 + 1, none⟩)) (y_faddr rfl Fa108x1) ?_
      obtain ⟨hq41, _⟩ := pr_at hq40x0
      refine pl_val (.pointer (some ⟨b39, (o39 + 1) + 0, none⟩)) (y_faddr rfl Fa31x0) ?_
      refine pl_val (.int .i64 x38.2.1) (y_load rfl ((at_load_int Ag3 Sz3 hq41) _ (Chg.refl _ _))) ?_
      refine pl_val (.int .i64 r36) (y_move rfl) ?_
      refine pl_val (.bool (x38.2.1 != r36)) (y_neq rfl rfl) ?_
      refine c_nil ?_
      rcases bif_some hs with ⟨hc42, hs⟩ | ⟨hc42, hs⟩
      · skip
        refine c_condT (congrArg Value.bool hc42) ?_
        refine c_seq ?_
        refine c_region ?_
        refine pl_val (.int .i64 (-1)) (y_assign rfl) ?_
        refine c_nil ?_
        refine wp_ret ?_
        cases hs
        exact ⟨_, fr_ovl 42 ⟨rfl, trivial⟩, hC⟩
      · skip
        refine c_condF (congrArg Value.bool hc42) ?_
        refine wp_skip ?_
        refine c_seq ?_
        refine c_region ?_
        refine pl_val (.int .i64 r36) (y_move rfl) ?_
        refine pl_val (.int .i64 (w64 (r36 + 1))) (y_add rfl rfl) ?_
        refine pl_val (.int .i64 (w64 (r36 + 1))) (y_assign rfl) ?_
        refine c_nil ?_
        refine c_seq ?_
        refine c_region ?_
        refine pl_val (.slice pa0 pn0 pc0) (y_move rfl) ?_
        refine pl_val (.int .i64 k26) (y_move rfl) ?_
        obtain ⟨x43, hx43, hs⟩ := bind_some hs
        obtain ⟨b44, o44, hp44, ha44⟩ := rs_idx Sl47 Sz108 h0 hx43
        refine pl_val (.pointer (some ⟨b44, o44, none⟩)) (hp44 _ _ _ _ _ _ _ _ _ rfl rfl) ?_
        obtain ⟨_, hq45x0⟩ := pr_at ha44
        refine pl_val (.pointer (some ⟨b44, o44 + 1, none⟩)) (y_faddr rfl Fa108x1) ?_
        obtain ⟨_, hq46x0⟩ := pr_at hq45x0
        refine pl_val (.pointer (some ⟨b44, (o44 + 1) + 1, none⟩)) (y_faddr rfl Fa31x1) ?_
        obtain ⟨v47, hl47, hv47⟩ := at_load Ag29 Sz29 (fun _ => rfl) hq46x0
        obtain ⟨a47, n47, c47, rfl⟩ := rs_sl hv47
        refine pl_val (.slice a47 n47 c47) (y_load rfl (hl47 _ (Chg.refl _ _))) ?_
        refine pl_val (.int .i64 (w64 (r36 + 1))) (y_move rfl) ?_
        obtain ⟨r50, hr50, hs⟩ := bind_some hs
        refine pl_call Bd83 rfl (c_laws_heldIntSS (M := M) x43.2.2 (w64 (r36 + 1)) hv47 hO.fut hr50) ?_
        rintro _ w49 ⟨rfl, hC49⟩
        have h0 := h0.ext hC49
        have hv47 := hv47.ext hC49
        have hC := hC.ext hC49
        have hO := hO.ext hC49
        refine pl_val (.int .i64 r50) (y_assign rfl) ?_
        refine c_nil ?_
        refine c_seq ?_
        refine c_region ?_
        refine pl_val (.int .i64 r50) (y_move rfl) ?_
        refine pl_val (.bool (decide (r50 < 0))) (y_lss rfl rfl) ?_
        refine c_nil ?_
        rcases bif_some hs with ⟨hc51, hs⟩ | ⟨hc51, hs⟩
        · skip
          refine c_condT (congrArg Value.bool hc51) ?_
          refine c_seq ?_
          refine c_region ?_
          refine pl_val (.int .i64 (-1)) (y_assign rfl) ?_
          refine c_nil ?_
          refine wp_ret ?_
          cases hs
          exact ⟨_, fr_ovl 42 ⟨rfl, trivial⟩, hC⟩
        · skip
          refine c_condF (congrArg Value.bool hc51) ?_
          refine wp_skip ?_
          refine c_region ?_
          refine pl_val (.int .i64 k26) (y_move rfl) ?_
          refine pl_val (.int .i64 (w64 (k26 + 1))) (y_add rfl rfl) ?_
          refine pl_val (.int .i64 (w64 (k26 + 1))) (y_assign rfl) ?_
          refine c_nil ?_
          cases hs
          exact ⟨_, fr_ovl 42 ⟨rfl, rfl, congrArg (Value.int .i64) hw, trivial⟩, hC, hO, h0⟩
  · skip
    exact ⟨_, fr_ovl 42 ⟨rfl, rfl, rfl, trivial⟩, hC, hO, h0⟩
  · cases o28 with
    | nx _ => exact True.intro
    | rt r_ =>
      have hs := after_rt hs
      intro a1 w1 hK
      cases hs
      exact hK
    | br s24 =>
      have hs := after_br hs
      rintro a1 w25 ⟨σ, rfl, hC, hO, h0⟩
      refine c_seq ?_
      refine c_region ?_
      refine pl_val (.int .i64 s24) (y_move rfl) ?_
      refine pl_val (.int .i64 s24) (y_assign rfl) ?_
      refine c_nil ?_
      refine wp_ret ?_
      cases hs
      exact ⟨_, fr_ovl 42 ⟨rfl, trivial⟩, hC⟩

theorem Bd136 : Bodied Try.prog 136 := bodied Try.func136 (by kernel_rfl) rfl

def k_laws_heldNetwork (M : Nat → Prop) (w0 : World) (r : Int) (a : Act) (w : World) : Prop :=
  ∃ (σ : Nat → Value) , a = fr 12 (ovl σ [(4, (.int .i64 r))]) ∧ Chg [] w0 w
def s_laws_heldNetwork (a_ : Int × Int × (List ((List Int) × (Int × (List (List Int)))))) (k : Int) : Option (Int) :=
  (s_laws_heldConstraintS a_.2.2 k).bind fun r4 =>
  (bif (decide (r4 < 0)) then some (-1) else some r4)
set_option maxHeartbeats 4000000 in
theorem c_laws_heldNetwork {M : Nat → Prop} {w : World} {pa0 : Option Addr} {pn0 pc0 : Nat} (a_ : Int × Int × (List ((List Int) × (Int × (List (List Int)))))) (k : Int) (h0 : (RT.rs (RT.pr (RT.rs (RT.int .i64)) (RT.pr (RT.int .i64) (RT.rs (RT.rs (RT.int .i64)))))).val M w (.slice pa0 pn0 pc0) a_.2.2 ([])) (hM : ∀ g, w.heap.size ≤ g → M g) {r : Int} (hs : s_laws_heldNetwork a_ k = some r) :
    Gives Try.prog 70 [(.agg #[(.int .i64 a_.1), (.int .i64 a_.2.1), (.slice pa0 pn0 pc0)]), (.int .i64 k)] w (fun v w' => v = (.int .i64 r) ∧ Chg [] w w') := by
  refine calls_fr Try.func70 rfl Try.ntmps70 (Nat.le_of_ble_eq_true rfl) ?_
  have hO := Own.start (N := Nw w []) hM Nw.fut
  have hC := Chg.refl [] w
  unfold s_laws_heldNetwork at hs
  refine wp_mono (Q := KPost (k_laws_heldNetwork M w r)) ?_ (fun e a w1 h => ?_)
  rotate_left
  · cases e
    case ret =>
      obtain ⟨σ, rfl, hrest⟩ := h
      exact ret1x Try.results70 (res_tmp rfl) ⟨rfl, hrest⟩
    all_goals exact (h : False).elim
  refine c_seq ?_
  refine c_region ?_
  obtain ⟨w2, g2, ew2, eg2, hC2, hb2⟩ := new_block w [(.int .i64 a_.1), (.int .i64 a_.2.1), (.slice pa0 pn0 pc0)] 49
  refine pl_val (w' := w2) (.pointer (some ⟨g2, 0, none⟩)) (y_box rfl (by rw [ew2, eg2]; kernel_rfl)) ?_
  have h0 := h0.ext hC2
  have hC := hC.ext hC2
  have hO := hO.new (X' := [g2]) hC2 (fun q hq => by rw [List.mem_singleton.1 hq, eg2]; exact Nat.le_refl _) (List.nodup_cons.2 ⟨(fun h => nomatch h), List.nodup_nil⟩) (fun q hq => by rw [List.mem_singleton.1 hq]; exact hb2.lt)
  refine pl_val (.int .i64 0) (y_assign rfl) ?_
  refine c_nil ?_
  refine c_seq ?_
  refine c_region ?_
  refine pl_val (.pointer (some ⟨g2, 2, none⟩)) (y_faddr rfl Fa49x2) ?_
  refine pl_val (.slice pa0 pn0 pc0) (y_load rfl ((box_load Ag47 Sz47 hb2 [(.int .i64 a_.1), (.int .i64 a_.2.1)] [(.slice pa0 pn0 pc0)] [] rfl rfl (fun _ => rfl)) _ (Chg.refl _ _))) ?_
  refine pl_val (.int .i64 k) (y_move rfl) ?_
  obtain ⟨r4, hr4, hs⟩ := bind_some hs
  refine pl_call Bd136 rfl (c_laws_heldConstraintS (M := M) a_.2.2 k h0 hO.fut hr4) ?_
  rintro _ w3 ⟨rfl, hC3⟩
  have h0 := h0.ext hC3
  have hb2 := hb2.chg hC3 (fun h => nomatch h)
  have hC := hC.ext hC3
  have hO := hO.ext hC3
  refine pl_val (.int .i64 r4) (y_assign rfl) ?_
  refine c_nil ?_
  refine c_seq ?_
  refine c_seq ?_
  refine c_region ?_
  refine pl_val (.int .i64 r4) (y_move rfl) ?_
  refine pl_val (.bool (decide (r4 < 0))) (y_lss rfl rfl) ?_
  refine c_nil ?_
  rcases bif_some hs with ⟨hc5, hs⟩ | ⟨hc5, hs⟩
  · skip
    refine c_condT (congrArg Value.bool hc5) ?_
    refine c_seq ?_
    refine c_region ?_
    refine pl_val (.int .i64 (-1)) (y_assign rfl) ?_
    refine c_nil ?_
    refine wp_ret ?_
    cases hs
    exact ⟨_, fr_ovl 12 ⟨rfl, trivial⟩, hC⟩
  · skip
    refine c_condF (congrArg Value.bool hc5) ?_
    refine wp_skip ?_
    refine c_seq ?_
    refine c_region ?_
    refine pl_val (.int .i64 r4) (y_move rfl) ?_
    refine pl_val (.int .i64 r4) (y_assign rfl) ?_
    refine c_nil ?_
    refine wp_ret ?_
    cases hs
    exact ⟨_, fr_ovl 12 ⟨rfl, trivial⟩, hC⟩

theorem Ag44 : AggT Try.prog 44 true := fun _ => by kernel_rfl

theorem Sz44 : SzT Try.prog 44 3 := ⟨_, rfl, rfl⟩

theorem Bd30 : Bodied Try.prog 30 := bodied Try.func30 (by kernel_rfl) rfl

theorem Bd32 : Bodied Try.prog 32 := bodied Try.func32 (by kernel_rfl) rfl

theorem Bd67 : Bodied Try.prog 67 := bodied Try.func67 (by kernel_rfl) rfl

theorem Bd68 : Bodied Try.prog 68 := bodied Try.func68 (by kernel_rfl) rfl

theorem Bd34 : Bodied Try.prog 34 := bodied Try.func34 (by kernel_rfl) rfl

theorem Bd69 : Bodied Try.prog 69 := bodied Try.func69 (by kernel_rfl) rfl

theorem Bd70 : Bodied Try.prog 70 := bodied Try.func70 (by kernel_rfl) rfl

def k_laws_FnExactJoinNetworks (M : Nat → Prop) (w0 : World) (r : Bool) (a : Act) (w : World) : Prop :=
  ∃ (σ : Nat → Value) , a = fr 119 (ovl σ [(4, (.bool r))]) ∧ Chg [] w0 w
def s_laws_FnExactJoinNetworks (aX : Int × Int × (List ((List Int) × (Int × (List (List Int)))))) (aY : Int × Int × (List ((List Int) × (Int × (List (List Int)))))) : Option (Bool) :=
  (s_laws_szNetwork (aX.1, aX.2.1, aX.2.2) 1048576).bind fun r6 =>
  (bif (decide (r6 < 0)) then some true else (s_laws_szNetwork (aY.1, aY.2.1, aY.2.2) r6).bind fun r9 =>
  (bif (decide (r9 < 0)) then some true else (s_laws_toNetwork (aX.1, aX.2.1, aX.2.2)).bind fun r13 =>
  (s_laws_toNetwork (aY.1, aY.2.1, aY.2.2)).bind fun r16 =>
  (s_spec_JoinNetworks (r13.1, r13.2.1, r13.2.2) (r16.1, r16.2.1, r16.2.2)).bind fun r19 =>
  (s_laws_toNetwork (aX.1, aX.2.1, aX.2.2)).bind fun r84 =>
  (s_laws_toNetwork (aY.1, aY.2.1, aY.2.2)).bind fun r89 =>
  (s_impl_JoinNetworks (r84.1, r84.2.1, r84.2.2) (r89.1, r89.2.1, r89.2.2)).bind fun r94 =>
  ((s_laws_eqNetwork (r94.1.1, r94.1.2.1, r94.1.2.2) (r19.1.1, r19.1.2.1, r19.1.2.2)).bind fun r102 =>
  (bif (!r102) then some true else some (!(r94.2 == r19.2)))).bind fun s98 =>
  (bif s98 then some false else (s_laws_toNetwork (aX.1, aX.2.1, aX.2.2)).bind fun r113 =>
  (s_laws_eqNetwork (r84.1, r84.2.1, r84.2.2) (r113.1, r113.2.1, r113.2.2)).bind fun r116 =>
  (bif (!r116) then some false else (s_laws_toNetwork (aY.1, aY.2.1, aY.2.2)).bind fun r126 =>
  (s_laws_eqNetwork (r89.1, r89.2.1, r89.2.2) (r126.1, r126.2.1, r126.2.2)).bind fun r129 =>
  (bif (!r129) then some false else (s_laws_markNetwork (r84.1, r84.2.1, r84.2.2) 1).bind fun r132 =>
  (s_laws_markNetwork (r89.1, r89.2.1, r89.2.2) r132.1).bind fun r134 =>
  ((bif (decide (r134.1 < 0)) then some true else (s_laws_eqNetwork (r94.1.1, r94.1.2.1, r94.1.2.2) (r19.1.1, r19.1.2.1, r19.1.2.2)).bind fun r140 =>
  (bif (!r140) then some true else some (!(r94.2 == r19.2))))).bind fun s135 =>
  (bif s135 then some false else (s_laws_markNetwork (r94.1.1, r94.1.2.1, r94.1.2.2) 1).bind fun r144 =>
  (s_laws_heldNetwork (r94.1.1, r94.1.2.1, r144.2) 1).bind fun r146 =>
  (bif (decide (r146 < 0)) then some false else (bif (r146 != r144.1) then some false else (s_laws_toNetwork (aX.1, aX.2.1, aX.2.2)).bind fun r151 =>
  (s_laws_toNetwork (aY.1, aY.2.1, aY.2.2)).bind fun r154 =>
  (s_impl_JoinNetworks (r151.1, r151.2.1, r151.2.2) (r154.1, r154.2.1, r154.2.2)).bind fun r157 =>
  ((s_laws_eqNetwork (r157.1.1, r157.1.2.1, r157.1.2.2) (r19.1.1, r19.1.2.1, r19.1.2.2)).bind fun r225 =>
  (bif (!r225) then some true else some (!(r157.2 == r19.2)))).bind fun s221 =>
  (bif s221 then some false else (s_laws_heldNetwork (r94.1.1, r94.1.2.1, r144.2) 1).bind fun r229 =>
  (bif (decide (r229 < 0)) then some false else (bif (r229 != r144.1) then some false else some true)))))))))))
set_option maxHeartbeats 4000000 in
theorem c_laws_FnExactJoinNetworks {M : Nat → Prop} {w : World} {pa0 : Option Addr} {pn0 pc0 : Nat} {pa1 : Option Addr} {pn1 pc1 : Nat} (aX : Int × Int × (List ((List Int) × (Int × (List (List Int)))))) (aY : Int × Int × (List ((List Int) × (Int × (List (List Int)))))) (h0 : (RT.rs (RT.pr (RT.rs (RT.int .i64)) (RT.pr (RT.int .i64) (RT.rs (RT.rs (RT.int .i64)))))).val M w (.slice pa0 pn0 pc0) aX.2.2 ([])) (h1 : (RT.rs (RT.pr (RT.rs (RT.int .i64)) (RT.pr (RT.int .i64) (RT.rs (RT.rs (RT.int .i64)))))).val M w (.slice pa1 pn1 pc1) aY.2.2 ([])) (hM : ∀ g, w.heap.size ≤ g → M g) {r : Bool} (hs : s_laws_FnExactJoinNetworks aX aY = some r) :
    Gives Try.prog 12 [(.agg #[(.int .i64 aX.1), (.int .i64 aX.2.1), (.slice pa0 pn0 pc0)]), (.agg #[(.int .i64 aY.1), (.int .i64 aY.2.1), (.slice pa1 pn1 pc1)])] w (fun v w' => v = (.bool r) ∧ Chg [] w w') := by
  refine calls_fr Try.func12 rfl Try.ntmps12 (Nat.le_of_ble_eq_true rfl) ?_
  have hO := Own.start (N := Nw w []) hM Nw.fut
  have hC := Chg.refl [] w
  unfold s_laws_FnExactJoinNetworks at hs
  refine wp_mono (Q := KPost (k_laws_FnExactJoinNetworks M w r)) ?_ (fun e a w1 h => ?_)
  rotate_left
  · cases e
    case ret =>
      obtain ⟨σ, rfl, hrest⟩ := h
      exact ret1x Try.results12 (res_tmp rfl) ⟨rfl, hrest⟩
    all_goals exact (h : False).elim
  refine c_seq ?_
  refine c_region ?_
  obtain ⟨w3, g3, ew3, eg3, hC3, hb3⟩ := new_block w [(.int .i64 aX.1), (.int .i64 aX.2.1), (.slice pa0 pn0 pc0)] 44
  refine pl_val (w' := w3) (.pointer (some ⟨g3, 0, none⟩)) (y_box rfl (by rw [ew3, eg3]; kernel_rfl)) ?_
  have h0 := h0.ext hC3
  have h1 := h1.ext hC3
  have hC := hC.ext hC3
  have hO := hO.new (X' := [g3]) hC3 (fun q hq => by rw [List.mem_singleton.1 hq, eg3]; exact Nat.le_refl _) (List.nodup_cons.2 ⟨(fun h => nomatch h), List.nodup_nil⟩) (fun q hq => by rw [List.mem_singleton.1 hq]; exact hb3.lt)
  obtain ⟨w4, g4, ew4, eg4, hC4, hb4⟩ := new_block w3 [(.int .i64 aY.1), (.int .i64 aY.2.1), (.slice pa1 pn1 pc1)] 44
  refine pl_val (w' := w4) (.pointer (some ⟨g4, 0, none⟩)) (y_box rfl (by rw [ew4, eg4]; kernel_rfl)) ?_
  have h0 := h0.ext hC4
  have h1 := h1.ext hC4
  have hb3 := hb3.chg hC4 (fun h => nomatch h)
  have hC := hC.ext hC4
  have hO := hO.new (X' := [g4]) hC4 (fun q hq => by rw [List.mem_singleton.1 hq, eg4]; exact Nat.le_refl _) (List.nodup_cons.2 ⟨(fun h => nomatch h), List.nodup_nil⟩) (fun q hq => by rw [List.mem_singleton.1 hq]; exact hb4.lt)
  refine pl_val (.bool false) (y_assign rfl) ?_
  refine c_nil ?_
  refine c_seq ?_
  refine c_region ?_
  refine pl_val (.int .i64 1048576) (y_assign rfl) ?_
  refine c_nil ?_
  refine c_seq ?_
  refine c_region ?_
  refine pl_val (.agg #[(.int .i64 aX.1), (.int .i64 aX.2.1), (.slice pa0 pn0 pc0)]) (y_load rfl ((box_load Ag44 Sz44 hb3 [] [(.int .i64 aX.1), (.int .i64 aX.2.1), (.slice pa0 pn0 pc0)] [] rfl rfl (fun h => nomatch h)) _ (Chg.refl _ _))) ?_
  refine pl_val (.int .i64 1048576) (y_move rfl) ?_
  obtain ⟨r6, hr6, hs⟩ := bind_some hs
  refine pl_call Bd30 rfl (c_laws_szNetwork (M := M) (aX.1, aX.2.1, aX.2.2) 1048576 h0 hO.fut hr6) ?_
  rintro _ w5 ⟨rfl, hC5⟩
  have h0 := h0.ext hC5
  have h1 := h1.ext hC5
  have hb3 := hb3.chg hC5 (fun h => nomatch h)
  have hb4 := hb4.chg hC5 (fun h => nomatch h)
  have hC := hC.ext hC5
  have hO := hO.ext hC5
  refine pl_val (.int .i64 r6) (y_assign rfl) ?_
  refine c_nil ?_
  refine c_seq ?_
  refine c_seq ?_
  refine c_region ?_
  refine pl_val (.int .i64 r6) (y_move rfl) ?_
  refine pl_val (.bool (decide (r6 < 0))) (y_lss rfl rfl) ?_
  refine c_nil ?_
  rcases bif_some hs with ⟨hc7, hs⟩ | ⟨hc7, hs⟩
  · skip
    refine c_condT (congrArg Value.bool hc7) ?_
    refine c_seq ?_
    refine c_region ?_
    refine pl_val (.bool true) (y_assign rfl) ?_
    refine c_nil ?_
    refine wp_ret ?_
    cases hs
    exact ⟨_, fr_ovl 119 ⟨rfl, trivial⟩, hC⟩
  · skip
    refine c_condF (congrArg Value.bool hc7) ?_
    refine wp_skip ?_
    refine c_seq ?_
    refine c_region ?_
    refine pl_val (.agg #[(.int .i64 aY.1), (.int .i64 aY.2.1), (.slice pa1 pn1 pc1)]) (y_load rfl ((box_load Ag44 Sz44 hb4 [] [(.int .i64 aY.1), (.int .i64 aY.2.1), (.slice pa1 pn1 pc1)] [] rfl rfl (fun h => nomatch h)) _ (Chg.refl _ _))) ?_
    refine pl_val (.int .i64 r6) (y_move rfl) ?_
    obtain ⟨r9, hr9, hs⟩ := bind_some hs
    refine pl_call Bd30 rfl (c_laws_szNetwork (M := M) (aY.1, aY.2.1, aY.2.2) r6 h1 hO.fut hr9) ?_
    rintro _ w8 ⟨rfl, hC8⟩
    have h0 := h0.ext hC8
    have h1 := h1.ext hC8
    have hb3 := hb3.chg hC8 (fun h => nomatch h)
    have hb4 := hb4.chg hC8 (fun h => nomatch h)
    have hC := hC.ext hC8
    have hO := hO.ext hC8
    refine pl_val (.int .i64 r9) (y_assign rfl) ?_
    refine c_nil ?_
    refine c_seq ?_
    refine c_seq ?_
    refine c_region ?_
    refine pl_val (.int .i64 r9) (y_move rfl) ?_
    refine pl_val (.bool (decide (r9 < 0))) (y_lss rfl rfl) ?_
    refine c_nil ?_
    rcases bif_some hs with ⟨hc10, hs⟩ | ⟨hc10, hs⟩
    · skip
      refine c_condT (congrArg Value.bool hc10) ?_
      refine c_seq ?_
      refine c_region ?_
      refine pl_val (.bool true) (y_assign rfl) ?_
      refine c_nil ?_
      refine wp_ret ?_
      cases hs
      exact ⟨_, fr_ovl 119 ⟨rfl, trivial⟩, hC⟩
    · skip
      refine c_condF (congrArg Value.bool hc10) ?_
      refine wp_skip ?_
      refine c_seq ?_
      obtain ⟨r13, hr13, hs⟩ := bind_some hs
      obtain ⟨r16, hr16, hs⟩ := bind_some hs
      obtain ⟨r19, hr19, hs⟩ := bind_some hs
      refine c_mid (I := fun a w22 => ∃ (σ : Nat → Value) (a18x0 : Option Addr) (c18x0 : Nat) (f18x0 : List Nat) (g21 : Nat) (n18x0 : Nat), a = fr 119 (ovl σ [(2, (.pointer (some ⟨g3, 0, none⟩))), (3, (.pointer (some ⟨g4, 0, none⟩))), (4, (.bool false)), (6, (.pointer (some ⟨g21, 0, none⟩))), (7, (.bool r19.2))]) ∧ Chg [] w w22 ∧ Own (Nw w []) M w22 (([g21]) ++ (f18x0 ++ (([g4]) ++ (([g3]) ++ [])))) ∧ (RT.rs (RT.pr (RT.rs (RT.int .i64)) (RT.pr (RT.int .i64) (RT.rs (RT.rs (RT.int .i64)))))).val M w22 (.slice pa0 pn0 pc0) aX.2.2 ([]) ∧ (RT.rs (RT.pr (RT.rs (RT.int .i64)) (RT.pr (RT.int .i64) (RT.rs (RT.rs (RT.int .i64)))))).val M w22 (.slice pa1 pn1 pc1) aY.2.2 ([]) ∧ BoxV w22 g3 44 [(.int .i64 aX.1), (.int .i64 aX.2.1), (.slice pa0 pn0 pc0)] ∧ BoxV w22 g4 44 [(.int .i64 aY.1), (.int .i64 aY.2.1), (.slice pa1 pn1 pc1)] ∧ (RT.os 108 (RT.pr (RT.os 3 (RT.int .i64)) (RT.pr (RT.int .i64) (RT.os 22 (RT.os 3 (RT.int .i64)))))).val M w22 (.slice a18x0 n18x0 c18x0) r19.1.2.2 f18x0 ∧ BoxV w22 g21 49 [(.int .i64 r19.1.1), (.int .i64 r19.1.2.1), (.slice a18x0 n18x0 c18x0)]) ?_ ?_
      · skip
        refine x_start [9] Mx rfl ?_
        have hCw47 := Chg.drew w8
        generalize World.drew w8 = w47 at hCw47 ⊢
        have h0 := h0.ext hCw47
        have h1 := h1.ext hCw47
        have hb3 := hb3.chg hCw47 (fun h => nomatch h)
        have hb4 := hb4.chg hCw47 (fun h => nomatch h)
        have hC := hC.ext hCw47
        have hO := hO.ext hCw47
        have hS := Chg.refl [] w47
        refine x_l 0 (.agg #[(.int .i64 aX.1), (.int .i64 aX.2.1), (.slice pa0 pn0 pc0)]) rfl (by kernel_rfl)  (fun w' hw' => y_load rfl ((box_load Ag44 Sz44 hb3 [] [(.int .i64 aX.1), (.int .i64 aX.2.1), (.slice pa0 pn0 pc0)] [] rfl rfl (fun h => nomatch h)) w' hw')) hS ?_
        refine x_l 2 (.agg #[(.int .i64 aY.1), (.int .i64 aY.2.1), (.slice pa1 pn1 pc1)]) rfl (by kernel_rfl)  (fun w' hw' => y_load rfl ((box_load Ag44 Sz44 hb4 [] [(.int .i64 aY.1), (.int .i64 aY.2.1), (.slice pa1 pn1 pc1)] [] rfl rfl (fun h => nomatch h)) w' hw')) hS ?_
        refine x_two (i := 1) (j := 8) (by kernel_rfl) ?_ ?_
        · skip
          refine xk_call (b := false) rfl  Bd32 rfl (c_laws_toNetwork (M := M) (aX.1, aX.2.1, aX.2.2) h0 hO.fut hr13) rfl (by rintro _ _ _ ⟨a48x0, n48x0, c48x0, f48x0, rfl, hC48, hv48x0, hOc48⟩; exact hS.ext hC48) ?_
          rintro _ w48 ⟨a48x0, n48x0, c48x0, f48x0, rfl, hC48, hv48x0, hOc48⟩
          have h0 := h0.ext hC48
          have h1 := h1.ext hC48
          have hb3 := hb3.chg hC48 (fun h => nomatch h)
          have hb4 := hb4.chg hC48 (fun h => nomatch h)
          have hC := hC.ext hC48
          have hO := Own.join0 hO hC48 hOc48
          have hO := hO.perm (R := f48x0 ++ (([g4]) ++ (([g3]) ++ ([])))) (by simp)
          have hS := hS.ext hC48
          refine x_two (i := 3) (j := 8) (by kernel_rfl) ?_ ?_
          · skip
            refine xk_call (b := false) rfl  Bd32 rfl (c_laws_toNetwork (M := M) (aY.1, aY.2.1, aY.2.2) h1 hO.fut hr16) rfl (by rintro _ _ _ ⟨a51x0, n51x0, c51x0, f51x0, rfl, hC51, hv51x0, hOc51⟩; exact hS.ext hC51) ?_
            rintro _ w51 ⟨a51x0, n51x0, c51x0, f51x0, rfl, hC51, hv51x0, hOc51⟩
            have h0 := h0.ext hC51
            have h1 := h1.ext hC51
            have hb3 := hb3.chg hC51 (fun h => nomatch h)
            have hb4 := hb4.chg hC51 (fun h => nomatch h)
            have hv48x0 := hv48x0.ext hC51
            have hC := hC.ext hC51
            have hO := Own.join0 hO hC51 hOc51
            have hO := hO.perm (R := f51x0 ++ (f48x0 ++ (([g4]) ++ (([g3]) ++ ([]))))) (by simp)
            have hS := hS.ext hC51
            refine x_two (i := 4) (j := 8) (by kernel_rfl) ?_ ?_
            · skip
              have hO := hO.fr1
              refine xk_call (b := false) rfl  Bd67 rfl (c_spec_JoinNetworks (M := (Less (Less M f48x0) f51x0)) (r13.1, r13.2.1, r13.2.2) (r16.1, r16.2.1, r16.2.2) ((((Frz.os (Frz.pr (Frz.os Frz.int) (Frz.pr Frz.int (Frz.os (Frz.os Frz.int)))))).val hv48x0 Less.sub Less.not).sub Less.sub) (((Frz.os (Frz.pr (Frz.os Frz.int) (Frz.pr Frz.int (Frz.os (Frz.os Frz.int)))))).val (hv51x0.sub Less.sub) Less.sub Less.not) (hO.less).less.fut hr19) rfl (by rintro _ _ _ ⟨a54x0, n54x0, c54x0, f54x0, rfl, hC54, hv54x0, hOc54⟩; exact hS.ext hC54) ?_
              rintro _ w54 ⟨a54x0, n54x0, c54x0, f54x0, rfl, hC54, hv54x0, hOc54⟩
              have h0 := h0.ext hC54
              have h1 := h1.ext hC54
              have hb3 := hb3.chg hC54 (fun h => nomatch h)
              have hb4 := hb4.chg hC54 (fun h => nomatch h)
              have hv48x0 := hv48x0.ext hC54
              have hv51x0 := hv51x0.ext hC54
              have hC := hC.ext hC54
              have hO := Own.join0 hO hC54 hOc54
              have hO := hO.perm (R := f54x0 ++ (f48x0 ++ (f51x0 ++ (([g4]) ++ (([g3]) ++ ([])))))) (by simp)
              have hv54x0 := hv54x0.free (M' := M) (Free.os (Free.pr (Free.os Free.int) (Free.pr Free.int (Free.os (Free.os Free.int)))))
              have hS := hS.ext hC54
              refine x_p 5 (.tuple #[(.agg #[(.int .i64 r19.1.1), (.int .i64 r19.1.2.1), (.slice a54x0 n54x0 c54x0)]), (.bool r19.2)]) rfl (by kernel_rfl)  (fun _ => y_move rfl) (fun _ => hS) ?_
              refine x_p 6 (.agg #[(.int .i64 r19.1.1), (.int .i64 r19.1.2.1), (.slice a54x0 n54x0 c54x0)]) rfl (by kernel_rfl)  (fun _ => y_extract rfl (by kernel_rfl)) (fun _ => hS) ?_
              refine x_p 7 (.bool r19.2) rfl (by kernel_rfl)  (fun _ => y_extract rfl (by kernel_rfl)) (fun _ => hS) ?_
              refine x_one (i := 8) (by kernel_rfl) ?_
              obtain ⟨w57, g57, ew57, eg57, hC57, hb57⟩ := new_block w54 [(.int .i64 0), (.int .i64 0), (.slice none 0 0)] 49
              refine xk_val (w' := w57) (b := false) (.pointer (some ⟨g57, 0, none⟩)) rfl  (y_alloc (by rw [ew57, eg57]; kernel_rfl)) rfl (fun _ => hS.ext hC57) ?_
              have h0 := h0.ext hC57
              have h1 := h1.ext hC57
              have hb3 := hb3.chg hC57 (fun h => nomatch h)
              have hb4 := hb4.chg hC57 (fun h => nomatch h)
              have hv48x0 := hv48x0.ext hC57
              have hv51x0 := hv51x0.ext hC57
              have hv54x0 := hv54x0.ext hC57
              have hC := hC.ext hC57
              have hO := hO.new (X' := [g57]) hC57 (fun q hq => by rw [List.mem_singleton.1 hq, eg57]; exact Nat.le_refl _) (List.nodup_cons.2 ⟨(fun h => nomatch h), List.nodup_nil⟩) (fun q hq => by rw [List.mem_singleton.1 hq]; exact hb57.lt)
              have hS := hS.ext hC57
              refine x_one (i := 9) (by kernel_rfl) ?_
              obtain ⟨w58, hst58, hC58, hb58⟩ := box_store (P := Try.prog) hb57 [] [(.int .i64 0), (.int .i64 0), (.slice none 0 0)] [] [(.int .i64 r19.1.1), (.int .i64 r19.1.2.1), (.slice a54x0 n54x0 c54x0)] rfl rfl (by intro u hu; simp only [List.mem_cons, List.not_mem_nil, or_false] at hu; rcases hu with rfl | rfl | rfl <;> rfl)
              refine xk_skip (w' := w58) (b := true) rfl (ys_store rfl rfl (hst58 _ _ rfl Sz49)) rfl (fun h => nomatch h) ?_
              have h0 := h0.mut hC58 (fun g hg => hO.inM g ((fun _ h => h) g hg)) (fun _ _ h => nomatch h)
              have h1 := h1.mut hC58 (fun g hg => hO.inM g ((fun _ h => h) g hg)) (fun _ _ h => nomatch h)
              have hb3 := hb3.chg hC58 (fun hg => hO.apart _ ((fun _ h => h) _ hg) (mem_r (mem_r (mem_r (mem_r (mem_l (List.mem_singleton.2 rfl)))))))
              have hb4 := hb4.chg hC58 (fun hg => hO.apart _ ((fun _ h => h) _ hg) (mem_r (mem_r (mem_r (mem_l (List.mem_singleton.2 rfl))))))
              have hv48x0 := hv48x0.mut hC58 (fun g hg => hO.inM g ((fun _ h => h) g hg)) (fun g hg e => hO.apart g ((fun _ h => h) g hg) (mem_r (mem_l (e))))
              have hv51x0 := hv51x0.mut hC58 (fun g hg => hO.inM g ((fun _ h => h) g hg)) (fun g hg e => hO.apart g ((fun _ h => h) g hg) (mem_r (mem_r (mem_l (e)))))
              have hv54x0 := hv54x0.mut hC58 (fun g hg => hO.inM g ((fun _ h => h) g hg)) (fun g hg e => hO.apart g ((fun _ h => h) g hg) (mem_l (e)))
              have hC := hC.step hC58 (fun g hg => hO.inN g ((fun _ h => h) g hg))
              have hO := hO.ext hC58
              have hb58 : BoxV w58 g57 49 [(.int .i64 r19.1.1), (.int .i64 r19.1.2.1), (.slice a54x0 n54x0 c54x0)] := hb58
              refine x_p 10 (.bool r19.2) rfl (by kernel_rfl)  (fun _ => y_assign rfl) (fun h => nomatch h) ?_
              refine x_end (by kernel_rfl) ?_
              clear hS
              have hO := hO.fr2
              have hO := hO.drop
              have hO := hO.fr2
              have hO := hO.drop
              have hO := hO.fr3
              have hO := hO.fr3
              have hO := hO.fr3
              have hO := hO.fr3
              exact ⟨_, a54x0, c54x0, f54x0, g57, n54x0, fr_ovl 119 ⟨rfl, rfl, rfl, rfl, rfl, trivial⟩, hC, hO, h0, h1, hb3, hb4, hv54x0, hb58⟩
            · skip
              obtain ⟨w59, g59, ew59, eg59, hC59, hb59⟩ := new_block w51 [(.int .i64 0), (.int .i64 0), (.slice none 0 0)] 49
              refine xk_val (w' := w59) (b := false) (.pointer (some ⟨g59, 0, none⟩)) rfl  (y_alloc (by rw [ew59, eg59]; kernel_rfl)) rfl (fun _ => hS.ext hC59) ?_
              have h0 := h0.ext hC59
              have h1 := h1.ext hC59
              have hb3 := hb3.chg hC59 (fun h => nomatch h)
              have hb4 := hb4.chg hC59 (fun h => nomatch h)
              have hv48x0 := hv48x0.ext hC59
              have hv51x0 := hv51x0.ext hC59
              have hC := hC.ext hC59
              have hO := hO.new (X' := [g59]) hC59 (fun q hq => by rw [List.mem_singleton.1 hq, eg59]; exact Nat.le_refl _) (List.nodup_cons.2 ⟨(fun h => nomatch h), List.nodup_nil⟩) (fun q hq => by rw [List.mem_singleton.1 hq]; exact hb59.lt)
              have hS := hS.ext hC59
              refine x_one (i := 4) (by kernel_rfl) ?_
              have hO := hO.fr1
              have hO := hO.fr2
              refine xk_call (b := false) rfl  Bd67 rfl (c_spec_JoinNetworks (M := (Less (Less M f48x0) f51x0)) (r13.1, r13.2.1, r13.2.2) (r16.1, r16.2.1, r16.2.2) ((((Frz.os (Frz.pr (Frz.os Frz.int) (Frz.pr Frz.int (Frz.os (Frz.os Frz.int)))))).val hv48x0 Less.sub Less.not).sub Less.sub) (((Frz.os (Frz.pr (Frz.os Frz.int) (Frz.pr Frz.int (Frz.os (Frz.os Frz.int)))))).val (hv51x0.sub Less.sub) Less.sub Less.not) (hO.less).less.fut hr19) rfl (by rintro _ _ _ ⟨a60x0, n60x0, c60x0, f60x0, rfl, hC60, hv60x0, hOc60⟩; exact hS.ext hC60) ?_
              rintro _ w60 ⟨a60x0, n60x0, c60x0, f60x0, rfl, hC60, hv60x0, hOc60⟩
              have h0 := h0.ext hC60
              have h1 := h1.ext hC60
              have hb3 := hb3.chg hC60 (fun h => nomatch h)
              have hb4 := hb4.chg hC60 (fun h => nomatch h)
              have hv48x0 := hv48x0.ext hC60
              have hv51x0 := hv51x0.ext hC60
              have hb59 := hb59.chg hC60 (fun h => nomatch h)
              have hC := hC.ext hC60
              have hO := Own.join0 hO hC60 hOc60
              have hO := hO.perm (R := f60x0 ++ (f48x0 ++ (f51x0 ++ (([g59]) ++ (([g4]) ++ (([g3]) ++ ([]))))))) (by simp)
              have hv60x0 := hv60x0.free (M' := M) (Free.os (Free.pr (Free.os Free.int) (Free.pr Free.int (Free.os (Free.os Free.int)))))
              have hS := hS.ext hC60
              refine x_p 5 (.tuple #[(.agg #[(.int .i64 r19.1.1), (.int .i64 r19.1.2.1), (.slice a60x0 n60x0 c60x0)]), (.bool r19.2)]) rfl (by kernel_rfl)  (fun _ => y_move rfl) (fun _ => hS) ?_
              refine x_p 6 (.agg #[(.int .i64 r19.1.1), (.int .i64 r19.1.2.1), (.slice a60x0 n60x0 c60x0)]) rfl (by kernel_rfl)  (fun _ => y_extract rfl (by kernel_rfl)) (fun _ => hS) ?_
              refine x_p 7 (.bool r19.2) rfl (by kernel_rfl)  (fun _ => y_extract rfl (by kernel_rfl)) (fun _ => hS) ?_
              refine x_one (i := 9) (by kernel_rfl) ?_
              obtain ⟨w63, hst63, hC63, hb63⟩ := box_store (P := Try.prog) hb59 [] [(.int .i64 0), (.int .i64 0), (.slice none 0 0)] [] [(.int .i64 r19.1.1), (.int .i64 r19.1.2.1), (.slice a60x0 n60x0 c60x0)] rfl rfl (by intro u hu; simp only [List.mem_cons, List.not_mem_nil, or_false] at hu; rcases hu with rfl | rfl | rfl <;> rfl)
              refine xk_skip (w' := w63) (b := true) rfl (ys_store rfl rfl (hst63 _ _ rfl Sz49)) rfl (fun h => nomatch h) ?_
              have hO := hO.fr3
              have h0 := h0.mut hC63 (fun g hg => hO.inM g ((fun _ h => h) g hg)) (fun _ _ h => nomatch h)
              have h1 := h1.mut hC63 (fun g hg => hO.inM g ((fun _ h => h) g hg)) (fun _ _ h => nomatch h)
              have hb3 := hb3.chg hC63 (fun hg => hO.apart _ ((fun _ h => h) _ hg) (mem_r (mem_r (mem_r (mem_r (mem_l (List.mem_singleton.2 rfl)))))))
              have hb4 := hb4.chg hC63 (fun hg => hO.apart _ ((fun _ h => h) _ hg) (mem_r (mem_r (mem_r (mem_l (List.mem_singleton.2 rfl))))))
              have hv48x0 := hv48x0.mut hC63 (fun g hg => hO.inM g ((fun _ h => h) g hg)) (fun g hg e => hO.apart g ((fun _ h => h) g hg) (mem_r (mem_l (e))))
              have hv51x0 := hv51x0.mut hC63 (fun g hg => hO.inM g ((fun _ h => h) g hg)) (fun g hg e => hO.apart g ((fun _ h => h) g hg) (mem_r (mem_r (mem_l (e)))))
              have hv60x0 := hv60x0.mut hC63 (fun g hg => hO.inM g ((fun _ h => h) g hg)) (fun g hg e => hO.apart g ((fun _ h => h) g hg) (mem_l (e)))
              have hC := hC.step hC63 (fun g hg => hO.inN g ((fun _ h => h) g hg))
              have hO := hO.ext hC63
              have hb63 : BoxV w63 g59 49 [(.int .i64 r19.1.1), (.int .i64 r19.1.2.1), (.slice a60x0 n60x0 c60x0)] := hb63
              refine x_p 10 (.bool r19.2) rfl (by kernel_rfl)  (fun _ => y_assign rfl) (fun h => nomatch h) ?_
              refine x_end (by kernel_rfl) ?_
              clear hS
              have hO := hO.fr2
              have hO := hO.drop
              have hO := hO.fr2
              have hO := hO.drop
              have hO := hO.fr3
              have hO := hO.fr3
              have hO := hO.fr3
              have hO := hO.fr3
              exact ⟨_, a60x0, c60x0, f60x0, g59, n60x0, fr_ovl 119 ⟨rfl, rfl, rfl, rfl, rfl, trivial⟩, hC, hO, h0, h1, hb3, hb4, hv60x0, hb63⟩
          · skip
            obtain ⟨w64, g64, ew64, eg64, hC64, hb64⟩ := new_block w48 [(.int .i64 0), (.int .i64 0), (.slice none 0 0)] 49
            refine xk_val (w' := w64) (b := false) (.pointer (some ⟨g64, 0, none⟩)) rfl  (y_alloc (by rw [ew64, eg64]; kernel_rfl)) rfl (fun _ => hS.ext hC64) ?_
            have h0 := h0.ext hC64
            have h1 := h1.ext hC64
            have hb3 := hb3.chg hC64 (fun h => nomatch h)
            have hb4 := hb4.chg hC64 (fun h => nomatch h)
            have hv48x0 := hv48x0.ext hC64
            have hC := hC.ext hC64
            have hO := hO.new (X' := [g64]) hC64 (fun q hq => by rw [List.mem_singleton.1 hq, eg64]; exact Nat.le_refl _) (List.nodup_cons.2 ⟨(fun h => nomatch h), List.nodup_nil⟩) (fun q hq => by rw [List.mem_singleton.1 hq]; exact hb64.lt)
            have hS := hS.ext hC64
            refine x_one (i := 3) (by kernel_rfl) ?_
            refine xk_call (b := false) rfl  Bd32 rfl (c_laws_toNetwork (M := M) (aY.1, aY.2.1, aY.2.2) h1 hO.fut hr16) rfl (by rintro _ _ _ ⟨a65x0, n65x0, c65x0, f65x0, rfl, hC65, hv65x0, hOc65⟩; exact hS.ext hC65) ?_
            rintro _ w65 ⟨a65x0, n65x0, c65x0, f65x0, rfl, hC65, hv65x0, hOc65⟩
            have h0 := h0.ext hC65
            have h1 := h1.ext hC65
            have hb3 := hb3.chg hC65 (fun h => nomatch h)
            have hb4 := hb4.chg hC65 (fun h => nomatch h)
            have hv48x0 := hv48x0.ext hC65
            have hb64 := hb64.chg hC65 (fun h => nomatch h)
            have hC := hC.ext hC65
            have hO := Own.join0 hO hC65 hOc65
            have hO := hO.perm (R := f65x0 ++ (([g64]) ++ (f48x0 ++ (([g4]) ++ (([g3]) ++ ([])))))) (by simp)
            have hS := hS.ext hC65
            refine x_one (i := 4) (by kernel_rfl) ?_
            have hO := hO.fr2
            refine xk_call (b := false) rfl  Bd67 rfl (c_spec_JoinNetworks (M := (Less (Less M f48x0) f65x0)) (r13.1, r13.2.1, r13.2.2) (r16.1, r16.2.1, r16.2.2) ((((Frz.os (Frz.pr (Frz.os Frz.int) (Frz.pr Frz.int (Frz.os (Frz.os Frz.int)))))).val hv48x0 Less.sub Less.not).sub Less.sub) (((Frz.os (Frz.pr (Frz.os Frz.int) (Frz.pr Frz.int (Frz.os (Frz.os Frz.int)))))).val (hv65x0.sub Less.sub) Less.sub Less.not) (hO.less).less.fut hr19) rfl (by rintro _ _ _ ⟨a68x0, n68x0, c68x0, f68x0, rfl, hC68, hv68x0, hOc68⟩; exact hS.ext hC68) ?_
            rintro _ w68 ⟨a68x0, n68x0, c68x0, f68x0, rfl, hC68, hv68x0, hOc68⟩
            have h0 := h0.ext hC68
            have h1 := h1.ext hC68
            have hb3 := hb3.chg hC68 (fun h => nomatch h)
            have hb4 := hb4.chg hC68 (fun h => nomatch h)
            have hv48x0 := hv48x0.ext hC68
            have hb64 := hb64.chg hC68 (fun h => nomatch h)
            have hv65x0 := hv65x0.ext hC68
            have hC := hC.ext hC68
            have hO := Own.join0 hO hC68 hOc68
            have hO := hO.perm (R := f68x0 ++ (f48x0 ++ (f65x0 ++ (([g64]) ++ (([g4]) ++ (([g3]) ++ ([]))))))) (by simp)
            have hv68x0 := hv68x0.free (M' := M) (Free.os (Free.pr (Free.os Free.int) (Free.pr Free.int (Free.os (Free.os Free.int)))))
            have hS := hS.ext hC68
            refine x_p 5 (.tuple #[(.agg #[(.int .i64 r19.1.1), (.int .i64 r19.1.2.1), (.slice a68x0 n68x0 c68x0)]), (.bool r19.2)]) rfl (by kernel_rfl)  (fun _ => y_move rfl) (fun _ => hS) ?_
            refine x_p 6 (.agg #[(.int .i64 r19.1.1), (.int .i64 r19.1.2.1), (.slice a68x0 n68x0 c68x0)]) rfl (by kernel_rfl)  (fun _ => y_extract rfl (by kernel_rfl)) (fun _ => hS) ?_
            refine x_p 7 (.bool r19.2) rfl (by kernel_rfl)  (fun _ => y_extract rfl (by kernel_rfl)) (fun _ => hS) ?_
            refine x_one (i := 9) (by kernel_rfl) ?_
            obtain ⟨w71, hst71, hC71, hb71⟩ := box_store (P := Try.prog) hb64 [] [(.int .i64 0), (.int .i64 0), (.slice none 0 0)] [] [(.int .i64 r19.1.1), (.int .i64 r19.1.2.1), (.slice a68x0 n68x0 c68x0)] rfl rfl (by intro u hu; simp only [List.mem_cons, List.not_mem_nil, or_false] at hu; rcases hu with rfl | rfl | rfl <;> rfl)
            refine xk_skip (w' := w71) (b := true) rfl (ys_store rfl rfl (hst71 _ _ rfl Sz49)) rfl (fun h => nomatch h) ?_
            have hO := hO.fr3
            have h0 := h0.mut hC71 (fun g hg => hO.inM g ((fun _ h => h) g hg)) (fun _ _ h => nomatch h)
            have h1 := h1.mut hC71 (fun g hg => hO.inM g ((fun _ h => h) g hg)) (fun _ _ h => nomatch h)
            have hb3 := hb3.chg hC71 (fun hg => hO.apart _ ((fun _ h => h) _ hg) (mem_r (mem_r (mem_r (mem_r (mem_l (List.mem_singleton.2 rfl)))))))
            have hb4 := hb4.chg hC71 (fun hg => hO.apart _ ((fun _ h => h) _ hg) (mem_r (mem_r (mem_r (mem_l (List.mem_singleton.2 rfl))))))
            have hv48x0 := hv48x0.mut hC71 (fun g hg => hO.inM g ((fun _ h => h) g hg)) (fun g hg e => hO.apart g ((fun _ h => h) g hg) (mem_r (mem_l (e))))
            have hv65x0 := hv65x0.mut hC71 (fun g hg => hO.inM g ((fun _ h => h) g hg)) (fun g hg e => hO.apart g ((fun _ h => h) g hg) (mem_r (mem_r (mem_l (e)))))
            have hv68x0 := hv68x0.mut hC71 (fun g hg => hO.inM g ((fun _ h => h) g hg)) (fun g hg e => hO.apart g ((fun _ h => h) g hg) (mem_l (e)))
            have hC := hC.step hC71 (fun g hg => hO.inN g ((fun _ h => h) g hg))
            have hO := hO.ext hC71
            have hb71 : BoxV w71 g64 49 [(.int .i64 r19.1.1), (.int .i64 r19.1.2.1), (.slice a68x0 n68x0 c68x0)] := hb71
            refine x_p 10 (.bool r19.2) rfl (by kernel_rfl)  (fun _ => y_assign rfl) (fun h => nomatch h) ?_
            refine x_end (by kernel_rfl) ?_
            clear hS
            have hO := hO.fr2
            have hO := hO.drop
            have hO := hO.fr2
            have hO := hO.drop
            have hO := hO.fr3
            have hO := hO.fr3
            have hO := hO.fr3
            have hO := hO.fr3
            exact ⟨_, a68x0, c68x0, f68x0, g64, n68x0, fr_ovl 119 ⟨rfl, rfl, rfl, rfl, rfl, trivial⟩, hC, hO, h0, h1, hb3, hb4, hv68x0, hb71⟩
        · skip
          obtain ⟨w72, g72, ew72, eg72, hC72, hb72⟩ := new_block w47 [(.int .i64 0), (.int .i64 0), (.slice none 0 0)] 49
          refine xk_val (w' := w72) (b := false) (.pointer (some ⟨g72, 0, none⟩)) rfl  (y_alloc (by rw [ew72, eg72]; kernel_rfl)) rfl (fun _ => hS.ext hC72) ?_
          have h0 := h0.ext hC72
          have h1 := h1.ext hC72
          have hb3 := hb3.chg hC72 (fun h => nomatch h)
          have hb4 := hb4.chg hC72 (fun h => nomatch h)
          have hC := hC.ext hC72
          have hO := hO.new (X' := [g72]) hC72 (fun q hq => by rw [List.mem_singleton.1 hq, eg72]; exact Nat.le_refl _) (List.nodup_cons.2 ⟨(fun h => nomatch h), List.nodup_nil⟩) (fun q hq => by rw [List.mem_singleton.1 hq]; exact hb72.lt)
          have hS := hS.ext hC72
          refine x_one (i := 1) (by kernel_rfl) ?_
          refine xk_call (b := false) rfl  Bd32 rfl (c_laws_toNetwork (M := M) (aX.1, aX.2.1, aX.2.2) h0 hO.fut hr13) rfl (by rintro _ _ _ ⟨a73x0, n73x0, c73x0, f73x0, rfl, hC73, hv73x0, hOc73⟩; exact hS.ext hC73) ?_
          rintro _ w73 ⟨a73x0, n73x0, c73x0, f73x0, rfl, hC73, hv73x0, hOc73⟩
          have h0 := h0.ext hC73
          have h1 := h1.ext hC73
          have hb3 := hb3.chg hC73 (fun h => nomatch h)
          have hb4 := hb4.chg hC73 (fun h => nomatch h)
          have hb72 := hb72.chg hC73 (fun h => nomatch h)
          have hC := hC.ext hC73
          have hO := Own.join0 hO hC73 hOc73
          have hO := hO.perm (R := f73x0 ++ (([g72]) ++ (([g4]) ++ (([g3]) ++ ([]))))) (by simp)
          have hS := hS.ext hC73
          refine x_one (i := 3) (by kernel_rfl) ?_
          refine xk_call (b := false) rfl  Bd32 rfl (c_laws_toNetwork (M := M) (aY.1, aY.2.1, aY.2.2) h1 hO.fut hr16) rfl (by rintro _ _ _ ⟨a76x0, n76x0, c76x0, f76x0, rfl, hC76, hv76x0, hOc76⟩; exact hS.ext hC76) ?_
          rintro _ w76 ⟨a76x0, n76x0, c76x0, f76x0, rfl, hC76, hv76x0, hOc76⟩
          have h0 := h0.ext hC76
          have h1 := h1.ext hC76
          have hb3 := hb3.chg hC76 (fun h => nomatch h)
          have hb4 := hb4.chg hC76 (fun h => nomatch h)
          have hb72 := hb72.chg hC76 (fun h => nomatch h)
          have hv73x0 := hv73x0.ext hC76
          have hC := hC.ext hC76
          have hO := Own.join0 hO hC76 hOc76
          have hO := hO.perm (R := f76x0 ++ (f73x0 ++ (([g72]) ++ (([g4]) ++ (([g3]) ++ ([])))))) (by simp)
          have hS := hS.ext hC76
          refine x_one (i := 4) (by kernel_rfl) ?_
          have hO := hO.fr1
          refine xk_call (b := false) rfl  Bd67 rfl (c_spec_JoinNetworks (M := (Less (Less M f73x0) f76x0)) (r13.1, r13.2.1, r13.2.2) (r16.1, r16.2.1, r16.2.2) ((((Frz.os (Frz.pr (Frz.os Frz.int) (Frz.pr Frz.int (Frz.os (Frz.os Frz.int)))))).val hv73x0 Less.sub Less.not).sub Less.sub) (((Frz.os (Frz.pr (Frz.os Frz.int) (Frz.pr Frz.int (Frz.os (Frz.os Frz.int)))))).val (hv76x0.sub Less.sub) Less.sub Less.not) (hO.less).less.fut hr19) rfl (by rintro _ _ _ ⟨a79x0, n79x0, c79x0, f79x0, rfl, hC79, hv79x0, hOc79⟩; exact hS.ext hC79) ?_
          rintro _ w79 ⟨a79x0, n79x0, c79x0, f79x0, rfl, hC79, hv79x0, hOc79⟩
          have h0 := h0.ext hC79
          have h1 := h1.ext hC79
          have hb3 := hb3.chg hC79 (fun h => nomatch h)
          have hb4 := hb4.chg hC79 (fun h => nomatch h)
          have hb72 := hb72.chg hC79 (fun h => nomatch h)
          have hv73x0 := hv73x0.ext hC79
          have hv76x0 := hv76x0.ext hC79
          have hC := hC.ext hC79
          have hO := Own.join0 hO hC79 hOc79
          have hO := hO.perm (R := f79x0 ++ (f73x0 ++ (f76x0 ++ (([g72]) ++ (([g4]) ++ (([g3]) ++ ([]))))))) (by simp)
          have hv79x0 := hv79x0.free (M' := M) (Free.os (Free.pr (Free.os Free.int) (Free.pr Free.int (Free.os (Free.os Free.int)))))
          have hS := hS.ext hC79
          refine x_p 5 (.tuple #[(.agg #[(.int .i64 r19.1.1), (.int .i64 r19.1.2.1), (.slice a79x0 n79x0 c79x0)]), (.bool r19.2)]) rfl (by kernel_rfl)  (fun _ => y_move rfl) (fun _ => hS) ?_
          refine x_p 6 (.agg #[(.int .i64 r19.1.1), (.int .i64 r19.1.2.1), (.slice a79x0 n79x0 c79x0)]) rfl (by kernel_rfl)  (fun _ => y_extract rfl (by kernel_rfl)) (fun _ => hS) ?_
          refine x_p 7 (.bool r19.2) rfl (by kernel_rfl)  (fun _ => y_extract rfl (by kernel_rfl)) (fun _ => hS) ?_
          refine x_one (i := 9) (by kernel_rfl) ?_
          obtain ⟨w82, hst82, hC82, hb82⟩ := box_store (P := Try.prog) hb72 [] [(.int .i64 0), (.int .i64 0), (.slice none 0 0)] [] [(.int .i64 r19.1.1), (.int .i64 r19.1.2.1), (.slice a79x0 n79x0 c79x0)] rfl rfl (by intro u hu; simp only [List.mem_cons, List.not_mem_nil, or_false] at hu; rcases hu with rfl | rfl | rfl <;> rfl)
          refine xk_skip (w' := w82) (b := true) rfl (ys_store rfl rfl (hst82 _ _ rfl Sz49)) rfl (fun h => nomatch h) ?_
          have hO := hO.fr3
          have h0 := h0.mut hC82 (fun g hg => hO.inM g ((fun _ h => h) g hg)) (fun _ _ h => nomatch h)
          have h1 := h1.mut hC82 (fun g hg => hO.inM g ((fun _ h => h) g hg)) (fun _ _ h => nomatch h)
          have hb3 := hb3.chg hC82 (fun hg => hO.apart _ ((fun _ h => h) _ hg) (mem_r (mem_r (mem_r (mem_r (mem_l (List.mem_singleton.2 rfl)))))))
          have hb4 := hb4.chg hC82 (fun hg => hO.apart _ ((fun _ h => h) _ hg) (mem_r (mem_r (mem_r (mem_l (List.mem_singleton.2 rfl))))))
          have hv73x0 := hv73x0.mut hC82 (fun g hg => hO.inM g ((fun _ h => h) g hg)) (fun g hg e => hO.apart g ((fun _ h => h) g hg) (mem_r (mem_l (e))))
          have hv76x0 := hv76x0.mut hC82 (fun g hg => hO.inM g ((fun _ h => h) g hg)) (fun g hg e => hO.apart g ((fun _ h => h) g hg) (mem_r (mem_r (mem_l (e)))))
          have hv79x0 := hv79x0.mut hC82 (fun g hg => hO.inM g ((fun _ h => h) g hg)) (fun g hg e => hO.apart g ((fun _ h => h) g hg) (mem_l (e)))
          have hC := hC.step hC82 (fun g hg => hO.inN g ((fun _ h => h) g hg))
          have hO := hO.ext hC82
          have hb82 : BoxV w82 g72 49 [(.int .i64 r19.1.1), (.int .i64 r19.1.2.1), (.slice a79x0 n79x0 c79x0)] := hb82
          refine x_p 10 (.bool r19.2) rfl (by kernel_rfl)  (fun _ => y_assign rfl) (fun h => nomatch h) ?_
          refine x_end (by kernel_rfl) ?_
          clear hS
          have hO := hO.fr2
          have hO := hO.drop
          have hO := hO.fr2
          have hO := hO.drop
          have hO := hO.fr3
          have hO := hO.fr3
          have hO := hO.fr3
          have hO := hO.fr3
          exact ⟨_, a79x0, c79x0, f79x0, g72, n79x0, fr_ovl 119 ⟨rfl, rfl, rfl, rfl, rfl, trivial⟩, hC, hO, h0, h1, hb3, hb4, hv79x0, hb82⟩
      · rintro a1 w22 ⟨σ, a18x0, c18x0, f18x0, g21, n18x0, rfl, hC, hO, h0, h1, hb3, hb4, hv18x0, hb22⟩
        refine c_seq ?_
        refine c_region ?_
        refine pl_val (.agg #[(.int .i64 aX.1), (.int .i64 aX.2.1), (.slice pa0 pn0 pc0)]) (y_load rfl ((box_load Ag44 Sz44 hb3 [] [(.int .i64 aX.1), (.int .i64 aX.2.1), (.slice pa0 pn0 pc0)] [] rfl rfl (fun h => nomatch h)) _ (Chg.refl _ _))) ?_
        obtain ⟨r84, hr84, hs⟩ := bind_some hs
        refine pl_call Bd32 rfl (c_laws_toNetwork (M := M) (aX.1, aX.2.1, aX.2.2) h0 hO.fut hr84) ?_
        rintro _ w83 ⟨a83x0, n83x0, c83x0, f83x0, rfl, hC83, hv83x0, hOc83⟩
        have h0 := h0.ext hC83
        have h1 := h1.ext hC83
        have hb3 := hb3.chg hC83 (fun h => nomatch h)
        have hb4 := hb4.chg hC83 (fun h => nomatch h)
        have hv18x0 := hv18x0.ext hC83
        have hb22 := hb22.chg hC83 (fun h => nomatch h)
        have hC := hC.ext hC83
        have hO := Own.join0 hO hC83 hOc83
        have hO := hO.perm (R := f83x0 ++ (([g21]) ++ (f18x0 ++ (([g4]) ++ (([g3]) ++ ([])))))) (by simp)
        obtain ⟨w86, g86, ew86, eg86, hC86, hb86⟩ := new_block w83 [(.int .i64 0), (.int .i64 0), (.slice none 0 0)] 49
        refine pl_val (w' := w86) (.pointer (some ⟨g86, 0, none⟩)) (y_alloc (by rw [ew86, eg86]; kernel_rfl)) ?_
        have h0 := h0.ext hC86
        have h1 := h1.ext hC86
        have hb3 := hb3.chg hC86 (fun h => nomatch h)
        have hb4 := hb4.chg hC86 (fun h => nomatch h)
        have hv18x0 := hv18x0.ext hC86
        have hb22 := hb22.chg hC86 (fun h => nomatch h)
        have hv83x0 := hv83x0.ext hC86
        have hC := hC.ext hC86
        have hO := hO.new (X' := [g86]) hC86 (fun q hq => by rw [List.mem_singleton.1 hq, eg86]; exact Nat.le_refl _) (List.nodup_cons.2 ⟨(fun h => nomatch h), List.nodup_nil⟩) (fun q hq => by rw [List.mem_singleton.1 hq]; exact hb86.lt)
        obtain ⟨w87, hst87, hC87, hb87⟩ := box_store (P := Try.prog) hb86 [] [(.int .i64 0), (.int .i64 0), (.slice none 0 0)] [] [(.int .i64 r84.1), (.int .i64 r84.2.1), (.slice a83x0 n83x0 c83x0)] rfl rfl (by intro u hu; simp only [List.mem_cons, List.not_mem_nil, or_false] at hu; rcases hu with rfl | rfl | rfl <;> rfl)
        refine pl_skip (w' := w87) (ys_store rfl rfl (hst87 _ _ rfl Sz49)) ?_
        have h0 := h0.mut hC87 (fun g hg => hO.inM g ((fun _ h => h) g hg)) (fun _ _ h => nomatch h)
        have h1 := h1.mut hC87 (fun g hg => hO.inM g ((fun _ h => h) g hg)) (fun _ _ h => nomatch h)
        have hb3 := hb3.chg hC87 (fun hg => hO.apart _ ((fun _ h => h) _ hg) (mem_r (mem_r (mem_r (mem_r (mem_l (List.mem_singleton.2 rfl)))))))
        have hb4 := hb4.chg hC87 (fun hg => hO.apart _ ((fun _ h => h) _ hg) (mem_r (mem_r (mem_r (mem_l (List.mem_singleton.2 rfl))))))
        have hv18x0 := hv18x0.mut hC87 (fun g hg => hO.inM g ((fun _ h => h) g hg)) (fun g hg e => hO.apart g ((fun _ h => h) g hg) (mem_r (mem_r (mem_l (e)))))
        have hb22 := hb22.chg hC87 (fun hg => hO.apart _ ((fun _ h => h) _ hg) (mem_r (mem_l (List.mem_singleton.2 rfl))))
        have hv83x0 := hv83x0.mut hC87 (fun g hg => hO.inM g ((fun _ h => h) g hg)) (fun g hg e => hO.apart g ((fun _ h => h) g hg) (mem_l (e)))
        have hC := hC.step hC87 (fun g hg => hO.inN g ((fun _ h => h) g hg))
        have hO := hO.ext hC87
        have hb87 : BoxV w87 g86 49 [(.int .i64 r84.1), (.int .i64 r84.2.1), (.slice a83x0 n83x0 c83x0)] := hb87
        refine c_nil ?_
        refine c_seq ?_
        refine c_region ?_
        refine pl_val (.agg #[(.int .i64 aY.1), (.int .i64 aY.2.1), (.slice pa1 pn1 pc1)]) (y_load rfl ((box_load Ag44 Sz44 hb4 [] [(.int .i64 aY.1), (.int .i64 aY.2.1), (.slice pa1 pn1 pc1)] [] rfl rfl (fun h => nomatch h)) _ (Chg.refl _ _))) ?_
        obtain ⟨r89, hr89, hs⟩ := bind_some hs
        refine pl_call Bd32 rfl (c_laws_toNetwork (M := M) (aY.1, aY.2.1, aY.2.2) h1 hO.fut hr89) ?_
        rintro _ w88 ⟨a88x0, n88x0, c88x0, f88x0, rfl, hC88, hv88x0, hOc88⟩
        have h0 := h0.ext hC88
        have h1 := h1.ext hC88
        have hb3 := hb3.chg hC88 (fun h => nomatch h)
        have hb4 := hb4.chg hC88 (fun h => nomatch h)
        have hv18x0 := hv18x0.ext hC88
        have hb22 := hb22.chg hC88 (fun h => nomatch h)
        have hv83x0 := hv83x0.ext hC88
        have hb87 := hb87.chg hC88 (fun h => nomatch h)
        have hC := hC.ext hC88
        have hO := Own.join0 hO hC88 hOc88
        have hO := hO.perm (R := f88x0 ++ (([g86]) ++ (f83x0 ++ (([g21]) ++ (f18x0 ++ (([g4]) ++ (([g3]) ++ ([])))))))) (by simp)
        obtain ⟨w91, g91, ew91, eg91, hC91, hb91⟩ := new_block w88 [(.int .i64 0), (.int .i64 0), (.slice none 0 0)] 49
        refine pl_val (w' := w91) (.pointer (some ⟨g91, 0, none⟩)) (y_alloc (by rw [ew91, eg91]; kernel_rfl)) ?_
        have h0 := h0.ext hC91
        have h1 := h1.ext hC91
        have hb3 := hb3.chg hC91 (fun h => nomatch h)
        have hb4 := hb4.chg hC91 (fun h => nomatch h)
        have hv18x0 := hv18x0.ext hC91
        have hb22 := hb22.chg hC91 (fun h => nomatch h)
        have hv83x0 := hv83x0.ext hC91
        have hb87 := hb87.chg hC91 (fun h => nomatch h)
        have hv88x0 := hv88x0.ext hC91
        have hC := hC.ext hC91
        have hO := hO.new (X' := [g91]) hC91 (fun q hq => by rw [List.mem_singleton.1 hq, eg91]; exact Nat.le_refl _) (List.nodup_cons.2 ⟨(fun h => nomatch h), List.nodup_nil⟩) (fun q hq => by rw [List.mem_singleton.1 hq]; exact hb91.lt)
        obtain ⟨w92, hst92, hC92, hb92⟩ := box_store (P := Try.prog) hb91 [] [(.int .i64 0), (.int .i64 0), (.slice none 0 0)] [] [(.int .i64 r89.1), (.int .i64 r89.2.1), (.slice a88x0 n88x0 c88x0)] rfl rfl (by intro u hu; simp only [List.mem_cons, List.not_mem_nil, or_false] at hu; rcases hu with rfl | rfl | rfl <;> rfl)
        refine pl_skip (w' := w92) (ys_store rfl rfl (hst92 _ _ rfl Sz49)) ?_
        have h0 := h0.mut hC92 (fun g hg => hO.inM g ((fun _ h => h) g hg)) (fun _ _ h => nomatch h)
        have h1 := h1.mut hC92 (fun g hg => hO.inM g ((fun _ h => h) g hg)) (fun _ _ h => nomatch h)
        have hb3 := hb3.chg hC92 (fun hg => hO.apart _ ((fun _ h => h) _ hg) (mem_r (mem_r (mem_r (mem_r (mem_r (mem_r (mem_l (List.mem_singleton.2 rfl)))))))))
        have hb4 := hb4.chg hC92 (fun hg => hO.apart _ ((fun _ h => h) _ hg) (mem_r (mem_r (mem_r (mem_r (mem_r (mem_l (List.mem_singleton.2 rfl))))))))
        have hv18x0 := hv18x0.mut hC92 (fun g hg => hO.inM g ((fun _ h => h) g hg)) (fun g hg e => hO.apart g ((fun _ h => h) g hg) (mem_r (mem_r (mem_r (mem_r (mem_l (e)))))))
        have hb22 := hb22.chg hC92 (fun hg => hO.apart _ ((fun _ h => h) _ hg) (mem_r (mem_r (mem_r (mem_l (List.mem_singleton.2 rfl))))))
        have hv83x0 := hv83x0.mut hC92 (fun g hg => hO.inM g ((fun _ h => h) g hg)) (fun g hg e => hO.apart g ((fun _ h => h) g hg) (mem_r (mem_r (mem_l (e)))))
        have hb87 := hb87.chg hC92 (fun hg => hO.apart _ ((fun _ h => h) _ hg) (mem_r (mem_l (List.mem_singleton.2 rfl))))
        have hv88x0 := hv88x0.mut hC92 (fun g hg => hO.inM g ((fun _ h => h) g hg)) (fun g hg e => hO.apart g ((fun _ h => h) g hg) (mem_l (e)))
        have hC := hC.step hC92 (fun g hg => hO.inN g ((fun _ h => h) g hg))
        have hO := hO.ext hC92
        have hb92 : BoxV w92 g91 49 [(.int .i64 r89.1), (.int .i64 r89.2.1), (.slice a88x0 n88x0 c88x0)] := hb92
        refine c_nil ?_
        refine c_seq ?_
        refine c_region ?_
        refine pl_val (.agg #[(.int .i64 r84.1), (.int .i64 r84.2.1), (.slice a83x0 n83x0 c83x0)]) (y_load rfl ((box_load Ag49 Sz49 hb87 [] [(.int .i64 r84.1), (.int .i64 r84.2.1), (.slice a83x0 n83x0 c83x0)] [] rfl rfl (fun h => nomatch h)) _ (Chg.refl _ _))) ?_
        refine pl_val (.agg #[(.int .i64 r89.1), (.int .i64 r89.2.1), (.slice a88x0 n88x0 c88x0)]) (y_load rfl ((box_load Ag49 Sz49 hb92 [] [(.int .i64 r89.1), (.int .i64 r89.2.1), (.slice a88x0 n88x0 c88x0)] [] rfl rfl (fun h => nomatch h)) _ (Chg.refl _ _))) ?_
        have hO := hO.fr1
        have hO := hO.fr3
        obtain ⟨r94, hr94, hs⟩ := bind_some hs
        refine pl_call Bd68 rfl (c_impl_JoinNetworks (M := (Less (Less M f83x0) f88x0)) (r84.1, r84.2.1, r84.2.2) (r89.1, r89.2.1, r89.2.2) ((((Frz.os (Frz.pr (Frz.os Frz.int) (Frz.pr Frz.int (Frz.os (Frz.os Frz.int)))))).val hv83x0 Less.sub Less.not).sub Less.sub) (((Frz.os (Frz.pr (Frz.os Frz.int) (Frz.pr Frz.int (Frz.os (Frz.os Frz.int)))))).val (hv88x0.sub Less.sub) Less.sub Less.not) (hO.less).less.fut hr94) ?_
        rintro _ w93 ⟨a93x0, n93x0, c93x0, f93x0, rfl, hC93, hv93x0, hOc93⟩
        have h0 := h0.ext hC93
        have h1 := h1.ext hC93
        have hb3 := hb3.chg hC93 (fun h => nomatch h)
        have hb4 := hb4.chg hC93 (fun h => nomatch h)
        have hv18x0 := hv18x0.ext hC93
        have hb22 := hb22.chg hC93 (fun h => nomatch h)
        have hv83x0 := hv83x0.ext hC93
        have hb87 := hb87.chg hC93 (fun h => nomatch h)
        have hv88x0 := hv88x0.ext hC93
        have hb92 := hb92.chg hC93 (fun h => nomatch h)
        have hC := hC.ext hC93
        have hO := Own.join0 hO hC93 hOc93
        have hO := hO.perm (R := f93x0 ++ (f83x0 ++ (f88x0 ++ (([g91]) ++ (([g86]) ++ (([g21]) ++ (f18x0 ++ (([g4]) ++ (([g3]) ++ ([])))))))))) (by simp)
        have hv93x0 := hv93x0.free (M' := M) (Free.os (Free.pr (Free.os Free.int) (Free.pr Free.int (Free.os (Free.os Free.int)))))
        refine pl_val (.tuple #[(.agg #[(.int .i64 r94.1.1), (.int .i64 r94.1.2.1), (.slice a93x0 n93x0 c93x0)]), (.bool r94.2)]) (y_move rfl) ?_
        refine pl_val (.agg #[(.int .i64 r94.1.1), (.int .i64 r94.1.2.1), (.slice a93x0 n93x0 c93x0)]) (y_extract rfl (by kernel_rfl)) ?_
        refine pl_val (.bool r94.2) (y_extract rfl (by kernel_rfl)) ?_
        obtain ⟨w96, g96, ew96, eg96, hC96, hb96⟩ := new_block w93 [(.int .i64 0), (.int .i64 0), (.slice none 0 0)] 49
        refine pl_val (w' := w96) (.pointer (some ⟨g96, 0, none⟩)) (y_alloc (by rw [ew96, eg96]; kernel_rfl)) ?_
        have h0 := h0.ext hC96
        have h1 := h1.ext hC96
        have hb3 := hb3.chg hC96 (fun h => nomatch h)
        have hb4 := hb4.chg hC96 (fun h => nomatch h)
        have hv18x0 := hv18x0.ext hC96
        have hb22 := hb22.chg hC96 (fun h => nomatch h)
        have hv83x0 := hv83x0.ext hC96
        have hb87 := hb87.chg hC96 (fun h => nomatch h)
        have hv88x0 := hv88x0.ext hC96
        have hb92 := hb92.chg hC96 (fun h => nomatch h)
        have hv93x0 := hv93x0.ext hC96
        have hC := hC.ext hC96
        have hO := hO.new (X' := [g96]) hC96 (fun q hq => by rw [List.mem_singleton.1 hq, eg96]; exact Nat.le_refl _) (List.nodup_cons.2 ⟨(fun h => nomatch h), List.nodup_nil⟩) (fun q hq => by rw [List.mem_singleton.1 hq]; exact hb96.lt)
        obtain ⟨w97, hst97, hC97, hb97⟩ := box_store (P := Try.prog) hb96 [] [(.int .i64 0), (.int .i64 0), (.slice none 0 0)] [] [(.int .i64 r94.1.1), (.int .i64 r94.1.2.1), (.slice a93x0 n93x0 c93x0)] rfl rfl (by intro u hu; simp only [List.mem_cons, List.not_mem_nil, or_false] at hu; rcases hu with rfl | rfl | rfl <;> rfl)
        refine pl_skip (w' := w97) (ys_store rfl rfl (hst97 _ _ rfl Sz49)) ?_
        have h0 := h0.mut hC97 (fun g hg => hO.inM g ((fun _ h => h) g hg)) (fun _ _ h => nomatch h)
        have h1 := h1.mut hC97 (fun g hg => hO.inM g ((fun _ h => h) g hg)) (fun _ _ h => nomatch h)
        have hb3 := hb3.chg hC97 (fun hg => hO.apart _ ((fun _ h => h) _ hg) (mem_r (mem_r (mem_r (mem_r (mem_r (mem_r (mem_r (mem_r (mem_l (List.mem_singleton.2 rfl)))))))))))
        have hb4 := hb4.chg hC97 (fun hg => hO.apart _ ((fun _ h => h) _ hg) (mem_r (mem_r (mem_r (mem_r (mem_r (mem_r (mem_r (mem_l (List.mem_singleton.2 rfl))))))))))
        have hv18x0 := hv18x0.mut hC97 (fun g hg => hO.inM g ((fun _ h => h) g hg)) (fun g hg e => hO.apart g ((fun _ h => h) g hg) (mem_r (mem_r (mem_r (mem_r (mem_r (mem_r (mem_l (e)))))))))
        have hb22 := hb22.chg hC97 (fun hg => hO.apart _ ((fun _ h => h) _ hg) (mem_r (mem_r (mem_r (mem_r (mem_r (mem_l (List.mem_singleton.2 rfl))))))))
        have hv83x0 := hv83x0.mut hC97 (fun g hg => hO.inM g ((fun _ h => h) g hg)) (fun g hg e => hO.apart g ((fun _ h => h) g hg) (mem_r (mem_l (e))))
        have hb87 := hb87.chg hC97 (fun hg => hO.apart _ ((fun _ h => h) _ hg) (mem_r (mem_r (mem_r (mem_r (mem_l (List.mem_singleton.2 rfl)))))))
        have hv88x0 := hv88x0.mut hC97 (fun g hg => hO.inM g ((fun _ h => h) g hg)) (fun g hg e => hO.apart g ((fun _ h => h) g hg) (mem_r (mem_r (mem_l (e)))))
        have hb92 := hb92.chg hC97 (fun hg => hO.apart _ ((fun _ h => h) _ hg) (mem_r (mem_r (mem_r (mem_l (List.mem_singleton.2 rfl))))))
        have hv93x0 := hv93x0.mut hC97 (fun g hg => hO.inM g ((fun _ h => h) g hg)) (fun g hg e => hO.apart g ((fun _ h => h) g hg) (mem_l (e)))
        have hC := hC.step hC97 (fun g hg => hO.inN g ((fun _ h => h) g hg))
        have hO := hO.ext hC97
        have hb97 : BoxV w97 g96 49 [(.int .i64 r94.1.1), (.int .i64 r94.1.2.1), (.slice a93x0 n93x0 c93x0)] := hb97
        refine pl_val (.bool r94.2) (y_assign rfl) ?_
        refine c_nil ?_
        refine c_seq ?_
        refine c_seq ?_
        obtain ⟨s98, hm100, hs⟩ := bind_some hs
        refine c_mid (I := fun a w99 => ∃ (σ : Nat → Value), a = fr 119 (ovl σ [(2, (.pointer (some ⟨g3, 0, none⟩))), (3, (.pointer (some ⟨g4, 0, none⟩))), (4, (.bool false)), (6, (.pointer (some ⟨g21, 0, none⟩))), (7, (.bool r19.2)), (8, (.pointer (some ⟨g86, 0, none⟩))), (9, (.pointer (some ⟨g91, 0, none⟩))), (10, (.pointer (some ⟨g96, 0, none⟩))), (11, (.bool r94.2)), (53, (.bool s98))]) ∧ Chg [] w97 w99) ?_ ?_
        · replace hs := hm100
          have hMid := Chg.refl [] w97
          refine c_region ?_
          refine pl_val (.agg #[(.int .i64 r94.1.1), (.int .i64 r94.1.2.1), (.slice a93x0 n93x0 c93x0)]) (y_load rfl ((box_load Ag49 Sz49 hb97 [] [(.int .i64 r94.1.1), (.int .i64 r94.1.2.1), (.slice a93x0 n93x0 c93x0)] [] rfl rfl (fun h => nomatch h)) _ (Chg.refl _ _))) ?_
          refine pl_val (.agg #[(.int .i64 r19.1.1), (.int .i64 r19.1.2.1), (.slice a18x0 n18x0 c18x0)]) (y_load rfl ((box_load Ag49 Sz49 hb22 [] [(.int .i64 r19.1.1), (.int .i64 r19.1.2.1), (.slice a18x0 n18x0 c18x0)] [] rfl rfl (fun h => nomatch h)) _ (Chg.refl _ _))) ?_
          have hO := hO.fr7
          have hO := hO.fr2
          obtain ⟨r102, hr102, hs⟩ := bind_some hs
          refine pl_call Bd34 rfl (c_laws_eqNetwork (M := (Less (Less M f93x0) f18x0)) (r94.1.1, r94.1.2.1, r94.1.2.2) (r19.1.1, r19.1.2.1, r19.1.2.2) ((((Frz.os (Frz.pr (Frz.os Frz.int) (Frz.pr Frz.int (Frz.os (Frz.os Frz.int)))))).val hv93x0 Less.sub Less.not).sub Less.sub) (((Frz.os (Frz.pr (Frz.os Frz.int) (Frz.pr Frz.int (Frz.os (Frz.os Frz.int)))))).val (hv18x0.sub Less.sub) Less.sub Less.not) (hO.less).less.fut hr102) ?_
          rintro _ w101 ⟨rfl, hC101⟩
          have h0 := h0.ext hC101
          have h1 := h1.ext hC101
          have hb3 := hb3.chg hC101 (fun h => nomatch h)
          have hb4 := hb4.chg hC101 (fun h => nomatch h)
          have hv18x0 := hv18x0.ext hC101
          have hb22 := hb22.chg hC101 (fun h => nomatch h)
          have hv83x0 := hv83x0.ext hC101
          have hb87 := hb87.chg hC101 (fun h => nomatch h)
          have hv88x0 := hv88x0.ext hC101
          have hb92 := hb92.chg hC101 (fun h => nomatch h)
          have hv93x0 := hv93x0.ext hC101
          have hb97 := hb97.chg hC101 (fun h => nomatch h)
          have hMid := hMid.ext hC101
          have hC := hC.ext hC101
          have hO := hO.ext hC101
          refine pl_val (.bool (!r102)) (y_not rfl) ?_
          refine pl_val (.bool (!r102)) (y_move rfl) ?_
          rcases bif_some hs with ⟨hc103, hs⟩ | ⟨hc103, hs⟩
          · skip
            refine pl_not (tg := 49) (by kernel_rfl) (congrArg Value.bool hc103) ?_
            refine pl_not (tg := 49) (by kernel_rfl) (congrArg Value.bool hc103) ?_
            refine pl_not (tg := 49) (by kernel_rfl) (congrArg Value.bool hc103) ?_
            refine pl_val (.bool true) (y_pick_t (congrArg Value.bool hc103) rfl) ?_
            refine c_nil ?_
            cases hs
            exact ⟨_, fr_ovl 119 ⟨rfl, rfl, rfl, rfl, rfl, rfl, rfl, rfl, rfl, rfl, trivial⟩, hMid⟩
          · skip
            refine pl_yes (.bool r94.2) (tg := 49) (by kernel_rfl) (congrArg Value.bool hc103) (y_move rfl) ?_
            refine pl_yes (.bool r19.2) (tg := 49) (by kernel_rfl) (congrArg Value.bool hc103) (y_move rfl) ?_
            refine pl_yes (.bool (!(r94.2 == r19.2))) (tg := 49) (by kernel_rfl) (congrArg Value.bool hc103) (y_bneq Try.underlying4 rfl rfl) ?_
            refine pl_val (.bool (!(r94.2 == r19.2))) (y_pick_f (congrArg Value.bool hc103) rfl) ?_
            refine c_nil ?_
            cases hs
            exact ⟨_, fr_ovl 119 ⟨rfl, rfl, rfl, rfl, rfl, rfl, rfl, rfl, rfl, rfl, trivial⟩, hMid⟩
        · rintro a1 w99 ⟨σ, rfl, hCs98⟩
          have h0 := h0.ext hCs98
          have h1 := h1.ext hCs98
          have hb3 := hb3.chg hCs98 (fun h => nomatch h)
          have hb4 := hb4.chg hCs98 (fun h => nomatch h)
          have hv18x0 := hv18x0.ext hCs98
          have hb22 := hb22.chg hCs98 (fun h => nomatch h)
          have hv83x0 := hv83x0.ext hCs98
          have hb87 := hb87.chg hCs98 (fun h => nomatch h)
          have hv88x0 := hv88x0.ext hCs98
          have hb92 := hb92.chg hCs98 (fun h => nomatch h)
          have hv93x0 := hv93x0.ext hCs98
          have hb97 := hb97.chg hCs98 (fun h => nomatch h)
          have hC := hC.ext hCs98
          have hO := hO.ext hCs98
          rcases bif_some hs with ⟨hc104, hs⟩ | ⟨hc104, hs⟩
          · skip
            refine c_condT (congrArg Value.bool hc104) ?_
            refine c_seq ?_
            refine c_region ?_
            refine pl_val (.bool false) (y_assign rfl) ?_
            refine c_nil ?_
            refine wp_ret ?_
            cases hs
            exact ⟨_, fr_ovl 119 ⟨rfl, trivial⟩, hC⟩
          · skip
            refine c_condF (congrArg Value.bool hc104) ?_
            refine wp_skip ?_
            refine c_seq ?_
            refine c_seq ?_
            refine x_start [] Mx rfl ?_
            have hCw111 := Chg.drew w99
            generalize World.drew w99 = w111 at hCw111 ⊢
            have h0 := h0.ext hCw111
            have h1 := h1.ext hCw111
            have hb3 := hb3.chg hCw111 (fun h => nomatch h)
            have hb4 := hb4.chg hCw111 (fun h => nomatch h)
            have hv18x0 := hv18x0.ext hCw111
            have hb22 := hb22.chg hCw111 (fun h => nomatch h)
            have hv83x0 := hv83x0.ext hCw111
            have hb87 := hb87.chg hCw111 (fun h => nomatch h)
            have hv88x0 := hv88x0.ext hCw111
            have hb92 := hb92.chg hCw111 (fun h => nomatch h)
            have hv93x0 := hv93x0.ext hCw111
            have hb97 := hb97.chg hCw111 (fun h => nomatch h)
            have hC := hC.ext hCw111
            have hO := hO.ext hCw111
            have hS := Chg.refl [] w111
            refine x_l 0 (.agg #[(.int .i64 r84.1), (.int .i64 r84.2.1), (.slice a83x0 n83x0 c83x0)]) rfl (by kernel_rfl)  (fun w' hw' => y_load rfl ((box_load Ag49 Sz49 hb87 [] [(.int .i64 r84.1), (.int .i64 r84.2.1), (.slice a83x0 n83x0 c83x0)] [] rfl rfl (fun h => nomatch h)) w' hw')) hS ?_
            refine x_l 1 (.agg #[(.int .i64 aX.1), (.int .i64 aX.2.1), (.slice pa0 pn0 pc0)]) rfl (by kernel_rfl)  (fun w' hw' => y_load rfl ((box_load Ag44 Sz44 hb3 [] [(.int .i64 aX.1), (.int .i64 aX.2.1), (.slice pa0 pn0 pc0)] [] rfl rfl (fun h => nomatch h)) w' hw')) hS ?_
            refine x_one (i := 2) (by kernel_rfl) ?_
            obtain ⟨r113, hr113, hs⟩ := bind_some hs
            refine xk_call (b := false) rfl  Bd32 rfl (c_laws_toNetwork (M := M) (aX.1, aX.2.1, aX.2.2) h0 hO.fut hr113) rfl (by rintro _ _ _ ⟨a112x0, n112x0, c112x0, f112x0, rfl, hC112, hv112x0, hOc112⟩; exact hS.ext hC112) ?_
            rintro _ w112 ⟨a112x0, n112x0, c112x0, f112x0, rfl, hC112, hv112x0, hOc112⟩
            have h0 := h0.ext hC112
            have h1 := h1.ext hC112
            have hb3 := hb3.chg hC112 (fun h => nomatch h)
            have hb4 := hb4.chg hC112 (fun h => nomatch h)
            have hv18x0 := hv18x0.ext hC112
            have hb22 := hb22.chg hC112 (fun h => nomatch h)
            have hv83x0 := hv83x0.ext hC112
            have hb87 := hb87.chg hC112 (fun h => nomatch h)
            have hv88x0 := hv88x0.ext hC112
            have hb92 := hb92.chg hC112 (fun h => nomatch h)
            have hv93x0 := hv93x0.ext hC112
            have hb97 := hb97.chg hC112 (fun h => nomatch h)
            have hC := hC.ext hC112
            have hO := Own.join0 hO hC112 hOc112
            have hO := hO.perm (R := f112x0 ++ (([g96]) ++ (f93x0 ++ (f83x0 ++ (f88x0 ++ (([g91]) ++ (([g86]) ++ (([g21]) ++ (f18x0 ++ (([g4]) ++ (([g3]) ++ ([])))))))))))) (by simp)
            have hS := hS.ext hC112
            refine x_one (i := 3) (by kernel_rfl) ?_
            have hO := hO.fr3
            obtain ⟨r116, hr116, hs⟩ := bind_some hs
            refine xk_call (b := false) rfl  Bd34 rfl (c_laws_eqNetwork (M := (Less (Less M f83x0) f112x0)) (r84.1, r84.2.1, r84.2.2) (r113.1, r113.2.1, r113.2.2) ((((Frz.os (Frz.pr (Frz.os Frz.int) (Frz.pr Frz.int (Frz.os (Frz.os Frz.int)))))).val hv83x0 Less.sub Less.not).sub Less.sub) (((Frz.os (Frz.pr (Frz.os Frz.int) (Frz.pr Frz.int (Frz.os (Frz.os Frz.int)))))).val (hv112x0.sub Less.sub) Less.sub Less.not) (hO.less).less.fut hr116) rfl (by rintro _ _ _ ⟨rfl, hC115⟩; exact hS.ext hC115) ?_
            rintro _ w115 ⟨rfl, hC115⟩
            have h0 := h0.ext hC115
            have h1 := h1.ext hC115
            have hb3 := hb3.chg hC115 (fun h => nomatch h)
            have hb4 := hb4.chg hC115 (fun h => nomatch h)
            have hv18x0 := hv18x0.ext hC115
            have hb22 := hb22.chg hC115 (fun h => nomatch h)
            have hv83x0 := hv83x0.ext hC115
            have hb87 := hb87.chg hC115 (fun h => nomatch h)
            have hv88x0 := hv88x0.ext hC115
            have hb92 := hb92.chg hC115 (fun h => nomatch h)
            have hv93x0 := hv93x0.ext hC115
            have hb97 := hb97.chg hC115 (fun h => nomatch h)
            have hv112x0 := hv112x0.ext hC115
            have hC := hC.ext hC115
            have hO := hO.ext hC115
            have hS := hS.ext hC115
            refine x_p 4 (.bool (!r116)) rfl (by kernel_rfl)  (fun _ => y_not rfl) (fun _ => hS) ?_
            refine x_end (by kernel_rfl) ?_
            clear hS
            rcases bif_some hs with ⟨hc117, hs⟩ | ⟨hc117, hs⟩
            · skip
              refine c_condT (congrArg Value.bool hc117) ?_
              refine c_seq ?_
              refine c_region ?_
              refine pl_val (.bool false) (y_assign rfl) ?_
              refine c_nil ?_
              refine wp_ret ?_
              cases hs
              exact ⟨_, fr_ovl 119 ⟨rfl, trivial⟩, hC⟩
            · skip
              refine c_condF (congrArg Value.bool hc117) ?_
              refine wp_skip ?_
              refine c_seq ?_
              refine c_seq ?_
              refine x_start [] Mx rfl ?_
              have hCw124 := Chg.drew w115
              generalize World.drew w115 = w124 at hCw124 ⊢
              have h0 := h0.ext hCw124
              have h1 := h1.ext hCw124
              have hb3 := hb3.chg hCw124 (fun h => nomatch h)
              have hb4 := hb4.chg hCw124 (fun h => nomatch h)
              have hv18x0 := hv18x0.ext hCw124
              have hb22 := hb22.chg hCw124 (fun h => nomatch h)
              have hv83x0 := hv83x0.ext hCw124
              have hb87 := hb87.chg hCw124 (fun h => nomatch h)
              have hv88x0 := hv88x0.ext hCw124
              have hb92 := hb92.chg hCw124 (fun h => nomatch h)
              have hv93x0 := hv93x0.ext hCw124
              have hb97 := hb97.chg hCw124 (fun h => nomatch h)
              have hv112x0 := hv112x0.ext hCw124
              have hC := hC.ext hCw124
              have hO := hO.ext hCw124
              have hS := Chg.refl [] w124
              refine x_l 0 (.agg #[(.int .i64 r89.1), (.int .i64 r89.2.1), (.slice a88x0 n88x0 c88x0)]) rfl (by kernel_rfl)  (fun w' hw' => y_load rfl ((box_load Ag49 Sz49 hb92 [] [(.int .i64 r89.1), (.int .i64 r89.2.1), (.slice a88x0 n88x0 c88x0)] [] rfl rfl (fun h => nomatch h)) w' hw')) hS ?_
              refine x_l 1 (.agg #[(.int .i64 aY.1), (.int .i64 aY.2.1), (.slice pa1 pn1 pc1)]) rfl (by kernel_rfl)  (fun w' hw' => y_load rfl ((box_load Ag44 Sz44 hb4 [] [(.int .i64 aY.1), (.int .i64 aY.2.1), (.slice pa1 pn1 pc1)] [] rfl rfl (fun h => nomatch h)) w' hw')) hS ?_
              refine x_one (i := 2) (by kernel_rfl) ?_
              obtain ⟨r126, hr126, hs⟩ := bind_some hs
              refine xk_call (b := false) rfl  Bd32 rfl (c_laws_toNetwork (M := M) (aY.1, aY.2.1, aY.2.2) h1 hO.fut hr126) rfl (by rintro _ _ _ ⟨a125x0, n125x0, c125x0, f125x0, rfl, hC125, hv125x0, hOc125⟩; exact hS.ext hC125) ?_
              rintro _ w125 ⟨a125x0, n125x0, c125x0, f125x0, rfl, hC125, hv125x0, hOc125⟩
              have h0 := h0.ext hC125
              have h1 := h1.ext hC125
              have hb3 := hb3.chg hC125 (fun h => nomatch h)
              have hb4 := hb4.chg hC125 (fun h => nomatch h)
              have hv18x0 := hv18x0.ext hC125
              have hb22 := hb22.chg hC125 (fun h => nomatch h)
              have hv83x0 := hv83x0.ext hC125
              have hb87 := hb87.chg hC125 (fun h => nomatch h)
              have hv88x0 := hv88x0.ext hC125
              have hb92 := hb92.chg hC125 (fun h => nomatch h)
              have hv93x0 := hv93x0.ext hC125
              have hb97 := hb97.chg hC125 (fun h => nomatch h)
              have hv112x0 := hv112x0.ext hC125
              have hC := hC.ext hC125
              have hO := Own.join0 hO hC125 hOc125
              have hO := hO.perm (R := f125x0 ++ (f83x0 ++ (f112x0 ++ (([g96]) ++ (f93x0 ++ (f88x0 ++ (([g91]) ++ (([g86]) ++ (([g21]) ++ (f18x0 ++ (([g4]) ++ (([g3]) ++ ([]))))))))))))) (by simp)
              have hS := hS.ext hC125
              refine x_one (i := 3) (by kernel_rfl) ?_
              have hO := hO.fr5
              obtain ⟨r129, hr129, hs⟩ := bind_some hs
              refine xk_call (b := false) rfl  Bd34 rfl (c_laws_eqNetwork (M := (Less (Less M f88x0) f125x0)) (r89.1, r89.2.1, r89.2.2) (r126.1, r126.2.1, r126.2.2) ((((Frz.os (Frz.pr (Frz.os Frz.int) (Frz.pr Frz.int (Frz.os (Frz.os Frz.int)))))).val hv88x0 Less.sub Less.not).sub Less.sub) (((Frz.os (Frz.pr (Frz.os Frz.int) (Frz.pr Frz.int (Frz.os (Frz.os Frz.int)))))).val (hv125x0.sub Less.sub) Less.sub Less.not) (hO.less).less.fut hr129) rfl (by rintro _ _ _ ⟨rfl, hC128⟩; exact hS.ext hC128) ?_
              rintro _ w128 ⟨rfl, hC128⟩
              have h0 := h0.ext hC128
              have h1 := h1.ext hC128
              have hb3 := hb3.chg hC128 (fun h => nomatch h)
              have hb4 := hb4.chg hC128 (fun h => nomatch h)
              have hv18x0 := hv18x0.ext hC128
              have hb22 := hb22.chg hC128 (fun h => nomatch h)
              have hv83x0 := hv83x0.ext hC128
              have hb87 := hb87.chg hC128 (fun h => nomatch h)
              have hv88x0 := hv88x0.ext hC128
              have hb92 := hb92.chg hC128 (fun h => nomatch h)
              have hv93x0 := hv93x0.ext hC128
              have hb97 := hb97.chg hC128 (fun h => nomatch h)
              have hv112x0 := hv112x0.ext hC128
              have hv125x0 := hv125x0.ext hC128
              have hC := hC.ext hC128
              have hO := hO.ext hC128
              have hS := hS.ext hC128
              refine x_p 4 (.bool (!r129)) rfl (by kernel_rfl)  (fun _ => y_not rfl) (fun _ => hS) ?_
              refine x_end (by kernel_rfl) ?_
              clear hS
              rcases bif_some hs with ⟨hc130, hs⟩ | ⟨hc130, hs⟩
              · skip
                refine c_condT (congrArg Value.bool hc130) ?_
                refine c_seq ?_
                refine c_region ?_
                refine pl_val (.bool false) (y_assign rfl) ?_
                refine c_nil ?_
                refine wp_ret ?_
                cases hs
                exact ⟨_, fr_ovl 119 ⟨rfl, trivial⟩, hC⟩
              · skip
                refine c_condF (congrArg Value.bool hc130) ?_
                refine wp_skip ?_
                refine c_seq ?_
                refine c_region ?_
                refine pl_val (.int .i64 1) (y_assign rfl) ?_
                refine c_nil ?_
                refine c_seq ?_
                refine c_region ?_
                refine pl_val (.agg #[(.int .i64 r84.1), (.int .i64 r84.2.1), (.slice a83x0 n83x0 c83x0)]) (y_load rfl ((box_load Ag49 Sz49 hb87 [] [(.int .i64 r84.1), (.int .i64 r84.2.1), (.slice a83x0 n83x0 c83x0)] [] rfl rfl (fun h => nomatch h)) _ (Chg.refl _ _))) ?_
                refine pl_val (.int .i64 1) (y_move rfl) ?_
                have hO := hO.fr2
                have hL131 := hO
                have hI131 := Own.lend (F := (f83x0 ++ ([]))) (R := f88x0 ++ (f125x0 ++ (f112x0 ++ (([g96]) ++ (f93x0 ++ (([g91]) ++ (([g86]) ++ (([g21]) ++ (f18x0 ++ (([g4]) ++ (([g3]) ++ ([])))))))))))) (Own.perm (hL131) (by simp))
                obtain ⟨r132, hr132, hs⟩ := bind_some hs
                refine pl_call Bd69 rfl (c_laws_markNetwork (M := M) (r84.1, r84.2.1, r84.2.2) 1 hv83x0 hI131 hI131.fut hr132) ?_
                rintro _ w131 ⟨fi131x0, rfl, hC131, hvi131x0, hOc131⟩
                have hO := hO.perm (R := (f83x0 ++ ([])) ++ (f88x0 ++ (f125x0 ++ (f112x0 ++ (([g96]) ++ (f93x0 ++ (([g91]) ++ (([g86]) ++ (([g21]) ++ (f18x0 ++ (([g4]) ++ (([g3]) ++ ([]))))))))))))) (by simp)
                have h0 := h0.mut hC131 (fun g hg => hO.inM g ((fun _ h => h) g hg)) (fun _ _ h => nomatch h)
                have h1 := h1.mut hC131 (fun g hg => hO.inM g ((fun _ h => h) g hg)) (fun _ _ h => nomatch h)
                have hb3 := hb3.chg hC131 (fun hg => hO.apart _ ((fun _ h => h) _ hg) (mem_r (mem_r (mem_r (mem_r (mem_r (mem_r (mem_r (mem_r (mem_r (mem_r (mem_l (List.mem_singleton.2 rfl)))))))))))))
                have hb4 := hb4.chg hC131 (fun hg => hO.apart _ ((fun _ h => h) _ hg) (mem_r (mem_r (mem_r (mem_r (mem_r (mem_r (mem_r (mem_r (mem_r (mem_l (List.mem_singleton.2 rfl))))))))))))
                have hv18x0 := hv18x0.mut hC131 (fun g hg => hO.inM g ((fun _ h => h) g hg)) (fun g hg e => hO.apart g ((fun _ h => h) g hg) (mem_r (mem_r (mem_r (mem_r (mem_r (mem_r (mem_r (mem_r (mem_l (e)))))))))))
                have hb22 := hb22.chg hC131 (fun hg => hO.apart _ ((fun _ h => h) _ hg) (mem_r (mem_r (mem_r (mem_r (mem_r (mem_r (mem_r (mem_l (List.mem_singleton.2 rfl))))))))))
                have hb87 := hb87.chg hC131 (fun hg => hO.apart _ ((fun _ h => h) _ hg) (mem_r (mem_r (mem_r (mem_r (mem_r (mem_r (mem_l (List.mem_singleton.2 rfl)))))))))
                have hv88x0 := hv88x0.mut hC131 (fun g hg => hO.inM g ((fun _ h => h) g hg)) (fun g hg e => hO.apart g ((fun _ h => h) g hg) (mem_l (e)))
                have hb92 := hb92.chg hC131 (fun hg => hO.apart _ ((fun _ h => h) _ hg) (mem_r (mem_r (mem_r (mem_r (mem_r (mem_l (List.mem_singleton.2 rfl))))))))
                have hv93x0 := hv93x0.mut hC131 (fun g hg => hO.inM g ((fun _ h => h) g hg)) (fun g hg e => hO.apart g ((fun _ h => h) g hg) (mem_r (mem_r (mem_r (mem_r (mem_l (e)))))))
                have hb97 := hb97.chg hC131 (fun hg => hO.apart _ ((fun _ h => h) _ hg) (mem_r (mem_r (mem_r (mem_l (List.mem_singleton.2 rfl))))))
                have hv112x0 := hv112x0.mut hC131 (fun g hg => hO.inM g ((fun _ h => h) g hg)) (fun g hg e => hO.apart g ((fun _ h => h) g hg) (mem_r (mem_r (mem_l (e)))))
                have hv125x0 := hv125x0.mut hC131 (fun g hg => hO.inM g ((fun _ h => h) g hg)) (fun g hg e => hO.apart g ((fun _ h => h) g hg) (mem_r (mem_l (e))))
                have hC := hC.step hC131 (fun g hg => hO.inN g ((fun _ h => h) g hg))
                have hO := Own.join hO hC131 hOc131
                have hO := hO.perm (R := fi131x0 ++ (f88x0 ++ (f125x0 ++ (f112x0 ++ (([g96]) ++ (f93x0 ++ (([g91]) ++ (([g86]) ++ (([g21]) ++ (f18x0 ++ (([g4]) ++ (([g3]) ++ ([]))))))))))))) (by simp)
                refine pl_val (.int .i64 r132.1) (y_assign rfl) ?_
                refine c_nil ?_
                refine c_seq ?_
                refine c_region ?_
                refine pl_val (.agg #[(.int .i64 r89.1), (.int .i64 r89.2.1), (.slice a88x0 n88x0 c88x0)]) (y_load rfl ((box_load Ag49 Sz49 hb92 [] [(.int .i64 r89.1), (.int .i64 r89.2.1), (.slice a88x0 n88x0 c88x0)] [] rfl rfl (fun h => nomatch h)) _ (Chg.refl _ _))) ?_
                refine pl_val (.int .i64 r132.1) (y_move rfl) ?_
                have hO := hO.fr1
                have hL133 := hO
                have hI133 := Own.lend (F := (f88x0 ++ ([]))) (R := fi131x0 ++ (f125x0 ++ (f112x0 ++ (([g96]) ++ (f93x0 ++ (([g91]) ++ (([g86]) ++ (([g21]) ++ (f18x0 ++ (([g4]) ++ (([g3]) ++ ([])))))))))))) (Own.perm (hL133) (by simp))
                obtain ⟨r134, hr134, hs⟩ := bind_some hs
                refine pl_call Bd69 rfl (c_laws_markNetwork (M := M) (r89.1, r89.2.1, r89.2.2) r132.1 hv88x0 hI133 hI133.fut hr134) ?_
                rintro _ w133 ⟨fi133x0, rfl, hC133, hvi133x0, hOc133⟩
                have hO := hO.perm (R := (f88x0 ++ ([])) ++ (fi131x0 ++ (f125x0 ++ (f112x0 ++ (([g96]) ++ (f93x0 ++ (([g91]) ++ (([g86]) ++ (([g21]) ++ (f18x0 ++ (([g4]) ++ (([g3]) ++ ([]))))))))))))) (by simp)
                have h0 := h0.mut hC133 (fun g hg => hO.inM g ((fun _ h => h) g hg)) (fun _ _ h => nomatch h)
                have h1 := h1.mut hC133 (fun g hg => hO.inM g ((fun _ h => h) g hg)) (fun _ _ h => nomatch h)
                have hb3 := hb3.chg hC133 (fun hg => hO.apart _ ((fun _ h => h) _ hg) (mem_r (mem_r (mem_r (mem_r (mem_r (mem_r (mem_r (mem_r (mem_r (mem_r (mem_l (List.mem_singleton.2 rfl)))))))))))))
                have hb4 := hb4.chg hC133 (fun hg => hO.apart _ ((fun _ h => h) _ hg) (mem_r (mem_r (mem_r (mem_r (mem_r (mem_r (mem_r (mem_r (mem_r (mem_l (List.mem_singleton.2 rfl))))))))))))
                have hv18x0 := hv18x0.mut hC133 (fun g hg => hO.inM g ((fun _ h => h) g hg)) (fun g hg e => hO.apart g ((fun _ h => h) g hg) (mem_r (mem_r (mem_r (mem_r (mem_r (mem_r (mem_r (mem_r (mem_l (e)))))))))))
                have hb22 := hb22.chg hC133 (fun hg => hO.apart _ ((fun _ h => h) _ hg) (mem_r (mem_r (mem_r (mem_r (mem_r (mem_r (mem_r (mem_l (List.mem_singleton.2 rfl))))))))))
                have hvi131x0 := hvi131x0.mut hC133 (fun g hg => hO.inM g ((fun _ h => h) g hg)) (fun g hg e => hO.apart g ((fun _ h => h) g hg) (mem_l (e)))
                have hb87 := hb87.chg hC133 (fun hg => hO.apart _ ((fun _ h => h) _ hg) (mem_r (mem_r (mem_r (mem_r (mem_r (mem_r (mem_l (List.mem_singleton.2 rfl)))))))))
                have hb92 := hb92.chg hC133 (fun hg => hO.apart _ ((fun _ h => h) _ hg) (mem_r (mem_r (mem_r (mem_r (mem_r (mem_l (List.mem_singleton.2 rfl))))))))
                have hv93x0 := hv93x0.mut hC133 (fun g hg => hO.inM g ((fun _ h => h) g hg)) (fun g hg e => hO.apart g ((fun _ h => h) g hg) (mem_r (mem_r (mem_r (mem_r (mem_l (e)))))))
                have hb97 := hb97.chg hC133 (fun hg => hO.apart _ ((fun _ h => h) _ hg) (mem_r (mem_r (mem_r (mem_l (List.mem_singleton.2 rfl))))))
                have hv112x0 := hv112x0.mut hC133 (fun g hg => hO.inM g ((fun _ h => h) g hg)) (fun g hg e => hO.apart g ((fun _ h => h) g hg) (mem_r (mem_r (mem_l (e)))))
                have hv125x0 := hv125x0.mut hC133 (fun g hg => hO.inM g ((fun _ h => h) g hg)) (fun g hg e => hO.apart g ((fun _ h => h) g hg) (mem_r (mem_l (e))))
                have hC := hC.step hC133 (fun g hg => hO.inN g ((fun _ h => h) g hg))
                have hO := Own.join hO hC133 hOc133
                have hO := hO.perm (R := fi133x0 ++ (fi131x0 ++ (f125x0 ++ (f112x0 ++ (([g96]) ++ (f93x0 ++ (([g91]) ++ (([g86]) ++ (([g21]) ++ (f18x0 ++ (([g4]) ++ (([g3]) ++ ([]))))))))))))) (by simp)
                refine pl_val (.int .i64 r134.1) (y_assign rfl) ?_
                refine c_nil ?_
                refine c_seq ?_
                refine c_seq ?_
                obtain ⟨s135, hm137, hs⟩ := bind_some hs
                refine c_mid (I := fun a w136 => ∃ (σ : Nat → Value), a = fr 119 (ovl σ [(2, (.pointer (some ⟨g3, 0, none⟩))), (3, (.pointer (some ⟨g4, 0, none⟩))), (4, (.bool false)), (6, (.pointer (some ⟨g21, 0, none⟩))), (7, (.bool r19.2)), (10, (.pointer (some ⟨g96, 0, none⟩))), (82, (.bool s135))]) ∧ Chg [] w133 w136) ?_ ?_
                · replace hs := hm137
                  have hMid := Chg.refl [] w133
                  refine c_region ?_
                  refine pl_val (.int .i64 r134.1) (y_move rfl) ?_
                  refine pl_val (.bool (decide (r134.1 < 0))) (y_lss rfl rfl) ?_
                  refine pl_val (.bool (decide (r134.1 < 0))) (y_move rfl) ?_
                  rcases bif_some hs with ⟨hc138, hs⟩ | ⟨hc138, hs⟩
                  · skip
                    refine pl_not (tg := 72) (by kernel_rfl) (congrArg Value.bool hc138) ?_
                    refine pl_not (tg := 72) (by kernel_rfl) (congrArg Value.bool hc138) ?_
                    refine pl_not (tg := 72) (by kernel_rfl) (congrArg Value.bool hc138) ?_
                    refine pl_not (tg := 72) (by kernel_rfl) (congrArg Value.bool hc138) ?_
                    refine pl_val (.bool true) (y_pick_t (congrArg Value.bool hc138) rfl) ?_
                    refine pl_val (.bool true) (y_move rfl) ?_
                    refine pl_not (tg := 78) (by kernel_rfl) (by rfl) ?_
                    refine pl_not (tg := 78) (by kernel_rfl) (by rfl) ?_
                    refine pl_not (tg := 78) (by kernel_rfl) (by rfl) ?_
                    refine pl_val (.bool true) (y_pick_t (by rfl) rfl) ?_
                    refine c_nil ?_
                    cases hs
                    exact ⟨_, fr_ovl 119 ⟨rfl, rfl, rfl, rfl, rfl, rfl, rfl, trivial⟩, hMid⟩
                  · skip
                    refine pl_yes (.agg #[(.int .i64 r94.1.1), (.int .i64 r94.1.2.1), (.slice a93x0 n93x0 c93x0)]) (tg := 72) (by kernel_rfl) (congrArg Value.bool hc138) (y_load rfl ((box_load Ag49 Sz49 hb97 [] [(.int .i64 r94.1.1), (.int .i64 r94.1.2.1), (.slice a93x0 n93x0 c93x0)] [] rfl rfl (fun h => nomatch h)) _ (Chg.refl _ _))) ?_
                    refine pl_yes (.agg #[(.int .i64 r19.1.1), (.int .i64 r19.1.2.1), (.slice a18x0 n18x0 c18x0)]) (tg := 72) (by kernel_rfl) (congrArg Value.bool hc138) (y_load rfl ((box_load Ag49 Sz49 hb22 [] [(.int .i64 r19.1.1), (.int .i64 r19.1.2.1), (.slice a18x0 n18x0 c18x0)] [] rfl rfl (fun h => nomatch h)) _ (Chg.refl _ _))) ?_
                    have hO := hO.fr9
                    have hO := hO.fr6
                    obtain ⟨r140, hr140, hs⟩ := bind_some hs
                    refine pl_cally (tg := 72) (by kernel_rfl) (congrArg Value.bool hc138) Bd34 rfl (c_laws_eqNetwork (M := (Less (Less M f93x0) f18x0)) (r94.1.1, r94.1.2.1, r94.1.2.2) (r19.1.1, r19.1.2.1, r19.1.2.2) ((((Frz.os (Frz.pr (Frz.os Frz.int) (Frz.pr Frz.int (Frz.os (Frz.os Frz.int)))))).val hv93x0 Less.sub Less.not).sub Less.sub) (((Frz.os (Frz.pr (Frz.os Frz.int) (Frz.pr Frz.int (Frz.os (Frz.os Frz.int)))))).val (hv18x0.sub Less.sub) Less.sub Less.not) (hO.less).less.fut hr140) ?_
                    rintro _ w139 ⟨rfl, hC139⟩
                    have h0 := h0.ext hC139
                    have h1 := h1.ext hC139
                    have hb3 := hb3.chg hC139 (fun h => nomatch h)
                    have hb4 := hb4.chg hC139 (fun h => nomatch h)
                    have hv18x0 := hv18x0.ext hC139
                    have hb22 := hb22.chg hC139 (fun h => nomatch h)
                    have hvi131x0 := hvi131x0.ext hC139
                    have hb87 := hb87.chg hC139 (fun h => nomatch h)
                    have hvi133x0 := hvi133x0.ext hC139
                    have hb92 := hb92.chg hC139 (fun h => nomatch h)
                    have hv93x0 := hv93x0.ext hC139
                    have hb97 := hb97.chg hC139 (fun h => nomatch h)
                    have hv112x0 := hv112x0.ext hC139
                    have hv125x0 := hv125x0.ext hC139
                    have hMid := hMid.ext hC139
                    have hC := hC.ext hC139
                    have hO := hO.ext hC139
                    refine pl_yes (.bool (!r140)) (tg := 72) (by kernel_rfl) (congrArg Value.bool hc138) (y_not rfl) ?_
                    refine pl_val (.bool (!r140)) (y_pick_f (congrArg Value.bool hc138) rfl) ?_
                    refine pl_val (.bool (!r140)) (y_move rfl) ?_
                    rcases bif_some hs with ⟨hc141, hs⟩ | ⟨hc141, hs⟩
                    · skip
                      refine pl_not (tg := 78) (by kernel_rfl) (congrArg Value.bool hc141) ?_
                      refine pl_not (tg := 78) (by kernel_rfl) (congrArg Value.bool hc141) ?_
                      refine pl_not (tg := 78) (by kernel_rfl) (congrArg Value.bool hc141) ?_
                      refine pl_val (.bool true) (y_pick_t (congrArg Value.bool hc141) rfl) ?_
                      refine c_nil ?_
                      cases hs
                      exact ⟨_, fr_ovl 119 ⟨rfl, rfl, rfl, rfl, rfl, rfl, rfl, trivial⟩, hMid⟩
                    · skip
                      refine pl_yes (.bool r94.2) (tg := 78) (by kernel_rfl) (congrArg Value.bool hc141) (y_move rfl) ?_
                      refine pl_yes (.bool r19.2) (tg := 78) (by kernel_rfl) (congrArg Value.bool hc141) (y_move rfl) ?_
                      refine pl_yes (.bool (!(r94.2 == r19.2))) (tg := 78) (by kernel_rfl) (congrArg Value.bool hc141) (y_bneq Try.underlying4 rfl rfl) ?_
                      refine pl_val (.bool (!(r94.2 == r19.2))) (y_pick_f (congrArg Value.bool hc141) rfl) ?_
                      refine c_nil ?_
                      cases hs
                      exact ⟨_, fr_ovl 119 ⟨rfl, rfl, rfl, rfl, rfl, rfl, rfl, trivial⟩, hMid⟩
                · rintro a1 w136 ⟨σ, rfl, hCs135⟩
                  have h0 := h0.ext hCs135
                  have h1 := h1.ext hCs135
                  have hb3 := hb3.chg hCs135 (fun h => nomatch h)
                  have hb4 := hb4.chg hCs135 (fun h => nomatch h)
                  have hv18x0 := hv18x0.ext hCs135
                  have hb22 := hb22.chg hCs135 (fun h => nomatch h)
                  have hvi131x0 := hvi131x0.ext hCs135
                  have hb87 := hb87.chg hCs135 (fun h => nomatch h)
                  have hvi133x0 := hvi133x0.ext hCs135
                  have hb92 := hb92.chg hCs135 (fun h => nomatch h)
                  have hv93x0 := hv93x0.ext hCs135
                  have hb97 := hb97.chg hCs135 (fun h => nomatch h)
                  have hv112x0 := hv112x0.ext hCs135
                  have hv125x0 := hv125x0.ext hCs135
                  have hC := hC.ext hCs135
                  have hO := hO.ext hCs135
                  rcases bif_some hs with ⟨hc142, hs⟩ | ⟨hc142, hs⟩
                  · skip
                    refine c_condT (congrArg Value.bool hc142) ?_
                    refine c_seq ?_
                    refine c_region ?_
                    refine pl_val (.bool false) (y_assign rfl) ?_
                    refine c_nil ?_
                    refine wp_ret ?_
                    cases hs
                    exact ⟨_, fr_ovl 119 ⟨rfl, trivial⟩, hC⟩
                  · skip
                    refine c_condF (congrArg Value.bool hc142) ?_
                    refine wp_skip ?_
                    refine c_seq ?_
                    refine c_region ?_
                    refine pl_val (.int .i64 1) (y_assign rfl) ?_
                    refine c_nil ?_
                    refine c_seq ?_
                    refine c_region ?_
                    refine pl_val (.agg #[(.int .i64 r94.1.1), (.int .i64 r94.1.2.1), (.slice a93x0 n93x0 c93x0)]) (y_load rfl ((box_load Ag49 Sz49 hb97 [] [(.int .i64 r94.1.1), (.int .i64 r94.1.2.1), (.slice a93x0 n93x0 c93x0)] [] rfl rfl (fun h => nomatch h)) _ (Chg.refl _ _))) ?_
                    refine pl_val (.int .i64 1) (y_move rfl) ?_
                    have hO := hO.fr5
                    have hL143 := hO
                    have hI143 := Own.lend (F := (f93x0 ++ ([]))) (R := fi133x0 ++ (fi131x0 ++ (f125x0 ++ (f112x0 ++ (([g96]) ++ (([g91]) ++ (([g86]) ++ (([g21]) ++ (f18x0 ++ (([g4]) ++ (([g3]) ++ ([])))))))))))) (Own.perm (hL143) (by simp))
                    obtain ⟨r144, hr144, hs⟩ := bind_some hs
                    refine pl_call Bd69 rfl (c_laws_markNetwork (M := M) (r94.1.1, r94.1.2.1, r94.1.2.2) 1 hv93x0 hI143 hI143.fut hr144) ?_
                    rintro _ w143 ⟨fi143x0, rfl, hC143, hvi143x0, hOc143⟩
                    have hO := hO.perm (R := (f93x0 ++ ([])) ++ (fi133x0 ++ (fi131x0 ++ (f125x0 ++ (f112x0 ++ (([g96]) ++ (([g91]) ++ (([g86]) ++ (([g21]) ++ (f18x0 ++ (([g4]) ++ (([g3]) ++ ([]))))))))))))) (by simp)
                    have h0 := h0.mut hC143 (fun g hg => hO.inM g ((fun _ h => h) g hg)) (fun _ _ h => nomatch h)
                    have h1 := h1.mut hC143 (fun g hg => hO.inM g ((fun _ h => h) g hg)) (fun _ _ h => nomatch h)
                    have hb3 := hb3.chg hC143 (fun hg => hO.apart _ ((fun _ h => h) _ hg) (mem_r (mem_r (mem_r (mem_r (mem_r (mem_r (mem_r (mem_r (mem_r (mem_r (mem_l (List.mem_singleton.2 rfl)))))))))))))
                    have hb4 := hb4.chg hC143 (fun hg => hO.apart _ ((fun _ h => h) _ hg) (mem_r (mem_r (mem_r (mem_r (mem_r (mem_r (mem_r (mem_r (mem_r (mem_l (List.mem_singleton.2 rfl))))))))))))
                    have hv18x0 := hv18x0.mut hC143 (fun g hg => hO.inM g ((fun _ h => h) g hg)) (fun g hg e => hO.apart g ((fun _ h => h) g hg) (mem_r (mem_r (mem_r (mem_r (mem_r (mem_r (mem_r (mem_r (mem_l (e)))))))))))
                    have hb22 := hb22.chg hC143 (fun hg => hO.apart _ ((fun _ h => h) _ hg) (mem_r (mem_r (mem_r (mem_r (mem_r (mem_r (mem_r (mem_l (List.mem_singleton.2 rfl))))))))))
                    have hvi131x0 := hvi131x0.mut hC143 (fun g hg => hO.inM g ((fun _ h => h) g hg)) (fun g hg e => hO.apart g ((fun _ h => h) g hg) (mem_r (mem_l (e))))
                    have hb87 := hb87.chg hC143 (fun hg => hO.apart _ ((fun _ h => h) _ hg) (mem_r (mem_r (mem_r (mem_r (mem_r (mem_r (mem_l (List.mem_singleton.2 rfl)))))))))
                    have hvi133x0 := hvi133x0.mut hC143 (fun g hg => hO.inM g ((fun _ h => h) g hg)) (fun g hg e => hO.apart g ((fun _ h => h) g hg) (mem_l (e)))
                    have hb92 := hb92.chg hC143 (fun hg => hO.apart _ ((fun _ h => h) _ hg) (mem_r (mem_r (mem_r (mem_r (mem_r (mem_l (List.mem_singleton.2 rfl))))))))
                    have hb97 := hb97.chg hC143 (fun hg => hO.apart _ ((fun _ h => h) _ hg) (mem_r (mem_r (mem_r (mem_r (mem_l (List.mem_singleton.2 rfl)))))))
                    have hv112x0 := hv112x0.mut hC143 (fun g hg => hO.inM g ((fun _ h => h) g hg)) (fun g hg e => hO.apart g ((fun _ h => h) g hg) (mem_r (mem_r (mem_r (mem_l (e))))))
                    have hv125x0 := hv125x0.mut hC143 (fun g hg => hO.inM g ((fun _ h => h) g hg)) (fun g hg e => hO.apart g ((fun _ h => h) g hg) (mem_r (mem_r (mem_l (e)))))
                    have hC := hC.step hC143 (fun g hg => hO.inN g ((fun _ h => h) g hg))
                    have hO := Own.join hO hC143 hOc143
                    have hO := hO.perm (R := fi143x0 ++ (fi133x0 ++ (fi131x0 ++ (f125x0 ++ (f112x0 ++ (([g96]) ++ (([g91]) ++ (([g86]) ++ (([g21]) ++ (f18x0 ++ (([g4]) ++ (([g3]) ++ ([]))))))))))))) (by simp)
                    refine pl_val (.int .i64 r144.1) (y_assign rfl) ?_
                    refine c_nil ?_
                    refine c_seq ?_
                    refine c_region ?_
                    refine pl_val (.int .i64 1) (y_assign rfl) ?_
                    refine c_nil ?_
                    refine c_seq ?_
                    refine c_region ?_
                    refine pl_val (.agg #[(.int .i64 r94.1.1), (.int .i64 r94.1.2.1), (.slice a93x0 n93x0 c93x0)]) (y_load rfl ((box_load Ag49 Sz49 hb97 [] [(.int .i64 r94.1.1), (.int .i64 r94.1.2.1), (.slice a93x0 n93x0 c93x0)] [] rfl rfl (fun h => nomatch h)) _ (Chg.refl _ _))) ?_
                    refine pl_val (.int .i64 1) (y_move rfl) ?_
                    obtain ⟨r146, hr146, hs⟩ := bind_some hs
                    refine pl_call Bd70 rfl (c_laws_heldNetwork (M := (Less M fi143x0)) (r94.1.1, r94.1.2.1, r144.2) 1 (((Frz.os (Frz.pr (Frz.os Frz.int) (Frz.pr Frz.int (Frz.os (Frz.os Frz.int)))))).val hvi143x0 Less.sub Less.not) hO.less.fut hr146) ?_
                    rintro _ w145 ⟨rfl, hC145⟩
                    have h0 := h0.ext hC145
                    have h1 := h1.ext hC145
                    have hb3 := hb3.chg hC145 (fun h => nomatch h)
                    have hb4 := hb4.chg hC145 (fun h => nomatch h)
                    have hv18x0 := hv18x0.ext hC145
                    have hb22 := hb22.chg hC145 (fun h => nomatch h)
                    have hvi131x0 := hvi131x0.ext hC145
                    have hb87 := hb87.chg hC145 (fun h => nomatch h)
                    have hvi133x0 := hvi133x0.ext hC145
                    have hb92 := hb92.chg hC145 (fun h => nomatch h)
                    have hvi143x0 := hvi143x0.ext hC145
                    have hb97 := hb97.chg hC145 (fun h => nomatch h)
                    have hv112x0 := hv112x0.ext hC145
                    have hv125x0 := hv125x0.ext hC145
                    have hC := hC.ext hC145
                    have hO := hO.ext hC145
                    refine pl_val (.int .i64 r146) (y_assign rfl) ?_
                    refine c_nil ?_
                    refine c_seq ?_
                    refine c_seq ?_
                    refine c_region ?_
                    refine pl_val (.int .i64 r146) (y_move rfl) ?_
                    refine pl_val (.bool (decide (r146 < 0))) (y_lss rfl rfl) ?_
                    refine c_nil ?_
                    rcases bif_some hs with ⟨hc147, hs⟩ | ⟨hc147, hs⟩
                    · skip
                      refine c_condT (congrArg Value.bool hc147) ?_
                      refine c_seq ?_
                      refine c_region ?_
                      refine pl_val (.bool false) (y_assign rfl) ?_
                      refine c_nil ?_
                      refine wp_ret ?_
                      cases hs
                      exact ⟨_, fr_ovl 119 ⟨rfl, trivial⟩, hC⟩
                    · skip
                      refine c_condF (congrArg Value.bool hc147) ?_
                      refine wp_skip ?_
                      refine c_seq ?_
                      refine c_seq ?_
                      refine c_region ?_
                      refine pl_val (.int .i64 r146) (y_move rfl) ?_
                      refine pl_val (.int .i64 r144.1) (y_move rfl) ?_
                      refine pl_val (.bool (r146 != r144.1)) (y_neq rfl rfl) ?_
                      refine c_nil ?_
                      rcases bif_some hs with ⟨hc148, hs⟩ | ⟨hc148, hs⟩
                      · skip
                        refine c_condT (congrArg Value.bool hc148) ?_
                        refine c_seq ?_
                        refine c_region ?_
                        refine pl_val (.bool false) (y_assign rfl) ?_
                        refine c_nil ?_
                        refine wp_ret ?_
                        cases hs
                        exact ⟨_, fr_ovl 119 ⟨rfl, trivial⟩, hC⟩
                      · skip
                        refine c_condF (congrArg Value.bool hc148) ?_
                        refine wp_skip ?_
                        refine c_seq ?_
                        obtain ⟨r151, hr151, hs⟩ := bind_some hs
                        obtain ⟨r154, hr154, hs⟩ := bind_some hs
                        obtain ⟨r157, hr157, hs⟩ := bind_some hs
                        refine c_mid (I := fun a w160 => ∃ (σ : Nat → Value) (a156x0 : Option Addr) (c156x0 : Nat) (f156x0 : List Nat) (g159 : Nat) (n156x0 : Nat), a = fr 119 (ovl σ [(4, (.bool false)), (6, (.pointer (some ⟨g21, 0, none⟩))), (7, (.bool r19.2)), (10, (.pointer (some ⟨g96, 0, none⟩))), (13, (.int .i64 r144.1)), (14, (.int .i64 r146)), (15, (.pointer (some ⟨g159, 0, none⟩))), (16, (.bool r157.2))]) ∧ Chg [] w w160 ∧ Own (Nw w []) M w160 (([g159]) ++ (f156x0 ++ (fi143x0 ++ (([g96]) ++ (([g21]) ++ (f18x0 ++ [])))))) ∧ (RT.os 108 (RT.pr (RT.os 3 (RT.int .i64)) (RT.pr (RT.int .i64) (RT.os 22 (RT.os 3 (RT.int .i64)))))).val M w160 (.slice a18x0 n18x0 c18x0) r19.1.2.2 f18x0 ∧ BoxV w160 g21 49 [(.int .i64 r19.1.1), (.int .i64 r19.1.2.1), (.slice a18x0 n18x0 c18x0)] ∧ (RT.os 108 (RT.pr (RT.os 3 (RT.int .i64)) (RT.pr (RT.int .i64) (RT.os 22 (RT.os 3 (RT.int .i64)))))).val M w160 (.slice a93x0 n93x0 c93x0) r144.2 fi143x0 ∧ BoxV w160 g96 49 [(.int .i64 r94.1.1), (.int .i64 r94.1.2.1), (.slice a93x0 n93x0 c93x0)] ∧ (RT.os 108 (RT.pr (RT.os 3 (RT.int .i64)) (RT.pr (RT.int .i64) (RT.os 22 (RT.os 3 (RT.int .i64)))))).val M w160 (.slice a156x0 n156x0 c156x0) r157.1.2.2 f156x0 ∧ BoxV w160 g159 49 [(.int .i64 r157.1.1), (.int .i64 r157.1.2.1), (.slice a156x0 n156x0 c156x0)]) ?_ ?_
                        · skip
                          refine x_start [9] Mx rfl ?_
                          have hCw185 := Chg.drew w145
                          generalize World.drew w145 = w185 at hCw185 ⊢
                          have h0 := h0.ext hCw185
                          have h1 := h1.ext hCw185
                          have hb3 := hb3.chg hCw185 (fun h => nomatch h)
                          have hb4 := hb4.chg hCw185 (fun h => nomatch h)
                          have hv18x0 := hv18x0.ext hCw185
                          have hb22 := hb22.chg hCw185 (fun h => nomatch h)
                          have hvi131x0 := hvi131x0.ext hCw185
                          have hb87 := hb87.chg hCw185 (fun h => nomatch h)
                          have hvi133x0 := hvi133x0.ext hCw185
                          have hb92 := hb92.chg hCw185 (fun h => nomatch h)
                          have hvi143x0 := hvi143x0.ext hCw185
                          have hb97 := hb97.chg hCw185 (fun h => nomatch h)
                          have hv112x0 := hv112x0.ext hCw185
                          have hv125x0 := hv125x0.ext hCw185
                          have hC := hC.ext hCw185
                          have hO := hO.ext hCw185
                          have hS := Chg.refl [] w185
                          refine x_l 0 (.agg #[(.int .i64 aX.1), (.int .i64 aX.2.1), (.slice pa0 pn0 pc0)]) rfl (by kernel_rfl)  (fun w' hw' => y_load rfl ((box_load Ag44 Sz44 hb3 [] [(.int .i64 aX.1), (.int .i64 aX.2.1), (.slice pa0 pn0 pc0)] [] rfl rfl (fun h => nomatch h)) w' hw')) hS ?_
                          refine x_l 2 (.agg #[(.int .i64 aY.1), (.int .i64 aY.2.1), (.slice pa1 pn1 pc1)]) rfl (by kernel_rfl)  (fun w' hw' => y_load rfl ((box_load Ag44 Sz44 hb4 [] [(.int .i64 aY.1), (.int .i64 aY.2.1), (.slice pa1 pn1 pc1)] [] rfl rfl (fun h => nomatch h)) w' hw')) hS ?_
                          refine x_two (i := 1) (j := 8) (by kernel_rfl) ?_ ?_
                          · skip
                            refine xk_call (b := false) rfl  Bd32 rfl (c_laws_toNetwork (M := M) (aX.1, aX.2.1, aX.2.2) h0 hO.fut hr151) rfl (by rintro _ _ _ ⟨a186x0, n186x0, c186x0, f186x0, rfl, hC186, hv186x0, hOc186⟩; exact hS.ext hC186) ?_
                            rintro _ w186 ⟨a186x0, n186x0, c186x0, f186x0, rfl, hC186, hv186x0, hOc186⟩
                            have h0 := h0.ext hC186
                            have h1 := h1.ext hC186
                            have hb3 := hb3.chg hC186 (fun h => nomatch h)
                            have hb4 := hb4.chg hC186 (fun h => nomatch h)
                            have hv18x0 := hv18x0.ext hC186
                            have hb22 := hb22.chg hC186 (fun h => nomatch h)
                            have hvi131x0 := hvi131x0.ext hC186
                            have hb87 := hb87.chg hC186 (fun h => nomatch h)
                            have hvi133x0 := hvi133x0.ext hC186
                            have hb92 := hb92.chg hC186 (fun h => nomatch h)
                            have hvi143x0 := hvi143x0.ext hC186
                            have hb97 := hb97.chg hC186 (fun h => nomatch h)
                            have hv112x0 := hv112x0.ext hC186
                            have hv125x0 := hv125x0.ext hC186
                            have hC := hC.ext hC186
                            have hO := Own.join0 hO hC186 hOc186
                            have hO := hO.perm (R := f186x0 ++ (fi143x0 ++ (fi133x0 ++ (fi131x0 ++ (f125x0 ++ (f112x0 ++ (([g96]) ++ (([g91]) ++ (([g86]) ++ (([g21]) ++ (f18x0 ++ (([g4]) ++ (([g3]) ++ ([])))))))))))))) (by simp)
                            have hS := hS.ext hC186
                            refine x_two (i := 3) (j := 8) (by kernel_rfl) ?_ ?_
                            · skip
                              refine xk_call (b := false) rfl  Bd32 rfl (c_laws_toNetwork (M := M) (aY.1, aY.2.1, aY.2.2) h1 hO.fut hr154) rfl (by rintro _ _ _ ⟨a189x0, n189x0, c189x0, f189x0, rfl, hC189, hv189x0, hOc189⟩; exact hS.ext hC189) ?_
                              rintro _ w189 ⟨a189x0, n189x0, c189x0, f189x0, rfl, hC189, hv189x0, hOc189⟩
                              have h0 := h0.ext hC189
                              have h1 := h1.ext hC189
                              have hb3 := hb3.chg hC189 (fun h => nomatch h)
                              have hb4 := hb4.chg hC189 (fun h => nomatch h)
                              have hv18x0 := hv18x0.ext hC189
                              have hb22 := hb22.chg hC189 (fun h => nomatch h)
                              have hvi131x0 := hvi131x0.ext hC189
                              have hb87 := hb87.chg hC189 (fun h => nomatch h)
                              have hvi133x0 := hvi133x0.ext hC189
                              have hb92 := hb92.chg hC189 (fun h => nomatch h)
                              have hvi143x0 := hvi143x0.ext hC189
                              have hb97 := hb97.chg hC189 (fun h => nomatch h)
                              have hv112x0 := hv112x0.ext hC189
                              have hv125x0 := hv125x0.ext hC189
                              have hv186x0 := hv186x0.ext hC189
                              have hC := hC.ext hC189
                              have hO := Own.join0 hO hC189 hOc189
                              have hO := hO.perm (R := f189x0 ++ (f186x0 ++ (fi143x0 ++ (fi133x0 ++ (fi131x0 ++ (f125x0 ++ (f112x0 ++ (([g96]) ++ (([g91]) ++ (([g86]) ++ (([g21]) ++ (f18x0 ++ (([g4]) ++ (([g3]) ++ ([]))))))))))))))) (by simp)
                              have hS := hS.ext hC189
                              refine x_two (i := 4) (j := 8) (by kernel_rfl) ?_ ?_
                              · skip
                                have hO := hO.fr1
                                refine xk_call (b := false) rfl  Bd68 rfl (c_impl_JoinNetworks (M := (Less (Less M f186x0) f189x0)) (r151.1, r151.2.1, r151.2.2) (r154.1, r154.2.1, r154.2.2) ((((Frz.os (Frz.pr (Frz.os Frz.int) (Frz.pr Frz.int (Frz.os (Frz.os Frz.int)))))).val hv186x0 Less.sub Less.not).sub Less.sub) (((Frz.os (Frz.pr (Frz.os Frz.int) (Frz.pr Frz.int (Frz.os (Frz.os Frz.int)))))).val (hv189x0.sub Less.sub) Less.sub Less.not) (hO.less).less.fut hr157) rfl (by rintro _ _ _ ⟨a192x0, n192x0, c192x0, f192x0, rfl, hC192, hv192x0, hOc192⟩; exact hS.ext hC192) ?_
                                rintro _ w192 ⟨a192x0, n192x0, c192x0, f192x0, rfl, hC192, hv192x0, hOc192⟩
                                have h0 := h0.ext hC192
                                have h1 := h1.ext hC192
                                have hb3 := hb3.chg hC192 (fun h => nomatch h)
                                have hb4 := hb4.chg hC192 (fun h => nomatch h)
                                have hv18x0 := hv18x0.ext hC192
                                have hb22 := hb22.chg hC192 (fun h => nomatch h)
                                have hvi131x0 := hvi131x0.ext hC192
                                have hb87 := hb87.chg hC192 (fun h => nomatch h)
                                have hvi133x0 := hvi133x0.ext hC192
                                have hb92 := hb92.chg hC192 (fun h => nomatch h)
                                have hvi143x0 := hvi143x0.ext hC192
                                have hb97 := hb97.chg hC192 (fun h => nomatch h)
                                have hv112x0 := hv112x0.ext hC192
                                have hv125x0 := hv125x0.ext hC192
                                have hv186x0 := hv186x0.ext hC192
                                have hv189x0 := hv189x0.ext hC192
                                have hC := hC.ext hC192
                                have hO := Own.join0 hO hC192 hOc192
                                have hO := hO.perm (R := f192x0 ++ (f186x0 ++ (f189x0 ++ (fi143x0 ++ (fi133x0 ++ (fi131x0 ++ (f125x0 ++ (f112x0 ++ (([g96]) ++ (([g91]) ++ (([g86]) ++ (([g21]) ++ (f18x0 ++ (([g4]) ++ (([g3]) ++ ([])))))))))))))))) (by simp)
                                have hv192x0 := hv192x0.free (M' := M) (Free.os (Free.pr (Free.os Free.int) (Free.pr Free.int (Free.os (Free.os Free.int)))))
                                have hS := hS.ext hC192
                                refine x_p 5 (.tuple #[(.agg #[(.int .i64 r157.1.1), (.int .i64 r157.1.2.1), (.slice a192x0 n192x0 c192x0)]), (.bool r157.2)]) rfl (by kernel_rfl)  (fun _ => y_move rfl) (fun _ => hS) ?_
                                refine x_p 6 (.agg #[(.int .i64 r157.1.1), (.int .i64 r157.1.2.1), (.slice a192x0 n192x0 c192x0)]) rfl (by kernel_rfl)  (fun _ => y_extract rfl (by kernel_rfl)) (fun _ => hS) ?_
                                refine x_p 7 (.bool r157.2) rfl (by kernel_rfl)  (fun _ => y_extract rfl (by kernel_rfl)) (fun _ => hS) ?_
                                refine x_one (i := 8) (by kernel_rfl) ?_
                                obtain ⟨w195, g195, ew195, eg195, hC195, hb195⟩ := new_block w192 [(.int .i64 0), (.int .i64 0), (.slice none 0 0)] 49
                                refine xk_val (w' := w195) (b := false) (.pointer (some ⟨g195, 0, none⟩)) rfl  (y_alloc (by rw [ew195, eg195]; kernel_rfl)) rfl (fun _ => hS.ext hC195) ?_
                                have h0 := h0.ext hC195
                                have h1 := h1.ext hC195
                                have hb3 := hb3.chg hC195 (fun h => nomatch h)
                                have hb4 := hb4.chg hC195 (fun h => nomatch h)
                                have hv18x0 := hv18x0.ext hC195
                                have hb22 := hb22.chg hC195 (fun h => nomatch h)
                                have hvi131x0 := hvi131x0.ext hC195
                                have hb87 := hb87.chg hC195 (fun h => nomatch h)
                                have hvi133x0 := hvi133x0.ext hC195
                                have hb92 := hb92.chg hC195 (fun h => nomatch h)
                                have hvi143x0 := hvi143x0.ext hC195
                                have hb97 := hb97.chg hC195 (fun h => nomatch h)
                                have hv112x0 := hv112x0.ext hC195
                                have hv125x0 := hv125x0.ext hC195
                                have hv186x0 := hv186x0.ext hC195
                                have hv189x0 := hv189x0.ext hC195
                                have hv192x0 := hv192x0.ext hC195
                                have hC := hC.ext hC195
                                have hO := hO.new (X' := [g195]) hC195 (fun q hq => by rw [List.mem_singleton.1 hq, eg195]; exact Nat.le_refl _) (List.nodup_cons.2 ⟨(fun h => nomatch h), List.nodup_nil⟩) (fun q hq => by rw [List.mem_singleton.1 hq]; exact hb195.lt)
                                have hS := hS.ext hC195
                                refine x_one (i := 9) (by kernel_rfl) ?_
                                obtain ⟨w196, hst196, hC196, hb196⟩ := box_store (P := Try.prog) hb195 [] [(.int .i64 0), (.int .i64 0), (.slice none 0 0)] [] [(.int .i64 r157.1.1), (.int .i64 r157.1.2.1), (.slice a192x0 n192x0 c192x0)] rfl rfl (by intro u hu; simp only [List.mem_cons, List.not_mem_nil, or_false] at hu; rcases hu with rfl | rfl | rfl <;> rfl)
                                refine xk_skip (w' := w196) (b := true) rfl (ys_store rfl rfl (hst196 _ _ rfl Sz49)) rfl (fun h => nomatch h) ?_
                                have h0 := h0.mut hC196 (fun g hg => hO.inM g ((fun _ h => h) g hg)) (fun _ _ h => nomatch h)
                                have h1 := h1.mut hC196 (fun g hg => hO.inM g ((fun _ h => h) g hg)) (fun _ _ h => nomatch h)
                                have hb3 := hb3.chg hC196 (fun hg => hO.apart _ ((fun _ h => h) _ hg) (mem_r (mem_r (mem_r (mem_r (mem_r (mem_r (mem_r (mem_r (mem_r (mem_r (mem_r (mem_r (mem_r (mem_r (mem_l (List.mem_singleton.2 rfl)))))))))))))))))
                                have hb4 := hb4.chg hC196 (fun hg => hO.apart _ ((fun _ h => h) _ hg) (mem_r (mem_r (mem_r (mem_r (mem_r (mem_r (mem_r (mem_r (mem_r (mem_r (mem_r (mem_r (mem_r (mem_l (List.mem_singleton.2 rfl))))))))))))))))
                                have hv18x0 := hv18x0.mut hC196 (fun g hg => hO.inM g ((fun _ h => h) g hg)) (fun g hg e => hO.apart g ((fun _ h => h) g hg) (mem_r (mem_r (mem_r (mem_r (mem_r (mem_r (mem_r (mem_r (mem_r (mem_r (mem_r (mem_r (mem_l (e)))))))))))))))
                                have hb22 := hb22.chg hC196 (fun hg => hO.apart _ ((fun _ h => h) _ hg) (mem_r (mem_r (mem_r (mem_r (mem_r (mem_r (mem_r (mem_r (mem_r (mem_r (mem_r (mem_l (List.mem_singleton.2 rfl))))))))))))))
                                have hvi131x0 := hvi131x0.mut hC196 (fun g hg => hO.inM g ((fun _ h => h) g hg)) (fun g hg e => hO.apart g ((fun _ h => h) g hg) (mem_r (mem_r (mem_r (mem_r (mem_r (mem_l (e))))))))
                                have hb87 := hb87.chg hC196 (fun hg => hO.apart _ ((fun _ h => h) _ hg) (mem_r (mem_r (mem_r (mem_r (mem_r (mem_r (mem_r (mem_r (mem_r (mem_r (mem_l (List.mem_singleton.2 rfl)))))))))))))
                                have hvi133x0 := hvi133x0.mut hC196 (fun g hg => hO.inM g ((fun _ h => h) g hg)) (fun g hg e => hO.apart g ((fun _ h => h) g hg) (mem_r (mem_r (mem_r (mem_r (mem_l (e)))))))
                                have hb92 := hb92.chg hC196 (fun hg => hO.apart _ ((fun _ h => h) _ hg) (mem_r (mem_r (mem_r (mem_r (mem_r (mem_r (mem_r (mem_r (mem_r (mem_l (List.mem_singleton.2 rfl))))))))))))
                                have hvi143x0 := hvi143x0.mut hC196 (fun g hg => hO.inM g ((fun _ h => h) g hg)) (fun g hg e => hO.apart g ((fun _ h => h) g hg) (mem_r (mem_r (mem_r (mem_l (e))))))
                                have hb97 := hb97.chg hC196 (fun hg => hO.apart _ ((fun _ h => h) _ hg) (mem_r (mem_r (mem_r (mem_r (mem_r (mem_r (mem_r (mem_r (mem_l (List.mem_singleton.2 rfl)))))))))))
                                have hv112x0 := hv112x0.mut hC196 (fun g hg => hO.inM g ((fun _ h => h) g hg)) (fun g hg e => hO.apart g ((fun _ h => h) g hg) (mem_r (mem_r (mem_r (mem_r (mem_r (mem_r (mem_r (mem_l (e))))))))))
                                have hv125x0 := hv125x0.mut hC196 (fun g hg => hO.inM g ((fun _ h => h) g hg)) (fun g hg e => hO.apart g ((fun _ h => h) g hg) (mem_r (mem_r (mem_r (mem_r (mem_r (mem_r (mem_l (e)))))))))
                                have hv186x0 := hv186x0.mut hC196 (fun g hg => hO.inM g ((fun _ h => h) g hg)) (fun g hg e => hO.apart g ((fun _ h => h) g hg) (mem_r (mem_l (e))))
                                have hv189x0 := hv189x0.mut hC196 (fun g hg => hO.inM g ((fun _ h => h) g hg)) (fun g hg e => hO.apart g ((fun _ h => h) g hg) (mem_r (mem_r (mem_l (e)))))
                                have hv192x0 := hv192x0.mut hC196 (fun g hg => hO.inM g ((fun _ h => h) g hg)) (fun g hg e => hO.apart g ((fun _ h => h) g hg) (mem_l (e)))
                                have hC := hC.step hC196 (fun g hg => hO.inN g ((fun _ h => h) g hg))
                                have hO := hO.ext hC196
                                have hb196 : BoxV w196 g195 49 [(.int .i64 r157.1.1), (.int .i64 r157.1.2.1), (.slice a192x0 n192x0 c192x0)] := hb196
                                refine x_p 10 (.bool r157.2) rfl (by kernel_rfl)  (fun _ => y_assign rfl) (fun h => nomatch h) ?_
                                refine x_end (by kernel_rfl) ?_
                                clear hS
                                have hO := hO.fr2
                                have hO := hO.drop
                                have hO := hO.fr2
                                have hO := hO.drop
                                have hO := hO.fr3
                                have hO := hO.drop
                                have hO := hO.fr3
                                have hO := hO.drop
                                have hO := hO.fr3
                                have hO := hO.drop
                                have hO := hO.fr3
                                have hO := hO.drop
                                have hO := hO.fr4
                                have hO := hO.drop
                                have hO := hO.fr4
                                have hO := hO.drop
                                have hO := hO.fr6
                                have hO := hO.drop
                                have hO := hO.fr6
                                have hO := hO.drop
                                have hO := hO.fr5
                                have hO := hO.fr5
                                have hO := hO.fr5
                                have hO := hO.fr5
                                have hO := hO.fr5
                                have hO := hO.fr5
                                exact ⟨_, a192x0, c192x0, f192x0, g195, n192x0, fr_ovl 119 ⟨rfl, rfl, rfl, rfl, rfl, rfl, rfl, rfl, trivial⟩, hC, hO, hv18x0, hb22, hvi143x0, hb97, hv192x0, hb196⟩
                              · skip
                                obtain ⟨w197, g197, ew197, eg197, hC197, hb197⟩ := new_block w189 [(.int .i64 0), (.int .i64 0), (.slice none 0 0)] 49
                                refine xk_val (w' := w197) (b := false) (.pointer (some ⟨g197, 0, none⟩)) rfl  (y_alloc (by rw [ew197, eg197]; kernel_rfl)) rfl (fun _ => hS.ext hC197) ?_
                                have h0 := h0.ext hC197
                                have h1 := h1.ext hC197
                                have hb3 := hb3.chg hC197 (fun h => nomatch h)
                                have hb4 := hb4.chg hC197 (fun h => nomatch h)
                                have hv18x0 := hv18x0.ext hC197
                                have hb22 := hb22.chg hC197 (fun h => nomatch h)
                                have hvi131x0 := hvi131x0.ext hC197
                                have hb87 := hb87.chg hC197 (fun h => nomatch h)
                                have hvi133x0 := hvi133x0.ext hC197
                                have hb92 := hb92.chg hC197 (fun h => nomatch h)
                                have hvi143x0 := hvi143x0.ext hC197
                                have hb97 := hb97.chg hC197 (fun h => nomatch h)
                                have hv112x0 := hv112x0.ext hC197
                                have hv125x0 := hv125x0.ext hC197
                                have hv186x0 := hv186x0.ext hC197
                                have hv189x0 := hv189x0.ext hC197
                                have hC := hC.ext hC197
                                have hO := hO.new (X' := [g197]) hC197 (fun q hq => by rw [List.mem_singleton.1 hq, eg197]; exact Nat.le_refl _) (List.nodup_cons.2 ⟨(fun h => nomatch h), List.nodup_nil⟩) (fun q hq => by rw [List.mem_singleton.1 hq]; exact hb197.lt)
                                have hS := hS.ext hC197
                                refine x_one (i := 4) (by kernel_rfl) ?_
                                have hO := hO.fr1
                                have hO := hO.fr2
                                refine xk_call (b := false) rfl  Bd68 rfl (c_impl_JoinNetworks (M := (Less (Less M f186x0) f189x0)) (r151.1, r151.2.1, r151.2.2) (r154.1, r154.2.1, r154.2.2) ((((Frz.os (Frz.pr (Frz.os Frz.int) (Frz.pr Frz.int (Frz.os (Frz.os Frz.int)))))).val hv186x0 Less.sub Less.not).sub Less.sub) (((Frz.os (Frz.pr (Frz.os Frz.int) (Frz.pr Frz.int (Frz.os (Frz.os Frz.int)))))).val (hv189x0.sub Less.sub) Less.sub Less.not) (hO.less).less.fut hr157) rfl (by rintro _ _ _ ⟨a198x0, n198x0, c198x0, f198x0, rfl, hC198, hv198x0, hOc198⟩; exact hS.ext hC198) ?_
                                rintro _ w198 ⟨a198x0, n198x0, c198x0, f198x0, rfl, hC198, hv198x0, hOc198⟩
                                have h0 := h0.ext hC198
                                have h1 := h1.ext hC198
                                have hb3 := hb3.chg hC198 (fun h => nomatch h)
                                have hb4 := hb4.chg hC198 (fun h => nomatch h)
                                have hv18x0 := hv18x0.ext hC198
                                have hb22 := hb22.chg hC198 (fun h => nomatch h)
                                have hvi131x0 := hvi131x0.ext hC198
                                have hb87 := hb87.chg hC198 (fun h => nomatch h)
                                have hvi133x0 := hvi133x0.ext hC198
                                have hb92 := hb92.chg hC198 (fun h => nomatch h)
                                have hvi143x0 := hvi143x0.ext hC198
                                have hb97 := hb97.chg hC198 (fun h => nomatch h)
                                have hv112x0 := hv112x0.ext hC198
                                have hv125x0 := hv125x0.ext hC198
                                have hv186x0 := hv186x0.ext hC198
                                have hv189x0 := hv189x0.ext hC198
                                have hb197 := hb197.chg hC198 (fun h => nomatch h)
                                have hC := hC.ext hC198
                                have hO := Own.join0 hO hC198 hOc198
                                have hO := hO.perm (R := f198x0 ++ (f186x0 ++ (f189x0 ++ (([g197]) ++ (fi143x0 ++ (fi133x0 ++ (fi131x0 ++ (f125x0 ++ (f112x0 ++ (([g96]) ++ (([g91]) ++ (([g86]) ++ (([g21]) ++ (f18x0 ++ (([g4]) ++ (([g3]) ++ ([]))))))))))))))))) (by simp)
                                have hv198x0 := hv198x0.free (M' := M) (Free.os (Free.pr (Free.os Free.int) (Free.pr Free.int (Free.os (Free.os Free.int)))))
                                have hS := hS.ext hC198
                                refine x_p 5 (.tuple #[(.agg #[(.int .i64 r157.1.1), (.int .i64 r157.1.2.1), (.slice a198x0 n198x0 c198x0)]), (.bool r157.2)]) rfl (by kernel_rfl)  (fun _ => y_move rfl) (fun _ => hS) ?_
                                refine x_p 6 (.agg #[(.int .i64 r157.1.1), (.int .i64 r157.1.2.1), (.slice a198x0 n198x0 c198x0)]) rfl (by kernel_rfl)  (fun _ => y_extract rfl (by kernel_rfl)) (fun _ => hS) ?_
                                refine x_p 7 (.bool r157.2) rfl (by kernel_rfl)  (fun _ => y_extract rfl (by kernel_rfl)) (fun _ => hS) ?_
                                refine x_one (i := 9) (by kernel_rfl) ?_
                                obtain ⟨w201, hst201, hC201, hb201⟩ := box_store (P := Try.prog) hb197 [] [(.int .i64 0), (.int .i64 0), (.slice none 0 0)] [] [(.int .i64 r157.1.1), (.int .i64 r157.1.2.1), (.slice a198x0 n198x0 c198x0)] rfl rfl (by intro u hu; simp only [List.mem_cons, List.not_mem_nil, or_false] at hu; rcases hu with rfl | rfl | rfl <;> rfl)
                                refine xk_skip (w' := w201) (b := true) rfl (ys_store rfl rfl (hst201 _ _ rfl Sz49)) rfl (fun h => nomatch h) ?_
                                have hO := hO.fr3
                                have h0 := h0.mut hC201 (fun g hg => hO.inM g ((fun _ h => h) g hg)) (fun _ _ h => nomatch h)
                                have h1 := h1.mut hC201 (fun g hg => hO.inM g ((fun _ h => h) g hg)) (fun _ _ h => nomatch h)
                                have hb3 := hb3.chg hC201 (fun hg => hO.apart _ ((fun _ h => h) _ hg) (mem_r (mem_r (mem_r (mem_r (mem_r (mem_r (mem_r (mem_r (mem_r (mem_r (mem_r (mem_r (mem_r (mem_r (mem_l (List.mem_singleton.2 rfl)))))))))))))))))
                                have hb4 := hb4.chg hC201 (fun hg => hO.apart _ ((fun _ h => h) _ hg) (mem_r (mem_r (mem_r (mem_r (mem_r (mem_r (mem_r (mem_r (mem_r (mem_r (mem_r (mem_r (mem_r (mem_l (List.mem_singleton.2 rfl))))))))))))))))
                                have hv18x0 := hv18x0.mut hC201 (fun g hg => hO.inM g ((fun _ h => h) g hg)) (fun g hg e => hO.apart g ((fun _ h => h) g hg) (mem_r (mem_r (mem_r (mem_r (mem_r (mem_r (mem_r (mem_r (mem_r (mem_r (mem_r (mem_r (mem_l (e)))))))))))))))
                                have hb22 := hb22.chg hC201 (fun hg => hO.apart _ ((fun _ h => h) _ hg) (mem_r (mem_r (mem_r (mem_r (mem_r (mem_r (mem_r (mem_r (mem_r (mem_r (mem_r (mem_l (List.mem_singleton.2 rfl))))))))))))))
                                have hvi131x0 := hvi131x0.mut hC201 (fun g hg => hO.inM g ((fun _ h => h) g hg)) (fun g hg e => hO.apart g ((fun _ h => h) g hg) (mem_r (mem_r (mem_r (mem_r (mem_r (mem_l (e))))))))
                                have hb87 := hb87.chg hC201 (fun hg => hO.apart _ ((fun _ h => h) _ hg) (mem_r (mem_r (mem_r (mem_r (mem_r (mem_r (mem_r (mem_r (mem_r (mem_r (mem_l (List.mem_singleton.2 rfl)))))))))))))
                                have hvi133x0 := hvi133x0.mut hC201 (fun g hg => hO.inM g ((fun _ h => h) g hg)) (fun g hg e => hO.apart g ((fun _ h => h) g hg) (mem_r (mem_r (mem_r (mem_r (mem_l (e)))))))
                                have hb92 := hb92.chg hC201 (fun hg => hO.apart _ ((fun _ h => h) _ hg) (mem_r (mem_r (mem_r (mem_r (mem_r (mem_r (mem_r (mem_r (mem_r (mem_l (List.mem_singleton.2 rfl))))))))))))
                                have hvi143x0 := hvi143x0.mut hC201 (fun g hg => hO.inM g ((fun _ h => h) g hg)) (fun g hg e => hO.apart g ((fun _ h => h) g hg) (mem_r (mem_r (mem_r (mem_l (e))))))
                                have hb97 := hb97.chg hC201 (fun hg => hO.apart _ ((fun _ h => h) _ hg) (mem_r (mem_r (mem_r (mem_r (mem_r (mem_r (mem_r (mem_r (mem_l (List.mem_singleton.2 rfl)))))))))))
                                have hv112x0 := hv112x0.mut hC201 (fun g hg => hO.inM g ((fun _ h => h) g hg)) (fun g hg e => hO.apart g ((fun _ h => h) g hg) (mem_r (mem_r (mem_r (mem_r (mem_r (mem_r (mem_r (mem_l (e))))))))))
                                have hv125x0 := hv125x0.mut hC201 (fun g hg => hO.inM g ((fun _ h => h) g hg)) (fun g hg e => hO.apart g ((fun _ h => h) g hg) (mem_r (mem_r (mem_r (mem_r (mem_r (mem_r (mem_l (e)))))))))
                                have hv186x0 := hv186x0.mut hC201 (fun g hg => hO.inM g ((fun _ h => h) g hg)) (fun g hg e => hO.apart g ((fun _ h => h) g hg) (mem_r (mem_l (e))))
                                have hv189x0 := hv189x0.mut hC201 (fun g hg => hO.inM g ((fun _ h => h) g hg)) (fun g hg e => hO.apart g ((fun _ h => h) g hg) (mem_r (mem_r (mem_l (e)))))
                                have hv198x0 := hv198x0.mut hC201 (fun g hg => hO.inM g ((fun _ h => h) g hg)) (fun g hg e => hO.apart g ((fun _ h => h) g hg) (mem_l (e)))
                                have hC := hC.step hC201 (fun g hg => hO.inN g ((fun _ h => h) g hg))
                                have hO := hO.ext hC201
                                have hb201 : BoxV w201 g197 49 [(.int .i64 r157.1.1), (.int .i64 r157.1.2.1), (.slice a198x0 n198x0 c198x0)] := hb201
                                refine x_p 10 (.bool r157.2) rfl (by kernel_rfl)  (fun _ => y_assign rfl) (fun h => nomatch h) ?_
                                refine x_end (by kernel_rfl) ?_
                                clear hS
                                have hO := hO.fr2
                                have hO := hO.drop
                                have hO := hO.fr2
                                have hO := hO.drop
                                have hO := hO.fr3
                                have hO := hO.drop
                                have hO := hO.fr3
                                have hO := hO.drop
                                have hO := hO.fr3
                                have hO := hO.drop
                                have hO := hO.fr3
                                have hO := hO.drop
                                have hO := hO.fr4
                                have hO := hO.drop
                                have hO := hO.fr4
                                have hO := hO.drop
                                have hO := hO.fr6
                                have hO := hO.drop
                                have hO := hO.fr6
                                have hO := hO.drop
                                have hO := hO.fr5
                                have hO := hO.fr5
                                have hO := hO.fr5
                                have hO := hO.fr5
                                have hO := hO.fr5
                                have hO := hO.fr5
                                exact ⟨_, a198x0, c198x0, f198x0, g197, n198x0, fr_ovl 119 ⟨rfl, rfl, rfl, rfl, rfl, rfl, rfl, rfl, trivial⟩, hC, hO, hv18x0, hb22, hvi143x0, hb97, hv198x0, hb201⟩
                            · skip
                              obtain ⟨w202, g202, ew202, eg202, hC202, hb202⟩ := new_block w186 [(.int .i64 0), (.int .i64 0), (.slice none 0 0)] 49
                              refine xk_val (w' := w202) (b := false) (.pointer (some ⟨g202, 0, none⟩)) rfl  (y_alloc (by rw [ew202, eg202]; kernel_rfl)) rfl (fun _ => hS.ext hC202) ?_
                              have h0 := h0.ext hC202
                              have h1 := h1.ext hC202
                              have hb3 := hb3.chg hC202 (fun h => nomatch h)
                              have hb4 := hb4.chg hC202 (fun h => nomatch h)
                              have hv18x0 := hv18x0.ext hC202
                              have hb22 := hb22.chg hC202 (fun h => nomatch h)
                              have hvi131x0 := hvi131x0.ext hC202
                              have hb87 := hb87.chg hC202 (fun h => nomatch h)
                              have hvi133x0 := hvi133x0.ext hC202
                              have hb92 := hb92.chg hC202 (fun h => nomatch h)
                              have hvi143x0 := hvi143x0.ext hC202
                              have hb97 := hb97.chg hC202 (fun h => nomatch h)
                              have hv112x0 := hv112x0.ext hC202
                              have hv125x0 := hv125x0.ext hC202
                              have hv186x0 := hv186x0.ext hC202
                              have hC := hC.ext hC202
                              have hO := hO.new (X' := [g202]) hC202 (fun q hq => by rw [List.mem_singleton.1 hq, eg202]; exact Nat.le_refl _) (List.nodup_cons.2 ⟨(fun h => nomatch h), List.nodup_nil⟩) (fun q hq => by rw [List.mem_singleton.1 hq]; exact hb202.lt)
                              have hS := hS.ext hC202
                              refine x_one (i := 3) (by kernel_rfl) ?_
                              refine xk_call (b := false) rfl  Bd32 rfl (c_laws_toNetwork (M := M) (aY.1, aY.2.1, aY.2.2) h1 hO.fut hr154) rfl (by rintro _ _ _ ⟨a203x0, n203x0, c203x0, f203x0, rfl, hC203, hv203x0, hOc203⟩; exact hS.ext hC203) ?_
                              rintro _ w203 ⟨a203x0, n203x0, c203x0, f203x0, rfl, hC203, hv203x0, hOc203⟩
                              have h0 := h0.ext hC203
                              have h1 := h1.ext hC203
                              have hb3 := hb3.chg hC203 (fun h => nomatch h)
                              have hb4 := hb4.chg hC203 (fun h => nomatch h)
                              have hv18x0 := hv18x0.ext hC203
                              have hb22 := hb22.chg hC203 (fun h => nomatch h)
                              have hvi131x0 := hvi131x0.ext hC203
                              have hb87 := hb87.chg hC203 (fun h => nomatch h)
                              have hvi133x0 := hvi133x0.ext hC203
                              have hb92 := hb92.chg hC203 (fun h => nomatch h)
                              have hvi143x0 := hvi143x0.ext hC203
                              have hb97 := hb97.chg hC203 (fun h => nomatch h)
                              have hv112x0 := hv112x0.ext hC203
                              have hv125x0 := hv125x0.ext hC203
                              have hv186x0 := hv186x0.ext hC203
                              have hb202 := hb202.chg hC203 (fun h => nomatch h)
                              have hC := hC.ext hC203
                              have hO := Own.join0 hO hC203 hOc203
                              have hO := hO.perm (R := f203x0 ++ (([g202]) ++ (f186x0 ++ (fi143x0 ++ (fi133x0 ++ (fi131x0 ++ (f125x0 ++ (f112x0 ++ (([g96]) ++ (([g91]) ++ (([g86]) ++ (([g21]) ++ (f18x0 ++ (([g4]) ++ (([g3]) ++ ([])))))))))))))))) (by simp)
                              have hS := hS.ext hC203
                              refine x_one (i := 4) (by kernel_rfl) ?_
                              have hO := hO.fr2
                              refine xk_call (b := false) rfl  Bd68 rfl (c_impl_JoinNetworks (M := (Less (Less M f186x0) f203x0)) (r151.1, r151.2.1, r151.2.2) (r154.1, r154.2.1, r154.2.2) ((((Frz.os (Frz.pr (Frz.os Frz.int) (Frz.pr Frz.int (Frz.os (Frz.os Frz.int)))))).val hv186x0 Less.sub Less.not).sub Less.sub) (((Frz.os (Frz.pr (Frz.os Frz.int) (Frz.pr Frz.int (Frz.os (Frz.os Frz.int)))))).val (hv203x0.sub Less.sub) Less.sub Less.not) (hO.less).less.fut hr157) rfl (by rintro _ _ _ ⟨a206x0, n206x0, c206x0, f206x0, rfl, hC206, hv206x0, hOc206⟩; exact hS.ext hC206) ?_
                              rintro _ w206 ⟨a206x0, n206x0, c206x0, f206x0, rfl, hC206, hv206x0, hOc206⟩
                              have h0 := h0.ext hC206
                              have h1 := h1.ext hC206
                              have hb3 := hb3.chg hC206 (fun h => nomatch h)
                              have hb4 := hb4.chg hC206 (fun h => nomatch h)
                              have hv18x0 := hv18x0.ext hC206
                              have hb22 := hb22.chg hC206 (fun h => nomatch h)
                              have hvi131x0 := hvi131x0.ext hC206
                              have hb87 := hb87.chg hC206 (fun h => nomatch h)
                              have hvi133x0 := hvi133x0.ext hC206
                              have hb92 := hb92.chg hC206 (fun h => nomatch h)
                              have hvi143x0 := hvi143x0.ext hC206
                              have hb97 := hb97.chg hC206 (fun h => nomatch h)
                              have hv112x0 := hv112x0.ext hC206
                              have hv125x0 := hv125x0.ext hC206
                              have hv186x0 := hv186x0.ext hC206
                              have hb202 := hb202.chg hC206 (fun h => nomatch h)
                              have hv203x0 := hv203x0.ext hC206
                              have hC := hC.ext hC206
                              have hO := Own.join0 hO hC206 hOc206
                              have hO := hO.perm (R := f206x0 ++ (f186x0 ++ (f203x0 ++ (([g202]) ++ (fi143x0 ++ (fi133x0 ++ (fi131x0 ++ (f125x0 ++ (f112x0 ++ (([g96]) ++ (([g91]) ++ (([g86]) ++ (([g21]) ++ (f18x0 ++ (([g4]) ++ (([g3]) ++ ([]))))))))))))))))) (by simp)
                              have hv206x0 := hv206x0.free (M' := M) (Free.os (Free.pr (Free.os Free.int) (Free.pr Free.int (Free.os (Free.os Free.int)))))
                              have hS := hS.ext hC206
                              refine x_p 5 (.tuple #[(.agg #[(.int .i64 r157.1.1), (.int .i64 r157.1.2.1), (.slice a206x0 n206x0 c206x0)]), (.bool r157.2)]) rfl (by kernel_rfl)  (fun _ => y_move rfl) (fun _ => hS) ?_
                              refine x_p 6 (.agg #[(.int .i64 r157.1.1), (.int .i64 r157.1.2.1), (.slice a206x0 n206x0 c206x0)]) rfl (by kernel_rfl)  (fun _ => y_extract rfl (by kernel_rfl)) (fun _ => hS) ?_
                              refine x_p 7 (.bool r157.2) rfl (by kernel_rfl)  (fun _ => y_extract rfl (by kernel_rfl)) (fun _ => hS) ?_
                              refine x_one (i := 9) (by kernel_rfl) ?_
                              obtain ⟨w209, hst209, hC209, hb209⟩ := box_store (P := Try.prog) hb202 [] [(.int .i64 0), (.int .i64 0), (.slice none 0 0)] [] [(.int .i64 r157.1.1), (.int .i64 r157.1.2.1), (.slice a206x0 n206x0 c206x0)] rfl rfl (by intro u hu; simp only [List.mem_cons, List.not_mem_nil, or_false] at hu; rcases hu with rfl | rfl | rfl <;> rfl)
                              refine xk_skip (w' := w209) (b := true) rfl (ys_store rfl rfl (hst209 _ _ rfl Sz49)) rfl (fun h => nomatch h) ?_
                              have hO := hO.fr3
                              have h0 := h0.mut hC209 (fun g hg => hO.inM g ((fun _ h => h) g hg)) (fun _ _ h => nomatch h)
                              have h1 := h1.mut hC209 (fun g hg => hO.inM g ((fun _ h => h) g hg)) (fun _ _ h => nomatch h)
                              have hb3 := hb3.chg hC209 (fun hg => hO.apart _ ((fun _ h => h) _ hg) (mem_r (mem_r (mem_r (mem_r (mem_r (mem_r (mem_r (mem_r (mem_r (mem_r (mem_r (mem_r (mem_r (mem_r (mem_l (List.mem_singleton.2 rfl)))))))))))))))))
                              have hb4 := hb4.chg hC209 (fun hg => hO.apart _ ((fun _ h => h) _ hg) (mem_r (mem_r (mem_r (mem_r (mem_r (mem_r (mem_r (mem_r (mem_r (mem_r (mem_r (mem_r (mem_r (mem_l (List.mem_singleton.2 rfl))))))))))))))))
                              have hv18x0 := hv18x0.mut hC209 (fun g hg => hO.inM g ((fun _ h => h) g hg)) (fun g hg e => hO.apart g ((fun _ h => h) g hg) (mem_r (mem_r (mem_r (mem_r (mem_r (mem_r (mem_r (mem_r (mem_r (mem_r (mem_r (mem_r (mem_l (e)))))))))))))))
                              have hb22 := hb22.chg hC209 (fun hg => hO.apart _ ((fun _ h => h) _ hg) (mem_r (mem_r (mem_r (mem_r (mem_r (mem_r (mem_r (mem_r (mem_r (mem_r (mem_r (mem_l (List.mem_singleton.2 rfl))))))))))))))
                              have hvi131x0 := hvi131x0.mut hC209 (fun g hg => hO.inM g ((fun _ h => h) g hg)) (fun g hg e => hO.apart g ((fun _ h => h) g hg) (mem_r (mem_r (mem_r (mem_r (mem_r (mem_l (e))))))))
                              have hb87 := hb87.chg hC209 (fun hg => hO.apart _ ((fun _ h => h) _ hg) (mem_r (mem_r (mem_r (mem_r (mem_r (mem_r (mem_r (mem_r (mem_r (mem_r (mem_l (List.mem_singleton.2 rfl)))))))))))))
                              have hvi133x0 := hvi133x0.mut hC209 (fun g hg => hO.inM g ((fun _ h => h) g hg)) (fun g hg e => hO.apart g ((fun _ h => h) g hg) (mem_r (mem_r (mem_r (mem_r (mem_l (e)))))))
                              have hb92 := hb92.chg hC209 (fun hg => hO.apart _ ((fun _ h => h) _ hg) (mem_r (mem_r (mem_r (mem_r (mem_r (mem_r (mem_r (mem_r (mem_r (mem_l (List.mem_singleton.2 rfl))))))))))))
                              have hvi143x0 := hvi143x0.mut hC209 (fun g hg => hO.inM g ((fun _ h => h) g hg)) (fun g hg e => hO.apart g ((fun _ h => h) g hg) (mem_r (mem_r (mem_r (mem_l (e))))))
                              have hb97 := hb97.chg hC209 (fun hg => hO.apart _ ((fun _ h => h) _ hg) (mem_r (mem_r (mem_r (mem_r (mem_r (mem_r (mem_r (mem_r (mem_l (List.mem_singleton.2 rfl)))))))))))
                              have hv112x0 := hv112x0.mut hC209 (fun g hg => hO.inM g ((fun _ h => h) g hg)) (fun g hg e => hO.apart g ((fun _ h => h) g hg) (mem_r (mem_r (mem_r (mem_r (mem_r (mem_r (mem_r (mem_l (e))))))))))
                              have hv125x0 := hv125x0.mut hC209 (fun g hg => hO.inM g ((fun _ h => h) g hg)) (fun g hg e => hO.apart g ((fun _ h => h) g hg) (mem_r (mem_r (mem_r (mem_r (mem_r (mem_r (mem_l (e)))))))))
                              have hv186x0 := hv186x0.mut hC209 (fun g hg => hO.inM g ((fun _ h => h) g hg)) (fun g hg e => hO.apart g ((fun _ h => h) g hg) (mem_r (mem_l (e))))
                              have hv203x0 := hv203x0.mut hC209 (fun g hg => hO.inM g ((fun _ h => h) g hg)) (fun g hg e => hO.apart g ((fun _ h => h) g hg) (mem_r (mem_r (mem_l (e)))))
                              have hv206x0 := hv206x0.mut hC209 (fun g hg => hO.inM g ((fun _ h => h) g hg)) (fun g hg e => hO.apart g ((fun _ h => h) g hg) (mem_l (e)))
                              have hC := hC.step hC209 (fun g hg => hO.inN g ((fun _ h => h) g hg))
                              have hO := hO.ext hC209
                              have hb209 : BoxV w209 g202 49 [(.int .i64 r157.1.1), (.int .i64 r157.1.2.1), (.slice a206x0 n206x0 c206x0)] := hb209
                              refine x_p 10 (.bool r157.2) rfl (by kernel_rfl)  (fun _ => y_assign rfl) (fun h => nomatch h) ?_
                              refine x_end (by kernel_rfl) ?_
                              clear hS
                              have hO := hO.fr2
                              have hO := hO.drop
                              have hO := hO.fr2
                              have hO := hO.drop
                              have hO := hO.fr3
                              have hO := hO.drop
                              have hO := hO.fr3
                              have hO := hO.drop
                              have hO := hO.fr3
                              have hO := hO.drop
                              have hO := hO.fr3
                              have hO := hO.drop
                              have hO := hO.fr4
                              have hO := hO.drop
                              have hO := hO.fr4
                              have hO := hO.drop
                              have hO := hO.fr6
                              have hO := hO.drop
                              have hO := hO.fr6
                              have hO := hO.drop
                              have hO := hO.fr5
                              have hO := hO.fr5
                              have hO := hO.fr5
                              have hO := hO.fr5
                              have hO := hO.fr5
                              have hO := hO.fr5
                              exact ⟨_, a206x0, c206x0, f206x0, g202, n206x0, fr_ovl 119 ⟨rfl, rfl, rfl, rfl, rfl, rfl, rfl, rfl, trivial⟩, hC, hO, hv18x0, hb22, hvi143x0, hb97, hv206x0, hb209⟩
                          · skip
                            obtain ⟨w210, g210, ew210, eg210, hC210, hb210⟩ := new_block w185 [(.int .i64 0), (.int .i64 0), (.slice none 0 0)] 49
                            refine xk_val (w' := w210) (b := false) (.pointer (some ⟨g210, 0, none⟩)) rfl  (y_alloc (by rw [ew210, eg210]; kernel_rfl)) rfl (fun _ => hS.ext hC210) ?_
                            have h0 := h0.ext hC210
                            have h1 := h1.ext hC210
                            have hb3 := hb3.chg hC210 (fun h => nomatch h)
                            have hb4 := hb4.chg hC210 (fun h => nomatch h)
                            have hv18x0 := hv18x0.ext hC210
                            have hb22 := hb22.chg hC210 (fun h => nomatch h)
                            have hvi131x0 := hvi131x0.ext hC210
                            have hb87 := hb87.chg hC210 (fun h => nomatch h)
                            have hvi133x0 := hvi133x0.ext hC210
                            have hb92 := hb92.chg hC210 (fun h => nomatch h)
                            have hvi143x0 := hvi143x0.ext hC210
                            have hb97 := hb97.chg hC210 (fun h => nomatch h)
                            have hv112x0 := hv112x0.ext hC210
                            have hv125x0 := hv125x0.ext hC210
                            have hC := hC.ext hC210
                            have hO := hO.new (X' := [g210]) hC210 (fun q hq => by rw [List.mem_singleton.1 hq, eg210]; exact Nat.le_refl _) (List.nodup_cons.2 ⟨(fun h => nomatch h), List.nodup_nil⟩) (fun q hq => by rw [List.mem_singleton.1 hq]; exact hb210.lt)
                            have hS := hS.ext hC210
                            refine x_one (i := 1) (by kernel_rfl) ?_
                            refine xk_call (b := false) rfl  Bd32 rfl (c_laws_toNetwork (M := M) (aX.1, aX.2.1, aX.2.2) h0 hO.fut hr151) rfl (by rintro _ _ _ ⟨a211x0, n211x0, c211x0, f211x0, rfl, hC211, hv211x0, hOc211⟩; exact hS.ext hC211) ?_
                            rintro _ w211 ⟨a211x0, n211x0, c211x0, f211x0, rfl, hC211, hv211x0, hOc211⟩
                            have h0 := h0.ext hC211
                            have h1 := h1.ext hC211
                            have hb3 := hb3.chg hC211 (fun h => nomatch h)
                            have hb4 := hb4.chg hC211 (fun h => nomatch h)
                            have hv18x0 := hv18x0.ext hC211
                            have hb22 := hb22.chg hC211 (fun h => nomatch h)
                            have hvi131x0 := hvi131x0.ext hC211
                            have hb87 := hb87.chg hC211 (fun h => nomatch h)
                            have hvi133x0 := hvi133x0.ext hC211
                            have hb92 := hb92.chg hC211 (fun h => nomatch h)
                            have hvi143x0 := hvi143x0.ext hC211
                            have hb97 := hb97.chg hC211 (fun h => nomatch h)
                            have hv112x0 := hv112x0.ext hC211
                            have hv125x0 := hv125x0.ext hC211
                            have hb210 := hb210.chg hC211 (fun h => nomatch h)
                            have hC := hC.ext hC211
                            have hO := Own.join0 hO hC211 hOc211
                            have hO := hO.perm (R := f211x0 ++ (([g210]) ++ (fi143x0 ++ (fi133x0 ++ (fi131x0 ++ (f125x0 ++ (f112x0 ++ (([g96]) ++ (([g91]) ++ (([g86]) ++ (([g21]) ++ (f18x0 ++ (([g4]) ++ (([g3]) ++ ([]))))))))))))))) (by simp)
                            have hS := hS.ext hC211
                            refine x_one (i := 3) (by kernel_rfl) ?_
                            refine xk_call (b := false) rfl  Bd32 rfl (c_laws_toNetwork (M := M) (aY.1, aY.2.1, aY.2.2) h1 hO.fut hr154) rfl (by rintro _ _ _ ⟨a214x0, n214x0, c214x0, f214x0, rfl, hC214, hv214x0, hOc214⟩; exact hS.ext hC214) ?_
                            rintro _ w214 ⟨a214x0, n214x0, c214x0, f214x0, rfl, hC214, hv214x0, hOc214⟩
                            have h0 := h0.ext hC214
                            have h1 := h1.ext hC214
                            have hb3 := hb3.chg hC214 (fun h => nomatch h)
                            have hb4 := hb4.chg hC214 (fun h => nomatch h)
                            have hv18x0 := hv18x0.ext hC214
                            have hb22 := hb22.chg hC214 (fun h => nomatch h)
                            have hvi131x0 := hvi131x0.ext hC214
                            have hb87 := hb87.chg hC214 (fun h => nomatch h)
                            have hvi133x0 := hvi133x0.ext hC214
                            have hb92 := hb92.chg hC214 (fun h => nomatch h)
                            have hvi143x0 := hvi143x0.ext hC214
                            have hb97 := hb97.chg hC214 (fun h => nomatch h)
                            have hv112x0 := hv112x0.ext hC214
                            have hv125x0 := hv125x0.ext hC214
                            have hb210 := hb210.chg hC214 (fun h => nomatch h)
                            have hv211x0 := hv211x0.ext hC214
                            have hC := hC.ext hC214
                            have hO := Own.join0 hO hC214 hOc214
                            have hO := hO.perm (R := f214x0 ++ (f211x0 ++ (([g210]) ++ (fi143x0 ++ (fi133x0 ++ (fi131x0 ++ (f125x0 ++ (f112x0 ++ (([g96]) ++ (([g91]) ++ (([g86]) ++ (([g21]) ++ (f18x0 ++ (([g4]) ++ (([g3]) ++ ([])))))))))))))))) (by simp)
                            have hS := hS.ext hC214
                            refine x_one (i := 4) (by kernel_rfl) ?_
                            have hO := hO.fr1
                            refine xk_call (b := false) rfl  Bd68 rfl (c_impl_JoinNetworks (M := (Less (Less M f211x0) f214x0)) (r151.1, r151.2.1, r151.2.2) (r154.1, r154.2.1, r154.2.2) ((((Frz.os (Frz.pr (Frz.os Frz.int) (Frz.pr Frz.int (Frz.os (Frz.os Frz.int)))))).val hv211x0 Less.sub Less.not).sub Less.sub) (((Frz.os (Frz.pr (Frz.os Frz.int) (Frz.pr Frz.int (Frz.os (Frz.os Frz.int)))))).val (hv214x0.sub Less.sub) Less.sub Less.not) (hO.less).less.fut hr157) rfl (by rintro _ _ _ ⟨a217x0, n217x0, c217x0, f217x0, rfl, hC217, hv217x0, hOc217⟩; exact hS.ext hC217) ?_
                            rintro _ w217 ⟨a217x0, n217x0, c217x0, f217x0, rfl, hC217, hv217x0, hOc217⟩
                            have h0 := h0.ext hC217
                            have h1 := h1.ext hC217
                            have hb3 := hb3.chg hC217 (fun h => nomatch h)
                            have hb4 := hb4.chg hC217 (fun h => nomatch h)
                            have hv18x0 := hv18x0.ext hC217
                            have hb22 := hb22.chg hC217 (fun h => nomatch h)
                            have hvi131x0 := hvi131x0.ext hC217
                            have hb87 := hb87.chg hC217 (fun h => nomatch h)
                            have hvi133x0 := hvi133x0.ext hC217
                            have hb92 := hb92.chg hC217 (fun h => nomatch h)
                            have hvi143x0 := hvi143x0.ext hC217
                            have hb97 := hb97.chg hC217 (fun h => nomatch h)
                            have hv112x0 := hv112x0.ext hC217
                            have hv125x0 := hv125x0.ext hC217
                            have hb210 := hb210.chg hC217 (fun h => nomatch h)
                            have hv211x0 := hv211x0.ext hC217
                            have hv214x0 := hv214x0.ext hC217
                            have hC := hC.ext hC217
                            have hO := Own.join0 hO hC217 hOc217
                            have hO := hO.perm (R := f217x0 ++ (f211x0 ++ (f214x0 ++ (([g210]) ++ (fi143x0 ++ (fi133x0 ++ (fi131x0 ++ (f125x0 ++ (f112x0 ++ (([g96]) ++ (([g91]) ++ (([g86]) ++ (([g21]) ++ (f18x0 ++ (([g4]) ++ (([g3]) ++ ([]))))))))))))))))) (by simp)
                            have hv217x0 := hv217x0.free (M' := M) (Free.os (Free.pr (Free.os Free.int) (Free.pr Free.int (Free.os (Free.os Free.int)))))
                            have hS := hS.ext hC217
                            refine x_p 5 (.tuple #[(.agg #[(.int .i64 r157.1.1), (.int .i64 r157.1.2.1), (.slice a217x0 n217x0 c217x0)]), (.bool r157.2)]) rfl (by kernel_rfl)  (fun _ => y_move rfl) (fun _ => hS) ?_
                            refine x_p 6 (.agg #[(.int .i64 r157.1.1), (.int .i64 r157.1.2.1), (.slice a217x0 n217x0 c217x0)]) rfl (by kernel_rfl)  (fun _ => y_extract rfl (by kernel_rfl)) (fun _ => hS) ?_
                            refine x_p 7 (.bool r157.2) rfl (by kernel_rfl)  (fun _ => y_extract rfl (by kernel_rfl)) (fun _ => hS) ?_
                            refine x_one (i := 9) (by kernel_rfl) ?_
                            obtain ⟨w220, hst220, hC220, hb220⟩ := box_store (P := Try.prog) hb210 [] [(.int .i64 0), (.int .i64 0), (.slice none 0 0)] [] [(.int .i64 r157.1.1), (.int .i64 r157.1.2.1), (.slice a217x0 n217x0 c217x0)] rfl rfl (by intro u hu; simp only [List.mem_cons, List.not_mem_nil, or_false] at hu; rcases hu with rfl | rfl | rfl <;> rfl)
                            refine xk_skip (w' := w220) (b := true) rfl (ys_store rfl rfl (hst220 _ _ rfl Sz49)) rfl (fun h => nomatch h) ?_
                            have hO := hO.fr3
                            have h0 := h0.mut hC220 (fun g hg => hO.inM g ((fun _ h => h) g hg)) (fun _ _ h => nomatch h)
                            have h1 := h1.mut hC220 (fun g hg => hO.inM g ((fun _ h => h) g hg)) (fun _ _ h => nomatch h)
                            have hb3 := hb3.chg hC220 (fun hg => hO.apart _ ((fun _ h => h) _ hg) (mem_r (mem_r (mem_r (mem_r (mem_r (mem_r (mem_r (mem_r (mem_r (mem_r (mem_r (mem_r (mem_r (mem_r (mem_l (List.mem_singleton.2 rfl)))))))))))))))))
                            have hb4 := hb4.chg hC220 (fun hg => hO.apart _ ((fun _ h => h) _ hg) (mem_r (mem_r (mem_r (mem_r (mem_r (mem_r (mem_r (mem_r (mem_r (mem_r (mem_r (mem_r (mem_r (mem_l (List.mem_singleton.2 rfl))))))))))))))))
                            have hv18x0 := hv18x0.mut hC220 (fun g hg => hO.inM g ((fun _ h => h) g hg)) (fun g hg e => hO.apart g ((fun _ h => h) g hg) (mem_r (mem_r (mem_r (mem_r (mem_r (mem_r (mem_r (mem_r (mem_r (mem_r (mem_r (mem_r (mem_l (e)))))))))))))))
                            have hb22 := hb22.chg hC220 (fun hg => hO.apart _ ((fun _ h => h) _ hg) (mem_r (mem_r (mem_r (mem_r (mem_r (mem_r (mem_r (mem_r (mem_r (mem_r (mem_r (mem_l (List.mem_singleton.2 rfl))))))))))))))
                            have hvi131x0 := hvi131x0.mut hC220 (fun g hg => hO.inM g ((fun _ h => h) g hg)) (fun g hg e => hO.apart g ((fun _ h => h) g hg) (mem_r (mem_r (mem_r (mem_r (mem_r (mem_l (e))))))))
                            have hb87 := hb87.chg hC220 (fun hg => hO.apart _ ((fun _ h => h) _ hg) (mem_r (mem_r (mem_r (mem_r (mem_r (mem_r (mem_r (mem_r (mem_r (mem_r (mem_l (List.mem_singleton.2 rfl)))))))))))))
                            have hvi133x0 := hvi133x0.mut hC220 (fun g hg => hO.inM g ((fun _ h => h) g hg)) (fun g hg e => hO.apart g ((fun _ h => h) g hg) (mem_r (mem_r (mem_r (mem_r (mem_l (e)))))))
                            have hb92 := hb92.chg hC220 (fun hg => hO.apart _ ((fun _ h => h) _ hg) (mem_r (mem_r (mem_r (mem_r (mem_r (mem_r (mem_r (mem_r (mem_r (mem_l (List.mem_singleton.2 rfl))))))))))))
                            have hvi143x0 := hvi143x0.mut hC220 (fun g hg => hO.inM g ((fun _ h => h) g hg)) (fun g hg e => hO.apart g ((fun _ h => h) g hg) (mem_r (mem_r (mem_r (mem_l (e))))))
                            have hb97 := hb97.chg hC220 (fun hg => hO.apart _ ((fun _ h => h) _ hg) (mem_r (mem_r (mem_r (mem_r (mem_r (mem_r (mem_r (mem_r (mem_l (List.mem_singleton.2 rfl)))))))))))
                            have hv112x0 := hv112x0.mut hC220 (fun g hg => hO.inM g ((fun _ h => h) g hg)) (fun g hg e => hO.apart g ((fun _ h => h) g hg) (mem_r (mem_r (mem_r (mem_r (mem_r (mem_r (mem_r (mem_l (e))))))))))
                            have hv125x0 := hv125x0.mut hC220 (fun g hg => hO.inM g ((fun _ h => h) g hg)) (fun g hg e => hO.apart g ((fun _ h => h) g hg) (mem_r (mem_r (mem_r (mem_r (mem_r (mem_r (mem_l (e)))))))))
                            have hv211x0 := hv211x0.mut hC220 (fun g hg => hO.inM g ((fun _ h => h) g hg)) (fun g hg e => hO.apart g ((fun _ h => h) g hg) (mem_r (mem_l (e))))
                            have hv214x0 := hv214x0.mut hC220 (fun g hg => hO.inM g ((fun _ h => h) g hg)) (fun g hg e => hO.apart g ((fun _ h => h) g hg) (mem_r (mem_r (mem_l (e)))))
                            have hv217x0 := hv217x0.mut hC220 (fun g hg => hO.inM g ((fun _ h => h) g hg)) (fun g hg e => hO.apart g ((fun _ h => h) g hg) (mem_l (e)))
                            have hC := hC.step hC220 (fun g hg => hO.inN g ((fun _ h => h) g hg))
                            have hO := hO.ext hC220
                            have hb220 : BoxV w220 g210 49 [(.int .i64 r157.1.1), (.int .i64 r157.1.2.1), (.slice a217x0 n217x0 c217x0)] := hb220
                            refine x_p 10 (.bool r157.2) rfl (by kernel_rfl)  (fun _ => y_assign rfl) (fun h => nomatch h) ?_
                            refine x_end (by kernel_rfl) ?_
                            clear hS
                            have hO := hO.fr2
                            have hO := hO.drop
                            have hO := hO.fr2
                            have hO := hO.drop
                            have hO := hO.fr3
                            have hO := hO.drop
                            have hO := hO.fr3
                            have hO := hO.drop
                            have hO := hO.fr3
                            have hO := hO.drop
                            have hO := hO.fr3
                            have hO := hO.drop
                            have hO := hO.fr4
                            have hO := hO.drop
                            have hO := hO.fr4
                            have hO := hO.drop
                            have hO := hO.fr6
                            have hO := hO.drop
                            have hO := hO.fr6
                            have hO := hO.drop
                            have hO := hO.fr5
                            have hO := hO.fr5
                            have hO := hO.fr5
                            have hO := hO.fr5
                            have hO := hO.fr5
                            have hO := hO.fr5
                            exact ⟨_, a217x0, c217x0, f217x0, g210, n217x0, fr_ovl 119 ⟨rfl, rfl, rfl, rfl, rfl, rfl, rfl, rfl, trivial⟩, hC, hO, hv18x0, hb22, hvi143x0, hb97, hv217x0, hb220⟩
                        · rintro a1 w160 ⟨σ, a156x0, c156x0, f156x0, g159, n156x0, rfl, hC, hO, hv18x0, hb22, hvi143x0, hb97, hv156x0, hb160⟩
                          refine c_seq ?_
                          refine c_seq ?_
                          obtain ⟨s221, hm223, hs⟩ := bind_some hs
                          refine c_mid (I := fun a w222 => ∃ (σ : Nat → Value), a = fr 119 (ovl σ [(4, (.bool false)), (10, (.pointer (some ⟨g96, 0, none⟩))), (13, (.int .i64 r144.1)), (14, (.int .i64 r146)), (110, (.bool s221))]) ∧ Chg [] w160 w222) ?_ ?_
                          · replace hs := hm223
                            have hMid := Chg.refl [] w160
                            refine c_region ?_
                            refine pl_val (.agg #[(.int .i64 r157.1.1), (.int .i64 r157.1.2.1), (.slice a156x0 n156x0 c156x0)]) (y_load rfl ((box_load Ag49 Sz49 hb160 [] [(.int .i64 r157.1.1), (.int .i64 r157.1.2.1), (.slice a156x0 n156x0 c156x0)] [] rfl rfl (fun h => nomatch h)) _ (Chg.refl _ _))) ?_
                            refine pl_val (.agg #[(.int .i64 r19.1.1), (.int .i64 r19.1.2.1), (.slice a18x0 n18x0 c18x0)]) (y_load rfl ((box_load Ag49 Sz49 hb22 [] [(.int .i64 r19.1.1), (.int .i64 r19.1.2.1), (.slice a18x0 n18x0 c18x0)] [] rfl rfl (fun h => nomatch h)) _ (Chg.refl _ _))) ?_
                            have hO := hO.fr5
                            have hO := hO.fr2
                            obtain ⟨r225, hr225, hs⟩ := bind_some hs
                            refine pl_call Bd34 rfl (c_laws_eqNetwork (M := (Less (Less M f156x0) f18x0)) (r157.1.1, r157.1.2.1, r157.1.2.2) (r19.1.1, r19.1.2.1, r19.1.2.2) ((((Frz.os (Frz.pr (Frz.os Frz.int) (Frz.pr Frz.int (Frz.os (Frz.os Frz.int)))))).val hv156x0 Less.sub Less.not).sub Less.sub) (((Frz.os (Frz.pr (Frz.os Frz.int) (Frz.pr Frz.int (Frz.os (Frz.os Frz.int)))))).val (hv18x0.sub Less.sub) Less.sub Less.not) (hO.less).less.fut hr225) ?_
                            rintro _ w224 ⟨rfl, hC224⟩
                            have hv18x0 := hv18x0.ext hC224
                            have hb22 := hb22.chg hC224 (fun h => nomatch h)
                            have hvi143x0 := hvi143x0.ext hC224
                            have hb97 := hb97.chg hC224 (fun h => nomatch h)
                            have hv156x0 := hv156x0.ext hC224
                            have hb160 := hb160.chg hC224 (fun h => nomatch h)
                            have hMid := hMid.ext hC224
                            have hC := hC.ext hC224
                            have hO := hO.ext hC224
                            refine pl_val (.bool (!r225)) (y_not rfl) ?_
                            refine pl_val (.bool (!r225)) (y_move rfl) ?_
                            rcases bif_some hs with ⟨hc226, hs⟩ | ⟨hc226, hs⟩
                            · skip
                              refine pl_not (tg := 106) (by kernel_rfl) (congrArg Value.bool hc226) ?_
                              refine pl_not (tg := 106) (by kernel_rfl) (congrArg Value.bool hc226) ?_
                              refine pl_not (tg := 106) (by kernel_rfl) (congrArg Value.bool hc226) ?_
                              refine pl_val (.bool true) (y_pick_t (congrArg Value.bool hc226) rfl) ?_
                              refine c_nil ?_
                              cases hs
                              exact ⟨_, fr_ovl 119 ⟨rfl, rfl, rfl, rfl, rfl, trivial⟩, hMid⟩
                            · skip
                              refine pl_yes (.bool r157.2) (tg := 106) (by kernel_rfl) (congrArg Value.bool hc226) (y_move rfl) ?_
                              refine pl_yes (.bool r19.2) (tg := 106) (by kernel_rfl) (congrArg Value.bool hc226) (y_move rfl) ?_
                              refine pl_yes (.bool (!(r157.2 == r19.2))) (tg := 106) (by kernel_rfl) (congrArg Value.bool hc226) (y_bneq Try.underlying4 rfl rfl) ?_
                              refine pl_val (.bool (!(r157.2 == r19.2))) (y_pick_f (congrArg Value.bool hc226) rfl) ?_
                              refine c_nil ?_
                              cases hs
                              exact ⟨_, fr_ovl 119 ⟨rfl, rfl, rfl, rfl, rfl, trivial⟩, hMid⟩
                          · rintro a1 w222 ⟨σ, rfl, hCs221⟩
                            have hv18x0 := hv18x0.ext hCs221
                            have hb22 := hb22.chg hCs221 (fun h => nomatch h)
                            have hvi143x0 := hvi143x0.ext hCs221
                            have hb97 := hb97.chg hCs221 (fun h => nomatch h)
                            have hv156x0 := hv156x0.ext hCs221
                            have hb160 := hb160.chg hCs221 (fun h => nomatch h)
                            have hC := hC.ext hCs221
                            have hO := hO.ext hCs221
                            rcases bif_some hs with ⟨hc227, hs⟩ | ⟨hc227, hs⟩
                            · skip
                              refine c_condT (congrArg Value.bool hc227) ?_
                              refine c_seq ?_
                              refine c_region ?_
                              refine pl_val (.bool false) (y_assign rfl) ?_
                              refine c_nil ?_
                              refine wp_ret ?_
                              cases hs
                              exact ⟨_, fr_ovl 119 ⟨rfl, trivial⟩, hC⟩
                            · skip
                              refine c_condF (congrArg Value.bool hc227) ?_
                              refine wp_skip ?_
                              refine c_seq ?_
                              refine c_region ?_
                              refine pl_val (.int .i64 1) (y_assign rfl) ?_
                              refine c_nil ?_
                              refine c_seq ?_
                              refine c_region ?_
                              refine pl_val (.agg #[(.int .i64 r94.1.1), (.int .i64 r94.1.2.1), (.slice a93x0 n93x0 c93x0)]) (y_load rfl ((box_load Ag49 Sz49 hb97 [] [(.int .i64 r94.1.1), (.int .i64 r94.1.2.1), (.slice a93x0 n93x0 c93x0)] [] rfl rfl (fun h => nomatch h)) _ (Chg.refl _ _))) ?_
                              refine pl_val (.int .i64 1) (y_move rfl) ?_
                              have hO := hO.fr2
                              obtain ⟨r229, hr229, hs⟩ := bind_some hs
                              refine pl_call Bd70 rfl (c_laws_heldNetwork (M := (Less M fi143x0)) (r94.1.1, r94.1.2.1, r144.2) 1 (((Frz.os (Frz.pr (Frz.os Frz.int) (Frz.pr Frz.int (Frz.os (Frz.os Frz.int)))))).val hvi143x0 Less.sub Less.not) hO.less.fut hr229) ?_
                              rintro _ w228 ⟨rfl, hC228⟩
                              have hv18x0 := hv18x0.ext hC228
                              have hb22 := hb22.chg hC228 (fun h => nomatch h)
                              have hvi143x0 := hvi143x0.ext hC228
                              have hb97 := hb97.chg hC228 (fun h => nomatch h)
                              have hv156x0 := hv156x0.ext hC228
                              have hb160 := hb160.chg hC228 (fun h => nomatch h)
                              have hC := hC.ext hC228
                              have hO := hO.ext hC228
                              refine pl_val (.int .i64 r229) (y_assign rfl) ?_
                              refine c_nil ?_
                              refine c_seq ?_
                              refine c_seq ?_
                              refine c_region ?_
                              refine pl_val (.int .i64 r229) (y_move rfl) ?_
                              refine pl_val (.bool (decide (r229 < 0))) (y_lss rfl rfl) ?_
                              refine c_nil ?_
                              rcases bif_some hs with ⟨hc230, hs⟩ | ⟨hc230, hs⟩
                              · skip
                                refine c_condT (congrArg Value.bool hc230) ?_
                                refine c_seq ?_
                                refine c_region ?_
                                refine pl_val (.bool false) (y_assign rfl) ?_
                                refine c_nil ?_
                                refine wp_ret ?_
                                cases hs
                                exact ⟨_, fr_ovl 119 ⟨rfl, trivial⟩, hC⟩
                              · skip
                                refine c_condF (congrArg Value.bool hc230) ?_
                                refine wp_skip ?_
                                refine c_seq ?_
                                refine c_seq ?_
                                refine c_region ?_
                                refine pl_val (.int .i64 r229) (y_move rfl) ?_
                                refine pl_val (.int .i64 r144.1) (y_move rfl) ?_
                                refine pl_val (.bool (r229 != r144.1)) (y_neq rfl rfl) ?_
                                refine c_nil ?_
                                rcases bif_some hs with ⟨hc231, hs⟩ | ⟨hc231, hs⟩
                                · skip
                                  refine c_condT (congrArg Value.bool hc231) ?_
                                  refine c_seq ?_
                                  refine c_region ?_
                                  refine pl_val (.bool false) (y_assign rfl) ?_
                                  refine c_nil ?_
                                  refine wp_ret ?_
                                  cases hs
                                  exact ⟨_, fr_ovl 119 ⟨rfl, trivial⟩, hC⟩
                                · skip
                                  refine c_condF (congrArg Value.bool hc231) ?_
                                  refine wp_skip ?_
                                  refine c_seq ?_
                                  refine c_region ?_
                                  refine pl_val (.bool true) (y_assign rfl) ?_
                                  refine c_nil ?_
                                  refine wp_ret ?_
                                  cases hs
                                  exact ⟨_, fr_ovl 119 ⟨rfl, trivial⟩, hC⟩

end Go.Proofs
