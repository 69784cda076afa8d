/- What functions of the program compute, as plain functions, and that a call gives just that. Conditions: those named in each theorem. -/
import Derived.Test.YtceenhnjdnggjaaGFoc
import Derived.Test.YtceenhnjdnggjaaRows
set_option linter.unusedVariables false
namespace Go.Proofs
open Go.G Go.RowKit
set_option maxRecDepth 100000

theorem Sl22 : SlT Try.prog 22 3 := Try.underlying22

theorem Rw22 : RowT Try.prog 22 3 1 [(.int .i64 0)] := ⟨Try.underlying22, ⟨_, _, rfl, rfl, rfl, rfl, by decide⟩, rfl, by decide⟩

theorem Sz3 : SzT Try.prog 3 1 := ⟨_, rfl, rfl⟩

theorem Ag3 : AggT Try.prog 3 false := fun _ => by kernel_rfl

def k_laws_toIntS (M : Nat → Prop) (w0 : World) (r : (List Int)) (a : Act) (w : World) : Prop :=
  ∃ (σ : Nat → Value) (ra0 : Option Addr) (rn0 rc0 : Nat) (rf0 : List Nat), a = fr 22 (ovl σ [(2, (.slice ra0 rn0 rc0))]) ∧ Chg [] w0 w ∧ (RT.os 3 (RT.int .i64)).val M w (.slice ra0 rn0 rc0) r rf0 ∧ Own (Nw w0 []) (fun _ => True) w (rf0 ++ ([]))
def s_laws_toIntS (a_ : List Int) : Option ((List Int)) :=
  (mks (a_.length : Int) (0 : Int)).bind fun y3 =>
  (forC (S := (List Int)) (R := (List Int)) (fun k18 s16 =>
  (idx a_ k18).bind fun x24 =>
  (idx s16 k18).bind fun x26 =>
  some (.nx (List.set s16 (Int.toNat k18) x24))) 0 (a_.length : Int) y3).bind fun o20 => after o20 (fun r_ => some r_) (fun s16 =>
  some s16)
set_option maxHeartbeats 4000000 in
theorem c_laws_toIntS {M : Nat → Prop} {w : World} {pa0 : Option Addr} {pn0 pc0 : Nat} (a_ : List Int) (h0 : (RT.rs (RT.int .i64)).val M w (.slice pa0 pn0 pc0) a_ ([])) (hM : ∀ g, w.heap.size ≤ g → M g) {r : (List Int)} (hs : s_laws_toIntS a_ = some r) :
    Gives Try.prog 16 [(.slice pa0 pn0 pc0)] w (fun v w' => ∃ (ra0 : Option Addr) (rn0 rc0 : Nat) (rf0 : List Nat), v = (.slice ra0 rn0 rc0) ∧ Chg [] w w' ∧ (RT.os 3 (RT.int .i64)).val M w' (.slice ra0 rn0 rc0) r rf0 ∧ Own (Nw w []) (fun _ => True) w' (rf0 ++ ([]))) := by
  refine calls_fr Try.func16 rfl Try.ntmps16 (Nat.le_of_ble_eq_true rfl) ?_
  have hO := Own.start (N := Nw w []) hM Nw.fut
  have hC := Chg.refl [] w
  unfold s_laws_toIntS at hs
  refine wp_mono (Q := KPost (k_laws_toIntS M w r)) ?_ (fun e a w1 h => ?_)
  rotate_left
  · cases e
    case ret =>
      obtain ⟨σ, ra0, rn0, rc0, rf0, rfl, hrest⟩ := h
      exact ret1x Try.results16 (res_tmp rfl) ⟨ra0, rn0, rc0, rf0, rfl, hrest⟩
    all_goals exact (h : False).elim
  refine c_seq ?_
  refine c_region ?_
  refine pl_val (.slice none 0 0) (y_assign rfl) ?_
  refine c_nil ?_
  refine c_seq ?_
  refine c_region ?_
  refine pl_val (.slice pa0 pn0 pc0) (y_move rfl) ?_
  refine pl_val (.int .i64 (a_.length : Int)) (y_len' Sl22 (rs_len h0) rfl) ?_
  obtain ⟨y3, hy3, hs⟩ := bind_some hs
  obtain ⟨a2, n2, c2, w2, f2, hm2, hC2, hfr2, hv2⟩ := mk_os (M := M) (w := w) (r := (RT.int .i64)) Rw22 hy3 (fun _ _ => ⟨rfl, rfl⟩)
  refine pl_val (w' := w2) (.slice a2 n2 c2) (y_make rfl rfl hm2) ?_
  have h0 := h0.ext hC2
  have hC := hC.ext hC2
  have hO := hO.new hC2 hfr2 (os_nodup hv2) hv2.fpl
  refine pl_val (.slice a2 n2 c2) (y_assign rfl) ?_
  refine c_nil ?_
  refine c_seq ?_
  refine c_seq ?_
  refine c_region ?_
  refine pl_val (.int .i64 0) (y_assign rfl) ?_
  refine c_nil ?_
  obtain ⟨o20, hl21, hs⟩ := bind_some hs
  refine wp_block ?_
  refine wp_forC (id := 0) (a_.length : Int) (I := fun k18 s16 a w17 => ∃ (σ : Nat → Value) (f22 : List Nat), a = fr 22 (ovl σ [(0, (.slice pa0 pn0 pc0)), (3, (.slice a2 n2 c2)), (4, (.int .i64 k18))]) ∧ Chg [] w w17 ∧ Own (Nw w []) M w17 (f22 ++ []) ∧ (RT.rs (RT.int .i64)).val M w17 (.slice pa0 pn0 pc0) a_ ([]) ∧ (RT.os 3 (RT.int .i64)).val M w17 (.slice a2 n2 c2) s16 f22) (J := fun s16 a w17 => ∃ (σ : Nat → Value) (f23 : List Nat), a = fr 22 (ovl σ [(3, (.slice a2 n2 c2))]) ∧ Chg [] w w17 ∧ Own (Nw w []) M w17 (f23 ++ []) ∧ (RT.rs (RT.int .i64)).val M w17 (.slice pa0 pn0 pc0) a_ ([]) ∧ (RT.os 3 (RT.int .i64)).val M w17 (.slice a2 n2 c2) s16 f23) (K := (k_laws_toIntS M w)) ?_ ?_ 0 y3 o20 _ _ ?_ hl21 ?_
  · rintro k18 s16 a w17 ⟨σ, f22, rfl, hC, hO, h0, hv22⟩ hlt
    refine c_seq ?_
    refine c_seq ?_
    refine c_region ?_
    refine pl_val (.int .i64 k18) (y_move rfl) ?_
    refine pl_val (.slice pa0 pn0 pc0) (y_move rfl) ?_
    refine pl_val (.int .i64 (a_.length : Int)) (y_len' Sl22 (rs_len h0) rfl) ?_
    refine pl_val (.bool (decide (k18 < (a_.length : Int)))) (y_lss rfl rfl) ?_
    refine c_nil ?_
    refine c_condF (congrArg Value.bool (decide_eq_false hlt)) ?_
    refine wp_exit ?_
    exact ⟨rfl, _, f22, fr_ovl 22 ⟨rfl, trivial⟩, hC, hO, h0, hv22⟩
  · rintro k18 s16 o20 a w17 ⟨σ, f22, rfl, hC, hO, h0, hv22⟩ hlt hw hs
    refine c_seq ?_
    refine c_seq ?_
    refine c_region ?_
    refine pl_val (.int .i64 k18) (y_move rfl) ?_
    refine pl_val (.slice pa0 pn0 pc0) (y_move rfl) ?_
    refine pl_val (.int .i64 (a_.length : Int)) (y_len' Sl22 (rs_len h0) rfl) ?_
    refine pl_val (.bool (decide (k18 < (a_.length : Int)))) (y_lss rfl rfl) ?_
    refine c_nil ?_
    refine c_condT (congrArg Value.bool (decide_eq_true hlt)) ?_
    refine wp_skip ?_
    refine c_seq ?_
    refine wp_block ?_
    refine c_region ?_
    refine pl_val (.slice a2 n2 c2) (y_move rfl) ?_
    refine pl_val (.int .i64 k18) (y_move rfl) ?_
    refine pl_val (.slice pa0 pn0 pc0) (y_move rfl) ?_
    refine pl_val (.int .i64 k18) (y_move rfl) ?_
    obtain ⟨x24, hx24, hs⟩ := bind_some hs
    obtain ⟨b25, o25, hp25, ha25⟩ := rs_idx Sl22 Sz3 h0 hx24
    refine pl_val (.pointer (some ⟨b25, o25, none⟩)) (hp25 _ _ _ _ _ _ _ _ _ rfl rfl) ?_
    refine pl_val (.int .i64 x24) (y_load rfl ((at_load_int Ag3 Sz3 ha25) _ (Chg.refl _ _))) ?_
    obtain ⟨x26, hx26, hs⟩ := bind_some hs
    obtain ⟨g27, f27, hg27, hk27, hp27, ha27, hf27⟩ := os_idx Sl22 Sz3 hv22 hx26
    refine pl_val (.pointer (some ⟨g27, 0 + Int.toNat k18 * 1, none⟩)) (hp27 _ _ _ _ _ _ _ _ _ rfl rfl) ?_
    obtain ⟨w28, f28, hst28, hC28, hf28, hv28⟩ := os_store (P := Try.prog) (c' := [(.int .i64 x24)]) hg27 hv22 hk27 (fun g hg => hO.inM g (os_block hv22 g (by simpa using hg))) ⟨rfl, rfl⟩ List.nodup_nil (fun _ h => nomatch h) (fun _ h => .inl h)
    have hG28 : ∀ q ∈ [g27], q ∈ f22 := fun q hq => os_block hv22 q (by rw [hg27]; exact hq)
    refine pl_skip (w' := w28) (ys_store rfl rfl (hst28 _ _ rfl Sz3)) ?_
    have h0 := h0.mut hC28 (fun g hg => hO.inM g (hG28 g hg)) (fun _ _ h => nomatch h)
    have hC := hC.step hC28 (fun g hg => hO.inN g (hG28 g hg))
    have hO := hO.grow hC28 (fun q hq => .inl ((hf28 q hq).resolve_right (fun h => nomatch h))) (os_nodup hv28) hv28.fpl
    refine c_nil ?_
    refine c_region ?_
    refine pl_val (.int .i64 k18) (y_move rfl) ?_
    refine pl_val (.int .i64 (w64 (k18 + 1))) (y_add rfl rfl) ?_
    refine pl_val (.int .i64 (w64 (k18 + 1))) (y_assign rfl) ?_
    refine c_nil ?_
    cases hs
    exact ⟨_, f28, fr_ovl 22 ⟨rfl, rfl, congrArg (Value.int .i64) hw, trivial⟩, hC, hO, h0, hv28⟩
  · skip
    exact ⟨_, f2, fr_ovl 22 ⟨rfl, rfl, rfl, trivial⟩, hC, hO, h0, hv2⟩
  · cases o20 with
    | nx _ => exact True.intro
    | rt r_ =>
      have hs := after_rt hs
      intro a1 w1 hK
      cases hs
      exact hK
    | br s16 =>
      have hs := after_br hs
      rintro a1 w17 ⟨σ, f23, rfl, hC, hO, h0, hv23⟩
      refine c_seq ?_
      refine c_region ?_
      refine pl_val (.slice a2 n2 c2) (y_move rfl) ?_
      refine pl_val (.slice a2 n2 c2) (y_assign rfl) ?_
      refine c_nil ?_
      refine wp_ret ?_
      cases hs
      exact ⟨_, a2, n2, c2, f23, fr_ovl 22 ⟨rfl, trivial⟩, hC, hv23, hO.top⟩

def k_spec_l1In (M : Nat → Prop) (w0 : World) (r : Bool) (a : Act) (w : World) : Prop :=
  ∃ (σ : Nat → Value) , a = fr 15 (ovl σ [(6, (.bool r))]) ∧ Chg [] w0 w
def s_spec_l1In (x_ : Int) (a_ : Int) (b : Int) : Option (Bool) :=
  (bif (decide (a_ ≤ x_)) then some (decide (x_ ≤ b)) else some false)
set_option maxHeartbeats 4000000 in
theorem c_spec_l1In {M : Nat → Prop} {w : World}  (x_ : Int) (a_ : Int) (b : Int)  (hM : ∀ g, w.heap.size ≤ g → M g) {r : Bool} (hs : s_spec_l1In x_ a_ b = some r) :
    Gives Try.prog 137 [(.int .i64 x_), (.int .i64 a_), (.int .i64 b)] w (fun v w' => v = (.bool r) ∧ Chg [] w w') := by
  refine calls_fr Try.func137 rfl Try.ntmps137 (Nat.le_of_ble_eq_true rfl) ?_
  have hO := Own.start (N := Nw w []) hM Nw.fut
  have hC := Chg.refl [] w
  unfold s_spec_l1In at hs
  refine wp_mono (Q := KPost (k_spec_l1In M w r)) ?_ (fun e a w1 h => ?_)
  rotate_left
  · cases e
    case ret =>
      obtain ⟨σ, rfl, hrest⟩ := h
      exact ret1x Try.results137 (res_tmp rfl) ⟨rfl, hrest⟩
    all_goals exact (h : False).elim
  refine c_seq ?_
  refine c_region ?_
  refine pl_val (.bool false) (y_assign rfl) ?_
  refine c_nil ?_
  refine c_seq ?_
  refine c_region ?_
  refine pl_val (.int .i64 x_) (y_move rfl) ?_
  refine pl_val (.int .i64 a_) (y_move rfl) ?_
  refine pl_val (.bool (decide (a_ ≤ x_))) (y_geq rfl rfl) ?_
  refine pl_val (.bool (decide (a_ ≤ x_))) (y_move rfl) ?_
  rcases bif_some hs with ⟨hc1, hs⟩ | ⟨hc1, hs⟩
  · skip
    refine pl_yes (.int .i64 x_) (tg := 10) (by kernel_rfl) (congrArg Value.bool hc1) (y_move rfl) ?_
    refine pl_yes (.int .i64 b) (tg := 10) (by kernel_rfl) (congrArg Value.bool hc1) (y_move rfl) ?_
    refine pl_yes (.bool (decide (x_ ≤ b))) (tg := 10) (by kernel_rfl) (congrArg Value.bool hc1) (y_leq rfl rfl) ?_
    refine pl_val (.bool (decide (x_ ≤ b))) (y_pick_t (congrArg Value.bool hc1) rfl) ?_
    refine pl_val (.bool (decide (x_ ≤ b))) (y_assign rfl) ?_
    refine c_nil ?_
    refine wp_ret ?_
    cases hs
    exact ⟨_, fr_ovl 15 ⟨rfl, trivial⟩, hC⟩
  · skip
    refine pl_not (tg := 10) (by kernel_rfl) (congrArg Value.bool hc1) ?_
    refine pl_not (tg := 10) (by kernel_rfl) (congrArg Value.bool hc1) ?_
    refine pl_not (tg := 10) (by kernel_rfl) (congrArg Value.bool hc1) ?_
    refine pl_val (.bool false) (y_pick_f (congrArg Value.bool hc1) rfl) ?_
    refine pl_val (.bool false) (y_assign rfl) ?_
    refine c_nil ?_
    refine wp_ret ?_
    cases hs
    exact ⟨_, fr_ovl 15 ⟨rfl, trivial⟩, hC⟩

theorem Bd137 : Bodied Try.prog 137 := bodied Try.func137 (by kernel_rfl) rfl

def k_spec_l6Size (M : Nat → Prop) (w0 : World) (r : Bool) (a : Act) (w : World) : Prop :=
  ∃ (σ : Nat → Value) , a = fr 5 (ovl σ [(2, (.bool r))]) ∧ Chg [] w0 w
def s_spec_l6Size (n : Int) : Option (Bool) :=
  (s_spec_l1In n 1 8).bind fun r2 =>
  some r2
set_option maxHeartbeats 4000000 in
theorem c_spec_l6Size {M : Nat → Prop} {w : World}  (n : Int)  (hM : ∀ g, w.heap.size ≤ g → M g) {r : Bool} (hs : s_spec_l6Size n = some r) :
    Gives Try.prog 117 [(.int .i64 n)] w (fun v w' => v = (.bool r) ∧ Chg [] w w') := by
  refine calls_fr Try.func117 rfl Try.ntmps117 (Nat.le_of_ble_eq_true rfl) ?_
  have hO := Own.start (N := Nw w []) hM Nw.fut
  have hC := Chg.refl [] w
  unfold s_spec_l6Size at hs
  refine wp_mono (Q := KPost (k_spec_l6Size M w r)) ?_ (fun e a w1 h => ?_)
  rotate_left
  · cases e
    case ret =>
      obtain ⟨σ, rfl, hrest⟩ := h
      exact ret1x Try.results117 (res_tmp rfl) ⟨rfl, hrest⟩
    all_goals exact (h : False).elim
  refine c_seq ?_
  refine c_region ?_
  refine pl_val (.bool false) (y_assign rfl) ?_
  refine c_nil ?_
  refine c_seq ?_
  refine c_region ?_
  refine pl_val (.int .i64 n) (y_move rfl) ?_
  obtain ⟨r2, hr2, hs⟩ := bind_some hs
  refine pl_call Bd137 rfl (c_spec_l1In (M := M) n 1 8  hO.fut hr2) ?_
  rintro _ w1 ⟨rfl, hC1⟩
  have hC := hC.ext hC1
  have hO := hO.ext hC1
  refine pl_val (.bool r2) (y_assign rfl) ?_
  refine c_nil ?_
  refine wp_ret ?_
  cases hs
  exact ⟨_, fr_ovl 5 ⟨rfl, trivial⟩, hC⟩

theorem Mx : Try.prog.follows .mixedOrders = true := by kernel_rfl

def k_spec_l6Partition (M : Nat → Prop) (w0 : World) (r : Bool) (a : Act) (w : World) : Prop :=
  ∃ (σ : Nat → Value) , a = fr 36 (ovl σ [(4, (.bool r))]) ∧ Chg [] w0 w
def s_spec_l6Partition (n : Int) (p : List Int) : Option (Bool) :=
  (bif ((p.length : Int) != n) then some false else (forC (S := Unit) (R := Bool) (fun k22 s20 =>
  (idx p k22).bind fun x27 =>
  (s_spec_l1In x27 0 k22).bind fun r30 =>
  (bif (!r30) then some (.rt false) else (idx p k22).bind fun x32 =>
  (idx p k22).bind fun x34 =>
  (idx p x32).bind fun x36 =>
  (bif (x36 != x34) then some (.rt false) else some (.nx ())))) 0 n ()).bind fun o24 => after o24 (fun r_ => some r_) (fun s20 =>
  some true))
set_option maxHeartbeats 4000000 in
theorem c_spec_l6Partition {M : Nat → Prop} {w : World} {pa0 : Option Addr} {pn0 pc0 : Nat} (n : Int) (p : List Int) (h0 : (RT.rs (RT.int .i64)).val M w (.slice pa0 pn0 pc0) p ([])) (hM : ∀ g, w.heap.size ≤ g → M g) {r : Bool} (hs : s_spec_l6Partition n p = some r) :
    Gives Try.prog 110 [(.int .i64 n), (.slice pa0 pn0 pc0)] w (fun v w' => v = (.bool r) ∧ Chg [] w w') := by
  refine calls_fr Try.func110 rfl Try.ntmps110 (Nat.le_of_ble_eq_true rfl) ?_
  have hO := Own.start (N := Nw w []) hM Nw.fut
  have hC := Chg.refl [] w
  unfold s_spec_l6Partition at hs
  refine wp_mono (Q := KPost (k_spec_l6Partition M w r)) ?_ (fun e a w1 h => ?_)
  rotate_left
  · cases e
    case ret =>
      obtain ⟨σ, rfl, hrest⟩ := h
      exact ret1x Try.results110 (res_tmp rfl) ⟨rfl, hrest⟩
    all_goals exact (h : False).elim
  refine c_seq ?_
  refine c_region ?_
  refine pl_val (.bool false) (y_assign rfl) ?_
  refine c_nil ?_
  refine c_seq ?_
  refine c_seq ?_
  refine c_region ?_
  refine pl_val (.slice pa0 pn0 pc0) (y_move rfl) ?_
  refine pl_val (.int .i64 (p.length : Int)) (y_len' Sl22 (rs_len h0) rfl) ?_
  refine pl_val (.int .i64 n) (y_move rfl) ?_
  refine pl_val (.bool ((p.length : Int) != n)) (y_neq rfl rfl) ?_
  refine c_nil ?_
  rcases bif_some hs with ⟨hc2, hs⟩ | ⟨hc2, hs⟩
  · skip
    refine c_condT (congrArg Value.bool hc2) ?_
    refine c_seq ?_
    refine c_region ?_
    refine pl_val (.bool false) (y_assign rfl) ?_
    refine c_nil ?_
    refine wp_ret ?_
    cases hs
    exact ⟨_, fr_ovl 36 ⟨rfl, trivial⟩, hC⟩
  · skip
    refine c_condF (congrArg Value.bool hc2) ?_
    refine wp_skip ?_
    refine c_seq ?_
    refine c_seq ?_
    refine c_region ?_
    refine pl_val (.int .i64 0) (y_assign rfl) ?_
    refine c_nil ?_
    obtain ⟨o24, hl25, hs⟩ := bind_some hs
    refine wp_block ?_
    refine wp_forC (id := 0) n (I := fun k22 s20 a w21 => ∃ (σ : Nat → Value), a = fr 36 (ovl σ [(0, (.int .i64 n)), (1, (.slice pa0 pn0 pc0)), (5, (.int .i64 k22))]) ∧ Chg [] w w21 ∧ Own (Nw w []) M w21 ([]) ∧ (RT.rs (RT.int .i64)).val M w21 (.slice pa0 pn0 pc0) p ([])) (J := fun s20 a w21 => ∃ (σ : Nat → Value), a = fr 36 (ovl σ []) ∧ Chg [] w w21 ∧ Own (Nw w []) M w21 ([]) ∧ (RT.rs (RT.int .i64)).val M w21 (.slice pa0 pn0 pc0) p ([])) (K := (k_spec_l6Partition M w)) ?_ ?_ 0 () o24 _ _ ?_ hl25 ?_
    · rintro k22 s20 a w21 ⟨σ, rfl, hC, hO, h0⟩ hlt
      refine c_seq ?_
      refine c_seq ?_
      refine c_region ?_
      refine pl_val (.int .i64 k22) (y_move rfl) ?_
      refine pl_val (.int .i64 n) (y_move rfl) ?_
      refine pl_val (.bool (decide (k22 < n))) (y_lss rfl rfl) ?_
      refine c_nil ?_
      refine c_condF (congrArg Value.bool (decide_eq_false hlt)) ?_
      refine wp_exit ?_
      exact ⟨rfl, _, fr_ovl 36 trivial, hC, hO, h0⟩
    · rintro k22 s20 o24 a w21 ⟨σ, rfl, hC, hO, h0⟩ hlt hw hs
      refine c_seq ?_
      refine c_seq ?_
      refine c_region ?_
      refine pl_val (.int .i64 k22) (y_move rfl) ?_
      refine pl_val (.int .i64 n) (y_move rfl) ?_
      refine pl_val (.bool (decide (k22 < n))) (y_lss rfl rfl) ?_
      refine c_nil ?_
      refine c_condT (congrArg Value.bool (decide_eq_true hlt)) ?_
      refine wp_skip ?_
      refine c_seq ?_
      refine wp_block ?_
      refine c_seq ?_
      refine x_start [] Mx rfl ?_
      have hCw26 := Chg.drew w21
      generalize World.drew w21 = w26 at hCw26 ⊢
      have h0 := h0.ext hCw26
      have hC := hC.ext hCw26
      have hO := hO.ext hCw26
      have hS := Chg.refl [] w26
      refine x_p 0 (.slice pa0 pn0 pc0) rfl (by kernel_rfl)  (fun _ => y_move rfl) (fun _ => hS) ?_
      refine x_p 1 (.int .i64 k22) rfl (by kernel_rfl)  (fun _ => y_move rfl) (fun _ => hS) ?_
      obtain ⟨x27, hx27, hs⟩ := bind_some hs
      obtain ⟨b28, o28, hp28, ha28⟩ := rs_idx Sl22 Sz3 h0 hx27
      refine x_p 2 (.pointer (some ⟨b28, o28, none⟩)) rfl (by kernel_rfl)  (fun _ => hp28 _ _ _ _ _ _ _ _ _ rfl rfl) (fun _ => hS) ?_
      refine x_l 3 (.int .i64 x27) rfl (by kernel_rfl)  (fun w' hw' => y_load rfl ((at_load_int Ag3 Sz3 ha28) w' hw')) hS ?_
      refine x_p 4 (.int .i64 k22) rfl (by kernel_rfl)  (fun _ => y_move rfl) (fun _ => hS) ?_
      refine x_one (i := 5) (by kernel_rfl) ?_
      obtain ⟨r30, hr30, hs⟩ := bind_some hs
      refine xk_call (b := false) rfl  Bd137 rfl (c_spec_l1In (M := M) x27 0 k22  hO.fut hr30) rfl (by rintro _ _ _ ⟨rfl, hC29⟩; exact hS.ext hC29) ?_
      rintro _ w29 ⟨rfl, hC29⟩
      have h0 := h0.ext hC29
      have hC := hC.ext hC29
      have hO := hO.ext hC29
      have hS := hS.ext hC29
      refine x_p 6 (.bool (!r30)) rfl (by kernel_rfl)  (fun _ => y_not rfl) (fun _ => hS) ?_
      refine x_p 7 (.bool (!r30)) rfl (by kernel_rfl)  (fun _ => y_move rfl) (fun _ => hS) ?_
      rcases bif_some hs with ⟨hc31, hs⟩ | ⟨hc31, hs⟩
      · skip
        refine x_pn 8 rfl (by kernel_rfl) (tg := 22) (by kernel_rfl) (congrArg Value.bool hc31) (fun _ => hS) ?_
        refine x_pn 9 rfl (by kernel_rfl) (tg := 22) (by kernel_rfl) (congrArg Value.bool hc31) (fun _ => hS) ?_
        refine x_pn 10 rfl (by kernel_rfl) (tg := 22) (by kernel_rfl) (congrArg Value.bool hc31) (fun _ => hS) ?_
        refine x_pn 11 rfl (by kernel_rfl) (tg := 22) (by kernel_rfl) (congrArg Value.bool hc31) (fun _ => hS) ?_
        refine x_pn 12 rfl (by kernel_rfl) (tg := 22) (by kernel_rfl) (congrArg Value.bool hc31) (fun _ => hS) ?_
        refine x_pn 13 rfl (by kernel_rfl) (tg := 22) (by kernel_rfl) (congrArg Value.bool hc31) (fun _ => hS) ?_
        refine x_pn 14 rfl (by kernel_rfl) (tg := 22) (by kernel_rfl) (congrArg Value.bool hc31) (fun _ => hS) ?_
        refine x_pn 15 rfl (by kernel_rfl) (tg := 22) (by kernel_rfl) (congrArg Value.bool hc31) (fun _ => hS) ?_
        refine x_pn 16 rfl (by kernel_rfl) (tg := 22) (by kernel_rfl) (congrArg Value.bool hc31) (fun _ => hS) ?_
        refine x_pn 17 rfl (by kernel_rfl) (tg := 22) (by kernel_rfl) (congrArg Value.bool hc31) (fun _ => hS) ?_
        refine x_pn 18 rfl (by kernel_rfl) (tg := 22) (by kernel_rfl) (congrArg Value.bool hc31) (fun _ => hS) ?_
        refine x_pn 19 rfl (by kernel_rfl) (tg := 22) (by kernel_rfl) (congrArg Value.bool hc31) (fun _ => hS) ?_
        refine x_p 20 (.bool true) rfl (by kernel_rfl)  (fun _ => y_pick_t (congrArg Value.bool hc31) rfl) (fun _ => hS) ?_
        refine x_end (by kernel_rfl) ?_
        clear hS
        refine c_condT (by rfl) ?_
        refine c_seq ?_
        refine c_region ?_
        refine pl_val (.bool false) (y_assign rfl) ?_
        refine c_nil ?_
        refine wp_ret ?_
        cases hs
        exact ⟨_, fr_ovl 36 ⟨rfl, trivial⟩, hC⟩
      · skip
        refine x_py 8 (.slice pa0 pn0 pc0) rfl (by kernel_rfl) (tg := 22) (by kernel_rfl) (congrArg Value.bool hc31) (fun _ => y_move rfl) (fun _ => hS) ?_
        refine x_py 9 (.slice pa0 pn0 pc0) rfl (by kernel_rfl) (tg := 22) (by kernel_rfl) (congrArg Value.bool hc31) (fun _ => y_move rfl) (fun _ => hS) ?_
        refine x_py 10 (.int .i64 k22) rfl (by kernel_rfl) (tg := 22) (by kernel_rfl) (congrArg Value.bool hc31) (fun _ => y_move rfl) (fun _ => hS) ?_
        obtain ⟨x32, hx32, hs⟩ := bind_some hs
        obtain ⟨b33, o33, hp33, ha33⟩ := rs_idx Sl22 Sz3 h0 hx32
        refine x_py 11 (.pointer (some ⟨b33, o33, none⟩)) rfl (by kernel_rfl) (tg := 22) (by kernel_rfl) (congrArg Value.bool hc31) (fun _ => hp33 _ _ _ _ _ _ _ _ _ rfl rfl) (fun _ => hS) ?_
        refine x_py 15 (.slice pa0 pn0 pc0) rfl (by kernel_rfl) (tg := 22) (by kernel_rfl) (congrArg Value.bool hc31) (fun _ => y_move rfl) (fun _ => hS) ?_
        refine x_py 16 (.int .i64 k22) rfl (by kernel_rfl) (tg := 22) (by kernel_rfl) (congrArg Value.bool hc31) (fun _ => y_move rfl) (fun _ => hS) ?_
        obtain ⟨x34, hx34, hs⟩ := bind_some hs
        obtain ⟨b35, o35, hp35, ha35⟩ := rs_idx Sl22 Sz3 h0 hx34
        refine x_py 17 (.pointer (some ⟨b35, o35, none⟩)) rfl (by kernel_rfl) (tg := 22) (by kernel_rfl) (congrArg Value.bool hc31) (fun _ => hp35 _ _ _ _ _ _ _ _ _ rfl rfl) (fun _ => hS) ?_
        refine x_two (i := 12) (j := 18) (by kernel_rfl) ?_ ?_
        · skip
          refine xk_valy (b := false) (.int .i64 x32) rfl (tg := 22) (by kernel_rfl) (congrArg Value.bool hc31) (y_load rfl ((at_load_int Ag3 Sz3 ha33) _ (Chg.refl _ _))) rfl (fun _ => hS) ?_
          obtain ⟨x36, hx36, hs⟩ := bind_some hs
          obtain ⟨b37, o37, hp37, ha37⟩ := rs_idx Sl22 Sz3 h0 hx36
          refine x_py 13 (.pointer (some ⟨b37, o37, none⟩)) rfl (by kernel_rfl) (tg := 22) (by kernel_rfl) (congrArg Value.bool hc31) (fun _ => hp37 _ _ _ _ _ _ _ _ _ rfl rfl) (fun _ => hS) ?_
          refine x_two (i := 14) (j := 18) (by kernel_rfl) ?_ ?_
          · skip
            refine xk_valy (b := false) (.int .i64 x36) rfl (tg := 22) (by kernel_rfl) (congrArg Value.bool hc31) (y_load rfl ((at_load_int Ag3 Sz3 ha37) _ (Chg.refl _ _))) rfl (fun _ => hS) ?_
            refine x_one (i := 18) (by kernel_rfl) ?_
            refine xk_valy (b := false) (.int .i64 x34) rfl (tg := 22) (by kernel_rfl) (congrArg Value.bool hc31) (y_load rfl ((at_load_int Ag3 Sz3 ha35) _ (Chg.refl _ _))) rfl (fun _ => hS) ?_
            refine x_py 19 (.bool (x36 != x34)) rfl (by kernel_rfl) (tg := 22) (by kernel_rfl) (congrArg Value.bool hc31) (fun _ => y_neq rfl rfl) (fun _ => hS) ?_
            refine x_p 20 (.bool (x36 != x34)) rfl (by kernel_rfl)  (fun _ => y_pick_f (congrArg Value.bool hc31) rfl) (fun _ => hS) ?_
            refine x_end (by kernel_rfl) ?_
            clear hS
            rcases bif_some hs with ⟨hc38, hs⟩ | ⟨hc38, hs⟩
            · skip
              refine c_condT (congrArg Value.bool hc38) ?_
              refine c_seq ?_
              refine c_region ?_
              refine pl_val (.bool false) (y_assign rfl) ?_
              refine c_nil ?_
              refine wp_ret ?_
              cases hs
              exact ⟨_, fr_ovl 36 ⟨rfl, trivial⟩, hC⟩
            · skip
              refine c_condF (congrArg Value.bool hc38) ?_
              refine wp_skip ?_
              refine c_region ?_
              refine pl_val (.int .i64 k22) (y_move rfl) ?_
              refine pl_val (.int .i64 (w64 (k22 + 1))) (y_add rfl rfl) ?_
              refine pl_val (.int .i64 (w64 (k22 + 1))) (y_assign rfl) ?_
              refine c_nil ?_
              cases hs
              exact ⟨_, fr_ovl 36 ⟨rfl, rfl, congrArg (Value.int .i64) hw, trivial⟩, hC, hO, h0⟩
          · skip
            refine xk_valy (b := false) (.int .i64 x34) rfl (tg := 22) (by kernel_rfl) (congrArg Value.bool hc31) (y_load rfl ((at_load_int Ag3 Sz3 ha35) _ (Chg.refl _ _))) rfl (fun _ => hS) ?_
            refine x_one (i := 14) (by kernel_rfl) ?_
            refine xk_valy (b := false) (.int .i64 x36) rfl (tg := 22) (by kernel_rfl) (congrArg Value.bool hc31) (y_load rfl ((at_load_int Ag3 Sz3 ha37) _ (Chg.refl _ _))) rfl (fun _ => hS) ?_
            refine x_py 19 (.bool (x36 != x34)) rfl (by kernel_rfl) (tg := 22) (by kernel_rfl) (congrArg Value.bool hc31) (fun _ => y_neq rfl rfl) (fun _ => hS) ?_
            refine x_p 20 (.bool (x36 != x34)) rfl (by kernel_rfl)  (fun _ => y_pick_f (congrArg Value.bool hc31) rfl) (fun _ => hS) ?_
            refine x_end (by kernel_rfl) ?_
            clear hS
            rcases bif_some hs with ⟨hc39, hs⟩ | ⟨hc39, hs⟩
            · skip
              refine c_condT (congrArg Value.bool hc39) ?_
              refine c_seq ?_
              refine c_region ?_
              refine pl_val (.bool false) (y_assign rfl) ?_
              refine c_nil ?_
              refine wp_ret ?_
              cases hs
              exact ⟨_, fr_ovl 36 ⟨rfl, trivial⟩, hC⟩
            · skip
              refine c_condF (congrArg Value.bool hc39) ?_
              refine wp_skip ?_
              refine c_region ?_
              refine pl_val (.int .i64 k22) (y_move rfl) ?_
              refine pl_val (.int .i64 (w64 (k22 + 1))) (y_add rfl rfl) ?_
              refine pl_val (.int .i64 (w64 (k22 + 1))) (y_assign rfl) ?_
              refine c_nil ?_
              cases hs
              exact ⟨_, fr_ovl 36 ⟨rfl, rfl, congrArg (Value.int .i64) hw, trivial⟩, hC, hO, h0⟩
        · skip
          refine xk_valy (b := false) (.int .i64 x34) rfl (tg := 22) (by kernel_rfl) (congrArg Value.bool hc31) (y_load rfl ((at_load_int Ag3 Sz3 ha35) _ (Chg.refl _ _))) rfl (fun _ => hS) ?_
          refine x_one (i := 12) (by kernel_rfl) ?_
          refine xk_valy (b := false) (.int .i64 x32) rfl (tg := 22) (by kernel_rfl) (congrArg Value.bool hc31) (y_load rfl ((at_load_int Ag3 Sz3 ha33) _ (Chg.refl _ _))) rfl (fun _ => hS) ?_
          obtain ⟨x36, hx36, hs⟩ := bind_some hs
          obtain ⟨b41, o41, hp41, ha41⟩ := rs_idx Sl22 Sz3 h0 hx36
          refine x_py 13 (.pointer (some ⟨b41, o41, none⟩)) rfl (by kernel_rfl) (tg := 22) (by kernel_rfl) (congrArg Value.bool hc31) (fun _ => hp41 _ _ _ _ _ _ _ _ _ rfl rfl) (fun _ => hS) ?_
          refine x_one (i := 14) (by kernel_rfl) ?_
          refine xk_valy (b := false) (.int .i64 x36) rfl (tg := 22) (by kernel_rfl) (congrArg Value.bool hc31) (y_load rfl ((at_load_int Ag3 Sz3 ha41) _ (Chg.refl _ _))) rfl (fun _ => hS) ?_
          refine x_py 19 (.bool (x36 != x34)) rfl (by kernel_rfl) (tg := 22) (by kernel_rfl) (congrArg Value.bool hc31) (fun _ => y_neq rfl rfl) (fun _ => hS) ?_
          refine x_p 20 (.bool (x36 != x34)) rfl (by kernel_rfl)  (fun _ => y_pick_f (congrArg Value.bool hc31) rfl) (fun _ => hS) ?_
          refine x_end (by kernel_rfl) ?_
          clear hS
          rcases bif_some hs with ⟨hc42, hs⟩ | ⟨hc42, hs⟩
          · skip
            refine c_condT (congrArg Value.bool hc42) ?_
            refine c_seq ?_
            refine c_region ?_
            refine pl_val (.bool false) (y_assign rfl) ?_
            refine c_nil ?_
            refine wp_ret ?_
            cases hs
            exact ⟨_, fr_ovl 36 ⟨rfl, trivial⟩, hC⟩
          · skip
            refine c_condF (congrArg Value.bool hc42) ?_
            refine wp_skip ?_
            refine c_region ?_
            refine pl_val (.int .i64 k22) (y_move rfl) ?_
            refine pl_val (.int .i64 (w64 (k22 + 1))) (y_add rfl rfl) ?_
            refine pl_val (.int .i64 (w64 (k22 + 1))) (y_assign rfl) ?_
            refine c_nil ?_
            cases hs
            exact ⟨_, fr_ovl 36 ⟨rfl, rfl, congrArg (Value.int .i64) hw, trivial⟩, hC, hO, h0⟩
    · skip
      exact ⟨_, fr_ovl 36 ⟨rfl, rfl, rfl, trivial⟩, hC, hO, h0⟩
    · cases o24 with
      | nx _ => exact True.intro
      | rt r_ =>
        have hs := after_rt hs
        intro a1 w1 hK
        cases hs
        exact hK
      | br s20 =>
        have hs := after_br hs
        rintro a1 w21 ⟨σ, rfl, hC, hO, h0⟩
        refine c_seq ?_
        refine c_region ?_
        refine pl_val (.bool true) (y_assign rfl) ?_
        refine c_nil ?_
        refine wp_ret ?_
        cases hs
        exact ⟨_, fr_ovl 36 ⟨rfl, trivial⟩, hC⟩

theorem Bd117 : Bodied Try.prog 117 := bodied Try.func117 (by kernel_rfl) rfl

theorem Bd110 : Bodied Try.prog 110 := bodied Try.func110 (by kernel_rfl) rfl

def k_spec_l16Two (M : Nat → Prop) (w0 : World) (r : Bool) (a : Act) (w : World) : Prop :=
  ∃ (σ : Nat → Value) , a = fr 19 (ovl σ [(6, (.bool r))]) ∧ Chg [] w0 w
def s_spec_l16Two (n : Int) (p : List Int) (q : List Int) : Option (Bool) :=
  (s_spec_l6Size n).bind fun r4 =>
  (bif r4 then (s_spec_l6Partition n p).bind fun r7 =>
  (bif r7 then (s_spec_l6Partition n q).bind fun r10 =>
  some r10 else some false) else some false)
set_option maxHeartbeats 4000000 in
theorem c_spec_l16Two {M : Nat → Prop} {w : World} {pa0 : Option Addr} {pn0 pc0 : Nat} {pa1 : Option Addr} {pn1 pc1 : Nat} (n : Int) (p : List Int) (q : List Int) (h0 : (RT.rs (RT.int .i64)).val M w (.slice pa0 pn0 pc0) p ([])) (h1 : (RT.rs (RT.int .i64)).val M w (.slice pa1 pn1 pc1) q ([])) (hM : ∀ g, w.heap.size ≤ g → M g) {r : Bool} (hs : s_spec_l16Two n p q = some r) :
    Gives Try.prog 75 [(.int .i64 n), (.slice pa0 pn0 pc0), (.slice pa1 pn1 pc1)] w (fun v w' => v = (.bool r) ∧ Chg [] w w') := by
  refine calls_fr Try.func75 rfl Try.ntmps75 (Nat.le_of_ble_eq_true rfl) ?_
  have hO := Own.start (N := Nw w []) hM Nw.fut
  have hC := Chg.refl [] w
  unfold s_spec_l16Two at hs
  refine wp_mono (Q := KPost (k_spec_l16Two M w r)) ?_ (fun e a w1 h => ?_)
  rotate_left
  · cases e
    case ret =>
      obtain ⟨σ, rfl, hrest⟩ := h
      exact ret1x Try.results75 (res_tmp rfl) ⟨rfl, hrest⟩
    all_goals exact (h : False).elim
  refine c_seq ?_
  refine c_region ?_
  refine pl_val (.bool false) (y_assign rfl) ?_
  refine c_nil ?_
  refine c_seq ?_
  refine c_region ?_
  refine pl_val (.int .i64 n) (y_move rfl) ?_
  obtain ⟨r4, hr4, hs⟩ := bind_some hs
  refine pl_call Bd117 rfl (c_spec_l6Size (M := M) n  hO.fut hr4) ?_
  rintro _ w3 ⟨rfl, hC3⟩
  have h0 := h0.ext hC3
  have h1 := h1.ext hC3
  have hC := hC.ext hC3
  have hO := hO.ext hC3
  refine pl_val (.bool r4) (y_move rfl) ?_
  rcases bif_some hs with ⟨hc5, hs⟩ | ⟨hc5, hs⟩
  · skip
    refine pl_yes (.int .i64 n) (tg := 9) (by kernel_rfl) (congrArg Value.bool hc5) (y_move rfl) ?_
    refine pl_yes (.slice pa0 pn0 pc0) (tg := 9) (by kernel_rfl) (congrArg Value.bool hc5) (y_move rfl) ?_
    obtain ⟨r7, hr7, hs⟩ := bind_some hs
    refine pl_cally (tg := 9) (by kernel_rfl) (congrArg Value.bool hc5) Bd110 rfl (c_spec_l6Partition (M := M) n p h0 hO.fut hr7) ?_
    rintro _ w6 ⟨rfl, hC6⟩
    have h0 := h0.ext hC6
    have h1 := h1.ext hC6
    have hC := hC.ext hC6
    have hO := hO.ext hC6
    refine pl_val (.bool r7) (y_pick_t (congrArg Value.bool hc5) rfl) ?_
    refine pl_val (.bool r7) (y_move rfl) ?_
    rcases bif_some hs with ⟨hc8, hs⟩ | ⟨hc8, hs⟩
    · skip
      refine pl_yes (.int .i64 n) (tg := 14) (by kernel_rfl) (congrArg Value.bool hc8) (y_move rfl) ?_
      refine pl_yes (.slice pa1 pn1 pc1) (tg := 14) (by kernel_rfl) (congrArg Value.bool hc8) (y_move rfl) ?_
      obtain ⟨r10, hr10, hs⟩ := bind_some hs
      refine pl_cally (tg := 14) (by kernel_rfl) (congrArg Value.bool hc8) Bd110 rfl (c_spec_l6Partition (M := M) n q h1 hO.fut hr10) ?_
      rintro _ w9 ⟨rfl, hC9⟩
      have h0 := h0.ext hC9
      have h1 := h1.ext hC9
      have hC := hC.ext hC9
      have hO := hO.ext hC9
      refine pl_val (.bool r10) (y_pick_t (congrArg Value.bool hc8) rfl) ?_
      refine pl_val (.bool r10) (y_assign rfl) ?_
      refine c_nil ?_
      refine wp_ret ?_
      cases hs
      exact ⟨_, fr_ovl 19 ⟨rfl, trivial⟩, hC⟩
    · skip
      refine pl_not (tg := 14) (by kernel_rfl) (congrArg Value.bool hc8) ?_
      refine pl_not (tg := 14) (by kernel_rfl) (congrArg Value.bool hc8) ?_
      refine pl_not (tg := 14) (by kernel_rfl) (congrArg Value.bool hc8) ?_
      refine pl_val (.bool false) (y_pick_f (congrArg Value.bool hc8) rfl) ?_
      refine pl_val (.bool false) (y_assign rfl) ?_
      refine c_nil ?_
      refine wp_ret ?_
      cases hs
      exact ⟨_, fr_ovl 19 ⟨rfl, trivial⟩, hC⟩
  · skip
    refine pl_not (tg := 9) (by kernel_rfl) (congrArg Value.bool hc5) ?_
    refine pl_not (tg := 9) (by kernel_rfl) (congrArg Value.bool hc5) ?_
    refine pl_not (tg := 9) (by kernel_rfl) (congrArg Value.bool hc5) ?_
    refine pl_val (.bool false) (y_pick_f (congrArg Value.bool hc5) rfl) ?_
    refine pl_val (.bool false) (y_move rfl) ?_
    refine pl_not (tg := 14) (by kernel_rfl) (by rfl) ?_
    refine pl_not (tg := 14) (by kernel_rfl) (by rfl) ?_
    refine pl_not (tg := 14) (by kernel_rfl) (by rfl) ?_
    refine pl_val (.bool false) (y_pick_f (by rfl) rfl) ?_
    refine pl_val (.bool false) (y_assign rfl) ?_
    refine c_nil ?_
    refine wp_ret ?_
    cases hs
    exact ⟨_, fr_ovl 19 ⟨rfl, trivial⟩, hC⟩

theorem Ag31 : AggT Try.prog 31 true := fun _ => by kernel_rfl

theorem Sz31 : SzT Try.prog 31 2 := ⟨_, rfl, rfl⟩

theorem Fa31x1 : ∀ (a : Addr) (w : World), (Instr.fieldAt 31 (.pointer (some a)) 1).run Try.prog w = .ok (.pointer (some (a.add 1))) w := fun _ _ => by kernel_rfl

theorem Ag29 : AggT Try.prog 29 false := fun _ => by kernel_rfl

theorem Sz29 : SzT Try.prog 29 1 := ⟨_, rfl, rfl⟩

theorem Rw29 : RowT Try.prog 29 22 1 [(.slice none 0 0)] := ⟨Try.underlying29, ⟨_, _, rfl, rfl, rfl, rfl, by decide⟩, rfl, by decide⟩

def k_spec_l13OfPartition (M : Nat → Prop) (w0 : World) (r : (Int × (List (List Int)))) (a : Act) (w : World) : Prop :=
  ∃ (σ : Nat → Value) (rg2 : Nat) (ra0 : Option Addr) (rn0 rc0 : Nat) (rf0 : List Nat), a = fr 38 (ovl σ [(2, (.pointer (some ⟨rg2, 0, none⟩)))]) ∧ BoxV w rg2 31 [(.int .i64 r.1), (.slice ra0 rn0 rc0)] ∧ Chg [] w0 w ∧ (RT.os 22 (RT.os 3 (RT.int .i64))).val M w (.slice ra0 rn0 rc0) r.2 rf0 ∧ Own (Nw w0 []) (fun _ => True) w (rf0 ++ ([]))
def s_spec_l13OfPartition (p : List Int) : Option ((Int × (List (List Int)))) :=
  (forC (S := (List (List Int))) (R := (Int × (List (List Int)))) (fun k149 s147 =>
  (forC (S := (List (List Int))) (R := (Int × (List (List Int)))) (fun k199 s197 =>
  (idx p k149).bind fun x213 =>
  (idx p k199).bind fun x215 =>
  (bif (x213 == x215) then (app s197 ([[k149, k199]])).bind fun y223 =>
  some (.nx y223) else some (.nx s197))) 0 (p.length : Int) s147).bind fun o201 => after o201 (fun r_ => some (.rt r_)) (fun s197 =>
  some (.nx s197))) 0 (p.length : Int) ([])).bind fun o151 => after o151 (fun r_ => some r_) (fun s147 =>
  some (2, s147))
set_option maxHeartbeats 4000000 in
theorem c_spec_l13OfPartition {M : Nat → Prop} {w : World} {pa0 : Option Addr} {pn0 pc0 : Nat} (p : List Int) (h0 : (RT.rs (RT.int .i64)).val M w (.slice pa0 pn0 pc0) p ([])) (hM : ∀ g, w.heap.size ≤ g → M g) {r : (Int × (List (List Int)))} (hs : s_spec_l13OfPartition p = some r) :
    Gives Try.prog 143 [(.slice pa0 pn0 pc0)] w (fun v w' => ∃ (ra0 : Option Addr) (rn0 rc0 : Nat) (rf0 : List Nat), v = (.agg #[(.int .i64 r.1), (.slice ra0 rn0 rc0)]) ∧ Chg [] w w' ∧ (RT.os 22 (RT.os 3 (RT.int .i64))).val M w' (.slice ra0 rn0 rc0) r.2 rf0 ∧ Own (Nw w []) (fun _ => True) w' (rf0 ++ ([]))) := by
  refine calls_fr Try.func143 rfl Try.ntmps143 (Nat.le_of_ble_eq_true rfl) ?_
  have hO := Own.start (N := Nw w []) hM Nw.fut
  have hC := Chg.refl [] w
  unfold s_spec_l13OfPartition at hs
  refine wp_mono (Q := KPost (k_spec_l13OfPartition M w r)) ?_ (fun e a w1 h => ?_)
  rotate_left
  · cases e
    case ret =>
      obtain ⟨σ, rg2, ra0, rn0, rc0, rf0, rfl, hbrg2, hrest⟩ := h
      exact ret1x Try.results143 (res_cell rfl (box_load Ag31 Sz31 hbrg2 [] _ [] rfl rfl (fun h => nomatch h))) ⟨ra0, rn0, rc0, rf0, rfl, hrest⟩
    all_goals exact (h : False).elim
  refine c_seq ?_
  refine c_region ?_
  obtain ⟨w2, g2, ew2, eg2, hC2, hb2⟩ := new_block w [(.int .i64 0), (.slice none 0 0)] 31
  refine pl_val (w' := w2) (.pointer (some ⟨g2, 0, none⟩)) (y_alloc (by rw [ew2, eg2]; kernel_rfl)) ?_
  have h0 := h0.ext hC2
  have hC := hC.ext hC2
  have hO := hO.new (X' := [g2]) hC2 (fun q hq => by rw [List.mem_singleton.1 hq, eg2]; exact Nat.le_refl _) (List.nodup_cons.2 ⟨(fun h => nomatch h), List.nodup_nil⟩) (fun q hq => by rw [List.mem_singleton.1 hq]; exact hb2.lt)
  refine c_nil ?_
  refine c_seq ?_
  refine c_region ?_
  obtain ⟨w3, g3, ew3, eg3, hC3, hb3⟩ := new_block w2 [] 22
  refine pl_val (w' := w3) (.slice (some ⟨g3, 0, none⟩) 0 0) (y_bslice rfl (by rw [ew3, eg3]; kernel_rfl)) ?_
  have h0 := h0.ext hC3
  have hb2 := hb2.chg hC3 (fun h => nomatch h)
  have hC := hC.ext hC3
  have hO := hO.new (X' := [g3]) hC3 (fun q hq => by rw [List.mem_singleton.1 hq, eg3]; exact Nat.le_refl _) (List.nodup_cons.2 ⟨(fun h => nomatch h), List.nodup_nil⟩) (fun q hq => by rw [List.mem_singleton.1 hq]; exact hb3.lt)
  have hv3 := os_of_box (r := (RT.os 3 (RT.int .i64))) (M := M) (css := []) (fps := []) (xs := ([] : List (List Int))) hb3 trivial (Nat.zero_le _) (List.nodup_cons.2 ⟨(fun h => nomatch h), List.nodup_nil⟩)
  have hv3 : (RT.os 22 (RT.os 3 (RT.int .i64))).val M w3 (.slice (some ⟨g3, 0, none⟩) 0 0) [] [g3] := hv3
  refine pl_val (.agg #[(.int .i64 2), (.slice (some ⟨g3, 0, none⟩) 0 0)]) (y_build rfl (by kernel_rfl)) ?_
  obtain ⟨w5, g5, ew5, eg5, hC5, hb5⟩ := new_block w3 [(.int .i64 0), (.slice none 0 0)] 31
  refine pl_val (w' := w5) (.pointer (some ⟨g5, 0, none⟩)) (y_alloc (by rw [ew5, eg5]; kernel_rfl)) ?_
  have h0 := h0.ext hC5
  have hb2 := hb2.chg hC5 (fun h => nomatch h)
  have hv3 := hv3.ext hC5
  have hC := hC.ext hC5
  have hO := hO.new (X' := [g5]) hC5 (fun q hq => by rw [List.mem_singleton.1 hq, eg5]; exact Nat.le_refl _) (List.nodup_cons.2 ⟨(fun h => nomatch h), List.nodup_nil⟩) (fun q hq => by rw [List.mem_singleton.1 hq]; exact hb5.lt)
  obtain ⟨w6, hst6, hC6, hb6⟩ := box_store (P := Try.prog) hb5 [] [(.int .i64 0), (.slice none 0 0)] [] [(.int .i64 2), (.slice (some ⟨g3, 0, none⟩) 0 0)] rfl rfl (by intro u hu; simp only [List.mem_cons, List.not_mem_nil, or_false] at hu; rcases hu with rfl | rfl <;> rfl)
  refine pl_skip (w' := w6) (ys_store rfl rfl (hst6 _ _ rfl Sz31)) ?_
  have h0 := h0.mut hC6 (fun g hg => hO.inM g ((fun _ h => h) g hg)) (fun _ _ h => nomatch h)
  have hb2 := hb2.chg hC6 (fun hg => hO.apart _ ((fun _ h => h) _ hg) (mem_r (mem_l (List.mem_singleton.2 rfl))))
  have hv3 := hv3.mut hC6 (fun g hg => hO.inM g ((fun _ h => h) g hg)) (fun g hg e => hO.apart g ((fun _ h => h) g hg) (mem_l (e)))
  have hC := hC.step hC6 (fun g hg => hO.inN g ((fun _ h => h) g hg))
  have hO := hO.ext hC6
  have hb6 : BoxV w6 g5 31 [(.int .i64 2), (.slice (some ⟨g3, 0, none⟩) 0 0)] := hb6
  refine c_nil ?_
  refine c_seq ?_
  refine c_seq ?_
  refine c_region ?_
  refine pl_val (.int .i64 0) (y_assign rfl) ?_
  refine c_nil ?_
  obtain ⟨o151, hl152, hs⟩ := bind_some hs
  refine wp_block ?_
  refine wp_forC (id := 0) (p.length : Int) (I := fun k149 s147 a w148 => ∃ (σ : Nat → Value) (a153 : Option Addr) (n153 : Nat) (c153 : Nat) (f153 : List Nat), a = fr 38 (ovl σ [(0, (.slice pa0 pn0 pc0)), (2, (.pointer (some ⟨g2, 0, none⟩))), (3, (.pointer (some ⟨g5, 0, none⟩))), (4, (.int .i64 k149))]) ∧ Chg [] w w148 ∧ Own (Nw w []) M w148 (f153 ++ (([g5]) ++ (([g2]) ++ []))) ∧ (RT.rs (RT.int .i64)).val M w148 (.slice pa0 pn0 pc0) p ([]) ∧ BoxV w148 g2 31 [(.int .i64 0), (.slice none 0 0)] ∧ BoxV w148 g5 31 [(.int .i64 2), (.slice a153 n153 c153)] ∧ (RT.os 22 (RT.os 3 (RT.int .i64))).val M w148 (.slice a153 n153 c153) s147 f153) (J := fun s147 a w148 => ∃ (σ : Nat → Value) (a155 : Option Addr) (n155 : Nat) (c155 : Nat) (f155 : List Nat), a = fr 38 (ovl σ [(2, (.pointer (some ⟨g2, 0, none⟩))), (3, (.pointer (some ⟨g5, 0, none⟩)))]) ∧ Chg [] w w148 ∧ Own (Nw w []) M w148 (f155 ++ (([g5]) ++ (([g2]) ++ []))) ∧ (RT.rs (RT.int .i64)).val M w148 (.slice pa0 pn0 pc0) p ([]) ∧ BoxV w148 g2 31 [(.int .i64 0), (.slice none 0 0)] ∧ BoxV w148 g5 31 [(.int .i64 2), (.slice a155 n155 c155)] ∧ (RT.os 22 (RT.os 3 (RT.int .i64))).val M w148 (.slice a155 n155 c155) s147 f155) (K := (k_spec_l13OfPartition M w)) ?_ ?_ 0 ([]) o151 _ _ ?_ hl152 ?_
  · rintro k149 s147 a w148 ⟨σ, a153, n153, c153, f153, rfl, hC, hO, h0, hb2, hb6, hv153⟩ hlt
    refine c_seq ?_
    refine c_seq ?_
    refine c_region ?_
    refine pl_val (.int .i64 k149) (y_move rfl) ?_
    refine pl_val (.slice pa0 pn0 pc0) (y_move rfl) ?_
    refine pl_val (.int .i64 (p.length : Int)) (y_len' Sl22 (rs_len h0) rfl) ?_
    refine pl_val (.bool (decide (k149 < (p.length : Int)))) (y_lss rfl rfl) ?_
    refine c_nil ?_
    refine c_condF (congrArg Value.bool (decide_eq_false hlt)) ?_
    refine wp_exit ?_
    have hO := hO.fr2
    have hO := hO.fr2
    have hO := hO.fr2
    exact ⟨rfl, _, a153, n153, c153, f153, fr_ovl 38 ⟨rfl, rfl, trivial⟩, hC, hO, h0, hb2, hb6, hv153⟩
  · rintro k149 s147 o151 a w148 ⟨σ, a153, n153, c153, f153, rfl, hC, hO, h0, hb2, hb6, hv153⟩ hlt hw hs
    refine c_seq ?_
    refine c_seq ?_
    refine c_region ?_
    refine pl_val (.int .i64 k149) (y_move rfl) ?_
    refine pl_val (.slice pa0 pn0 pc0) (y_move rfl) ?_
    refine pl_val (.int .i64 (p.length : Int)) (y_len' Sl22 (rs_len h0) rfl) ?_
    refine pl_val (.bool (decide (k149 < (p.length : Int)))) (y_lss rfl rfl) ?_
    refine c_nil ?_
    refine c_condT (congrArg Value.bool (decide_eq_true hlt)) ?_
    refine wp_skip ?_
    refine c_seq ?_
    refine wp_block ?_
    refine c_seq ?_
    refine c_region ?_
    refine pl_val (.int .i64 0) (y_assign rfl) ?_
    refine c_nil ?_
    obtain ⟨o201, hl202, hs⟩ := bind_some hs
    refine wp_block ?_
    refine wp_forC (id := 2) (p.length : Int) (I := fun k199 s197 a w198 => ∃ (σ : Nat → Value) (a203 : Option Addr) (n203 : Nat) (c203 : Nat) (f203 : List Nat), a = fr 38 (ovl σ [(0, (.slice pa0 pn0 pc0)), (2, (.pointer (some ⟨g2, 0, none⟩))), (3, (.pointer (some ⟨g5, 0, none⟩))), (4, (.int .i64 k149)), (5, (.int .i64 k199))]) ∧ Chg [] w w198 ∧ Own (Nw w []) M w198 (f203 ++ (([g5]) ++ (([g2]) ++ []))) ∧ (RT.rs (RT.int .i64)).val M w198 (.slice pa0 pn0 pc0) p ([]) ∧ BoxV w198 g2 31 [(.int .i64 0), (.slice none 0 0)] ∧ BoxV w198 g5 31 [(.int .i64 2), (.slice a203 n203 c203)] ∧ (RT.os 22 (RT.os 3 (RT.int .i64))).val M w198 (.slice a203 n203 c203) s197 f203) (J := fun s197 a w198 => ∃ (σ : Nat → Value) (a205 : Option Addr) (n205 : Nat) (c205 : Nat) (f205 : List Nat), a = fr 38 (ovl σ [(0, (.slice pa0 pn0 pc0)), (2, (.pointer (some ⟨g2, 0, none⟩))), (3, (.pointer (some ⟨g5, 0, none⟩))), (4, (.int .i64 k149))]) ∧ Chg [] w w198 ∧ Own (Nw w []) M w198 (f205 ++ (([g5]) ++ (([g2]) ++ []))) ∧ (RT.rs (RT.int .i64)).val M w198 (.slice pa0 pn0 pc0) p ([]) ∧ BoxV w198 g2 31 [(.int .i64 0), (.slice none 0 0)] ∧ BoxV w198 g5 31 [(.int .i64 2), (.slice a205 n205 c205)] ∧ (RT.os 22 (RT.os 3 (RT.int .i64))).val M w198 (.slice a205 n205 c205) s197 f205) (K := (k_spec_l13OfPartition M w)) ?_ ?_ 0 s147 o201 _ _ ?_ hl202 ?_
    · rintro k199 s197 a w198 ⟨σ, a203, n203, c203, f203, rfl, hC, hO, h0, hb2, hb6, hv203⟩ hlt
      refine c_seq ?_
      refine c_seq ?_
      refine c_region ?_
      refine pl_val (.int .i64 k199) (y_move rfl) ?_
      refine pl_val (.slice pa0 pn0 pc0) (y_move rfl) ?_
      refine pl_val (.int .i64 (p.length : Int)) (y_len' Sl22 (rs_len h0) rfl) ?_
      refine pl_val (.bool (decide (k199 < (p.length : Int)))) (y_lss rfl rfl) ?_
      refine c_nil ?_
      refine c_condF (congrArg Value.bool (decide_eq_false hlt)) ?_
      refine wp_exit ?_
      have hO := hO.fr2
      have hO := hO.fr2
      have hO := hO.fr2
      exact ⟨rfl, _, a203, n203, c203, f203, fr_ovl 38 ⟨rfl, rfl, rfl, rfl, trivial⟩, hC, hO, h0, hb2, hb6, hv203⟩
    · rintro k199 s197 o201 a w198 ⟨σ, a203, n203, c203, f203, rfl, hC, hO, h0, hb2, hb6, hv203⟩ hlt hw hs
      refine c_seq ?_
      refine c_seq ?_
      refine c_region ?_
      refine pl_val (.int .i64 k199) (y_move rfl) ?_
      refine pl_val (.slice pa0 pn0 pc0) (y_move rfl) ?_
      refine pl_val (.int .i64 (p.length : Int)) (y_len' Sl22 (rs_len h0) rfl) ?_
      refine pl_val (.bool (decide (k199 < (p.length : Int)))) (y_lss rfl rfl) ?_
      refine c_nil ?_
      refine c_condT (congrArg Value.bool (decide_eq_true hlt)) ?_
      refine wp_skip ?_
      refine c_seq ?_
      refine wp_block ?_
      refine c_seq ?_
      refine x_start [] Mx rfl ?_
      have hCw212 := Chg.drew w198
      generalize World.drew w198 = w212 at hCw212 ⊢
      have h0 := h0.ext hCw212
      have hb2 := hb2.chg hCw212 (fun h => nomatch h)
      have hb6 := hb6.chg hCw212 (fun h => nomatch h)
      have hv203 := hv203.ext hCw212
      have hC := hC.ext hCw212
      have hO := hO.ext hCw212
      have hS := Chg.refl [] w212
      refine x_p 0 (.slice pa0 pn0 pc0) rfl (by kernel_rfl)  (fun _ => y_move rfl) (fun _ => hS) ?_
      refine x_p 1 (.int .i64 k149) rfl (by kernel_rfl)  (fun _ => y_move rfl) (fun _ => hS) ?_
      obtain ⟨x213, hx213, hs⟩ := bind_some hs
      obtain ⟨b214, o214, hp214, ha214⟩ := rs_idx Sl22 Sz3 h0 hx213
      refine x_p 2 (.pointer (some ⟨b214, o214, none⟩)) rfl (by kernel_rfl)  (fun _ => hp214 _ _ _ _ _ _ _ _ _ rfl rfl) (fun _ => hS) ?_
      refine x_l 3 (.int .i64 x213) rfl (by kernel_rfl)  (fun w' hw' => y_load rfl ((at_load_int Ag3 Sz3 ha214) w' hw')) hS ?_
      refine x_p 4 (.slice pa0 pn0 pc0) rfl (by kernel_rfl)  (fun _ => y_move rfl) (fun _ => hS) ?_
      refine x_p 5 (.int .i64 k199) rfl (by kernel_rfl)  (fun _ => y_move rfl) (fun _ => hS) ?_
      obtain ⟨x215, hx215, hs⟩ := bind_some hs
      obtain ⟨b216, o216, hp216, ha216⟩ := rs_idx Sl22 Sz3 h0 hx215
      refine x_p 6 (.pointer (some ⟨b216, o216, none⟩)) rfl (by kernel_rfl)  (fun _ => hp216 _ _ _ _ _ _ _ _ _ rfl rfl) (fun _ => hS) ?_
      refine x_l 7 (.int .i64 x215) rfl (by kernel_rfl)  (fun w' hw' => y_load rfl ((at_load_int Ag3 Sz3 ha216) w' hw')) hS ?_
      refine x_p 8 (.bool (x213 == x215)) rfl (by kernel_rfl)  (fun _ => y_eql rfl rfl) (fun _ => hS) ?_
      refine x_end (by kernel_rfl) ?_
      clear hS
      rcases bif_some hs with ⟨hc217, hs⟩ | ⟨hc217, hs⟩
      · skip
        refine c_condT (congrArg Value.bool hc217) ?_
        refine c_region ?_
        refine pl_val (.pointer (some ⟨g5, 1, none⟩)) (y_faddr rfl Fa31x1) ?_
        refine pl_val (.slice a203 n203 c203) (y_load rfl ((box_load Ag29 Sz29 hb6 [(.int .i64 2)] [(.slice a203 n203 c203)] [] rfl rfl (fun _ => rfl)) _ (Chg.refl _ _))) ?_
        refine pl_val (.int .i64 k149) (y_move rfl) ?_
        refine pl_val (.int .i64 k199) (y_move rfl) ?_
        obtain ⟨w218, g218, ew218, eg218, hC218, hb218⟩ := new_block w212 [(.int .i64 k149), (.int .i64 k199)] 3
        refine pl_val (w' := w218) (.slice (some ⟨g218, 0, none⟩) 2 2) (y_bslice rfl (by rw [ew218, eg218]; kernel_rfl)) ?_
        have h0 := h0.ext hC218
        have hb2 := hb2.chg hC218 (fun h => nomatch h)
        have hb6 := hb6.chg hC218 (fun h => nomatch h)
        have hv203 := hv203.ext hC218
        have hC := hC.ext hC218
        have hO := hO.new (X' := [g218]) hC218 (fun q hq => by rw [List.mem_singleton.1 hq, eg218]; exact Nat.le_refl _) (List.nodup_cons.2 ⟨(fun h => nomatch h), List.nodup_nil⟩) (fun q hq => by rw [List.mem_singleton.1 hq]; exact hb218.lt)
        have hv218 := os_of_box (r := (RT.int .i64)) (M := M) (css := [[(.int .i64 k149)], [(.int .i64 k199)]]) (fps := [([] : List Nat), ([] : List Nat)]) (xs := ([k149, k199] : List Int)) hb218 ⟨⟨rfl, rfl⟩, ⟨⟨rfl, rfl⟩, trivial⟩⟩ (Nat.le_of_ble_eq_true rfl) (List.nodup_cons.2 ⟨(fun h => nomatch h), List.nodup_nil⟩)
        have hv218 : (RT.os 3 (RT.int .i64)).val M w218 (.slice (some ⟨g218, 0, none⟩) 2 2) [k149, k199] [g218] := hv218
        obtain ⟨w220, g220, ew220, eg220, hC220, hb220⟩ := new_block w218 [(.slice (some ⟨g218, 0, none⟩) 2 2)] 22
        refine pl_val (w' := w220) (.slice (some ⟨g220, 0, none⟩) 1 1) (y_bslice rfl (by rw [ew220, eg220]; kernel_rfl)) ?_
        have h0 := h0.ext hC220
        have hb2 := hb2.chg hC220 (fun h => nomatch h)
        have hb6 := hb6.chg hC220 (fun h => nomatch h)
        have hv203 := hv203.ext hC220
        have hv218 := hv218.ext hC220
        have hC := hC.ext hC220
        have hO := hO.new (X' := [g220]) hC220 (fun q hq => by rw [List.mem_singleton.1 hq, eg220]; exact Nat.le_refl _) (List.nodup_cons.2 ⟨(fun h => nomatch h), List.nodup_nil⟩) (fun q hq => by rw [List.mem_singleton.1 hq]; exact hb220.lt)
        have hO := hO.perm (R := (g220 :: ((([g218])) ++ ([]))) ++ (f203 ++ (([g5]) ++ (([g2]) ++ ([]))))) (by simp)
        have hnd220 := hO.nd
        have hv220 := os_of_box (r := (RT.os 3 (RT.int .i64))) (M := M) (css := [[(.slice (some ⟨g218, 0, none⟩) 2 2)]]) (fps := [([g218] : List Nat)]) (xs := ([[k149, k199]] : List (List Int))) hb220 ⟨(os_unval hv218), trivial⟩ (Nat.le_of_ble_eq_true rfl) hnd220
        have hv220 : (RT.os 22 (RT.os 3 (RT.int .i64))).val M w220 (.slice (some ⟨g220, 0, none⟩) 1 1) [[k149, k199]] (g220 :: ((([g218])) ++ ([]))) := hv220
        obtain ⟨y223, hy223, hs⟩ := bind_some hs
        have hO := hO.fr1
        obtain ⟨a222, n222, c222, w222, f222, hr222, hC222, hf222, hv222⟩ := app_os Rw29 hy223 hv203 hv220 hO.inM (fun g hg hq => hO.apart g hq (mem_l hg))
        have hG222 := os_block hv203
        refine pl_val (w' := w222) (.slice a222 n222 c222) (y_append rfl rfl (hr222 _)) ?_
        have hO := hO.fr1
        have hO := hO.fr1
        have h0 := h0.mut hC222 (fun g hg => hO.inM g (hG222 g hg)) (fun _ _ h => nomatch h)
        have hb2 := hb2.chg hC222 (fun hg => hO.apart _ (hG222 _ hg) (mem_r (mem_r (mem_l (List.mem_singleton.2 rfl)))))
        have hb6 := hb6.chg hC222 (fun hg => hO.apart _ (hG222 _ hg) (mem_r (mem_l (List.mem_singleton.2 rfl))))
        have hC := hC.step hC222 (fun g hg => hO.inN g (hG222 g hg))
        have hO := hO.eat hC222 hf222 (os_nodup hv222) hv222.fpl
        refine pl_val (.pointer (some ⟨g5, 1, none⟩)) (y_faddr rfl Fa31x1) ?_
        obtain ⟨w225, hst225, hC225, hb225⟩ := box_store (P := Try.prog) hb6 [(.int .i64 2)] [(.slice a203 n203 c203)] [] [(.slice a222 n222 c222)] rfl rfl (by intro u hu; simp only [List.mem_cons, List.not_mem_nil, or_false] at hu; rcases hu with rfl <;> rfl)
        refine pl_skip (w' := w225) (ys_store rfl rfl (hst225 _ _ rfl Sz29)) ?_
        have hO := hO.fr1
        have h0 := h0.mut hC225 (fun g hg => hO.inM g ((fun _ h => h) g hg)) (fun _ _ h => nomatch h)
        have hb2 := hb2.chg hC225 (fun hg => hO.apart _ ((fun _ h => h) _ hg) (mem_r (mem_l (List.mem_singleton.2 rfl))))
        have hv222 := hv222.mut hC225 (fun g hg => hO.inM g ((fun _ h => h) g hg)) (fun g hg e => hO.apart g ((fun _ h => h) g hg) (mem_l (e)))
        have hC := hC.step hC225 (fun g hg => hO.inN g ((fun _ h => h) g hg))
        have hO := hO.ext hC225
        have hb225 : BoxV w225 g5 31 [(.int .i64 2), (.slice a222 n222 c222)] := hb225
        refine c_nil ?_
        refine c_region ?_
        refine pl_val (.int .i64 k199) (y_move rfl) ?_
        refine pl_val (.int .i64 (w64 (k199 + 1))) (y_add rfl rfl) ?_
        refine pl_val (.int .i64 (w64 (k199 + 1))) (y_assign rfl) ?_
        refine c_nil ?_
        cases hs
        have hO := hO.fr2
        have hO := hO.fr1
        have hO := hO.fr2
        exact ⟨_, a222, n222, c222, f222, fr_ovl 38 ⟨rfl, rfl, rfl, rfl, congrArg (Value.int .i64) hw, trivial⟩, hC, hO, h0, hb2, hb225, hv222⟩
      · skip
        refine c_condF (congrArg Value.bool hc217) ?_
        refine wp_skip ?_
        refine c_region ?_
        refine pl_val (.int .i64 k199) (y_move rfl) ?_
        refine pl_val (.int .i64 (w64 (k199 + 1))) (y_add rfl rfl) ?_
        refine pl_val (.int .i64 (w64 (k199 + 1))) (y_assign rfl) ?_
        refine c_nil ?_
        cases hs
        have hO := hO.fr2
        have hO := hO.fr2
        have hO := hO.fr2
        exact ⟨_, a203, n203, c203, f203, fr_ovl 38 ⟨rfl, rfl, rfl, rfl, congrArg (Value.int .i64) hw, trivial⟩, hC, hO, h0, hb2, hb6, hv203⟩
    · skip
      have hO := hO.fr2
      have hO := hO.fr2
      have hO := hO.fr2
      exact ⟨_, a153, n153, c153, f153, fr_ovl 38 ⟨rfl, rfl, rfl, rfl, rfl, trivial⟩, hC, hO, h0, hb2, hb6, hv153⟩
    · cases o201 with
      | nx _ => exact True.intro
      | rt r_ =>
        have hs := after_rt hs
        intro a1 w1 hK
        cases hs
        exact hK
      | br s197 =>
        have hs := after_br hs
        rintro a1 w198 ⟨σ, a205, n205, c205, f205, rfl, hC, hO, h0, hb2, hb6, hv205⟩
        refine c_region ?_
        refine pl_val (.int .i64 k149) (y_move rfl) ?_
        refine pl_val (.int .i64 (w64 (k149 + 1))) (y_add rfl rfl) ?_
        refine pl_val (.int .i64 (w64 (k149 + 1))) (y_assign rfl) ?_
        refine c_nil ?_
        cases hs
        have hO := hO.fr2
        have hO := hO.fr2
        have hO := hO.fr2
        exact ⟨_, a205, n205, c205, f205, fr_ovl 38 ⟨rfl, rfl, rfl, congrArg (Value.int .i64) hw, trivial⟩, hC, hO, h0, hb2, hb6, hv205⟩
  · skip
    have hO := hO.fr2
    have hO := hO.fr1
    have hO := hO.fr2
    exact ⟨_, (some ⟨g3, 0, none⟩), 0, 0, ([g3]), fr_ovl 38 ⟨rfl, rfl, rfl, rfl, trivial⟩, hC, hO, h0, hb2, hb6, hv3⟩
  · cases o151 with
    | nx _ => exact True.intro
    | rt r_ =>
      have hs := after_rt hs
      intro a1 w1 hK
      cases hs
      exact hK
    | br s147 =>
      have hs := after_br hs
      rintro a1 w148 ⟨σ, a155, n155, c155, f155, rfl, hC, hO, h0, hb2, hb6, hv155⟩
      refine c_seq ?_
      refine c_region ?_
      refine pl_val (.agg #[(.int .i64 2), (.slice a155 n155 c155)]) (y_load rfl ((box_load Ag31 Sz31 hb6 [] [(.int .i64 2), (.slice a155 n155 c155)] [] rfl rfl (fun h => nomatch h)) _ (Chg.refl _ _))) ?_
      obtain ⟨w226, hst226, hC226, hb226⟩ := box_store (P := Try.prog) hb2 [] [(.int .i64 0), (.slice none 0 0)] [] [(.int .i64 2), (.slice a155 n155 c155)] rfl rfl (by intro u hu; simp only [List.mem_cons, List.not_mem_nil, or_false] at hu; rcases hu with rfl | rfl <;> rfl)
      refine pl_skip (w' := w226) (ys_store rfl rfl (hst226 _ _ rfl Sz31)) ?_
      have hO := hO.fr2
      have h0 := h0.mut hC226 (fun g hg => hO.inM g ((fun _ h => h) g hg)) (fun _ _ h => nomatch h)
      have hb6 := hb6.chg hC226 (fun hg => hO.apart _ ((fun _ h => h) _ hg) (mem_r (mem_l (List.mem_singleton.2 rfl))))
      have hv155 := hv155.mut hC226 (fun g hg => hO.inM g ((fun _ h => h) g hg)) (fun g hg e => hO.apart g ((fun _ h => h) g hg) (mem_l (e)))
      have hC := hC.step hC226 (fun g hg => hO.inN g ((fun _ h => h) g hg))
      have hO := hO.ext hC226
      have hb226 : BoxV w226 g2 31 [(.int .i64 2), (.slice a155 n155 c155)] := hb226
      refine c_nil ?_
      refine wp_ret ?_
      cases hs
      have hO := hO.drop
      have hO := hO.fr1
      have hO := hO.drop
      exact ⟨_, g2, a155, n155, c155, f155, fr_ovl 38 ⟨rfl, trivial⟩, hb226, hC, hv155, hO.top⟩

def k_spec_l3Less (M : Nat → Prop) (w0 : World) (r : Bool) (a : Act) (w : World) : Prop :=
  ∃ (σ : Nat → Value) , a = fr 30 (ovl σ [(4, (.bool r))]) ∧ Chg [] w0 w
def s_spec_l3Less (a_ : List Int) (b : List Int) : Option (Bool) :=
  (forC (S := Unit) (R := Bool) (fun k21 s19 =>
  (idx a_ k21).bind fun x31 =>
  (idx b k21).bind fun x33 =>
  (bif (x31 != x33) then (idx a_ k21).bind fun x37 =>
  (idx b k21).bind fun x39 =>
  some (.rt (decide (x37 < x39))) else some (.nx ()))) 0 (a_.length : Int) ()).bind fun o23 => after o23 (fun r_ => some r_) (fun s19 =>
  some false)
set_option maxHeartbeats 4000000 in
theorem c_spec_l3Less {M : Nat → Prop} {w : World} {pa0 : Option Addr} {pn0 pc0 : Nat} {pa1 : Option Addr} {pn1 pc1 : Nat} (a_ : List Int) (b : List Int) (h0 : (RT.rs (RT.int .i64)).val M w (.slice pa0 pn0 pc0) a_ ([])) (h1 : (RT.rs (RT.int .i64)).val M w (.slice pa1 pn1 pc1) b ([])) (hM : ∀ g, w.heap.size ≤ g → M g) {r : Bool} (hs : s_spec_l3Less a_ b = some r) :
    Gives Try.prog 177 [(.slice pa0 pn0 pc0), (.slice pa1 pn1 pc1)] w (fun v w' => v = (.bool r) ∧ Chg [] w w') := by
  refine calls_fr Try.func177 rfl Try.ntmps177 (Nat.le_of_ble_eq_true rfl) ?_
  have hO := Own.start (N := Nw w []) hM Nw.fut
  have hC := Chg.refl [] w
  unfold s_spec_l3Less at hs
  refine wp_mono (Q := KPost (k_spec_l3Less M w r)) ?_ (fun e a w1 h => ?_)
  rotate_left
  · cases e
    case ret =>
      obtain ⟨σ, rfl, hrest⟩ := h
      exact ret1x Try.results177 (res_tmp rfl) ⟨rfl, hrest⟩
    all_goals exact (h : False).elim
  refine c_seq ?_
  refine c_region ?_
  refine pl_val (.bool false) (y_assign rfl) ?_
  refine c_nil ?_
  refine c_seq ?_
  refine c_seq ?_
  refine c_region ?_
  refine pl_val (.int .i64 0) (y_assign rfl) ?_
  refine c_nil ?_
  obtain ⟨o23, hl24, hs⟩ := bind_some hs
  refine wp_block ?_
  refine wp_forC (id := 0) (a_.length : Int) (I := fun k21 s19 a w20 => ∃ (σ : Nat → Value), a = fr 30 (ovl σ [(0, (.slice pa0 pn0 pc0)), (1, (.slice pa1 pn1 pc1)), (5, (.int .i64 k21))]) ∧ Chg [] w w20 ∧ Own (Nw w []) M w20 ([]) ∧ (RT.rs (RT.int .i64)).val M w20 (.slice pa0 pn0 pc0) a_ ([]) ∧ (RT.rs (RT.int .i64)).val M w20 (.slice pa1 pn1 pc1) b ([])) (J := fun s19 a w20 => ∃ (σ : Nat → Value), a = fr 30 (ovl σ []) ∧ Chg [] w w20 ∧ Own (Nw w []) M w20 ([]) ∧ (RT.rs (RT.int .i64)).val M w20 (.slice pa0 pn0 pc0) a_ ([]) ∧ (RT.rs (RT.int .i64)).val M w20 (.slice pa1 pn1 pc1) b ([])) (K := (k_spec_l3Less M w)) ?_ ?_ 0 () o23 _ _ ?_ hl24 ?_
  · rintro k21 s19 a w20 ⟨σ, rfl, hC, hO, h0, h1⟩ hlt
    refine c_seq ?_
    refine c_seq ?_
    refine c_region ?_
    refine pl_val (.int .i64 k21) (y_move rfl) ?_
    refine pl_val (.slice pa0 pn0 pc0) (y_move rfl) ?_
    refine pl_val (.int .i64 (a_.length : Int)) (y_len' Sl22 (rs_len h0) rfl) ?_
    refine pl_val (.bool (decide (k21 < (a_.length : Int)))) (y_lss rfl rfl) ?_
    refine c_nil ?_
    refine c_condF (congrArg Value.bool (decide_eq_false hlt)) ?_
    refine wp_exit ?_
    exact ⟨rfl, _, fr_ovl 30 trivial, hC, hO, h0, h1⟩
  · rintro k21 s19 o23 a w20 ⟨σ, rfl, hC, hO, h0, h1⟩ hlt hw hs
    refine c_seq ?_
    refine c_seq ?_
    refine c_region ?_
    refine pl_val (.int .i64 k21) (y_move rfl) ?_
    refine pl_val (.slice pa0 pn0 pc0) (y_move rfl) ?_
    refine pl_val (.int .i64 (a_.length : Int)) (y_len' Sl22 (rs_len h0) rfl) ?_
    refine pl_val (.bool (decide (k21 < (a_.length : Int)))) (y_lss rfl rfl) ?_
    refine c_nil ?_
    refine c_condT (congrArg Value.bool (decide_eq_true hlt)) ?_
    refine wp_skip ?_
    refine c_seq ?_
    refine wp_block ?_
    refine c_seq ?_
    refine x_start [] Mx rfl ?_
    have hCw30 := Chg.drew w20
    generalize World.drew w20 = w30 at hCw30 ⊢
    have h0 := h0.ext hCw30
    have h1 := h1.ext hCw30
    have hC := hC.ext hCw30
    have hO := hO.ext hCw30
    have hS := Chg.refl [] w30
    refine x_p 0 (.slice pa0 pn0 pc0) rfl (by kernel_rfl)  (fun _ => y_move rfl) (fun _ => hS) ?_
    refine x_p 1 (.int .i64 k21) rfl (by kernel_rfl)  (fun _ => y_move rfl) (fun _ => hS) ?_
    obtain ⟨x31, hx31, hs⟩ := bind_some hs
    obtain ⟨b32, o32, hp32, ha32⟩ := rs_idx Sl22 Sz3 h0 hx31
    refine x_p 2 (.pointer (some ⟨b32, o32, none⟩)) rfl (by kernel_rfl)  (fun _ => hp32 _ _ _ _ _ _ _ _ _ rfl rfl) (fun _ => hS) ?_
    refine x_l 3 (.int .i64 x31) rfl (by kernel_rfl)  (fun w' hw' => y_load rfl ((at_load_int Ag3 Sz3 ha32) w' hw')) hS ?_
    refine x_p 4 (.slice pa1 pn1 pc1) rfl (by kernel_rfl)  (fun _ => y_move rfl) (fun _ => hS) ?_
    refine x_p 5 (.int .i64 k21) rfl (by kernel_rfl)  (fun _ => y_move rfl) (fun _ => hS) ?_
    obtain ⟨x33, hx33, hs⟩ := bind_some hs
    obtain ⟨b34, o34, hp34, ha34⟩ := rs_idx Sl22 Sz3 h1 hx33
    refine x_p 6 (.pointer (some ⟨b34, o34, none⟩)) rfl (by kernel_rfl)  (fun _ => hp34 _ _ _ _ _ _ _ _ _ rfl rfl) (fun _ => hS) ?_
    refine x_l 7 (.int .i64 x33) rfl (by kernel_rfl)  (fun w' hw' => y_load rfl ((at_load_int Ag3 Sz3 ha34) w' hw')) hS ?_
    refine x_p 8 (.bool (x31 != x33)) rfl (by kernel_rfl)  (fun _ => y_neq rfl rfl) (fun _ => hS) ?_
    refine x_end (by kernel_rfl) ?_
    clear hS
    rcases bif_some hs with ⟨hc35, hs⟩ | ⟨hc35, hs⟩
    · skip
      refine c_condT (congrArg Value.bool hc35) ?_
      refine c_seq ?_
      refine x_start [] Mx rfl ?_
      have hCw36 := Chg.drew w30
      generalize World.drew w30 = w36 at hCw36 ⊢
      have h0 := h0.ext hCw36
      have h1 := h1.ext hCw36
      have hC := hC.ext hCw36
      have hO := hO.ext hCw36
      have hS := Chg.refl [] w36
      refine x_p 0 (.slice pa0 pn0 pc0) rfl (by kernel_rfl)  (fun _ => y_move rfl) (fun _ => hS) ?_
      refine x_p 1 (.int .i64 k21) rfl (by kernel_rfl)  (fun _ => y_move rfl) (fun _ => hS) ?_
      obtain ⟨x37, hx37, hs⟩ := bind_some hs
      obtain ⟨b38, o38, hp38, ha38⟩ := rs_idx Sl22 Sz3 h0 hx37
      refine x_p 2 (.pointer (some ⟨b38, o38, none⟩)) rfl (by kernel_rfl)  (fun _ => hp38 _ _ _ _ _ _ _ _ _ rfl rfl) (fun _ => hS) ?_
      refine x_l 3 (.int .i64 x37) rfl (by kernel_rfl)  (fun w' hw' => y_load rfl ((at_load_int Ag3 Sz3 ha38) w' hw')) hS ?_
      refine x_p 4 (.slice pa1 pn1 pc1) rfl (by kernel_rfl)  (fun _ => y_move rfl) (fun _ => hS) ?_
      refine x_p 5 (.int .i64 k21) rfl (by kernel_rfl)  (fun _ => y_move rfl) (fun _ => hS) ?_
      obtain ⟨x39, hx39, hs⟩ := bind_some hs
      obtain ⟨b40, o40, hp40, ha40⟩ := rs_idx Sl22 Sz3 h1 hx39
      refine x_p 6 (.pointer (some ⟨b40, o40, none⟩)) rfl (by kernel_rfl)  (fun _ => hp40 _ _ _ _ _ _ _ _ _ rfl rfl) (fun _ => hS) ?_
      refine x_l 7 (.int .i64 x39) rfl (by kernel_rfl)  (fun w' hw' => y_load rfl ((at_load_int Ag3 Sz3 ha40) w' hw')) hS ?_
      refine x_p 8 (.bool (decide (x37 < x39))) rfl (by kernel_rfl)  (fun _ => y_lss rfl rfl) (fun _ => hS) ?_
      refine x_p 9 (.bool (decide (x37 < x39))) rfl (by kernel_rfl)  (fun _ => y_assign rfl) (fun _ => hS) ?_
      refine x_end (by kernel_rfl) ?_
      clear hS
      refine wp_ret ?_
      cases hs
      exact ⟨_, fr_ovl 30 ⟨rfl, trivial⟩, hC⟩
    · skip
      refine c_condF (congrArg Value.bool hc35) ?_
      refine wp_skip ?_
      refine c_region ?_
      refine pl_val (.int .i64 k21) (y_move rfl) ?_
      refine pl_val (.int .i64 (w64 (k21 + 1))) (y_add rfl rfl) ?_
      refine pl_val (.int .i64 (w64 (k21 + 1))) (y_assign rfl) ?_
      refine c_nil ?_
      cases hs
      exact ⟨_, fr_ovl 30 ⟨rfl, rfl, congrArg (Value.int .i64) hw, trivial⟩, hC, hO, h0, h1⟩
  · skip
    exact ⟨_, fr_ovl 30 ⟨rfl, rfl, rfl, trivial⟩, hC, hO, h0, h1⟩
  · cases o23 with
    | nx _ => exact True.intro
    | rt r_ =>
      have hs := after_rt hs
      intro a1 w1 hK
      cases hs
      exact hK
    | br s19 =>
      have hs := after_br hs
      rintro a1 w20 ⟨σ, rfl, hC, hO, h0, h1⟩
      refine c_seq ?_
      refine c_region ?_
      refine pl_val (.bool false) (y_assign rfl) ?_
      refine c_nil ?_
      refine wp_ret ?_
      cases hs
      exact ⟨_, fr_ovl 30 ⟨rfl, trivial⟩, hC⟩

def k_spec_l1Same (M : Nat → Prop) (w0 : World) (r : Bool) (a : Act) (w : World) : Prop :=
  ∃ (σ : Nat → Value) , a = fr 26 (ovl σ [(4, (.bool r))]) ∧ Chg [] w0 w
def s_spec_l1Same (a_ : List Int) (b : List Int) : Option (Bool) :=
  (bif ((a_.length : Int) != (b.length : Int)) then some false else (forC (S := Unit) (R := Bool) (fun k12 s10 =>
  (idx a_ k12).bind fun x17 =>
  (idx b k12).bind fun x19 =>
  (bif (x17 != x19) then some (.rt false) else some (.nx ()))) 0 (a_.length : Int) ()).bind fun o14 => after o14 (fun r_ => some r_) (fun s10 =>
  some true))
set_option maxHeartbeats 4000000 in
theorem c_spec_l1Same {M : Nat → Prop} {w : World} {pa0 : Option Addr} {pn0 pc0 : Nat} {pa1 : Option Addr} {pn1 pc1 : Nat} (a_ : List Int) (b : List Int) (h0 : (RT.rs (RT.int .i64)).val M w (.slice pa0 pn0 pc0) a_ ([])) (h1 : (RT.rs (RT.int .i64)).val M w (.slice pa1 pn1 pc1) b ([])) (hM : ∀ g, w.heap.size ≤ g → M g) {r : Bool} (hs : s_spec_l1Same a_ b = some r) :
    Gives Try.prog 130 [(.slice pa0 pn0 pc0), (.slice pa1 pn1 pc1)] w (fun v w' => v = (.bool r) ∧ Chg [] w w') := by
  refine calls_fr Try.func130 rfl Try.ntmps130 (Nat.le_of_ble_eq_true rfl) ?_
  have hO := Own.start (N := Nw w []) hM Nw.fut
  have hC := Chg.refl [] w
  unfold s_spec_l1Same at hs
  refine wp_mono (Q := KPost (k_spec_l1Same M w r)) ?_ (fun e a w1 h => ?_)
  rotate_left
  · cases e
    case ret =>
      obtain ⟨σ, rfl, hrest⟩ := h
      exact ret1x Try.results130 (res_tmp rfl) ⟨rfl, hrest⟩
    all_goals exact (h : False).elim
  refine c_seq ?_
  refine c_region ?_
  refine pl_val (.bool false) (y_assign rfl) ?_
  refine c_nil ?_
  refine c_seq ?_
  refine c_seq ?_
  refine c_region ?_
  refine pl_val (.slice pa0 pn0 pc0) (y_move rfl) ?_
  refine pl_val (.int .i64 (a_.length : Int)) (y_len' Sl22 (rs_len h0) rfl) ?_
  refine pl_val (.slice pa1 pn1 pc1) (y_move rfl) ?_
  refine pl_val (.int .i64 (b.length : Int)) (y_len' Sl22 (rs_len h1) rfl) ?_
  refine pl_val (.bool ((a_.length : Int) != (b.length : Int))) (y_neq rfl rfl) ?_
  refine c_nil ?_
  rcases bif_some hs with ⟨hc3, hs⟩ | ⟨hc3, hs⟩
  · skip
    refine c_condT (congrArg Value.bool hc3) ?_
    refine c_seq ?_
    refine c_region ?_
    refine pl_val (.bool false) (y_assign rfl) ?_
    refine c_nil ?_
    refine wp_ret ?_
    cases hs
    exact ⟨_, fr_ovl 26 ⟨rfl, trivial⟩, hC⟩
  · skip
    refine c_condF (congrArg Value.bool hc3) ?_
    refine wp_skip ?_
    refine c_seq ?_
    refine c_seq ?_
    refine c_region ?_
    refine pl_val (.int .i64 0) (y_assign rfl) ?_
    refine c_nil ?_
    obtain ⟨o14, hl15, hs⟩ := bind_some hs
    refine wp_block ?_
    refine wp_forC (id := 0) (a_.length : Int) (I := fun k12 s10 a w11 => ∃ (σ : Nat → Value), a = fr 26 (ovl σ [(0, (.slice pa0 pn0 pc0)), (1, (.slice pa1 pn1 pc1)), (5, (.int .i64 k12))]) ∧ Chg [] w w11 ∧ Own (Nw w []) M w11 ([]) ∧ (RT.rs (RT.int .i64)).val M w11 (.slice pa0 pn0 pc0) a_ ([]) ∧ (RT.rs (RT.int .i64)).val M w11 (.slice pa1 pn1 pc1) b ([])) (J := fun s10 a w11 => ∃ (σ : Nat → Value), a = fr 26 (ovl σ []) ∧ Chg [] w w11 ∧ Own (Nw w []) M w11 ([]) ∧ (RT.rs (RT.int .i64)).val M w11 (.slice pa0 pn0 pc0) a_ ([]) ∧ (RT.rs (RT.int .i64)).val M w11 (.slice pa1 pn1 pc1) b ([])) (K := (k_spec_l1Same M w)) ?_ ?_ 0 () o14 _ _ ?_ hl15 ?_
    · rintro k12 s10 a w11 ⟨σ, rfl, hC, hO, h0, h1⟩ hlt
      refine c_seq ?_
      refine c_seq ?_
      refine c_region ?_
      refine pl_val (.int .i64 k12) (y_move rfl) ?_
      refine pl_val (.slice pa0 pn0 pc0) (y_move rfl) ?_
      refine pl_val (.int .i64 (a_.length : Int)) (y_len' Sl22 (rs_len h0) rfl) ?_
      refine pl_val (.bool (decide (k12 < (a_.length : Int)))) (y_lss rfl rfl) ?_
      refine c_nil ?_
      refine c_condF (congrArg Value.bool (decide_eq_false hlt)) ?_
      refine wp_exit ?_
      exact ⟨rfl, _, fr_ovl 26 trivial, hC, hO, h0, h1⟩
    · rintro k12 s10 o14 a w11 ⟨σ, rfl, hC, hO, h0, h1⟩ hlt hw hs
      refine c_seq ?_
      refine c_seq ?_
      refine c_region ?_
      refine pl_val (.int .i64 k12) (y_move rfl) ?_
      refine pl_val (.slice pa0 pn0 pc0) (y_move rfl) ?_
      refine pl_val (.int .i64 (a_.length : Int)) (y_len' Sl22 (rs_len h0) rfl) ?_
      refine pl_val (.bool (decide (k12 < (a_.length : Int)))) (y_lss rfl rfl) ?_
      refine c_nil ?_
      refine c_condT (congrArg Value.bool (decide_eq_true hlt)) ?_
      refine wp_skip ?_
      refine c_seq ?_
      refine wp_block ?_
      refine c_seq ?_
      refine x_start [] Mx rfl ?_
      have hCw16 := Chg.drew w11
      generalize World.drew w11 = w16 at hCw16 ⊢
      have h0 := h0.ext hCw16
      have h1 := h1.ext hCw16
      have hC := hC.ext hCw16
      have hO := hO.ext hCw16
      have hS := Chg.refl [] w16
      refine x_p 0 (.slice pa0 pn0 pc0) rfl (by kernel_rfl)  (fun _ => y_move rfl) (fun _ => hS) ?_
      refine x_p 1 (.int .i64 k12) rfl (by kernel_rfl)  (fun _ => y_move rfl) (fun _ => hS) ?_
      obtain ⟨x17, hx17, hs⟩ := bind_some hs
      obtain ⟨b18, o18, hp18, ha18⟩ := rs_idx Sl22 Sz3 h0 hx17
      refine x_p 2 (.pointer (some ⟨b18, o18, none⟩)) rfl (by kernel_rfl)  (fun _ => hp18 _ _ _ _ _ _ _ _ _ rfl rfl) (fun _ => hS) ?_
      refine x_l 3 (.int .i64 x17) rfl (by kernel_rfl)  (fun w' hw' => y_load rfl ((at_load_int Ag3 Sz3 ha18) w' hw')) hS ?_
      refine x_p 4 (.slice pa1 pn1 pc1) rfl (by kernel_rfl)  (fun _ => y_move rfl) (fun _ => hS) ?_
      refine x_p 5 (.int .i64 k12) rfl (by kernel_rfl)  (fun _ => y_move rfl) (fun _ => hS) ?_
      obtain ⟨x19, hx19, hs⟩ := bind_some hs
      obtain ⟨b20, o20, hp20, ha20⟩ := rs_idx Sl22 Sz3 h1 hx19
      refine x_p 6 (.pointer (some ⟨b20, o20, none⟩)) rfl (by kernel_rfl)  (fun _ => hp20 _ _ _ _ _ _ _ _ _ rfl rfl) (fun _ => hS) ?_
      refine x_l 7 (.int .i64 x19) rfl (by kernel_rfl)  (fun w' hw' => y_load rfl ((at_load_int Ag3 Sz3 ha20) w' hw')) hS ?_
      refine x_p 8 (.bool (x17 != x19)) rfl (by kernel_rfl)  (fun _ => y_neq rfl rfl) (fun _ => hS) ?_
      refine x_end (by kernel_rfl) ?_
      clear hS
      rcases bif_some hs with ⟨hc21, hs⟩ | ⟨hc21, hs⟩
      · skip
        refine c_condT (congrArg Value.bool hc21) ?_
        refine c_seq ?_
        refine c_region ?_
        refine pl_val (.bool false) (y_assign rfl) ?_
        refine c_nil ?_
        refine wp_ret ?_
        cases hs
        exact ⟨_, fr_ovl 26 ⟨rfl, trivial⟩, hC⟩
      · skip
        refine c_condF (congrArg Value.bool hc21) ?_
        refine wp_skip ?_
        refine c_region ?_
        refine pl_val (.int .i64 k12) (y_move rfl) ?_
        refine pl_val (.int .i64 (w64 (k12 + 1))) (y_add rfl rfl) ?_
        refine pl_val (.int .i64 (w64 (k12 + 1))) (y_assign rfl) ?_
        refine c_nil ?_
        cases hs
        exact ⟨_, fr_ovl 26 ⟨rfl, rfl, congrArg (Value.int .i64) hw, trivial⟩, hC, hO, h0, h1⟩
    · skip
      exact ⟨_, fr_ovl 26 ⟨rfl, rfl, rfl, trivial⟩, hC, hO, h0, h1⟩
    · cases o14 with
      | nx _ => exact True.intro
      | rt r_ =>
        have hs := after_rt hs
        intro a1 w1 hK
        cases hs
        exact hK
      | br s10 =>
        have hs := after_br hs
        rintro a1 w11 ⟨σ, rfl, hC, hO, h0, h1⟩
        refine c_seq ?_
        refine c_region ?_
        refine pl_val (.bool true) (y_assign rfl) ?_
        refine c_nil ?_
        refine wp_ret ?_
        cases hs
        exact ⟨_, fr_ovl 26 ⟨rfl, trivial⟩, hC⟩

theorem Sl29 : SlT Try.prog 29 22 := Try.underlying29

theorem Sz22 : SzT Try.prog 22 1 := ⟨_, rfl, rfl⟩

theorem Ag22 : AggT Try.prog 22 false := fun _ => by kernel_rfl

theorem Bd177 : Bodied Try.prog 177 := bodied Try.func177 (by kernel_rfl) rfl

theorem Bd130 : Bodied Try.prog 130 := bodied Try.func130 (by kernel_rfl) rfl

def k_spec_l8Find (M : Nat → Prop) (w0 : World) (r : Int × Bool) (a : Act) (w : World) : Prop :=
  ∃ (σ : Nat → Value) , a = fr 40 (ovl σ [(4, (.int .i64 r.1)), (5, (.bool r.2))]) ∧ Chg [] w0 w
def s_spec_l8Find (list : List (List Int)) (t : List Int) : Option (Int × Bool) :=
  (iter (S := Int × Int) (R := Int × Bool) (fun s11 =>
  (bif (decide (s11.1 < s11.2)) then (idx list (w64 (Int.tdiv (w64 (s11.1 + s11.2)) 2))).bind fun x18 =>
  (s_spec_l3Less x18 t).bind fun r23 =>
  (bif r23 then some (.nx (w64 ((w64 (Int.tdiv (w64 (s11.1 + s11.2)) 2)) + 1), s11.2)) else some (.nx (s11.1, w64 (Int.tdiv (w64 (s11.1 + s11.2)) 2)))) else some (.br (s11.1, s11.2)))) FU (0, (list.length : Int))).bind fun o15 => after o15 (fun r_ => some r_) (fun s11 =>
  (bif (decide (s11.1 < (list.length : Int))) then (idx list s11.1).bind fun x26 =>
  (s_spec_l1Same x26 t).bind fun r31 =>
  some (s11.1, r31) else some (s11.1, false)))
set_option maxHeartbeats 4000000 in
theorem c_spec_l8Find {M : Nat → Prop} {w : World} {pa0 : Option Addr} {pn0 pc0 : Nat} {pa1 : Option Addr} {pn1 pc1 : Nat} (list : List (List Int)) (t : List Int) (h0 : (RT.rs (RT.rs (RT.int .i64))).val M w (.slice pa0 pn0 pc0) list ([])) (h1 : (RT.rs (RT.int .i64)).val M w (.slice pa1 pn1 pc1) t ([])) (hM : ∀ g, w.heap.size ≤ g → M g) {r : Int × Bool} (hs : s_spec_l8Find list t = some r) :
    Gives Try.prog 144 [(.slice pa0 pn0 pc0), (.slice pa1 pn1 pc1)] w (fun v w' => v = (.tuple #[(.int .i64 r.1), (.bool r.2)]) ∧ Chg [] w w') := by
  refine calls_fr Try.func144 rfl Try.ntmps144 (Nat.le_of_ble_eq_true rfl) ?_
  have hO := Own.start (N := Nw w []) hM Nw.fut
  have hC := Chg.refl [] w
  unfold s_spec_l8Find at hs
  refine wp_mono (Q := KPost (k_spec_l8Find M w r)) ?_ (fun e a w1 h => ?_)
  rotate_left
  · cases e
    case ret =>
      obtain ⟨σ, rfl, hrest⟩ := h
      exact ret2x Try.results144 (res_tmp rfl) (res_tmp rfl) ⟨rfl, hrest⟩
    all_goals exact (h : False).elim
  refine c_seq ?_
  refine c_region ?_
  refine pl_val (.int .i64 0) (y_assign rfl) ?_
  refine pl_val (.bool false) (y_assign rfl) ?_
  refine c_nil ?_
  refine c_seq ?_
  refine c_region ?_
  refine pl_val (.slice pa0 pn0 pc0) (y_move rfl) ?_
  refine pl_val (.int .i64 (list.length : Int)) (y_len' Sl29 (rs_len h0) rfl) ?_
  refine pl_val (.int .i64 0) (y_assign rfl) ?_
  refine pl_val (.int .i64 (list.length : Int)) (y_assign rfl) ?_
  refine c_nil ?_
  refine c_seq ?_
  obtain ⟨o15, hl16, hs⟩ := bind_some hs
  refine wp_block ?_
  refine wp_iter (id := 0) (I := fun s11 a w12 => ∃ (σ : Nat → Value), a = fr 40 (ovl σ [(0, (.slice pa0 pn0 pc0)), (1, (.slice pa1 pn1 pc1)), (6, (.int .i64 s11.1)), (7, (.int .i64 s11.2))]) ∧ Chg [] w w12 ∧ Own (Nw w []) M w12 ([]) ∧ (RT.rs (RT.rs (RT.int .i64))).val M w12 (.slice pa0 pn0 pc0) list ([]) ∧ (RT.rs (RT.int .i64)).val M w12 (.slice pa1 pn1 pc1) t ([])) (J := fun s11 a w12 => ∃ (σ : Nat → Value), a = fr 40 (ovl σ [(0, (.slice pa0 pn0 pc0)), (1, (.slice pa1 pn1 pc1)), (6, (.int .i64 s11.1))]) ∧ Chg [] w w12 ∧ Own (Nw w []) M w12 ([]) ∧ (RT.rs (RT.rs (RT.int .i64))).val M w12 (.slice pa0 pn0 pc0) list ([]) ∧ (RT.rs (RT.int .i64)).val M w12 (.slice pa1 pn1 pc1) t ([])) (K := (k_spec_l8Find M w)) ?_ FU (0, (list.length : Int)) o15 _ _ ?_ hl16 ?_
  · rintro s11 o15 a w12 ⟨σ, rfl, hC, hO, h0, h1⟩ hs
    refine c_seq ?_
    refine c_seq ?_
    refine c_region ?_
    refine pl_val (.int .i64 s11.1) (y_move rfl) ?_
    refine pl_val (.int .i64 s11.2) (y_move rfl) ?_
    refine pl_val (.bool (decide (s11.1 < s11.2))) (y_lss rfl rfl) ?_
    refine c_nil ?_
    rcases bif_some hs with ⟨hc17, hs⟩ | ⟨hc17, hs⟩
    · skip
      refine c_condT (congrArg Value.bool hc17) ?_
      refine wp_skip ?_
      refine wp_block ?_
      refine c_seq ?_
      refine c_region ?_
      refine pl_val (.int .i64 s11.1) (y_move rfl) ?_
      refine pl_val (.int .i64 s11.2) (y_move rfl) ?_
      refine pl_val (.int .i64 (w64 (s11.1 + s11.2))) (y_add rfl rfl) ?_
      refine pl_val (.int .i64 (w64 (Int.tdiv (w64 (s11.1 + s11.2)) 2))) (y_quo rfl rfl (by decide)) ?_
      refine pl_val (.int .i64 (w64 (Int.tdiv (w64 (s11.1 + s11.2)) 2))) (y_assign rfl) ?_
      refine c_nil ?_
      refine c_seq ?_
      refine c_region ?_
      refine pl_val (.slice pa0 pn0 pc0) (y_move rfl) ?_
      refine pl_val (.int .i64 (w64 (Int.tdiv (w64 (s11.1 + s11.2)) 2))) (y_move rfl) ?_
      obtain ⟨x18, hx18, hs⟩ := bind_some hs
      obtain ⟨b19, o19, hp19, ha19⟩ := rs_idx Sl29 Sz22 h0 hx18
      refine pl_val (.pointer (some ⟨b19, o19, none⟩)) (hp19 _ _ _ _ _ _ _ _ _ rfl rfl) ?_
      obtain ⟨v20, hl20, hv20⟩ := at_load Ag22 Sz22 (fun _ => rfl) ha19
      obtain ⟨a20, n20, c20, rfl⟩ := rs_sl hv20
      refine pl_val (.slice a20 n20 c20) (y_load rfl (hl20 _ (Chg.refl _ _))) ?_
      refine pl_val (.slice pa1 pn1 pc1) (y_move rfl) ?_
      obtain ⟨r23, hr23, hs⟩ := bind_some hs
      refine pl_call Bd177 rfl (c_spec_l3Less (M := M) x18 t hv20 h1 hO.fut hr23) ?_
      rintro _ w22 ⟨rfl, hC22⟩
      have h0 := h0.ext hC22
      have h1 := h1.ext hC22
      have hv20 := hv20.ext hC22
      have hC := hC.ext hC22
      have hO := hO.ext hC22
      refine c_nil ?_
      rcases bif_some hs with ⟨hc24, hs⟩ | ⟨hc24, hs⟩
      · skip
        refine c_condT (congrArg Value.bool hc24) ?_
        refine c_region ?_
        refine pl_val (.int .i64 (w64 (Int.tdiv (w64 (s11.1 + s11.2)) 2))) (y_move rfl) ?_
        refine pl_val (.int .i64 (w64 ((w64 (Int.tdiv (w64 (s11.1 + s11.2)) 2)) + 1))) (y_add rfl rfl) ?_
        refine pl_val (.int .i64 (w64 ((w64 (Int.tdiv (w64 (s11.1 + s11.2)) 2)) + 1))) (y_assign rfl) ?_
        refine c_nil ?_
        cases hs
        exact ⟨_, fr_ovl 40 ⟨rfl, rfl, rfl, rfl, trivial⟩, hC, hO, h0, h1⟩
      · skip
        refine c_condF (congrArg Value.bool hc24) ?_
        refine c_region ?_
        refine pl_val (.int .i64 (w64 (Int.tdiv (w64 (s11.1 + s11.2)) 2))) (y_move rfl) ?_
        refine pl_val (.int .i64 (w64 (Int.tdiv (w64 (s11.1 + s11.2)) 2))) (y_assign rfl) ?_
        refine c_nil ?_
        cases hs
        exact ⟨_, fr_ovl 40 ⟨rfl, rfl, rfl, rfl, trivial⟩, hC, hO, h0, h1⟩
    · skip
      refine c_condF (congrArg Value.bool hc17) ?_
      refine wp_exit ?_
      cases hs
      exact ⟨rfl, _, fr_ovl 40 ⟨rfl, rfl, rfl, trivial⟩, hC, hO, h0, h1⟩
  · skip
    exact ⟨_, fr_ovl 40 ⟨rfl, rfl, rfl, rfl, trivial⟩, hC, hO, h0, h1⟩
  · cases o15 with
    | nx _ => exact True.intro
    | rt r_ =>
      have hs := after_rt hs
      intro a1 w1 hK
      cases hs
      exact hK
    | br s11 =>
      have hs := after_br hs
      rintro a1 w12 ⟨σ, rfl, hC, hO, h0, h1⟩
      refine c_seq ?_
      refine c_region ?_
      refine pl_val (.int .i64 s11.1) (y_move rfl) ?_
      refine pl_val (.int .i64 s11.1) (y_move rfl) ?_
      refine pl_val (.slice pa0 pn0 pc0) (y_move rfl) ?_
      refine pl_val (.int .i64 (list.length : Int)) (y_len' Sl29 (rs_len h0) rfl) ?_
      refine pl_val (.bool (decide (s11.1 < (list.length : Int)))) (y_lss rfl rfl) ?_
      refine pl_val (.bool (decide (s11.1 < (list.length : Int)))) (y_move rfl) ?_
      rcases bif_some hs with ⟨hc25, hs⟩ | ⟨hc25, hs⟩
      · skip
        refine pl_yes (.slice pa0 pn0 pc0) (tg := 32) (by kernel_rfl) (congrArg Value.bool hc25) (y_move rfl) ?_
        refine pl_yes (.int .i64 s11.1) (tg := 32) (by kernel_rfl) (congrArg Value.bool hc25) (y_move rfl) ?_
        obtain ⟨x26, hx26, hs⟩ := bind_some hs
        obtain ⟨b27, o27, hp27, ha27⟩ := rs_idx Sl29 Sz22 h0 hx26
        refine pl_yes (.pointer (some ⟨b27, o27, none⟩)) (tg := 32) (by kernel_rfl) (congrArg Value.bool hc25) (hp27 _ _ _ _ _ _ _ _ _ rfl rfl) ?_
        obtain ⟨v28, hl28, hv28⟩ := at_load Ag22 Sz22 (fun _ => rfl) ha27
        obtain ⟨a28, n28, c28, rfl⟩ := rs_sl hv28
        refine pl_yes (.slice a28 n28 c28) (tg := 32) (by kernel_rfl) (congrArg Value.bool hc25) (y_load rfl (hl28 _ (Chg.refl _ _))) ?_
        refine pl_yes (.slice pa1 pn1 pc1) (tg := 32) (by kernel_rfl) (congrArg Value.bool hc25) (y_move rfl) ?_
        obtain ⟨r31, hr31, hs⟩ := bind_some hs
        refine pl_cally (tg := 32) (by kernel_rfl) (congrArg Value.bool hc25) Bd130 rfl (c_spec_l1Same (M := M) x26 t hv28 h1 hO.fut hr31) ?_
        rintro _ w30 ⟨rfl, hC30⟩
        have h0 := h0.ext hC30
        have h1 := h1.ext hC30
        have hv28 := hv28.ext hC30
        have hC := hC.ext hC30
        have hO := hO.ext hC30
        refine pl_val (.bool r31) (y_pick_t (congrArg Value.bool hc25) rfl) ?_
        refine pl_val (.int .i64 s11.1) (y_assign rfl) ?_
        refine pl_val (.bool r31) (y_assign rfl) ?_
        refine c_nil ?_
        refine wp_ret ?_
        cases hs
        exact ⟨_, fr_ovl 40 ⟨rfl, rfl, trivial⟩, hC⟩
      · skip
        refine pl_not (tg := 32) (by kernel_rfl) (congrArg Value.bool hc25) ?_
        refine pl_not (tg := 32) (by kernel_rfl) (congrArg Value.bool hc25) ?_
        refine pl_not (tg := 32) (by kernel_rfl) (congrArg Value.bool hc25) ?_
        refine pl_not (tg := 32) (by kernel_rfl) (congrArg Value.bool hc25) ?_
        refine pl_not (tg := 32) (by kernel_rfl) (congrArg Value.bool hc25) ?_
        refine pl_not (tg := 32) (by kernel_rfl) (congrArg Value.bool hc25) ?_
        refine pl_val (.bool false) (y_pick_f (congrArg Value.bool hc25) rfl) ?_
        refine pl_val (.int .i64 s11.1) (y_assign rfl) ?_
        refine pl_val (.bool false) (y_assign rfl) ?_
        refine c_nil ?_
        refine wp_ret ?_
        cases hs
        exact ⟨_, fr_ovl 40 ⟨rfl, rfl, trivial⟩, hC⟩

theorem Fa31x0 : ∀ (a : Addr) (w : World), (Instr.fieldAt 31 (.pointer (some a)) 0).run Try.prog w = .ok (.pointer (some (a.add 0))) w := fun _ _ => by kernel_rfl

theorem Bd144 : Bodied Try.prog 144 := bodied Try.func144 (by kernel_rfl) rfl

def k_spec_l13Has (M : Nat → Prop) (w0 : World) (r : Bool) (a : Act) (w : World) : Prop :=
  ∃ (σ : Nat → Value) , a = fr 20 (ovl σ [(4, (.bool r))]) ∧ Chg [] w0 w
def s_spec_l13Has (r_ : Int × (List (List Int))) (t : List Int) : Option (Bool) :=
  (bif ((t.length : Int) != r_.1) then some false else (s_spec_l8Find r_.2 t).bind fun r6 =>
  some r6.2)
set_option maxHeartbeats 4000000 in
theorem c_spec_l13Has {M : Nat → Prop} {w : World} {pa0 : Option Addr} {pn0 pc0 : Nat} {pa1 : Option Addr} {pn1 pc1 : Nat} (r_ : Int × (List (List Int))) (t : List Int) (h0 : (RT.rs (RT.rs (RT.int .i64))).val M w (.slice pa0 pn0 pc0) r_.2 ([])) (h1 : (RT.rs (RT.int .i64)).val M w (.slice pa1 pn1 pc1) t ([])) (hM : ∀ g, w.heap.size ≤ g → M g) {r : Bool} (hs : s_spec_l13Has r_ t = some r) :
    Gives Try.prog 77 [(.agg #[(.int .i64 r_.1), (.slice pa0 pn0 pc0)]), (.slice pa1 pn1 pc1)] w (fun v w' => v = (.bool r) ∧ Chg [] w w') := by
  refine calls_fr Try.func77 rfl Try.ntmps77 (Nat.le_of_ble_eq_true rfl) ?_
  have hO := Own.start (N := Nw w []) hM Nw.fut
  have hC := Chg.refl [] w
  unfold s_spec_l13Has at hs
  refine wp_mono (Q := KPost (k_spec_l13Has M w r)) ?_ (fun e a w1 h => ?_)
  rotate_left
  · cases e
    case ret =>
      obtain ⟨σ, rfl, hrest⟩ := h
      exact ret1x Try.results77 (res_tmp rfl) ⟨rfl, hrest⟩
    all_goals exact (h : False).elim
  refine c_seq ?_
  refine c_region ?_
  obtain ⟨w3, g3, ew3, eg3, hC3, hb3⟩ := new_block w [(.int .i64 r_.1), (.slice pa0 pn0 pc0)] 31
  refine pl_val (w' := w3) (.pointer (some ⟨g3, 0, none⟩)) (y_box rfl (by rw [ew3, eg3]; kernel_rfl)) ?_
  have h0 := h0.ext hC3
  have h1 := h1.ext hC3
  have hC := hC.ext hC3
  have hO := hO.new (X' := [g3]) hC3 (fun q hq => by rw [List.mem_singleton.1 hq, eg3]; exact Nat.le_refl _) (List.nodup_cons.2 ⟨(fun h => nomatch h), List.nodup_nil⟩) (fun q hq => by rw [List.mem_singleton.1 hq]; exact hb3.lt)
  refine pl_val (.bool false) (y_assign rfl) ?_
  refine c_nil ?_
  refine c_seq ?_
  refine c_seq ?_
  refine c_region ?_
  refine pl_val (.slice pa1 pn1 pc1) (y_move rfl) ?_
  refine pl_val (.int .i64 (t.length : Int)) (y_len' Sl22 (rs_len h1) rfl) ?_
  refine pl_val (.pointer (some ⟨g3, 0, none⟩)) (y_faddr rfl Fa31x0) ?_
  refine pl_val (.int .i64 r_.1) (y_load rfl ((box_load Ag3 Sz3 hb3 [] [(.int .i64 r_.1)] [(.slice pa0 pn0 pc0)] rfl rfl (fun _ => rfl)) _ (Chg.refl _ _))) ?_
  refine pl_val (.bool ((t.length : Int) != r_.1)) (y_neq rfl rfl) ?_
  refine c_nil ?_
  rcases bif_some hs with ⟨hc4, hs⟩ | ⟨hc4, hs⟩
  · skip
    refine c_condT (congrArg Value.bool hc4) ?_
    refine c_seq ?_
    refine c_region ?_
    refine pl_val (.bool false) (y_assign rfl) ?_
    refine c_nil ?_
    refine wp_ret ?_
    cases hs
    exact ⟨_, fr_ovl 20 ⟨rfl, trivial⟩, hC⟩
  · skip
    refine c_condF (congrArg Value.bool hc4) ?_
    refine wp_skip ?_
    refine c_seq ?_
    refine c_region ?_
    refine pl_val (.pointer (some ⟨g3, 1, none⟩)) (y_faddr rfl Fa31x1) ?_
    refine pl_val (.slice pa0 pn0 pc0) (y_load rfl ((box_load Ag29 Sz29 hb3 [(.int .i64 r_.1)] [(.slice pa0 pn0 pc0)] [] rfl rfl (fun _ => rfl)) _ (Chg.refl _ _))) ?_
    refine pl_val (.slice pa1 pn1 pc1) (y_move rfl) ?_
    obtain ⟨r6, hr6, hs⟩ := bind_some hs
    refine pl_call Bd144 rfl (c_spec_l8Find (M := M) r_.2 t h0 h1 hO.fut hr6) ?_
    rintro _ w5 ⟨rfl, hC5⟩
    have h0 := h0.ext hC5
    have h1 := h1.ext hC5
    have hb3 := hb3.chg hC5 (fun h => nomatch h)
    have hC := hC.ext hC5
    have hO := hO.ext hC5
    refine pl_val (.tuple #[(.int .i64 r6.1), (.bool r6.2)]) (y_move rfl) ?_
    refine pl_val (.int .i64 r6.1) (y_extract rfl (by kernel_rfl)) ?_
    refine pl_val (.bool r6.2) (y_extract rfl (by kernel_rfl)) ?_
    refine pl_val (.int .i64 r6.1) (y_assign rfl) ?_
    refine pl_val (.bool r6.2) (y_assign rfl) ?_
    refine c_nil ?_
    refine c_seq ?_
    refine c_region ?_
    refine pl_val (.bool r6.2) (y_move rfl) ?_
    refine pl_val (.bool r6.2) (y_assign rfl) ?_
    refine c_nil ?_
    refine wp_ret ?_
    cases hs
    exact ⟨_, fr_ovl 20 ⟨rfl, trivial⟩, hC⟩

theorem Bd77 : Bodied Try.prog 77 := bodied Try.func77 (by kernel_rfl) rfl

def k_spec_l13Compose (M : Nat → Prop) (w0 : World) (r : (Int × (List (List Int)))) (a : Act) (w : World) : Prop :=
  ∃ (σ : Nat → Value) (rg6 : Nat) (ra0 : Option Addr) (rn0 rc0 : Nat) (rf0 : List Nat), a = fr 55 (ovl σ [(6, (.pointer (some ⟨rg6, 0, none⟩)))]) ∧ BoxV w rg6 31 [(.int .i64 r.1), (.slice ra0 rn0 rc0)] ∧ Chg [] w0 w ∧ (RT.os 22 (RT.os 3 (RT.int .i64))).val M w (.slice ra0 rn0 rc0) r.2 rf0 ∧ Own (Nw w0 []) (fun _ => True) w (rf0 ++ ([]))
def s_spec_l13Compose (n : Int) (r_ : Int × (List (List Int))) (s_ : Int × (List (List Int))) : Option ((Int × (List (List Int)))) :=
  (forC (S := (List (List Int))) (R := (Int × (List (List Int)))) (fun k296 s294 =>
  (forC (S := (List (List Int))) (R := (Int × (List (List Int)))) (fun k394 s392 =>
  (iter (S := Bool × Int) (R := (Int × (List (List Int)))) (fun s416 =>
  (bif ((decide (s416.2 < n)) && (!s416.1)) then (s_spec_l13Has (r_.1, r_.2) ([k296, s416.2])).bind fun r430 =>
  (bif r430 then (s_spec_l13Has (s_.1, s_.2) ([s416.2, k394])).bind fun r435 =>
  some (.nx (r435, w64 (s416.2 + 1))) else some (.nx (false, w64 (s416.2 + 1)))) else some (.br (s416.1, s416.2)))) FU (false, 0)).bind fun o420 => after o420 (fun r_ => some (.rt r_)) (fun s416 =>
  (bif s416.1 then (app s392 ([[k296, k394]])).bind fun y442 =>
  some (.nx y442) else some (.nx s392)))) 0 n s294).bind fun o396 => after o396 (fun r_ => some (.rt r_)) (fun s392 =>
  some (.nx s392))) 0 n ([])).bind fun o298 => after o298 (fun r_ => some r_) (fun s294 =>
  some (2, s294))
set_option maxHeartbeats 4000000 in
theorem c_spec_l13Compose {M : Nat → Prop} {w : World} {pa0 : Option Addr} {pn0 pc0 : Nat} {pa1 : Option Addr} {pn1 pc1 : Nat} (n : Int) (r_ : Int × (List (List Int))) (s_ : Int × (List (List Int))) (h0 : (RT.rs (RT.rs (RT.int .i64))).val M w (.slice pa0 pn0 pc0) r_.2 ([])) (h1 : (RT.rs (RT.rs (RT.int .i64))).val M w (.slice pa1 pn1 pc1) s_.2 ([])) (hM : ∀ g, w.heap.size ≤ g → M g) {r : (Int × (List (List Int)))} (hs : s_spec_l13Compose n r_ s_ = some r) :
    Gives Try.prog 142 [(.int .i64 n), (.agg #[(.int .i64 r_.1), (.slice pa0 pn0 pc0)]), (.agg #[(.int .i64 s_.1), (.slice pa1 pn1 pc1)])] w (fun v w' => ∃ (ra0 : Option Addr) (rn0 rc0 : Nat) (rf0 : List Nat), v = (.agg #[(.int .i64 r.1), (.slice ra0 rn0 rc0)]) ∧ Chg [] w w' ∧ (RT.os 22 (RT.os 3 (RT.int .i64))).val M w' (.slice ra0 rn0 rc0) r.2 rf0 ∧ Own (Nw w []) (fun _ => True) w' (rf0 ++ ([]))) := by
  refine calls_fr Try.func142 rfl Try.ntmps142 (Nat.le_of_ble_eq_true rfl) ?_
  have hO := Own.start (N := Nw w []) hM Nw.fut
  have hC := Chg.refl [] w
  unfold s_spec_l13Compose at hs
  refine wp_mono (Q := KPost (k_spec_l13Compose M w r)) ?_ (fun e a w1 h => ?_)
  rotate_left
  · cases e
    case ret =>
      obtain ⟨σ, rg6, ra0, rn0, rc0, rf0, rfl, hbrg6, hrest⟩ := h
      exact ret1x Try.results142 (res_cell rfl (box_load Ag31 Sz31 hbrg6 [] _ [] rfl rfl (fun h => nomatch h))) ⟨ra0, rn0, rc0, rf0, rfl, hrest⟩
    all_goals exact (h : False).elim
  refine c_seq ?_
  refine c_region ?_
  obtain ⟨w3, g3, ew3, eg3, hC3, hb3⟩ := new_block w [(.int .i64 r_.1), (.slice pa0 pn0 pc0)] 31
  refine pl_val (w' := w3) (.pointer (some ⟨g3, 0, none⟩)) (y_box rfl (by rw [ew3, eg3]; kernel_rfl)) ?_
  have h0 := h0.ext hC3
  have h1 := h1.ext hC3
  have hC := hC.ext hC3
  have hO := hO.new (X' := [g3]) hC3 (fun q hq => by rw [List.mem_singleton.1 hq, eg3]; exact Nat.le_refl _) (List.nodup_cons.2 ⟨(fun h => nomatch h), List.nodup_nil⟩) (fun q hq => by rw [List.mem_singleton.1 hq]; exact hb3.lt)
  obtain ⟨w4, g4, ew4, eg4, hC4, hb4⟩ := new_block w3 [(.int .i64 s_.1), (.slice pa1 pn1 pc1)] 31
  refine pl_val (w' := w4) (.pointer (some ⟨g4, 0, none⟩)) (y_box rfl (by rw [ew4, eg4]; kernel_rfl)) ?_
  have h0 := h0.ext hC4
  have h1 := h1.ext hC4
  have hb3 := hb3.chg hC4 (fun h => nomatch h)
  have hC := hC.ext hC4
  have hO := hO.new (X' := [g4]) hC4 (fun q hq => by rw [List.mem_singleton.1 hq, eg4]; exact Nat.le_refl _) (List.nodup_cons.2 ⟨(fun h => nomatch h), List.nodup_nil⟩) (fun q hq => by rw [List.mem_singleton.1 hq]; exact hb4.lt)
  obtain ⟨w5, g5, ew5, eg5, hC5, hb5⟩ := new_block w4 [(.int .i64 0), (.slice none 0 0)] 31
  refine pl_val (w' := w5) (.pointer (some ⟨g5, 0, none⟩)) (y_alloc (by rw [ew5, eg5]; kernel_rfl)) ?_
  have h0 := h0.ext hC5
  have h1 := h1.ext hC5
  have hb3 := hb3.chg hC5 (fun h => nomatch h)
  have hb4 := hb4.chg hC5 (fun h => nomatch h)
  have hC := hC.ext hC5
  have hO := hO.new (X' := [g5]) hC5 (fun q hq => by rw [List.mem_singleton.1 hq, eg5]; exact Nat.le_refl _) (List.nodup_cons.2 ⟨(fun h => nomatch h), List.nodup_nil⟩) (fun q hq => by rw [List.mem_singleton.1 hq]; exact hb5.lt)
  refine c_nil ?_
  refine c_seq ?_
  refine c_region ?_
  obtain ⟨w6, g6, ew6, eg6, hC6, hb6⟩ := new_block w5 [] 22
  refine pl_val (w' := w6) (.slice (some ⟨g6, 0, none⟩) 0 0) (y_bslice rfl (by rw [ew6, eg6]; kernel_rfl)) ?_
  have h0 := h0.ext hC6
  have h1 := h1.ext hC6
  have hb3 := hb3.chg hC6 (fun h => nomatch h)
  have hb4 := hb4.chg hC6 (fun h => nomatch h)
  have hb5 := hb5.chg hC6 (fun h => nomatch h)
  have hC := hC.ext hC6
  have hO := hO.new (X' := [g6]) hC6 (fun q hq => by rw [List.mem_singleton.1 hq, eg6]; exact Nat.le_refl _) (List.nodup_cons.2 ⟨(fun h => nomatch h), List.nodup_nil⟩) (fun q hq => by rw [List.mem_singleton.1 hq]; exact hb6.lt)
  have hv6 := os_of_box (r := (RT.os 3 (RT.int .i64))) (M := M) (css := []) (fps := []) (xs := ([] : List (List Int))) hb6 trivial (Nat.zero_le _) (List.nodup_cons.2 ⟨(fun h => nomatch h), List.nodup_nil⟩)
  have hv6 : (RT.os 22 (RT.os 3 (RT.int .i64))).val M w6 (.slice (some ⟨g6, 0, none⟩) 0 0) [] [g6] := hv6
  refine pl_val (.agg #[(.int .i64 2), (.slice (some ⟨g6, 0, none⟩) 0 0)]) (y_build rfl (by kernel_rfl)) ?_
  obtain ⟨w8, g8, ew8, eg8, hC8, hb8⟩ := new_block w6 [(.int .i64 0), (.slice none 0 0)] 31
  refine pl_val (w' := w8) (.pointer (some ⟨g8, 0, none⟩)) (y_alloc (by rw [ew8, eg8]; kernel_rfl)) ?_
  have h0 := h0.ext hC8
  have h1 := h1.ext hC8
  have hb3 := hb3.chg hC8 (fun h => nomatch h)
  have hb4 := hb4.chg hC8 (fun h => nomatch h)
  have hb5 := hb5.chg hC8 (fun h => nomatch h)
  have hv6 := hv6.ext hC8
  have hC := hC.ext hC8
  have hO := hO.new (X' := [g8]) hC8 (fun q hq => by rw [List.mem_singleton.1 hq, eg8]; exact Nat.le_refl _) (List.nodup_cons.2 ⟨(fun h => nomatch h), List.nodup_nil⟩) (fun q hq => by rw [List.mem_singleton.1 hq]; exact hb8.lt)
  obtain ⟨w9, hst9, hC9, hb9⟩ := box_store (P := Try.prog) hb8 [] [(.int .i64 0), (.slice none 0 0)] [] [(.int .i64 2), (.slice (some ⟨g6, 0, none⟩) 0 0)] rfl rfl (by intro u hu; simp only [List.mem_cons, List.not_mem_nil, or_false] at hu; rcases hu with rfl | rfl <;> rfl)
  refine pl_skip (w' := w9) (ys_store rfl rfl (hst9 _ _ rfl Sz31)) ?_
  have h0 := h0.mut hC9 (fun g hg => hO.inM g ((fun _ h => h) g hg)) (fun _ _ h => nomatch h)
  have h1 := h1.mut hC9 (fun g hg => hO.inM g ((fun _ h => h) g hg)) (fun _ _ h => nomatch h)
  have hb3 := hb3.chg hC9 (fun hg => hO.apart _ ((fun _ h => h) _ hg) (mem_r (mem_r (mem_r (mem_l (List.mem_singleton.2 rfl))))))
  have hb4 := hb4.chg hC9 (fun hg => hO.apart _ ((fun _ h => h) _ hg) (mem_r (mem_r (mem_l (List.mem_singleton.2 rfl)))))
  have hb5 := hb5.chg hC9 (fun hg => hO.apart _ ((fun _ h => h) _ hg) (mem_r (mem_l (List.mem_singleton.2 rfl))))
  have hv6 := hv6.mut hC9 (fun g hg => hO.inM g ((fun _ h => h) g hg)) (fun g hg e => hO.apart g ((fun _ h => h) g hg) (mem_l (e)))
  have hC := hC.step hC9 (fun g hg => hO.inN g ((fun _ h => h) g hg))
  have hO := hO.ext hC9
  have hb9 : BoxV w9 g8 31 [(.int .i64 2), (.slice (some ⟨g6, 0, none⟩) 0 0)] := hb9
  refine c_nil ?_
  refine c_seq ?_
  refine c_seq ?_
  refine c_region ?_
  refine pl_val (.int .i64 0) (y_assign rfl) ?_
  refine c_nil ?_
  obtain ⟨o298, hl299, hs⟩ := bind_some hs
  refine wp_block ?_
  refine wp_forC (id := 0) n (I := fun k296 s294 a w295 => ∃ (σ : Nat → Value) (a300 : Option Addr) (n300 : Nat) (c300 : Nat) (f300 : List Nat), a = fr 55 (ovl σ [(0, (.int .i64 n)), (4, (.pointer (some ⟨g3, 0, none⟩))), (5, (.pointer (some ⟨g4, 0, none⟩))), (6, (.pointer (some ⟨g5, 0, none⟩))), (7, (.pointer (some ⟨g8, 0, none⟩))), (8, (.int .i64 k296))]) ∧ Chg [] w w295 ∧ Own (Nw w []) M w295 (f300 ++ (([g8]) ++ (([g5]) ++ (([g4]) ++ (([g3]) ++ []))))) ∧ (RT.rs (RT.rs (RT.int .i64))).val M w295 (.slice pa0 pn0 pc0) r_.2 ([]) ∧ (RT.rs (RT.rs (RT.int .i64))).val M w295 (.slice pa1 pn1 pc1) s_.2 ([]) ∧ BoxV w295 g3 31 [(.int .i64 r_.1), (.slice pa0 pn0 pc0)] ∧ BoxV w295 g4 31 [(.int .i64 s_.1), (.slice pa1 pn1 pc1)] ∧ BoxV w295 g5 31 [(.int .i64 0), (.slice none 0 0)] ∧ BoxV w295 g8 31 [(.int .i64 2), (.slice a300 n300 c300)] ∧ (RT.os 22 (RT.os 3 (RT.int .i64))).val M w295 (.slice a300 n300 c300) s294 f300) (J := fun s294 a w295 => ∃ (σ : Nat → Value) (a302 : Option Addr) (n302 : Nat) (c302 : Nat) (f302 : List Nat), a = fr 55 (ovl σ [(6, (.pointer (some ⟨g5, 0, none⟩))), (7, (.pointer (some ⟨g8, 0, none⟩)))]) ∧ Chg [] w w295 ∧ Own (Nw w []) M w295 (f302 ++ (([g8]) ++ (([g5]) ++ (([g4]) ++ (([g3]) ++ []))))) ∧ (RT.rs (RT.rs (RT.int .i64))).val M w295 (.slice pa0 pn0 pc0) r_.2 ([]) ∧ (RT.rs (RT.rs (RT.int .i64))).val M w295 (.slice pa1 pn1 pc1) s_.2 ([]) ∧ BoxV w295 g3 31 [(.int .i64 r_.1), (.slice pa0 pn0 pc0)] ∧ BoxV w295 g4 31 [(.int .i64 s_.1), (.slice pa1 pn1 pc1)] ∧ BoxV w295 g5 31 [(.int .i64 0), (.slice none 0 0)] ∧ BoxV w295 g8 31 [(.int .i64 2), (.slice a302 n302 c302)] ∧ (RT.os 22 (RT.os 3 (RT.int .i64))).val M w295 (.slice a302 n302 c302) s294 f302) (K := (k_spec_l13Compose M w)) ?_ ?_ 0 ([]) o298 _ _ ?_ hl299 ?_
  · rintro k296 s294 a w295 ⟨σ, a300, n300, c300, f300, rfl, hC, hO, h0, h1, hb3, hb4, hb5, hb9, hv300⟩ hlt
    refine c_seq ?_
    refine c_seq ?_
    refine c_region ?_
    refine pl_val (.int .i64 k296) (y_move rfl) ?_
    refine pl_val (.int .i64 n) (y_move rfl) ?_
    refine pl_val (.bool (decide (k296 < n))) (y_lss rfl rfl) ?_
    refine c_nil ?_
    refine c_condF (congrArg Value.bool (decide_eq_false hlt)) ?_
    refine wp_exit ?_
    have hO := hO.fr4
    have hO := hO.fr4
    have hO := hO.fr4
    have hO := hO.fr4
    have hO := hO.fr4
    exact ⟨rfl, _, a300, n300, c300, f300, fr_ovl 55 ⟨rfl, rfl, trivial⟩, hC, hO, h0, h1, hb3, hb4, hb5, hb9, hv300⟩
  · rintro k296 s294 o298 a w295 ⟨σ, a300, n300, c300, f300, rfl, hC, hO, h0, h1, hb3, hb4, hb5, hb9, hv300⟩ hlt hw hs
    refine c_seq ?_
    refine c_seq ?_
    refine c_region ?_
    refine pl_val (.int .i64 k296) (y_move rfl) ?_
    refine pl_val (.int .i64 n) (y_move rfl) ?_
    refine pl_val (.bool (decide (k296 < n))) (y_lss rfl rfl) ?_
    refine c_nil ?_
    refine c_condT (congrArg Value.bool (decide_eq_true hlt)) ?_
    refine wp_skip ?_
    refine c_seq ?_
    refine wp_block ?_
    refine c_seq ?_
    refine c_region ?_
    refine pl_val (.int .i64 0) (y_assign rfl) ?_
    refine c_nil ?_
    obtain ⟨o396, hl397, hs⟩ := bind_some hs
    refine wp_block ?_
    refine wp_forC (id := 2) n (I := fun k394 s392 a w393 => ∃ (σ : Nat → Value) (a398 : Option Addr) (n398 : Nat) (c398 : Nat) (f398 : List Nat), a = fr 55 (ovl σ [(0, (.int .i64 n)), (4, (.pointer (some ⟨g3, 0, none⟩))), (5, (.pointer (some ⟨g4, 0, none⟩))), (6, (.pointer (some ⟨g5, 0, none⟩))), (7, (.pointer (some ⟨g8, 0, none⟩))), (8, (.int .i64 k296)), (9, (.int .i64 k394))]) ∧ Chg [] w w393 ∧ Own (Nw w []) M w393 (f398 ++ (([g8]) ++ (([g5]) ++ (([g4]) ++ (([g3]) ++ []))))) ∧ (RT.rs (RT.rs (RT.int .i64))).val M w393 (.slice pa0 pn0 pc0) r_.2 ([]) ∧ (RT.rs (RT.rs (RT.int .i64))).val M w393 (.slice pa1 pn1 pc1) s_.2 ([]) ∧ BoxV w393 g3 31 [(.int .i64 r_.1), (.slice pa0 pn0 pc0)] ∧ BoxV w393 g4 31 [(.int .i64 s_.1), (.slice pa1 pn1 pc1)] ∧ BoxV w393 g5 31 [(.int .i64 0), (.slice none 0 0)] ∧ BoxV w393 g8 31 [(.int .i64 2), (.slice a398 n398 c398)] ∧ (RT.os 22 (RT.os 3 (RT.int .i64))).val M w393 (.slice a398 n398 c398) s392 f398) (J := fun s392 a w393 => ∃ (σ : Nat → Value) (a400 : Option Addr) (n400 : Nat) (c400 : Nat) (f400 : List Nat), a = fr 55 (ovl σ [(0, (.int .i64 n)), (4, (.pointer (some ⟨g3, 0, none⟩))), (5, (.pointer (some ⟨g4, 0, none⟩))), (6, (.pointer (some ⟨g5, 0, none⟩))), (7, (.pointer (some ⟨g8, 0, none⟩))), (8, (.int .i64 k296))]) ∧ Chg [] w w393 ∧ Own (Nw w []) M w393 (f400 ++ (([g8]) ++ (([g5]) ++ (([g4]) ++ (([g3]) ++ []))))) ∧ (RT.rs (RT.rs (RT.int .i64))).val M w393 (.slice pa0 pn0 pc0) r_.2 ([]) ∧ (RT.rs (RT.rs (RT.int .i64))).val M w393 (.slice pa1 pn1 pc1) s_.2 ([]) ∧ BoxV w393 g3 31 [(.int .i64 r_.1), (.slice pa0 pn0 pc0)] ∧ BoxV w393 g4 31 [(.int .i64 s_.1), (.slice pa1 pn1 pc1)] ∧ BoxV w393 g5 31 [(.int .i64 0), (.slice none 0 0)] ∧ BoxV w393 g8 31 [(.int .i64 2), (.slice a400 n400 c400)] ∧ (RT.os 22 (RT.os 3 (RT.int .i64))).val M w393 (.slice a400 n400 c400) s392 f400) (K := (k_spec_l13Compose M w)) ?_ ?_ 0 s294 o396 _ _ ?_ hl397 ?_
    · rintro k394 s392 a w393 ⟨σ, a398, n398, c398, f398, rfl, hC, hO, h0, h1, hb3, hb4, hb5, hb9, hv398⟩ hlt
      refine c_seq ?_
      refine c_seq ?_
      refine c_region ?_
      refine pl_val (.int .i64 k394) (y_move rfl) ?_
      refine pl_val (.int .i64 n) (y_move rfl) ?_
      refine pl_val (.bool (decide (k394 < n))) (y_lss rfl rfl) ?_
      refine c_nil ?_
      refine c_condF (congrArg Value.bool (decide_eq_false hlt)) ?_
      refine wp_exit ?_
      have hO := hO.fr4
      have hO := hO.fr4
      have hO := hO.fr4
      have hO := hO.fr4
      have hO := hO.fr4
      exact ⟨rfl, _, a398, n398, c398, f398, fr_ovl 55 ⟨rfl, rfl, rfl, rfl, rfl, rfl, trivial⟩, hC, hO, h0, h1, hb3, hb4, hb5, hb9, hv398⟩
    · rintro k394 s392 o396 a w393 ⟨σ, a398, n398, c398, f398, rfl, hC, hO, h0, h1, hb3, hb4, hb5, hb9, hv398⟩ hlt hw hs
      refine c_seq ?_
      refine c_seq ?_
      refine c_region ?_
      refine pl_val (.int .i64 k394) (y_move rfl) ?_
      refine pl_val (.int .i64 n) (y_move rfl) ?_
      refine pl_val (.bool (decide (k394 < n))) (y_lss rfl rfl) ?_
      refine c_nil ?_
      refine c_condT (congrArg Value.bool (decide_eq_true hlt)) ?_
      refine wp_skip ?_
      refine c_seq ?_
      refine wp_block ?_
      refine c_seq ?_
      refine c_region ?_
      refine pl_val (.bool false) (y_assign rfl) ?_
      refine c_nil ?_
      refine c_seq ?_
      refine c_seq ?_
      refine c_region ?_
      refine pl_val (.int .i64 0) (y_assign rfl) ?_
      refine c_nil ?_
      obtain ⟨o420, hl421, hs⟩ := bind_some hs
      refine wp_block ?_
      refine wp_iter (id := 4) (I := fun s416 a w417 => ∃ (σ : Nat → Value), a = fr 55 (ovl σ [(0, (.int .i64 n)), (4, (.pointer (some ⟨g3, 0, none⟩))), (5, (.pointer (some ⟨g4, 0, none⟩))), (6, (.pointer (some ⟨g5, 0, none⟩))), (7, (.pointer (some ⟨g8, 0, none⟩))), (8, (.int .i64 k296)), (9, (.int .i64 k394)), (10, (.bool s416.1)), (11, (.int .i64 s416.2))]) ∧ Chg [] w w417 ∧ Own (Nw w []) M w417 (f398 ++ (([g8]) ++ (([g5]) ++ (([g4]) ++ (([g3]) ++ []))))) ∧ (RT.rs (RT.rs (RT.int .i64))).val M w417 (.slice pa0 pn0 pc0) r_.2 ([]) ∧ (RT.rs (RT.rs (RT.int .i64))).val M w417 (.slice pa1 pn1 pc1) s_.2 ([]) ∧ BoxV w417 g3 31 [(.int .i64 r_.1), (.slice pa0 pn0 pc0)] ∧ BoxV w417 g4 31 [(.int .i64 s_.1), (.slice pa1 pn1 pc1)] ∧ BoxV w417 g5 31 [(.int .i64 0), (.slice none 0 0)] ∧ BoxV w417 g8 31 [(.int .i64 2), (.slice a398 n398 c398)] ∧ (RT.os 22 (RT.os 3 (RT.int .i64))).val M w417 (.slice a398 n398 c398) s392 f398) (J := fun s416 a w417 => ∃ (σ : Nat → Value), a = fr 55 (ovl σ [(0, (.int .i64 n)), (4, (.pointer (some ⟨g3, 0, none⟩))), (5, (.pointer (some ⟨g4, 0, none⟩))), (6, (.pointer (some ⟨g5, 0, none⟩))), (7, (.pointer (some ⟨g8, 0, none⟩))), (8, (.int .i64 k296)), (9, (.int .i64 k394)), (10, (.bool s416.1))]) ∧ Chg [] w w417 ∧ Own (Nw w []) M w417 (f398 ++ (([g8]) ++ (([g5]) ++ (([g4]) ++ (([g3]) ++ []))))) ∧ (RT.rs (RT.rs (RT.int .i64))).val M w417 (.slice pa0 pn0 pc0) r_.2 ([]) ∧ (RT.rs (RT.rs (RT.int .i64))).val M w417 (.slice pa1 pn1 pc1) s_.2 ([]) ∧ BoxV w417 g3 31 [(.int .i64 r_.1), (.slice pa0 pn0 pc0)] ∧ BoxV w417 g4 31 [(.int .i64 s_.1), (.slice pa1 pn1 pc1)] ∧ BoxV w417 g5 31 [(.int .i64 0), (.slice none 0 0)] ∧ BoxV w417 g8 31 [(.int .i64 2), (.slice a398 n398 c398)] ∧ (RT.os 22 (RT.os 3 (RT.int .i64))).val M w417 (.slice a398 n398 c398) s392 f398) (K := (k_spec_l13Compose M w)) ?_ FU (false, 0) o420 _ _ ?_ hl421 ?_
      · rintro s416 o420 a w417 ⟨σ, rfl, hC, hO, h0, h1, hb3, hb4, hb5, hb9, hv398⟩ hs
        refine c_seq ?_
        refine c_seq ?_
        refine c_mid (I := fun a w423 => ∃ (σ : Nat → Value), a = fr 55 (ovl σ [(0, (.int .i64 n)), (4, (.pointer (some ⟨g3, 0, none⟩))), (5, (.pointer (some ⟨g4, 0, none⟩))), (6, (.pointer (some ⟨g5, 0, none⟩))), (7, (.pointer (some ⟨g8, 0, none⟩))), (8, (.int .i64 k296)), (9, (.int .i64 k394)), (10, (.bool s416.1)), (11, (.int .i64 s416.2)), (30, (.bool ((decide (s416.2 < n)) && (!s416.1))))]) ∧ Chg [] w417 w423) ?_ ?_
        · have hMid := Chg.refl [] w417
          refine c_region ?_
          refine pl_val (.int .i64 s416.2) (y_move rfl) ?_
          refine pl_val (.int .i64 n) (y_move rfl) ?_
          refine pl_val (.bool (decide (s416.2 < n))) (y_lss rfl rfl) ?_
          refine pl_val (.bool (decide (s416.2 < n))) (y_move rfl) ?_
          rcases Bool.eq_false_or_eq_true ((decide (s416.2 < n))) with hc425 | hc425
          · skip
            refine pl_yes (.bool s416.1) (tg := 27) (by kernel_rfl) (congrArg Value.bool hc425) (y_move rfl) ?_
            refine pl_yes (.bool (!s416.1)) (tg := 27) (by kernel_rfl) (congrArg Value.bool hc425) (y_not rfl) ?_
            refine pl_val (.bool ((decide (s416.2 < n)) && (!s416.1))) (y_pick_t (congrArg Value.bool hc425) (congrArg Value.bool (by rw [hc425]; rfl))) ?_
            refine c_nil ?_
            exact ⟨_, fr_ovl 55 ⟨rfl, rfl, rfl, rfl, rfl, rfl, rfl, rfl, rfl, rfl, trivial⟩, hMid⟩
          · skip
            refine pl_not (tg := 27) (by kernel_rfl) (congrArg Value.bool hc425) ?_
            refine pl_not (tg := 27) (by kernel_rfl) (congrArg Value.bool hc425) ?_
            refine pl_val (.bool ((decide (s416.2 < n)) && (!s416.1))) (y_pick_f (congrArg Value.bool hc425) (congrArg Value.bool (by rw [hc425]; rfl))) ?_
            refine c_nil ?_
            exact ⟨_, fr_ovl 55 ⟨rfl, rfl, rfl, rfl, rfl, rfl, rfl, rfl, rfl, rfl, trivial⟩, hMid⟩
        · rintro a1 w423 ⟨σ, rfl, hCs422⟩
          have h0 := h0.ext hCs422
          have h1 := h1.ext hCs422
          have hb3 := hb3.chg hCs422 (fun h => nomatch h)
          have hb4 := hb4.chg hCs422 (fun h => nomatch h)
          have hb5 := hb5.chg hCs422 (fun h => nomatch h)
          have hb9 := hb9.chg hCs422 (fun h => nomatch h)
          have hv398 := hv398.ext hCs422
          have hC := hC.ext hCs422
          have hO := hO.ext hCs422
          rcases bif_some hs with ⟨hc426, hs⟩ | ⟨hc426, hs⟩
          · skip
            refine c_condT (congrArg Value.bool hc426) ?_
            refine wp_skip ?_
            refine c_seq ?_
            refine wp_block ?_
            refine c_region ?_
            refine pl_val (.agg #[(.int .i64 r_.1), (.slice pa0 pn0 pc0)]) (y_load rfl ((box_load Ag31 Sz31 hb3 [] [(.int .i64 r_.1), (.slice pa0 pn0 pc0)] [] rfl rfl (fun h => nomatch h)) _ (Chg.refl _ _))) ?_
            refine pl_val (.int .i64 k296) (y_move rfl) ?_
            refine pl_val (.int .i64 s416.2) (y_move rfl) ?_
            obtain ⟨w427, g427, ew427, eg427, hC427, hb427⟩ := new_block w423 [(.int .i64 k296), (.int .i64 s416.2)] 3
            refine pl_val (w' := w427) (.slice (some ⟨g427, 0, none⟩) 2 2) (y_bslice rfl (by rw [ew427, eg427]; kernel_rfl)) ?_
            have h0 := h0.ext hC427
            have h1 := h1.ext hC427
            have hb3 := hb3.chg hC427 (fun h => nomatch h)
            have hb4 := hb4.chg hC427 (fun h => nomatch h)
            have hb5 := hb5.chg hC427 (fun h => nomatch h)
            have hb9 := hb9.chg hC427 (fun h => nomatch h)
            have hv398 := hv398.ext hC427
            have hC := hC.ext hC427
            have hO := hO.new (X' := [g427]) hC427 (fun q hq => by rw [List.mem_singleton.1 hq, eg427]; exact Nat.le_refl _) (List.nodup_cons.2 ⟨(fun h => nomatch h), List.nodup_nil⟩) (fun q hq => by rw [List.mem_singleton.1 hq]; exact hb427.lt)
            have hv427 := os_of_box (r := (RT.int .i64)) (M := M) (css := [[(.int .i64 k296)], [(.int .i64 s416.2)]]) (fps := [([] : List Nat), ([] : List Nat)]) (xs := ([k296, s416.2] : List Int)) hb427 ⟨⟨rfl, rfl⟩, ⟨⟨rfl, rfl⟩, trivial⟩⟩ (Nat.le_of_ble_eq_true rfl) (List.nodup_cons.2 ⟨(fun h => nomatch h), List.nodup_nil⟩)
            have hv427 : (RT.os 3 (RT.int .i64)).val M w427 (.slice (some ⟨g427, 0, none⟩) 2 2) [k296, s416.2] [g427] := hv427
            obtain ⟨r430, hr430, hs⟩ := bind_some hs
            refine pl_call Bd77 rfl (c_spec_l13Has (M := (Less M ([g427]))) (r_.1, r_.2) ([k296, s416.2]) (h0.sub Less.sub) (((Frz.os Frz.int)).val hv427 Less.sub Less.not) hO.less.fut hr430) ?_
            rintro _ w429 ⟨rfl, hC429⟩
            have h0 := h0.ext hC429
            have h1 := h1.ext hC429
            have hb3 := hb3.chg hC429 (fun h => nomatch h)
            have hb4 := hb4.chg hC429 (fun h => nomatch h)
            have hb5 := hb5.chg hC429 (fun h => nomatch h)
            have hb9 := hb9.chg hC429 (fun h => nomatch h)
            have hv398 := hv398.ext hC429
            have hv427 := hv427.ext hC429
            have hC := hC.ext hC429
            have hO := hO.ext hC429
            refine pl_val (.bool r430) (y_move rfl) ?_
            rcases bif_some hs with ⟨hc431, hs⟩ | ⟨hc431, hs⟩
            · skip
              refine pl_yes (.agg #[(.int .i64 s_.1), (.slice pa1 pn1 pc1)]) (tg := 38) (by kernel_rfl) (congrArg Value.bool hc431) (y_load rfl ((box_load Ag31 Sz31 hb4 [] [(.int .i64 s_.1), (.slice pa1 pn1 pc1)] [] rfl rfl (fun h => nomatch h)) _ (Chg.refl _ _))) ?_
              refine pl_yes (.int .i64 s416.2) (tg := 38) (by kernel_rfl) (congrArg Value.bool hc431) (y_move rfl) ?_
              refine pl_yes (.int .i64 k394) (tg := 38) (by kernel_rfl) (congrArg Value.bool hc431) (y_move rfl) ?_
              obtain ⟨w432, g432, ew432, eg432, hC432, hb432⟩ := new_block w429 [(.int .i64 s416.2), (.int .i64 k394)] 3
              refine pl_yes (w' := w432) (.slice (some ⟨g432, 0, none⟩) 2 2) (tg := 38) (by kernel_rfl) (congrArg Value.bool hc431) (y_bslice rfl (by rw [ew432, eg432]; kernel_rfl)) ?_
              have h0 := h0.ext hC432
              have h1 := h1.ext hC432
              have hb3 := hb3.chg hC432 (fun h => nomatch h)
              have hb4 := hb4.chg hC432 (fun h => nomatch h)
              have hb5 := hb5.chg hC432 (fun h => nomatch h)
              have hb9 := hb9.chg hC432 (fun h => nomatch h)
              have hv398 := hv398.ext hC432
              have hv427 := hv427.ext hC432
              have hC := hC.ext hC432
              have hO := hO.new (X' := [g432]) hC432 (fun q hq => by rw [List.mem_singleton.1 hq, eg432]; exact Nat.le_refl _) (List.nodup_cons.2 ⟨(fun h => nomatch h), List.nodup_nil⟩) (fun q hq => by rw [List.mem_singleton.1 hq]; exact hb432.lt)
              have hv432 := os_of_box (r := (RT.int .i64)) (M := M) (css := [[(.int .i64 s416.2)], [(.int .i64 k394)]]) (fps := [([] : List Nat), ([] : List Nat)]) (xs := ([s416.2, k394] : List Int)) hb432 ⟨⟨rfl, rfl⟩, ⟨⟨rfl, rfl⟩, trivial⟩⟩ (Nat.le_of_ble_eq_true rfl) (List.nodup_cons.2 ⟨(fun h => nomatch h), List.nodup_nil⟩)
              have hv432 : (RT.os 3 (RT.int .i64)).val M w432 (.slice (some ⟨g432, 0, none⟩) 2 2) [s416.2, k394] [g432] := hv432
              obtain ⟨r435, hr435, hs⟩ := bind_some hs
              refine pl_cally (tg := 38) (by kernel_rfl) (congrArg Value.bool hc431) Bd77 rfl (c_spec_l13Has (M := (Less M ([g432]))) (s_.1, s_.2) ([s416.2, k394]) (h1.sub Less.sub) (((Frz.os Frz.int)).val hv432 Less.sub Less.not) hO.less.fut hr435) ?_
              rintro _ w434 ⟨rfl, hC434⟩
              have h0 := h0.ext hC434
              have h1 := h1.ext hC434
              have hb3 := hb3.chg hC434 (fun h => nomatch h)
              have hb4 := hb4.chg hC434 (fun h => nomatch h)
              have hb5 := hb5.chg hC434 (fun h => nomatch h)
              have hb9 := hb9.chg hC434 (fun h => nomatch h)
              have hv398 := hv398.ext hC434
              have hv427 := hv427.ext hC434
              have hv432 := hv432.ext hC434
              have hC := hC.ext hC434
              have hO := hO.ext hC434
              refine pl_val (.bool r435) (y_pick_t (congrArg Value.bool hc431) rfl) ?_
              refine pl_val (.bool r435) (y_assign rfl) ?_
              refine c_nil ?_
              refine c_region ?_
              refine pl_val (.int .i64 s416.2) (y_move rfl) ?_
              refine pl_val (.int .i64 (w64 (s416.2 + 1))) (y_add rfl rfl) ?_
              refine pl_val (.int .i64 (w64 (s416.2 + 1))) (y_assign rfl) ?_
              refine c_nil ?_
              cases hs
              have hO := hO.drop
              have hO := hO.drop
              have hO := hO.fr4
              have hO := hO.fr4
              have hO := hO.fr4
              have hO := hO.fr4
              have hO := hO.fr4
              exact ⟨_, fr_ovl 55 ⟨rfl, rfl, rfl, rfl, rfl, rfl, rfl, rfl, rfl, trivial⟩, hC, hO, h0, h1, hb3, hb4, hb5, hb9, hv398⟩
            · skip
              refine pl_not (tg := 38) (by kernel_rfl) (congrArg Value.bool hc431) ?_
              refine pl_not (tg := 38) (by kernel_rfl) (congrArg Value.bool hc431) ?_
              refine pl_not (tg := 38) (by kernel_rfl) (congrArg Value.bool hc431) ?_
              refine pl_not (tg := 38) (by kernel_rfl) (congrArg Value.bool hc431) ?_
              refine pl_not (tg := 38) (by kernel_rfl) (congrArg Value.bool hc431) ?_
              refine pl_val (.bool false) (y_pick_f (congrArg Value.bool hc431) rfl) ?_
              refine pl_val (.bool false) (y_assign rfl) ?_
              refine c_nil ?_
              refine c_region ?_
              refine pl_val (.int .i64 s416.2) (y_move rfl) ?_
              refine pl_val (.int .i64 (w64 (s416.2 + 1))) (y_add rfl rfl) ?_
              refine pl_val (.int .i64 (w64 (s416.2 + 1))) (y_assign rfl) ?_
              refine c_nil ?_
              cases hs
              have hO := hO.drop
              have hO := hO.fr4
              have hO := hO.fr4
              have hO := hO.fr4
              have hO := hO.fr4
              have hO := hO.fr4
              exact ⟨_, fr_ovl 55 ⟨rfl, rfl, rfl, rfl, rfl, rfl, rfl, rfl, rfl, trivial⟩, hC, hO, h0, h1, hb3, hb4, hb5, hb9, hv398⟩
          · skip
            refine c_condF (congrArg Value.bool hc426) ?_
            refine wp_exit ?_
            cases hs
            have hO := hO.fr4
            have hO := hO.fr4
            have hO := hO.fr4
            have hO := hO.fr4
            have hO := hO.fr4
            exact ⟨rfl, _, fr_ovl 55 ⟨rfl, rfl, rfl, rfl, rfl, rfl, rfl, rfl, trivial⟩, hC, hO, h0, h1, hb3, hb4, hb5, hb9, hv398⟩
      · skip
        have hO := hO.fr4
        have hO := hO.fr4
        have hO := hO.fr4
        have hO := hO.fr4
        have hO := hO.fr4
        exact ⟨_, fr_ovl 55 ⟨rfl, rfl, rfl, rfl, rfl, rfl, rfl, rfl, rfl, trivial⟩, hC, hO, h0, h1, hb3, hb4, hb5, hb9, hv398⟩
      · cases o420 with
        | nx _ => exact True.intro
        | rt r_ =>
          have hs := after_rt hs
          intro a1 w1 hK
          cases hs
          exact hK
        | br s416 =>
          have hs := after_br hs
          rintro a1 w417 ⟨σ, rfl, hC, hO, h0, h1, hb3, hb4, hb5, hb9, hv398⟩
          refine c_seq ?_
          refine c_region ?_
          refine pl_val (.bool s416.1) (y_move rfl) ?_
          refine c_nil ?_
          rcases bif_some hs with ⟨hc436, hs⟩ | ⟨hc436, hs⟩
          · skip
            refine c_condT (congrArg Value.bool hc436) ?_
            refine c_region ?_
            refine pl_val (.pointer (some ⟨g8, 1, none⟩)) (y_faddr rfl Fa31x1) ?_
            refine pl_val (.slice a398 n398 c398) (y_load rfl ((box_load Ag29 Sz29 hb9 [(.int .i64 2)] [(.slice a398 n398 c398)] [] rfl rfl (fun _ => rfl)) _ (Chg.refl _ _))) ?_
            refine pl_val (.int .i64 k296) (y_move rfl) ?_
            refine pl_val (.int .i64 k394) (y_move rfl) ?_
            obtain ⟨w437, g437, ew437, eg437, hC437, hb437⟩ := new_block w417 [(.int .i64 k296), (.int .i64 k394)] 3
            refine pl_val (w' := w437) (.slice (some ⟨g437, 0, none⟩) 2 2) (y_bslice rfl (by rw [ew437, eg437]; kernel_rfl)) ?_
            have h0 := h0.ext hC437
            have h1 := h1.ext hC437
            have hb3 := hb3.chg hC437 (fun h => nomatch h)
            have hb4 := hb4.chg hC437 (fun h => nomatch h)
            have hb5 := hb5.chg hC437 (fun h => nomatch h)
            have hb9 := hb9.chg hC437 (fun h => nomatch h)
            have hv398 := hv398.ext hC437
            have hC := hC.ext hC437
            have hO := hO.new (X' := [g437]) hC437 (fun q hq => by rw [List.mem_singleton.1 hq, eg437]; exact Nat.le_refl _) (List.nodup_cons.2 ⟨(fun h => nomatch h), List.nodup_nil⟩) (fun q hq => by rw [List.mem_singleton.1 hq]; exact hb437.lt)
            have hv437 := os_of_box (r := (RT.int .i64)) (M := M) (css := [[(.int .i64 k296)], [(.int .i64 k394)]]) (fps := [([] : List Nat), ([] : List Nat)]) (xs := ([k296, k394] : List Int)) hb437 ⟨⟨rfl, rfl⟩, ⟨⟨rfl, rfl⟩, trivial⟩⟩ (Nat.le_of_ble_eq_true rfl) (List.nodup_cons.2 ⟨(fun h => nomatch h), List.nodup_nil⟩)
            have hv437 : (RT.os 3 (RT.int .i64)).val M w437 (.slice (some ⟨g437, 0, none⟩) 2 2) [k296, k394] [g437] := hv437
            obtain ⟨w439, g439, ew439, eg439, hC439, hb439⟩ := new_block w437 [(.slice (some ⟨g437, 0, none⟩) 2 2)] 22
            refine pl_val (w' := w439) (.slice (some ⟨g439, 0, none⟩) 1 1) (y_bslice rfl (by rw [ew439, eg439]; kernel_rfl)) ?_
            have h0 := h0.ext hC439
            have h1 := h1.ext hC439
            have hb3 := hb3.chg hC439 (fun h => nomatch h)
            have hb4 := hb4.chg hC439 (fun h => nomatch h)
            have hb5 := hb5.chg hC439 (fun h => nomatch h)
            have hb9 := hb9.chg hC439 (fun h => nomatch h)
            have hv398 := hv398.ext hC439
            have hv437 := hv437.ext hC439
            have hC := hC.ext hC439
            have hO := hO.new (X' := [g439]) hC439 (fun q hq => by rw [List.mem_singleton.1 hq, eg439]; exact Nat.le_refl _) (List.nodup_cons.2 ⟨(fun h => nomatch h), List.nodup_nil⟩) (fun q hq => by rw [List.mem_singleton.1 hq]; exact hb439.lt)
            have hO := hO.perm (R := (g439 :: ((([g437])) ++ ([]))) ++ (f398 ++ (([g8]) ++ (([g5]) ++ (([g4]) ++ (([g3]) ++ ([]))))))) (by simp)
            have hnd439 := hO.nd
            have hv439 := os_of_box (r := (RT.os 3 (RT.int .i64))) (M := M) (css := [[(.slice (some ⟨g437, 0, none⟩) 2 2)]]) (fps := [([g437] : List Nat)]) (xs := ([[k296, k394]] : List (List Int))) hb439 ⟨(os_unval hv437), trivial⟩ (Nat.le_of_ble_eq_true rfl) hnd439
            have hv439 : (RT.os 22 (RT.os 3 (RT.int .i64))).val M w439 (.slice (some ⟨g439, 0, none⟩) 1 1) [[k296, k394]] (g439 :: ((([g437])) ++ ([]))) := hv439
            obtain ⟨y442, hy442, hs⟩ := bind_some hs
            have hO := hO.fr1
            obtain ⟨a441, n441, c441, w441, f441, hr441, hC441, hf441, hv441⟩ := app_os Rw29 hy442 hv398 hv439 hO.inM (fun g hg hq => hO.apart g hq (mem_l hg))
            have hG441 := os_block hv398
            refine pl_val (w' := w441) (.slice a441 n441 c441) (y_append rfl rfl (hr441 _)) ?_
            have hO := hO.fr1
            have hO := hO.fr1
            have h0 := h0.mut hC441 (fun g hg => hO.inM g (hG441 g hg)) (fun _ _ h => nomatch h)
            have h1 := h1.mut hC441 (fun g hg => hO.inM g (hG441 g hg)) (fun _ _ h => nomatch h)
            have hb3 := hb3.chg hC441 (fun hg => hO.apart _ (hG441 _ hg) (mem_r (mem_r (mem_r (mem_r (mem_l (List.mem_singleton.2 rfl)))))))
            have hb4 := hb4.chg hC441 (fun hg => hO.apart _ (hG441 _ hg) (mem_r (mem_r (mem_r (mem_l (List.mem_singleton.2 rfl))))))
            have hb5 := hb5.chg hC441 (fun hg => hO.apart _ (hG441 _ hg) (mem_r (mem_r (mem_l (List.mem_singleton.2 rfl)))))
            have hb9 := hb9.chg hC441 (fun hg => hO.apart _ (hG441 _ hg) (mem_r (mem_l (List.mem_singleton.2 rfl))))
            have hC := hC.step hC441 (fun g hg => hO.inN g (hG441 g hg))
            have hO := hO.eat hC441 hf441 (os_nodup hv441) hv441.fpl
            refine pl_val (.pointer (some ⟨g8, 1, none⟩)) (y_faddr rfl Fa31x1) ?_
            obtain ⟨w444, hst444, hC444, hb444⟩ := box_store (P := Try.prog) hb9 [(.int .i64 2)] [(.slice a398 n398 c398)] [] [(.slice a441 n441 c441)] rfl rfl (by intro u hu; simp only [List.mem_cons, List.not_mem_nil, or_false] at hu; rcases hu with rfl <;> rfl)
            refine pl_skip (w' := w444) (ys_store rfl rfl (hst444 _ _ rfl Sz29)) ?_
            have hO := hO.fr1
            have h0 := h0.mut hC444 (fun g hg => hO.inM g ((fun _ h => h) g hg)) (fun _ _ h => nomatch h)
            have h1 := h1.mut hC444 (fun g hg => hO.inM g ((fun _ h => h) g hg)) (fun _ _ h => nomatch h)
            have hb3 := hb3.chg hC444 (fun hg => hO.apart _ ((fun _ h => h) _ hg) (mem_r (mem_r (mem_r (mem_l (List.mem_singleton.2 rfl))))))
            have hb4 := hb4.chg hC444 (fun hg => hO.apart _ ((fun _ h => h) _ hg) (mem_r (mem_r (mem_l (List.mem_singleton.2 rfl)))))
            have hb5 := hb5.chg hC444 (fun hg => hO.apart _ ((fun _ h => h) _ hg) (mem_r (mem_l (List.mem_singleton.2 rfl))))
            have hv441 := hv441.mut hC444 (fun g hg => hO.inM g ((fun _ h => h) g hg)) (fun g hg e => hO.apart g ((fun _ h => h) g hg) (mem_l (e)))
            have hC := hC.step hC444 (fun g hg => hO.inN g ((fun _ h => h) g hg))
            have hO := hO.ext hC444
            have hb444 : BoxV w444 g8 31 [(.int .i64 2), (.slice a441 n441 c441)] := hb444
            refine c_nil ?_
            refine c_region ?_
            refine pl_val (.int .i64 k394) (y_move rfl) ?_
            refine pl_val (.int .i64 (w64 (k394 + 1))) (y_add rfl rfl) ?_
            refine pl_val (.int .i64 (w64 (k394 + 1))) (y_assign rfl) ?_
            refine c_nil ?_
            cases hs
            have hO := hO.fr4
            have hO := hO.fr4
            have hO := hO.fr4
            have hO := hO.fr3
            have hO := hO.fr4
            exact ⟨_, a441, n441, c441, f441, fr_ovl 55 ⟨rfl, rfl, rfl, rfl, rfl, rfl, congrArg (Value.int .i64) hw, trivial⟩, hC, hO, h0, h1, hb3, hb4, hb5, hb444, hv441⟩
          · skip
            refine c_condF (congrArg Value.bool hc436) ?_
            refine wp_skip ?_
            refine c_region ?_
            refine pl_val (.int .i64 k394) (y_move rfl) ?_
            refine pl_val (.int .i64 (w64 (k394 + 1))) (y_add rfl rfl) ?_
            refine pl_val (.int .i64 (w64 (k394 + 1))) (y_assign rfl) ?_
            refine c_nil ?_
            cases hs
            have hO := hO.fr4
            have hO := hO.fr4
            have hO := hO.fr4
            have hO := hO.fr4
            have hO := hO.fr4
            exact ⟨_, a398, n398, c398, f398, fr_ovl 55 ⟨rfl, rfl, rfl, rfl, rfl, rfl, congrArg (Value.int .i64) hw, trivial⟩, hC, hO, h0, h1, hb3, hb4, hb5, hb9, hv398⟩
    · skip
      have hO := hO.fr4
      have hO := hO.fr4
      have hO := hO.fr4
      have hO := hO.fr4
      have hO := hO.fr4
      exact ⟨_, a300, n300, c300, f300, fr_ovl 55 ⟨rfl, rfl, rfl, rfl, rfl, rfl, rfl, trivial⟩, hC, hO, h0, h1, hb3, hb4, hb5, hb9, hv300⟩
    · cases o396 with
      | nx _ => exact True.intro
      | rt r_ =>
        have hs := after_rt hs
        intro a1 w1 hK
        cases hs
        exact hK
      | br s392 =>
        have hs := after_br hs
        rintro a1 w393 ⟨σ, a400, n400, c400, f400, rfl, hC, hO, h0, h1, hb3, hb4, hb5, hb9, hv400⟩
        refine c_region ?_
        refine pl_val (.int .i64 k296) (y_move rfl) ?_
        refine pl_val (.int .i64 (w64 (k296 + 1))) (y_add rfl rfl) ?_
        refine pl_val (.int .i64 (w64 (k296 + 1))) (y_assign rfl) ?_
        refine c_nil ?_
        cases hs
        have hO := hO.fr4
        have hO := hO.fr4
        have hO := hO.fr4
        have hO := hO.fr4
        have hO := hO.fr4
        exact ⟨_, a400, n400, c400, f400, fr_ovl 55 ⟨rfl, rfl, rfl, rfl, rfl, congrArg (Value.int .i64) hw, trivial⟩, hC, hO, h0, h1, hb3, hb4, hb5, hb9, hv400⟩
  · skip
    have hO := hO.fr4
    have hO := hO.fr4
    have hO := hO.fr4
    have hO := hO.fr3
    have hO := hO.fr4
    exact ⟨_, (some ⟨g6, 0, none⟩), 0, 0, ([g6]), fr_ovl 55 ⟨rfl, rfl, rfl, rfl, rfl, rfl, trivial⟩, hC, hO, h0, h1, hb3, hb4, hb5, hb9, hv6⟩
  · cases o298 with
    | nx _ => exact True.intro
    | rt r_ =>
      have hs := after_rt hs
      intro a1 w1 hK
      cases hs
      exact hK
    | br s294 =>
      have hs := after_br hs
      rintro a1 w295 ⟨σ, a302, n302, c302, f302, rfl, hC, hO, h0, h1, hb3, hb4, hb5, hb9, hv302⟩
      refine c_seq ?_
      refine c_region ?_
      refine pl_val (.agg #[(.int .i64 2), (.slice a302 n302 c302)]) (y_load rfl ((box_load Ag31 Sz31 hb9 [] [(.int .i64 2), (.slice a302 n302 c302)] [] rfl rfl (fun h => nomatch h)) _ (Chg.refl _ _))) ?_
      obtain ⟨w445, hst445, hC445, hb445⟩ := box_store (P := Try.prog) hb5 [] [(.int .i64 0), (.slice none 0 0)] [] [(.int .i64 2), (.slice a302 n302 c302)] rfl rfl (by intro u hu; simp only [List.mem_cons, List.not_mem_nil, or_false] at hu; rcases hu with rfl | rfl <;> rfl)
      refine pl_skip (w' := w445) (ys_store rfl rfl (hst445 _ _ rfl Sz31)) ?_
      have hO := hO.fr2
      have h0 := h0.mut hC445 (fun g hg => hO.inM g ((fun _ h => h) g hg)) (fun _ _ h => nomatch h)
      have h1 := h1.mut hC445 (fun g hg => hO.inM g ((fun _ h => h) g hg)) (fun _ _ h => nomatch h)
      have hb3 := hb3.chg hC445 (fun hg => hO.apart _ ((fun _ h => h) _ hg) (mem_r (mem_r (mem_r (mem_l (List.mem_singleton.2 rfl))))))
      have hb4 := hb4.chg hC445 (fun hg => hO.apart _ ((fun _ h => h) _ hg) (mem_r (mem_r (mem_l (List.mem_singleton.2 rfl)))))
      have hb9 := hb9.chg hC445 (fun hg => hO.apart _ ((fun _ h => h) _ hg) (mem_r (mem_l (List.mem_singleton.2 rfl))))
      have hv302 := hv302.mut hC445 (fun g hg => hO.inM g ((fun _ h => h) g hg)) (fun g hg e => hO.apart g ((fun _ h => h) g hg) (mem_l (e)))
      have hC := hC.step hC445 (fun g hg => hO.inN g ((fun _ h => h) g hg))
      have hO := hO.ext hC445
      have hb445 : BoxV w445 g5 31 [(.int .i64 2), (.slice a302 n302 c302)] := hb445
      refine c_nil ?_
      refine wp_ret ?_
      cases hs
      have hO := hO.drop
      have hO := hO.fr1
      have hO := hO.drop
      have hO := hO.fr1
      have hO := hO.drop
      have hO := hO.fr1
      have hO := hO.drop
      exact ⟨_, g5, a302, n302, c302, f302, fr_ovl 55 ⟨rfl, trivial⟩, hb445, hC, hv302, hO.top⟩

theorem Bd143 : Bodied Try.prog 143 := bodied Try.func143 (by kernel_rfl) rfl

theorem Bd142 : Bodied Try.prog 142 := bodied Try.func142 (by kernel_rfl) rfl

def k_spec_l16Product (M : Nat → Prop) (w0 : World) (r : (Int × (List (List Int)))) (a : Act) (w : World) : Prop :=
  ∃ (σ : Nat → Value) (rg4 : Nat) (ra0 : Option Addr) (rn0 rc0 : Nat) (rf0 : List Nat), a = fr 12 (ovl σ [(4, (.pointer (some ⟨rg4, 0, none⟩)))]) ∧ BoxV w rg4 31 [(.int .i64 r.1), (.slice ra0 rn0 rc0)] ∧ Chg [] w0 w ∧ (RT.os 22 (RT.os 3 (RT.int .i64))).val M w (.slice ra0 rn0 rc0) r.2 rf0 ∧ Own (Nw w0 []) (fun _ => True) w (rf0 ++ ([]))
def s_spec_l16Product (p : List Int) (q : List Int) : Option ((Int × (List (List Int)))) :=
  (s_spec_l13OfPartition p).bind fun r5 =>
  (s_spec_l13OfPartition q).bind fun r8 =>
  (s_spec_l13Compose (p.length : Int) (r5.1, r5.2) (r8.1, r8.2)).bind fun r11 =>
  some (r11.1, r11.2)
set_option maxHeartbeats 4000000 in
theorem c_spec_l16Product {M : Nat → Prop} {w : World} {pa0 : Option Addr} {pn0 pc0 : Nat} {pa1 : Option Addr} {pn1 pc1 : Nat} (p : List Int) (q : List Int) (h0 : (RT.rs (RT.int .i64)).val M w (.slice pa0 pn0 pc0) p ([])) (h1 : (RT.rs (RT.int .i64)).val M w (.slice pa1 pn1 pc1) q ([])) (hM : ∀ g, w.heap.size ≤ g → M g) {r : (Int × (List (List Int)))} (hs : s_spec_l16Product p q = some r) :
    Gives Try.prog 76 [(.slice pa0 pn0 pc0), (.slice pa1 pn1 pc1)] w (fun v w' => ∃ (ra0 : Option Addr) (rn0 rc0 : Nat) (rf0 : List Nat), v = (.agg #[(.int .i64 r.1), (.slice ra0 rn0 rc0)]) ∧ Chg [] w w' ∧ (RT.os 22 (RT.os 3 (RT.int .i64))).val M w' (.slice ra0 rn0 rc0) r.2 rf0 ∧ Own (Nw w []) (fun _ => True) w' (rf0 ++ ([]))) := by
  refine calls_fr Try.func76 rfl Try.ntmps76 (Nat.le_of_ble_eq_true rfl) ?_
  have hO := Own.start (N := Nw w []) hM Nw.fut
  have hC := Chg.refl [] w
  unfold s_spec_l16Product at hs
  refine wp_mono (Q := KPost (k_spec_l16Product M w r)) ?_ (fun e a w1 h => ?_)
  rotate_left
  · cases e
    case ret =>
      obtain ⟨σ, rg4, ra0, rn0, rc0, rf0, rfl, hbrg4, hrest⟩ := h
      exact ret1x Try.results76 (res_cell rfl (box_load Ag31 Sz31 hbrg4 [] _ [] rfl rfl (fun h => nomatch h))) ⟨ra0, rn0, rc0, rf0, rfl, hrest⟩
    all_goals exact (h : False).elim
  refine c_seq ?_
  refine c_region ?_
  obtain ⟨w3, g3, ew3, eg3, hC3, hb3⟩ := new_block w [(.int .i64 0), (.slice none 0 0)] 31
  refine pl_val (w' := w3) (.pointer (some ⟨g3, 0, none⟩)) (y_alloc (by rw [ew3, eg3]; kernel_rfl)) ?_
  have h0 := h0.ext hC3
  have h1 := h1.ext hC3
  have hC := hC.ext hC3
  have hO := hO.new (X' := [g3]) hC3 (fun q hq => by rw [List.mem_singleton.1 hq, eg3]; exact Nat.le_refl _) (List.nodup_cons.2 ⟨(fun h => nomatch h), List.nodup_nil⟩) (fun q hq => by rw [List.mem_singleton.1 hq]; exact hb3.lt)
  refine c_nil ?_
  refine c_seq ?_
  refine c_region ?_
  refine pl_val (.slice pa0 pn0 pc0) (y_move rfl) ?_
  refine pl_val (.int .i64 (p.length : Int)) (y_len' Sl22 (rs_len h0) rfl) ?_
  refine pl_val (.slice pa0 pn0 pc0) (y_move rfl) ?_
  obtain ⟨r5, hr5, hs⟩ := bind_some hs
  refine pl_call Bd143 rfl (c_spec_l13OfPartition (M := M) p h0 hO.fut hr5) ?_
  rintro _ w4 ⟨a4x0, n4x0, c4x0, f4x0, rfl, hC4, hv4x0, hOc4⟩
  have h0 := h0.ext hC4
  have h1 := h1.ext hC4
  have hb3 := hb3.chg hC4 (fun h => nomatch h)
  have hC := hC.ext hC4
  have hO := Own.join0 hO hC4 hOc4
  have hO := hO.perm (R := f4x0 ++ (([g3]) ++ ([]))) (by simp)
  refine pl_val (.slice pa1 pn1 pc1) (y_move rfl) ?_
  obtain ⟨r8, hr8, hs⟩ := bind_some hs
  refine pl_call Bd143 rfl (c_spec_l13OfPartition (M := M) q h1 hO.fut hr8) ?_
  rintro _ w7 ⟨a7x0, n7x0, c7x0, f7x0, rfl, hC7, hv7x0, hOc7⟩
  have h0 := h0.ext hC7
  have h1 := h1.ext hC7
  have hb3 := hb3.chg hC7 (fun h => nomatch h)
  have hv4x0 := hv4x0.ext hC7
  have hC := hC.ext hC7
  have hO := Own.join0 hO hC7 hOc7
  have hO := hO.perm (R := f7x0 ++ (f4x0 ++ (([g3]) ++ ([])))) (by simp)
  have hO := hO.fr1
  obtain ⟨r11, hr11, hs⟩ := bind_some hs
  refine pl_call Bd142 rfl (c_spec_l13Compose (M := (Less (Less M f4x0) f7x0)) (p.length : Int) (r5.1, r5.2) (r8.1, r8.2) ((((Frz.os (Frz.os Frz.int))).val hv4x0 Less.sub Less.not).sub Less.sub) (((Frz.os (Frz.os Frz.int))).val (hv7x0.sub Less.sub) Less.sub Less.not) (hO.less).less.fut hr11) ?_
  rintro _ w10 ⟨a10x0, n10x0, c10x0, f10x0, rfl, hC10, hv10x0, hOc10⟩
  have h0 := h0.ext hC10
  have h1 := h1.ext hC10
  have hb3 := hb3.chg hC10 (fun h => nomatch h)
  have hv4x0 := hv4x0.ext hC10
  have hv7x0 := hv7x0.ext hC10
  have hC := hC.ext hC10
  have hO := Own.join0 hO hC10 hOc10
  have hO := hO.perm (R := f10x0 ++ (f4x0 ++ (f7x0 ++ (([g3]) ++ ([]))))) (by simp)
  have hv10x0 := hv10x0.free (M' := M) (Free.os (Free.os Free.int))
  obtain ⟨w13, hst13, hC13, hb13⟩ := box_store (P := Try.prog) hb3 [] [(.int .i64 0), (.slice none 0 0)] [] [(.int .i64 r11.1), (.slice a10x0 n10x0 c10x0)] rfl rfl (by intro u hu; simp only [List.mem_cons, List.not_mem_nil, or_false] at hu; rcases hu with rfl | rfl <;> rfl)
  refine pl_skip (w' := w13) (ys_store rfl rfl (hst13 _ _ rfl Sz31)) ?_
  have hO := hO.fr3
  have h0 := h0.mut hC13 (fun g hg => hO.inM g ((fun _ h => h) g hg)) (fun _ _ h => nomatch h)
  have h1 := h1.mut hC13 (fun g hg => hO.inM g ((fun _ h => h) g hg)) (fun _ _ h => nomatch h)
  have hv4x0 := hv4x0.mut hC13 (fun g hg => hO.inM g ((fun _ h => h) g hg)) (fun g hg e => hO.apart g ((fun _ h => h) g hg) (mem_r (mem_l (e))))
  have hv7x0 := hv7x0.mut hC13 (fun g hg => hO.inM g ((fun _ h => h) g hg)) (fun g hg e => hO.apart g ((fun _ h => h) g hg) (mem_r (mem_r (mem_l (e)))))
  have hv10x0 := hv10x0.mut hC13 (fun g hg => hO.inM g ((fun _ h => h) g hg)) (fun g hg e => hO.apart g ((fun _ h => h) g hg) (mem_l (e)))
  have hC := hC.step hC13 (fun g hg => hO.inN g ((fun _ h => h) g hg))
  have hO := hO.ext hC13
  have hb13 : BoxV w13 g3 31 [(.int .i64 r11.1), (.slice a10x0 n10x0 c10x0)] := hb13
  refine c_nil ?_
  refine wp_ret ?_
  cases hs
  have hO := hO.drop
  have hO := hO.fr1
  have hO := hO.drop
  have hO := hO.fr1
  have hO := hO.drop
  exact ⟨_, g3, a10x0, n10x0, c10x0, f10x0, fr_ovl 12 ⟨rfl, trivial⟩, hb13, hC, hv10x0, hO.top⟩

theorem Bd75 : Bodied Try.prog 75 := bodied Try.func75 (by kernel_rfl) rfl

theorem Bd76 : Bodied Try.prog 76 := bodied Try.func76 (by kernel_rfl) rfl

def k_spec_ProductOfPartitions (M : Nat → Prop) (w0 : World) (r : (Int × (List (List Int))) × Bool) (a : Act) (w : World) : Prop :=
  ∃ (σ : Nat → Value) (rg6 : Nat) (ra0 : Option Addr) (rn0 rc0 : Nat) (rf0 : List Nat), a = fr 17 (ovl σ [(6, (.pointer (some ⟨rg6, 0, none⟩))), (7, (.bool r.2))]) ∧ BoxV w rg6 31 [(.int .i64 r.1.1), (.slice ra0 rn0 rc0)] ∧ Chg [] w0 w ∧ (RT.os 22 (RT.os 3 (RT.int .i64))).val M w (.slice ra0 rn0 rc0) r.1.2 rf0 ∧ Own (Nw w0 []) (fun _ => True) w (rf0 ++ ([]))
def s_spec_ProductOfPartitions (n : Int) (p : List Int) (q : List Int) : Option ((Int × (List (List Int))) × Bool) :=
  (s_spec_l16Two n p q).bind fun r5 =>
  (bif (!r5) then some ((0, []), false) else (s_spec_l16Product p q).bind fun r9 =>
  some ((r9.1, r9.2), true))
set_option maxHeartbeats 4000000 in
theorem c_spec_ProductOfPartitions {M : Nat → Prop} {w : World} {pa0 : Option Addr} {pn0 pc0 : Nat} {pa1 : Option Addr} {pn1 pc1 : Nat} (n : Int) (p : List Int) (q : List Int) (h0 : (RT.rs (RT.int .i64)).val M w (.slice pa0 pn0 pc0) p ([])) (h1 : (RT.rs (RT.int .i64)).val M w (.slice pa1 pn1 pc1) q ([])) (hM : ∀ g, w.heap.size ≤ g → M g) {r : (Int × (List (List Int))) × Bool} (hs : s_spec_ProductOfPartitions n p q = some r) :
    Gives Try.prog 21 [(.int .i64 n), (.slice pa0 pn0 pc0), (.slice pa1 pn1 pc1)] w (fun v w' => ∃ (ra0 : Option Addr) (rn0 rc0 : Nat) (rf0 : List Nat), v = (.tuple #[(.agg #[(.int .i64 r.1.1), (.slice ra0 rn0 rc0)]), (.bool r.2)]) ∧ Chg [] w w' ∧ (RT.os 22 (RT.os 3 (RT.int .i64))).val M w' (.slice ra0 rn0 rc0) r.1.2 rf0 ∧ Own (Nw w []) (fun _ => True) w' (rf0 ++ ([]))) := by
  refine calls_fr Try.func21 rfl Try.ntmps21 (Nat.le_of_ble_eq_true rfl) ?_
  have hO := Own.start (N := Nw w []) hM Nw.fut
  have hC := Chg.refl [] w
  unfold s_spec_ProductOfPartitions at hs
  refine wp_mono (Q := KPost (k_spec_ProductOfPartitions M w r)) ?_ (fun e a w1 h => ?_)
  rotate_left
  · cases e
    case ret =>
      obtain ⟨σ, rg6, ra0, rn0, rc0, rf0, rfl, hbrg6, hrest⟩ := h
      exact ret2x Try.results21 (res_cell rfl (box_load Ag31 Sz31 hbrg6 [] _ [] rfl rfl (fun h => nomatch h))) (res_tmp rfl) ⟨ra0, rn0, rc0, rf0, rfl, hrest⟩
    all_goals exact (h : False).elim
  refine c_seq ?_
  refine c_region ?_
  obtain ⟨w3, g3, ew3, eg3, hC3, hb3⟩ := new_block w [(.int .i64 0), (.slice none 0 0)] 31
  refine pl_val (w' := w3) (.pointer (some ⟨g3, 0, none⟩)) (y_alloc (by rw [ew3, eg3]; kernel_rfl)) ?_
  have h0 := h0.ext hC3
  have h1 := h1.ext hC3
  have hC := hC.ext hC3
  have hO := hO.new (X' := [g3]) hC3 (fun q hq => by rw [List.mem_singleton.1 hq, eg3]; exact Nat.le_refl _) (List.nodup_cons.2 ⟨(fun h => nomatch h), List.nodup_nil⟩) (fun q hq => by rw [List.mem_singleton.1 hq]; exact hb3.lt)
  refine pl_val (.bool false) (y_assign rfl) ?_
  refine c_nil ?_
  refine c_seq ?_
  refine c_seq ?_
  refine c_region ?_
  refine pl_val (.int .i64 n) (y_move rfl) ?_
  refine pl_val (.slice pa0 pn0 pc0) (y_move rfl) ?_
  refine pl_val (.slice pa1 pn1 pc1) (y_move rfl) ?_
  obtain ⟨r5, hr5, hs⟩ := bind_some hs
  refine pl_call Bd75 rfl (c_spec_l16Two (M := M) n p q h0 h1 hO.fut hr5) ?_
  rintro _ w4 ⟨rfl, hC4⟩
  have h0 := h0.ext hC4
  have h1 := h1.ext hC4
  have hb3 := hb3.chg hC4 (fun h => nomatch h)
  have hC := hC.ext hC4
  have hO := hO.ext hC4
  refine pl_val (.bool (!r5)) (y_not rfl) ?_
  refine c_nil ?_
  rcases bif_some hs with ⟨hc6, hs⟩ | ⟨hc6, hs⟩
  · skip
    refine c_condT (congrArg Value.bool hc6) ?_
    refine c_seq ?_
    refine c_region ?_
    refine pl_val (.agg #[(.int .i64 0), (.slice none 0 0)]) (y_build rfl (by kernel_rfl)) ?_
    obtain ⟨w7, hst7, hC7, hb7⟩ := box_store (P := Try.prog) hb3 [] [(.int .i64 0), (.slice none 0 0)] [] [(.int .i64 0), (.slice none 0 0)] rfl rfl (by intro u hu; simp only [List.mem_cons, List.not_mem_nil, or_false] at hu; rcases hu with rfl | rfl <;> rfl)
    refine pl_skip (w' := w7) (ys_store rfl rfl (hst7 _ _ rfl Sz31)) ?_
    have h0 := h0.mut hC7 (fun g hg => hO.inM g ((fun _ h => h) g hg)) (fun _ _ h => nomatch h)
    have h1 := h1.mut hC7 (fun g hg => hO.inM g ((fun _ h => h) g hg)) (fun _ _ h => nomatch h)
    have hC := hC.step hC7 (fun g hg => hO.inN g ((fun _ h => h) g hg))
    have hO := hO.ext hC7
    have hb7 : BoxV w7 g3 31 [(.int .i64 0), (.slice none 0 0)] := hb7
    refine pl_val (.bool false) (y_assign rfl) ?_
    refine c_nil ?_
    refine wp_ret ?_
    cases hs
    have hO := hO.drop
    have hO := hO.nil
    exact ⟨_, g3, none, 0, 0, [], fr_ovl 17 ⟨rfl, rfl, trivial⟩, hb7, hC, os_nil, hO.top⟩
  · skip
    refine c_condF (congrArg Value.bool hc6) ?_
    refine wp_skip ?_
    refine c_seq ?_
    refine c_region ?_
    refine pl_val (.slice pa0 pn0 pc0) (y_move rfl) ?_
    refine pl_val (.slice pa1 pn1 pc1) (y_move rfl) ?_
    obtain ⟨r9, hr9, hs⟩ := bind_some hs
    refine pl_call Bd76 rfl (c_spec_l16Product (M := M) p q h0 h1 hO.fut hr9) ?_
    rintro _ w8 ⟨a8x0, n8x0, c8x0, f8x0, rfl, hC8, hv8x0, hOc8⟩
    have h0 := h0.ext hC8
    have h1 := h1.ext hC8
    have hb3 := hb3.chg hC8 (fun h => nomatch h)
    have hC := hC.ext hC8
    have hO := Own.join0 hO hC8 hOc8
    have hO := hO.perm (R := f8x0 ++ (([g3]) ++ ([]))) (by simp)
    obtain ⟨w11, hst11, hC11, hb11⟩ := box_store (P := Try.prog) hb3 [] [(.int .i64 0), (.slice none 0 0)] [] [(.int .i64 r9.1), (.slice a8x0 n8x0 c8x0)] rfl rfl (by intro u hu; simp only [List.mem_cons, List.not_mem_nil, or_false] at hu; rcases hu with rfl | rfl <;> rfl)
    refine pl_skip (w' := w11) (ys_store rfl rfl (hst11 _ _ rfl Sz31)) ?_
    have hO := hO.fr1
    have h0 := h0.mut hC11 (fun g hg => hO.inM g ((fun _ h => h) g hg)) (fun _ _ h => nomatch h)
    have h1 := h1.mut hC11 (fun g hg => hO.inM g ((fun _ h => h) g hg)) (fun _ _ h => nomatch h)
    have hv8x0 := hv8x0.mut hC11 (fun g hg => hO.inM g ((fun _ h => h) g hg)) (fun g hg e => hO.apart g ((fun _ h => h) g hg) (mem_l (e)))
    have hC := hC.step hC11 (fun g hg => hO.inN g ((fun _ h => h) g hg))
    have hO := hO.ext hC11
    have hb11 : BoxV w11 g3 31 [(.int .i64 r9.1), (.slice a8x0 n8x0 c8x0)] := hb11
    refine pl_val (.bool true) (y_assign rfl) ?_
    refine c_nil ?_
    refine wp_ret ?_
    cases hs
    have hO := hO.drop
    exact ⟨_, g3, a8x0, n8x0, c8x0, f8x0, fr_ovl 17 ⟨rfl, rfl, trivial⟩, hb11, hC, hv8x0, hO.top⟩

def k_impl_isSize (M : Nat → Prop) (w0 : World) (r : Bool) (a : Act) (w : World) : Prop :=
  ∃ (σ : Nat → Value) , a = fr 9 (ovl σ [(2, (.bool r))]) ∧ Chg [] w0 w
def s_impl_isSize (n : Int) : Option (Bool) :=
  (bif (decide (1 ≤ n)) then some (decide (n ≤ 8)) else some false)
set_option maxHeartbeats 4000000 in
theorem c_impl_isSize {M : Nat → Prop} {w : World}  (n : Int)  (hM : ∀ g, w.heap.size ≤ g → M g) {r : Bool} (hs : s_impl_isSize n = some r) :
    Gives Try.prog 115 [(.int .i64 n)] w (fun v w' => v = (.bool r) ∧ Chg [] w w') := by
  refine calls_fr Try.func115 rfl Try.ntmps115 (Nat.le_of_ble_eq_true rfl) ?_
  have hO := Own.start (N := Nw w []) hM Nw.fut
  have hC := Chg.refl [] w
  unfold s_impl_isSize at hs
  refine wp_mono (Q := KPost (k_impl_isSize M w r)) ?_ (fun e a w1 h => ?_)
  rotate_left
  · cases e
    case ret =>
      obtain ⟨σ, rfl, hrest⟩ := h
      exact ret1x Try.results115 (res_tmp rfl) ⟨rfl, hrest⟩
    all_goals exact (h : False).elim
  refine c_seq ?_
  refine c_region ?_
  refine pl_val (.bool false) (y_assign rfl) ?_
  refine c_nil ?_
  refine c_seq ?_
  refine c_region ?_
  refine pl_val (.int .i64 n) (y_move rfl) ?_
  refine pl_val (.bool (decide (1 ≤ n))) (y_geq rfl rfl) ?_
  refine pl_val (.bool (decide (1 ≤ n))) (y_move rfl) ?_
  rcases bif_some hs with ⟨hc1, hs⟩ | ⟨hc1, hs⟩
  · skip
    refine pl_yes (.int .i64 n) (tg := 5) (by kernel_rfl) (congrArg Value.bool hc1) (y_move rfl) ?_
    refine pl_yes (.bool (decide (n ≤ 8))) (tg := 5) (by kernel_rfl) (congrArg Value.bool hc1) (y_leq rfl rfl) ?_
    refine pl_val (.bool (decide (n ≤ 8))) (y_pick_t (congrArg Value.bool hc1) rfl) ?_
    refine pl_val (.bool (decide (n ≤ 8))) (y_assign rfl) ?_
    refine c_nil ?_
    refine wp_ret ?_
    cases hs
    exact ⟨_, fr_ovl 9 ⟨rfl, trivial⟩, hC⟩
  · skip
    refine pl_not (tg := 5) (by kernel_rfl) (congrArg Value.bool hc1) ?_
    refine pl_not (tg := 5) (by kernel_rfl) (congrArg Value.bool hc1) ?_
    refine pl_val (.bool false) (y_pick_f (congrArg Value.bool hc1) rfl) ?_
    refine pl_val (.bool false) (y_assign rfl) ?_
    refine c_nil ?_
    refine wp_ret ?_
    cases hs
    exact ⟨_, fr_ovl 9 ⟨rfl, trivial⟩, hC⟩

def k_impl_isPartition (M : Nat → Prop) (w0 : World) (r : Bool) (a : Act) (w : World) : Prop :=
  ∃ (σ : Nat → Value) , a = fr 34 (ovl σ [(4, (.bool r))]) ∧ Chg [] w0 w
def s_impl_isPartition (n : Int) (p : List Int) : Option (Bool) :=
  (bif ((p.length : Int) != n) then some false else (forC (S := Unit) (R := Bool) (fun k12 s10 =>
  (idx p k12).bind fun x16 =>
  (bif (decide (x16 < 0)) then some (.rt false) else (bif (decide (k12 < x16)) then some (.rt false) else (idx p x16).bind fun x20 =>
  (bif (x20 != x16) then some (.rt false) else some (.nx ()))))) 0 (p.length : Int) ()).bind fun o14 => after o14 (fun r_ => some r_) (fun s10 =>
  some true))
set_option maxHeartbeats 4000000 in
theorem c_impl_isPartition {M : Nat → Prop} {w : World} {pa0 : Option Addr} {pn0 pc0 : Nat} (n : Int) (p : List Int) (h0 : (RT.rs (RT.int .i64)).val M w (.slice pa0 pn0 pc0) p ([])) (hM : ∀ g, w.heap.size ≤ g → M g) {r : Bool} (hs : s_impl_isPartition n p = some r) :
    Gives Try.prog 145 [(.int .i64 n), (.slice pa0 pn0 pc0)] w (fun v w' => v = (.bool r) ∧ Chg [] w w') := by
  refine calls_fr Try.func145 rfl Try.ntmps145 (Nat.le_of_ble_eq_true rfl) ?_
  have hO := Own.start (N := Nw w []) hM Nw.fut
  have hC := Chg.refl [] w
  unfold s_impl_isPartition at hs
  refine wp_mono (Q := KPost (k_impl_isPartition M w r)) ?_ (fun e a w1 h => ?_)
  rotate_left
  · cases e
    case ret =>
      obtain ⟨σ, rfl, hrest⟩ := h
      exact ret1x Try.results145 (res_tmp rfl) ⟨rfl, hrest⟩
    all_goals exact (h : False).elim
  refine c_seq ?_
  refine c_region ?_
  refine pl_val (.bool false) (y_assign rfl) ?_
  refine c_nil ?_
  refine c_seq ?_
  refine c_seq ?_
  refine c_region ?_
  refine pl_val (.slice pa0 pn0 pc0) (y_move rfl) ?_
  refine pl_val (.int .i64 (p.length : Int)) (y_len' Sl22 (rs_len h0) rfl) ?_
  refine pl_val (.int .i64 n) (y_move rfl) ?_
  refine pl_val (.bool ((p.length : Int) != n)) (y_neq rfl rfl) ?_
  refine c_nil ?_
  rcases bif_some hs with ⟨hc2, hs⟩ | ⟨hc2, hs⟩
  · skip
    refine c_condT (congrArg Value.bool hc2) ?_
    refine c_seq ?_
    refine c_region ?_
    refine pl_val (.bool false) (y_assign rfl) ?_
    refine c_nil ?_
    refine wp_ret ?_
    cases hs
    exact ⟨_, fr_ovl 34 ⟨rfl, trivial⟩, hC⟩
  · skip
    refine c_condF (congrArg Value.bool hc2) ?_
    refine wp_skip ?_
    refine c_seq ?_
    refine c_seq ?_
    refine c_region ?_
    refine pl_val (.slice pa0 pn0 pc0) (y_move rfl) ?_
    refine pl_val (.int .i64 (p.length : Int)) (y_len' Sl22 (rs_len h0) rfl) ?_
    refine pl_val (.int .i64 0) (y_move rfl) ?_
    refine c_nil ?_
    obtain ⟨o14, hl15, hs⟩ := bind_some hs
    refine wp_block ?_
    refine wp_forC (id := 0) (p.length : Int) (I := fun k12 s10 a w11 => ∃ (σ : Nat → Value), a = fr 34 (ovl σ [(1, (.slice pa0 pn0 pc0)), (11, (.slice pa0 pn0 pc0)), (12, (.int .i64 (p.length : Int))), (13, (.int .i64 k12))]) ∧ Chg [] w w11 ∧ Own (Nw w []) M w11 ([]) ∧ (RT.rs (RT.int .i64)).val M w11 (.slice pa0 pn0 pc0) p ([])) (J := fun s10 a w11 => ∃ (σ : Nat → Value), a = fr 34 (ovl σ []) ∧ Chg [] w w11 ∧ Own (Nw w []) M w11 ([]) ∧ (RT.rs (RT.int .i64)).val M w11 (.slice pa0 pn0 pc0) p ([])) (K := (k_impl_isPartition M w)) ?_ ?_ 0 () o14 _ _ ?_ hl15 ?_
    · rintro k12 s10 a w11 ⟨σ, rfl, hC, hO, h0⟩ hlt
      refine c_seq ?_
      refine c_region ?_
      refine pl_val (.bool (decide (k12 < (p.length : Int)))) (y_lss rfl rfl) ?_
      refine c_nil ?_
      refine c_seq ?_
      refine c_condF (congrArg Value.bool (decide_eq_false hlt)) ?_
      refine wp_exit ?_
      exact ⟨rfl, _, fr_ovl 34 trivial, hC, hO, h0⟩
    · rintro k12 s10 o14 a w11 ⟨σ, rfl, hC, hO, h0⟩ hlt hw hs
      refine c_seq ?_
      refine c_region ?_
      refine pl_val (.bool (decide (k12 < (p.length : Int)))) (y_lss rfl rfl) ?_
      refine c_nil ?_
      refine c_seq ?_
      refine c_condT (congrArg Value.bool (decide_eq_true hlt)) ?_
      refine wp_skip ?_
      refine c_seq ?_
      refine wp_block ?_
      refine c_seq ?_
      refine c_region ?_
      refine pl_val (.int .i64 k12) (y_move rfl) ?_
      obtain ⟨x16, hx16, hs⟩ := bind_some hs
      obtain ⟨b17, o17, hp17, ha17⟩ := rs_idx Sl22 Sz3 h0 hx16
      refine pl_val (.pointer (some ⟨b17, o17, none⟩)) (hp17 _ _ _ _ _ _ _ _ _ rfl rfl) ?_
      refine pl_val (.int .i64 x16) (y_load rfl ((at_load_int Ag3 Sz3 ha17) _ (Chg.refl _ _))) ?_
      refine pl_val (.int .i64 k12) (y_assign rfl) ?_
      refine pl_val (.int .i64 x16) (y_assign rfl) ?_
      refine c_nil ?_
      refine c_seq ?_
      refine c_region ?_
      refine pl_val (.int .i64 x16) (y_move rfl) ?_
      refine pl_val (.bool (decide (x16 < 0))) (y_lss rfl rfl) ?_
      refine pl_val (.bool (decide (x16 < 0))) (y_move rfl) ?_
      rcases bif_some hs with ⟨hc18, hs⟩ | ⟨hc18, hs⟩
      · skip
        refine pl_not (tg := 20) (by kernel_rfl) (congrArg Value.bool hc18) ?_
        refine pl_not (tg := 20) (by kernel_rfl) (congrArg Value.bool hc18) ?_
        refine pl_not (tg := 20) (by kernel_rfl) (congrArg Value.bool hc18) ?_
        refine pl_val (.bool true) (y_pick_t (congrArg Value.bool hc18) rfl) ?_
        refine pl_val (.bool true) (y_move rfl) ?_
        refine pl_not (tg := 25) (by kernel_rfl) (by rfl) ?_
        refine pl_not (tg := 25) (by kernel_rfl) (by rfl) ?_
        refine pl_not (tg := 25) (by kernel_rfl) (by rfl) ?_
        refine pl_not (tg := 25) (by kernel_rfl) (by rfl) ?_
        refine pl_not (tg := 25) (by kernel_rfl) (by rfl) ?_
        refine pl_not (tg := 25) (by kernel_rfl) (by rfl) ?_
        refine pl_val (.bool true) (y_pick_t (by rfl) rfl) ?_
        refine c_nil ?_
        refine c_condT (by rfl) ?_
        refine c_seq ?_
        refine c_region ?_
        refine pl_val (.bool false) (y_assign rfl) ?_
        refine c_nil ?_
        refine wp_ret ?_
        cases hs
        exact ⟨_, fr_ovl 34 ⟨rfl, trivial⟩, hC⟩
      · skip
        refine pl_yes (.int .i64 x16) (tg := 20) (by kernel_rfl) (congrArg Value.bool hc18) (y_move rfl) ?_
        refine pl_yes (.int .i64 k12) (tg := 20) (by kernel_rfl) (congrArg Value.bool hc18) (y_move rfl) ?_
        refine pl_yes (.bool (decide (k12 < x16))) (tg := 20) (by kernel_rfl) (congrArg Value.bool hc18) (y_gtr rfl rfl) ?_
        refine pl_val (.bool (decide (k12 < x16))) (y_pick_f (congrArg Value.bool hc18) rfl) ?_
        refine pl_val (.bool (decide (k12 < x16))) (y_move rfl) ?_
        rcases bif_some hs with ⟨hc19, hs⟩ | ⟨hc19, hs⟩
        · skip
          refine pl_not (tg := 25) (by kernel_rfl) (congrArg Value.bool hc19) ?_
          refine pl_not (tg := 25) (by kernel_rfl) (congrArg Value.bool hc19) ?_
          refine pl_not (tg := 25) (by kernel_rfl) (congrArg Value.bool hc19) ?_
          refine pl_not (tg := 25) (by kernel_rfl) (congrArg Value.bool hc19) ?_
          refine pl_not (tg := 25) (by kernel_rfl) (congrArg Value.bool hc19) ?_
          refine pl_not (tg := 25) (by kernel_rfl) (congrArg Value.bool hc19) ?_
          refine pl_val (.bool true) (y_pick_t (congrArg Value.bool hc19) rfl) ?_
          refine c_nil ?_
          refine c_condT (by rfl) ?_
          refine c_seq ?_
          refine c_region ?_
          refine pl_val (.bool false) (y_assign rfl) ?_
          refine c_nil ?_
          refine wp_ret ?_
          cases hs
          exact ⟨_, fr_ovl 34 ⟨rfl, trivial⟩, hC⟩
        · skip
          refine pl_yes (.slice pa0 pn0 pc0) (tg := 25) (by kernel_rfl) (congrArg Value.bool hc19) (y_move rfl) ?_
          refine pl_yes (.int .i64 x16) (tg := 25) (by kernel_rfl) (congrArg Value.bool hc19) (y_move rfl) ?_
          obtain ⟨x20, hx20, hs⟩ := bind_some hs
          obtain ⟨b21, o21, hp21, ha21⟩ := rs_idx Sl22 Sz3 h0 hx20
          refine pl_yes (.pointer (some ⟨b21, o21, none⟩)) (tg := 25) (by kernel_rfl) (congrArg Value.bool hc19) (hp21 _ _ _ _ _ _ _ _ _ rfl rfl) ?_
          refine pl_yes (.int .i64 x20) (tg := 25) (by kernel_rfl) (congrArg Value.bool hc19) (y_load rfl ((at_load_int Ag3 Sz3 ha21) _ (Chg.refl _ _))) ?_
          refine pl_yes (.int .i64 x16) (tg := 25) (by kernel_rfl) (congrArg Value.bool hc19) (y_move rfl) ?_
          refine pl_yes (.bool (x20 != x16)) (tg := 25) (by kernel_rfl) (congrArg Value.bool hc19) (y_neq rfl rfl) ?_
          refine pl_val (.bool (x20 != x16)) (y_pick_f (congrArg Value.bool hc19) rfl) ?_
          refine c_nil ?_
          rcases bif_some hs with ⟨hc22, hs⟩ | ⟨hc22, hs⟩
          · skip
            refine c_condT (congrArg Value.bool hc22) ?_
            refine c_seq ?_
            refine c_region ?_
            refine pl_val (.bool false) (y_assign rfl) ?_
            refine c_nil ?_
            refine wp_ret ?_
            cases hs
            exact ⟨_, fr_ovl 34 ⟨rfl, trivial⟩, hC⟩
          · skip
            refine c_condF (congrArg Value.bool hc22) ?_
            refine wp_skip ?_
            refine c_region ?_
            refine pl_val (.int .i64 (w64 (k12 + 1))) (y_add rfl rfl) ?_
            refine pl_val (.int .i64 (w64 (k12 + 1))) (y_move rfl) ?_
            refine c_nil ?_
            cases hs
            exact ⟨_, fr_ovl 34 ⟨rfl, rfl, rfl, congrArg (Value.int .i64) hw, trivial⟩, hC, hO, h0⟩
    · skip
      exact ⟨_, fr_ovl 34 ⟨rfl, rfl, rfl, rfl, trivial⟩, hC, hO, h0⟩
    · cases o14 with
      | nx _ => exact True.intro
      | rt r_ =>
        have hs := after_rt hs
        intro a1 w1 hK
        cases hs
        exact hK
      | br s10 =>
        have hs := after_br hs
        rintro a1 w11 ⟨σ, rfl, hC, hO, h0⟩
        refine c_seq ?_
        refine c_region ?_
        refine pl_val (.bool true) (y_assign rfl) ?_
        refine c_nil ?_
        refine wp_ret ?_
        cases hs
        exact ⟨_, fr_ovl 34 ⟨rfl, trivial⟩, hC⟩

theorem Bd115 : Bodied Try.prog 115 := bodied Try.func115 (by kernel_rfl) rfl

theorem Bd145 : Bodied Try.prog 145 := bodied Try.func145 (by kernel_rfl) rfl

def k_impl_arePartitions (M : Nat → Prop) (w0 : World) (r : Bool) (a : Act) (w : World) : Prop :=
  ∃ (σ : Nat → Value) , a = fr 19 (ovl σ [(6, (.bool r))]) ∧ Chg [] w0 w
def s_impl_arePartitions (n : Int) (p : List Int) (q : List Int) : Option (Bool) :=
  (s_impl_isSize n).bind fun r4 =>
  (bif r4 then (s_impl_isPartition n p).bind fun r7 =>
  (bif r7 then (s_impl_isPartition n q).bind fun r10 =>
  some r10 else some false) else some false)
set_option maxHeartbeats 4000000 in
theorem c_impl_arePartitions {M : Nat → Prop} {w : World} {pa0 : Option Addr} {pn0 pc0 : Nat} {pa1 : Option Addr} {pn1 pc1 : Nat} (n : Int) (p : List Int) (q : List Int) (h0 : (RT.rs (RT.int .i64)).val M w (.slice pa0 pn0 pc0) p ([])) (h1 : (RT.rs (RT.int .i64)).val M w (.slice pa1 pn1 pc1) q ([])) (hM : ∀ g, w.heap.size ≤ g → M g) {r : Bool} (hs : s_impl_arePartitions n p q = some r) :
    Gives Try.prog 78 [(.int .i64 n), (.slice pa0 pn0 pc0), (.slice pa1 pn1 pc1)] w (fun v w' => v = (.bool r) ∧ Chg [] w w') := by
  refine calls_fr Try.func78 rfl Try.ntmps78 (Nat.le_of_ble_eq_true rfl) ?_
  have hO := Own.start (N := Nw w []) hM Nw.fut
  have hC := Chg.refl [] w
  unfold s_impl_arePartitions at hs
  refine wp_mono (Q := KPost (k_impl_arePartitions M w r)) ?_ (fun e a w1 h => ?_)
  rotate_left
  · cases e
    case ret =>
      obtain ⟨σ, rfl, hrest⟩ := h
      exact ret1x Try.results78 (res_tmp rfl) ⟨rfl, hrest⟩
    all_goals exact (h : False).elim
  refine c_seq ?_
  refine c_region ?_
  refine pl_val (.bool false) (y_assign rfl) ?_
  refine c_nil ?_
  refine c_seq ?_
  refine c_region ?_
  refine pl_val (.int .i64 n) (y_move rfl) ?_
  obtain ⟨r4, hr4, hs⟩ := bind_some hs
  refine pl_call Bd115 rfl (c_impl_isSize (M := M) n  hO.fut hr4) ?_
  rintro _ w3 ⟨rfl, hC3⟩
  have h0 := h0.ext hC3
  have h1 := h1.ext hC3
  have hC := hC.ext hC3
  have hO := hO.ext hC3
  refine pl_val (.bool r4) (y_move rfl) ?_
  rcases bif_some hs with ⟨hc5, hs⟩ | ⟨hc5, hs⟩
  · skip
    refine pl_yes (.int .i64 n) (tg := 9) (by kernel_rfl) (congrArg Value.bool hc5) (y_move rfl) ?_
    refine pl_yes (.slice pa0 pn0 pc0) (tg := 9) (by kernel_rfl) (congrArg Value.bool hc5) (y_move rfl) ?_
    obtain ⟨r7, hr7, hs⟩ := bind_some hs
    refine pl_cally (tg := 9) (by kernel_rfl) (congrArg Value.bool hc5) Bd145 rfl (c_impl_isPartition (M := M) n p h0 hO.fut hr7) ?_
    rintro _ w6 ⟨rfl, hC6⟩
    have h0 := h0.ext hC6
    have h1 := h1.ext hC6
    have hC := hC.ext hC6
    have hO := hO.ext hC6
    refine pl_val (.bool r7) (y_pick_t (congrArg Value.bool hc5) rfl) ?_
    refine pl_val (.bool r7) (y_move rfl) ?_
    rcases bif_some hs with ⟨hc8, hs⟩ | ⟨hc8, hs⟩
    · skip
      refine pl_yes (.int .i64 n) (tg := 14) (by kernel_rfl) (congrArg Value.bool hc8) (y_move rfl) ?_
      refine pl_yes (.slice pa1 pn1 pc1) (tg := 14) (by kernel_rfl) (congrArg Value.bool hc8) (y_move rfl) ?_
      obtain ⟨r10, hr10, hs⟩ := bind_some hs
      refine pl_cally (tg := 14) (by kernel_rfl) (congrArg Value.bool hc8) Bd145 rfl (c_impl_isPartition (M := M) n q h1 hO.fut hr10) ?_
      rintro _ w9 ⟨rfl, hC9⟩
      have h0 := h0.ext hC9
      have h1 := h1.ext hC9
      have hC := hC.ext hC9
      have hO := hO.ext hC9
      refine pl_val (.bool r10) (y_pick_t (congrArg Value.bool hc8) rfl) ?_
      refine pl_val (.bool r10) (y_assign rfl) ?_
      refine c_nil ?_
      refine wp_ret ?_
      cases hs
      exact ⟨_, fr_ovl 19 ⟨rfl, trivial⟩, hC⟩
    · skip
      refine pl_not (tg := 14) (by kernel_rfl) (congrArg Value.bool hc8) ?_
      refine pl_not (tg := 14) (by kernel_rfl) (congrArg Value.bool hc8) ?_
      refine pl_not (tg := 14) (by kernel_rfl) (congrArg Value.bool hc8) ?_
      refine pl_val (.bool false) (y_pick_f (congrArg Value.bool hc8) rfl) ?_
      refine pl_val (.bool false) (y_assign rfl) ?_
      refine c_nil ?_
      refine wp_ret ?_
      cases hs
      exact ⟨_, fr_ovl 19 ⟨rfl, trivial⟩, hC⟩
  · skip
    refine pl_not (tg := 9) (by kernel_rfl) (congrArg Value.bool hc5) ?_
    refine pl_not (tg := 9) (by kernel_rfl) (congrArg Value.bool hc5) ?_
    refine pl_not (tg := 9) (by kernel_rfl) (congrArg Value.bool hc5) ?_
    refine pl_val (.bool false) (y_pick_f (congrArg Value.bool hc5) rfl) ?_
    refine pl_val (.bool false) (y_move rfl) ?_
    refine pl_not (tg := 14) (by kernel_rfl) (by rfl) ?_
    refine pl_not (tg := 14) (by kernel_rfl) (by rfl) ?_
    refine pl_not (tg := 14) (by kernel_rfl) (by rfl) ?_
    refine pl_val (.bool false) (y_pick_f (by rfl) rfl) ?_
    refine pl_val (.bool false) (y_assign rfl) ?_
    refine c_nil ?_
    refine wp_ret ?_
    cases hs
    exact ⟨_, fr_ovl 19 ⟨rfl, trivial⟩, hC⟩

theorem Rw100 : RowT Try.prog 100 57 1 [(.slice none 0 0)] := ⟨Try.underlying100, ⟨_, _, rfl, rfl, rfl, rfl, by decide⟩, rfl, by decide⟩

theorem Sl100 : SlT Try.prog 100 57 := Try.underlying100

theorem Rw57 : RowT Try.prog 57 4 1 [(.bool false)] := ⟨Try.underlying57, ⟨_, _, rfl, rfl, rfl, rfl, by decide⟩, rfl, by decide⟩

theorem Sz57 : SzT Try.prog 57 1 := ⟨_, rfl, rfl⟩

theorem Ag57 : AggT Try.prog 57 false := fun _ => by kernel_rfl

theorem Sl57 : SlT Try.prog 57 4 := Try.underlying57

theorem Sz4 : SzT Try.prog 4 1 := ⟨_, rfl, rfl⟩

theorem Ag4 : AggT Try.prog 4 false := fun _ => by kernel_rfl

def k_impl_productTable (M : Nat → Prop) (w0 : World) (r : (List (List Bool))) (a : Act) (w : World) : Prop :=
  ∃ (σ : Nat → Value) (ra0 : Option Addr) (rn0 rc0 : Nat) (rf0 : List Nat), a = fr 71 (ovl σ [(4, (.slice ra0 rn0 rc0))]) ∧ Chg [] w0 w ∧ (RT.os 57 (RT.os 4 RT.bool)).val M w (.slice ra0 rn0 rc0) r rf0 ∧ Own (Nw w0 []) (fun _ => True) w (rf0 ++ ([]))
def s_impl_productTable (p : List Int) (q : List Int) : Option ((List (List Bool))) :=
  (mks (p.length : Int) ([] : List Bool)).bind fun y4 =>
  (forC (S := (List (List Bool))) (R := (List (List Bool))) (fun k669 s667 =>
  (mks (p.length : Int) (false : Bool)).bind fun y676 =>
  (idx s667 k669).bind fun x678 =>
  (forC (S := (List (List Bool))) (R := (List (List Bool))) (fun k894 s892 =>
  (iter (S := Int × (List (List Bool))) (R := (List (List Bool))) (fun s965 =>
  ((bif (decide (s965.1 < (p.length : Int))) then (idx p k669).bind fun x978 =>
  (idx p k894).bind fun x980 =>
  some (x978 == x980) else some false)).bind fun s973 =>
  (bif s973 then (idx s965.2 k669).bind fun x984 =>
  (idx s965.2 k669).bind fun x988 =>
  (idx x988 s965.1).bind fun x992 =>
  (bif x992 then (idx x984 s965.1).bind fun x995 =>
  some (.nx (w64 (s965.1 + 1), List.set s965.2 (Int.toNat k669) (List.set x984 (Int.toNat s965.1) true))) else (idx q k894).bind fun x998 =>
  (idx q s965.1).bind fun x1000 =>
  (idx x984 s965.1).bind fun x1002 =>
  some (.nx (w64 (s965.1 + 1), List.set s965.2 (Int.toNat k669) (List.set x984 (Int.toNat s965.1) (x998 == x1000))))) else some (.br (s965.1, s965.2)))) FU (0, s892)).bind fun o969 => after o969 (fun r_ => some (.rt r_)) (fun s965 =>
  some (.nx s965.2))) 0 (p.length : Int) (List.set s667 (Int.toNat k669) y676)).bind fun o896 => after o896 (fun r_ => some (.rt r_)) (fun s892 =>
  some (.nx s892))) 0 (y4.length : Int) y4).bind fun o671 => after o671 (fun r_ => some r_) (fun s667 =>
  some s667)
set_option maxHeartbeats 4000000 in
theorem c_impl_productTable {M : Nat → Prop} {w : World} {pa0 : Option Addr} {pn0 pc0 : Nat} {pa1 : Option Addr} {pn1 pc1 : Nat} (p : List Int) (q : List Int) (h0 : (RT.rs (RT.int .i64)).val M w (.slice pa0 pn0 pc0) p ([])) (h1 : (RT.rs (RT.int .i64)).val M w (.slice pa1 pn1 pc1) q ([])) (hM : ∀ g, w.heap.size ≤ g → M g) {r : (List (List Bool))} (hs : s_impl_productTable p q = some r) :
    Gives Try.prog 81 [(.slice pa0 pn0 pc0), (.slice pa1 pn1 pc1)] w (fun v w' => ∃ (ra0 : Option Addr) (rn0 rc0 : Nat) (rf0 : List Nat), v = (.slice ra0 rn0 rc0) ∧ Chg [] w w' ∧ (RT.os 57 (RT.os 4 RT.bool)).val M w' (.slice ra0 rn0 rc0) r rf0 ∧ Own (Nw w []) (fun _ => True) w' (rf0 ++ ([]))) := by
  refine calls_fr Try.func81 rfl Try.ntmps81 (Nat.le_of_ble_eq_true rfl) ?_
  have hO := Own.start (N := Nw w []) hM Nw.fut
  have hC := Chg.refl [] w
  unfold s_impl_productTable at hs
  refine wp_mono (Q := KPost (k_impl_productTable M w r)) ?_ (fun e a w1 h => ?_)
  rotate_left
  · cases e
    case ret =>
      obtain ⟨σ, ra0, rn0, rc0, rf0, rfl, hrest⟩ := h
      exact ret1x Try.results81 (res_tmp rfl) ⟨ra0, rn0, rc0, rf0, rfl, hrest⟩
    all_goals exact (h : False).elim
  refine c_seq ?_
  refine c_region ?_
  refine pl_val (.slice none 0 0) (y_assign rfl) ?_
  refine c_nil ?_
  refine c_seq ?_
  refine c_region ?_
  refine pl_val (.slice pa0 pn0 pc0) (y_move rfl) ?_
  refine pl_val (.int .i64 (p.length : Int)) (y_len' Sl22 (rs_len h0) rfl) ?_
  refine pl_val (.int .i64 (p.length : Int)) (y_assign rfl) ?_
  refine c_nil ?_
  refine c_seq ?_
  refine c_region ?_
  refine pl_val (.int .i64 (p.length : Int)) (y_move rfl) ?_
  obtain ⟨y4, hy4, hs⟩ := bind_some hs
  obtain ⟨a3, n3, c3, w3, f3, hm3, hC3, hfr3, hv3⟩ := mk_os (M := M) (w := w) (r := (RT.os 4 RT.bool)) Rw100 hy4 (fun _ _ => (os_unval os_nil))
  refine pl_val (w' := w3) (.slice a3 n3 c3) (y_make rfl rfl hm3) ?_
  have h0 := h0.ext hC3
  have h1 := h1.ext hC3
  have hC := hC.ext hC3
  have hO := hO.new hC3 hfr3 (os_nodup hv3) hv3.fpl
  refine pl_val (.slice a3 n3 c3) (y_assign rfl) ?_
  refine c_nil ?_
  refine c_seq ?_
  refine c_seq ?_
  refine c_region ?_
  refine pl_val (.slice a3 n3 c3) (y_move rfl) ?_
  refine pl_val (.int .i64 (y4.length : Int)) (y_len' Sl100 (os_len hv3) rfl) ?_
  refine pl_val (.int .i64 0) (y_move rfl) ?_
  refine c_nil ?_
  obtain ⟨o671, hl672, hs⟩ := bind_some hs
  refine wp_block ?_
  refine wp_forC (id := 0) (y4.length : Int) (I := fun k669 s667 a w668 => ∃ (σ : Nat → Value) (f673 : List Nat), a = fr 71 (ovl σ [(0, (.slice pa0 pn0 pc0)), (1, (.slice pa1 pn1 pc1)), (5, (.int .i64 (p.length : Int))), (6, (.slice a3 n3 c3)), (15, (.int .i64 (y4.length : Int))), (16, (.int .i64 k669))]) ∧ Chg [] w w668 ∧ Own (Nw w []) M w668 (f673 ++ []) ∧ (RT.rs (RT.int .i64)).val M w668 (.slice pa0 pn0 pc0) p ([]) ∧ (RT.rs (RT.int .i64)).val M w668 (.slice pa1 pn1 pc1) q ([]) ∧ (RT.os 57 (RT.os 4 RT.bool)).val M w668 (.slice a3 n3 c3) s667 f673) (J := fun s667 a w668 => ∃ (σ : Nat → Value) (f674 : List Nat), a = fr 71 (ovl σ [(6, (.slice a3 n3 c3))]) ∧ Chg [] w w668 ∧ Own (Nw w []) M w668 (f674 ++ []) ∧ (RT.rs (RT.int .i64)).val M w668 (.slice pa0 pn0 pc0) p ([]) ∧ (RT.rs (RT.int .i64)).val M w668 (.slice pa1 pn1 pc1) q ([]) ∧ (RT.os 57 (RT.os 4 RT.bool)).val M w668 (.slice a3 n3 c3) s667 f674) (K := (k_impl_productTable M w)) ?_ ?_ 0 y4 o671 _ _ ?_ hl672 ?_
  · rintro k669 s667 a w668 ⟨σ, f673, rfl, hC, hO, h0, h1, hv673⟩ hlt
    refine c_seq ?_
    refine c_region ?_
    refine pl_val (.bool (decide (k669 < (y4.length : Int)))) (y_lss rfl rfl) ?_
    refine c_nil ?_
    refine c_seq ?_
    refine c_condF (congrArg Value.bool (decide_eq_false hlt)) ?_
    refine wp_exit ?_
    exact ⟨rfl, _, f673, fr_ovl 71 ⟨rfl, trivial⟩, hC, hO, h0, h1, hv673⟩
  · rintro k669 s667 o671 a w668 ⟨σ, f673, rfl, hC, hO, h0, h1, hv673⟩ hlt hw hs
    refine c_seq ?_
    refine c_region ?_
    refine pl_val (.bool (decide (k669 < (y4.length : Int)))) (y_lss rfl rfl) ?_
    refine c_nil ?_
    refine c_seq ?_
    refine c_condT (congrArg Value.bool (decide_eq_true hlt)) ?_
    refine wp_skip ?_
    refine c_seq ?_
    refine wp_block ?_
    refine c_seq ?_
    refine c_region ?_
    refine pl_val (.int .i64 k669) (y_move rfl) ?_
    refine pl_val (.int .i64 k669) (y_assign rfl) ?_
    refine c_nil ?_
    refine c_seq ?_
    refine c_region ?_
    refine pl_val (.slice a3 n3 c3) (y_move rfl) ?_
    refine pl_val (.int .i64 k669) (y_move rfl) ?_
    refine pl_val (.int .i64 (p.length : Int)) (y_move rfl) ?_
    obtain ⟨y676, hy676, hs⟩ := bind_some hs
    obtain ⟨a675, n675, c675, w675, f675, hm675, hC675, hfr675, hv675⟩ := mk_os (M := M) (w := w668) (r := RT.bool) Rw57 hy676 (fun _ _ => ⟨rfl, rfl⟩)
    refine pl_val (w' := w675) (.slice a675 n675 c675) (y_make rfl rfl hm675) ?_
    have h0 := h0.ext hC675
    have h1 := h1.ext hC675
    have hv673 := hv673.ext hC675
    have hC := hC.ext hC675
    have hO := hO.new hC675 hfr675 (os_nodup hv675) hv675.fpl
    obtain ⟨x678, hx678, hs⟩ := bind_some hs
    obtain ⟨g679, f679, hg679, hk679, hp679, ha679, hf679⟩ := os_idx Sl100 Sz57 hv673 hx678
    have hb679 := own_row (Frz.os Frz.bool) ha679 hf679
    refine pl_val (.pointer (some ⟨g679, 0 + Int.toNat k669 * 1, none⟩)) (hp679 _ _ _ _ _ _ _ _ _ rfl rfl) ?_
    have hO := hO.fr1
    obtain ⟨w680, f680, hst680, hC680, hf680, hv680⟩ := os_store (P := Try.prog) (c' := [(.slice a675 n675 c675)]) hg679 hv673 hk679 (fun g hg => hO.inM g (os_block hv673 g (by simpa using hg))) (os_unval hv675) (hO.drop.perm (R := f675 ++ ([])) (by simp)).nd (fun g hg hq => hO.apart g hq (by simp only [List.mem_append, List.not_mem_nil, false_or, or_false] at hg ⊢; simp [hg])) (fun _ h => .inl h)
    have hG680 : ∀ q ∈ [g679], q ∈ f673 := fun q hq => os_block hv673 q (by rw [hg679]; exact hq)
    refine pl_skip (w' := w680) (ys_store rfl rfl (hst680 _ _ rfl Sz57)) ?_
    have hO := hO.fr1
    have hO := hO.fr1
    have h0 := h0.mut hC680 (fun g hg => hO.inM g (hG680 g hg)) (fun _ _ h => nomatch h)
    have h1 := h1.mut hC680 (fun g hg => hO.inM g (hG680 g hg)) (fun _ _ h => nomatch h)
    have hC := hC.step hC680 (fun g hg => hO.inN g (hG680 g hg))
    have hO := hO.perm (R := f673 ++ (f675 ++ ([]))) (by simp)
    have hO := hO.eat hC680 (fun q hq => (hf680 q hq).elim .inl (fun h => .inr (.inl h))) (os_nodup hv680) hv680.fpl
    refine c_nil ?_
    refine c_seq ?_
    refine c_region ?_
    refine pl_val (.int .i64 0) (y_assign rfl) ?_
    refine c_nil ?_
    obtain ⟨o896, hl897, hs⟩ := bind_some hs
    refine wp_block ?_
    refine wp_forC (id := 2) (p.length : Int) (I := fun k894 s892 a w893 => ∃ (σ : Nat → Value) (f898 : List Nat), a = fr 71 (ovl σ [(0, (.slice pa0 pn0 pc0)), (1, (.slice pa1 pn1 pc1)), (5, (.int .i64 (p.length : Int))), (6, (.slice a3 n3 c3)), (7, (.int .i64 k669)), (8, (.int .i64 k894)), (15, (.int .i64 (y4.length : Int))), (16, (.int .i64 k669))]) ∧ Chg [] w w893 ∧ Own (Nw w []) M w893 (f898 ++ []) ∧ (RT.rs (RT.int .i64)).val M w893 (.slice pa0 pn0 pc0) p ([]) ∧ (RT.rs (RT.int .i64)).val M w893 (.slice pa1 pn1 pc1) q ([]) ∧ (RT.os 57 (RT.os 4 RT.bool)).val M w893 (.slice a3 n3 c3) s892 f898) (J := fun s892 a w893 => ∃ (σ : Nat → Value) (f899 : List Nat), a = fr 71 (ovl σ [(0, (.slice pa0 pn0 pc0)), (1, (.slice pa1 pn1 pc1)), (5, (.int .i64 (p.length : Int))), (6, (.slice a3 n3 c3)), (15, (.int .i64 (y4.length : Int))), (16, (.int .i64 k669))]) ∧ Chg [] w w893 ∧ Own (Nw w []) M w893 (f899 ++ []) ∧ (RT.rs (RT.int .i64)).val M w893 (.slice pa0 pn0 pc0) p ([]) ∧ (RT.rs (RT.int .i64)).val M w893 (.slice pa1 pn1 pc1) q ([]) ∧ (RT.os 57 (RT.os 4 RT.bool)).val M w893 (.slice a3 n3 c3) s892 f899) (K := (k_impl_productTable M w)) ?_ ?_ 0 (List.set s667 (Int.toNat k669) y676) o896 _ _ ?_ hl897 ?_
    · rintro k894 s892 a w893 ⟨σ, f898, rfl, hC, hO, h0, h1, hv898⟩ hlt
      refine c_seq ?_
      refine c_seq ?_
      refine c_region ?_
      refine pl_val (.int .i64 k894) (y_move rfl) ?_
      refine pl_val (.int .i64 (p.length : Int)) (y_move rfl) ?_
      refine pl_val (.bool (decide (k894 < (p.length : Int)))) (y_lss rfl rfl) ?_
      refine c_nil ?_
      refine c_condF (congrArg Value.bool (decide_eq_false hlt)) ?_
      refine wp_exit ?_
      exact ⟨rfl, _, f898, fr_ovl 71 ⟨rfl, rfl, rfl, rfl, rfl, rfl, trivial⟩, hC, hO, h0, h1, hv898⟩
    · rintro k894 s892 o896 a w893 ⟨σ, f898, rfl, hC, hO, h0, h1, hv898⟩ hlt hw hs
      refine c_seq ?_
      refine c_seq ?_
      refine c_region ?_
      refine pl_val (.int .i64 k894) (y_move rfl) ?_
      refine pl_val (.int .i64 (p.length : Int)) (y_move rfl) ?_
      refine pl_val (.bool (decide (k894 < (p.length : Int)))) (y_lss rfl rfl) ?_
      refine c_nil ?_
      refine c_condT (congrArg Value.bool (decide_eq_true hlt)) ?_
      refine wp_skip ?_
      refine c_seq ?_
      refine wp_block ?_
      refine c_seq ?_
      refine c_region ?_
      refine pl_val (.int .i64 0) (y_assign rfl) ?_
      refine c_nil ?_
      obtain ⟨o969, hl970, hs⟩ := bind_some hs
      refine wp_block ?_
      refine wp_iter (id := 4) (I := fun s965 a w966 => ∃ (σ : Nat → Value) (f971 : List Nat), a = fr 71 (ovl σ [(0, (.slice pa0 pn0 pc0)), (1, (.slice pa1 pn1 pc1)), (5, (.int .i64 (p.length : Int))), (6, (.slice a3 n3 c3)), (7, (.int .i64 k669)), (8, (.int .i64 k894)), (9, (.int .i64 s965.1)), (15, (.int .i64 (y4.length : Int))), (16, (.int .i64 k669))]) ∧ Chg [] w w966 ∧ Own (Nw w []) M w966 (f971 ++ []) ∧ (RT.rs (RT.int .i64)).val M w966 (.slice pa0 pn0 pc0) p ([]) ∧ (RT.rs (RT.int .i64)).val M w966 (.slice pa1 pn1 pc1) q ([]) ∧ (RT.os 57 (RT.os 4 RT.bool)).val M w966 (.slice a3 n3 c3) s965.2 f971) (J := fun s965 a w966 => ∃ (σ : Nat → Value) (f972 : List Nat), a = fr 71 (ovl σ [(0, (.slice pa0 pn0 pc0)), (1, (.slice pa1 pn1 pc1)), (5, (.int .i64 (p.length : Int))), (6, (.slice a3 n3 c3)), (7, (.int .i64 k669)), (8, (.int .i64 k894)), (15, (.int .i64 (y4.length : Int))), (16, (.int .i64 k669))]) ∧ Chg [] w w966 ∧ Own (Nw w []) M w966 (f972 ++ []) ∧ (RT.rs (RT.int .i64)).val M w966 (.slice pa0 pn0 pc0) p ([]) ∧ (RT.rs (RT.int .i64)).val M w966 (.slice pa1 pn1 pc1) q ([]) ∧ (RT.os 57 (RT.os 4 RT.bool)).val M w966 (.slice a3 n3 c3) s965.2 f972) (K := (k_impl_productTable M w)) ?_ FU (0, s892) o969 _ _ ?_ hl970 ?_
      · rintro s965 o969 a w966 ⟨σ, f971, rfl, hC, hO, h0, h1, hv971⟩ hs
        refine c_seq ?_
        refine c_seq ?_
        obtain ⟨s973, hm975, hs⟩ := bind_some hs
        refine c_mid (I := fun a w974 => ∃ (σ : Nat → Value), a = fr 71 (ovl σ [(0, (.slice pa0 pn0 pc0)), (1, (.slice pa1 pn1 pc1)), (5, (.int .i64 (p.length : Int))), (6, (.slice a3 n3 c3)), (7, (.int .i64 k669)), (8, (.int .i64 k894)), (9, (.int .i64 s965.1)), (15, (.int .i64 (y4.length : Int))), (16, (.int .i64 k669)), (42, (.bool s973))]) ∧ Chg [] w966 w974) ?_ ?_
        · replace hs := hm975
          have hMid := Chg.refl [] w966
          refine x_start [] Mx rfl ?_
          have hCw976 := Chg.drew w966
          generalize World.drew w966 = w976 at hCw976 ⊢
          have h0 := h0.ext hCw976
          have h1 := h1.ext hCw976
          have hv971 := hv971.ext hCw976
          have hMid := hMid.ext hCw976
          have hC := hC.ext hCw976
          have hO := hO.ext hCw976
          have hS := Chg.refl [] w976
          refine x_p 0 (.int .i64 s965.1) rfl (by kernel_rfl)  (fun _ => y_move rfl) (fun _ => hS) ?_
          refine x_p 1 (.int .i64 (p.length : Int)) rfl (by kernel_rfl)  (fun _ => y_move rfl) (fun _ => hS) ?_
          refine x_p 2 (.bool (decide (s965.1 < (p.length : Int)))) rfl (by kernel_rfl)  (fun _ => y_lss rfl rfl) (fun _ => hS) ?_
          refine x_p 3 (.bool (decide (s965.1 < (p.length : Int)))) rfl (by kernel_rfl)  (fun _ => y_move rfl) (fun _ => hS) ?_
          rcases bif_some hs with ⟨hc977, hs⟩ | ⟨hc977, hs⟩
          · skip
            refine x_py 4 (.slice pa0 pn0 pc0) rfl (by kernel_rfl) (tg := 32) (by kernel_rfl) (congrArg Value.bool hc977) (fun _ => y_move rfl) (fun _ => hS) ?_
            refine x_py 5 (.int .i64 k669) rfl (by kernel_rfl) (tg := 32) (by kernel_rfl) (congrArg Value.bool hc977) (fun _ => y_move rfl) (fun _ => hS) ?_
            obtain ⟨x978, hx978, hs⟩ := bind_some hs
            obtain ⟨b979, o979, hp979, ha979⟩ := rs_idx Sl22 Sz3 h0 hx978
            refine x_py 6 (.pointer (some ⟨b979, o979, none⟩)) rfl (by kernel_rfl) (tg := 32) (by kernel_rfl) (congrArg Value.bool hc977) (fun _ => hp979 _ _ _ _ _ _ _ _ _ rfl rfl) (fun _ => hS) ?_
            refine x_ly 7 (.int .i64 x978) rfl (by kernel_rfl) (tg := 32) (by kernel_rfl) (congrArg Value.bool hc977) (fun w' hw' => y_load rfl ((at_load_int Ag3 Sz3 ha979) w' hw')) hS ?_
            refine x_py 8 (.slice pa0 pn0 pc0) rfl (by kernel_rfl) (tg := 32) (by kernel_rfl) (congrArg Value.bool hc977) (fun _ => y_move rfl) (fun _ => hS) ?_
            refine x_py 9 (.int .i64 k894) rfl (by kernel_rfl) (tg := 32) (by kernel_rfl) (congrArg Value.bool hc977) (fun _ => y_move rfl) (fun _ => hS) ?_
            obtain ⟨x980, hx980, hs⟩ := bind_some hs
            obtain ⟨b981, o981, hp981, ha981⟩ := rs_idx Sl22 Sz3 h0 hx980
            refine x_py 10 (.pointer (some ⟨b981, o981, none⟩)) rfl (by kernel_rfl) (tg := 32) (by kernel_rfl) (congrArg Value.bool hc977) (fun _ => hp981 _ _ _ _ _ _ _ _ _ rfl rfl) (fun _ => hS) ?_
            refine x_ly 11 (.int .i64 x980) rfl (by kernel_rfl) (tg := 32) (by kernel_rfl) (congrArg Value.bool hc977) (fun w' hw' => y_load rfl ((at_load_int Ag3 Sz3 ha981) w' hw')) hS ?_
            refine x_py 12 (.bool (x978 == x980)) rfl (by kernel_rfl) (tg := 32) (by kernel_rfl) (congrArg Value.bool hc977) (fun _ => y_eql rfl rfl) (fun _ => hS) ?_
            refine x_p 13 (.bool (x978 == x980)) rfl (by kernel_rfl)  (fun _ => y_pick_t (congrArg Value.bool hc977) rfl) (fun _ => hS) ?_
            refine x_end (by kernel_rfl) ?_
            clear hS
            cases hs
            exact ⟨_, fr_ovl 71 ⟨rfl, rfl, rfl, rfl, rfl, rfl, rfl, rfl, rfl, rfl, trivial⟩, hMid⟩
          · skip
            refine x_pn 4 rfl (by kernel_rfl) (tg := 32) (by kernel_rfl) (congrArg Value.bool hc977) (fun _ => hS) ?_
            refine x_pn 5 rfl (by kernel_rfl) (tg := 32) (by kernel_rfl) (congrArg Value.bool hc977) (fun _ => hS) ?_
            refine x_pn 6 rfl (by kernel_rfl) (tg := 32) (by kernel_rfl) (congrArg Value.bool hc977) (fun _ => hS) ?_
            refine x_pn 7 rfl (by kernel_rfl) (tg := 32) (by kernel_rfl) (congrArg Value.bool hc977) (fun _ => hS) ?_
            refine x_pn 8 rfl (by kernel_rfl) (tg := 32) (by kernel_rfl) (congrArg Value.bool hc977) (fun _ => hS) ?_
            refine x_pn 9 rfl (by kernel_rfl) (tg := 32) (by kernel_rfl) (congrArg Value.bool hc977) (fun _ => hS) ?_
            refine x_pn 10 rfl (by kernel_rfl) (tg := 32) (by kernel_rfl) (congrArg Value.bool hc977) (fun _ => hS) ?_
            refine x_pn 11 rfl (by kernel_rfl) (tg := 32) (by kernel_rfl) (congrArg Value.bool hc977) (fun _ => hS) ?_
            refine x_pn 12 rfl (by kernel_rfl) (tg := 32) (by kernel_rfl) (congrArg Value.bool hc977) (fun _ => hS) ?_
            refine x_p 13 (.bool false) rfl (by kernel_rfl)  (fun _ => y_pick_f (congrArg Value.bool hc977) rfl) (fun _ => hS) ?_
            refine x_end (by kernel_rfl) ?_
            clear hS
            cases hs
            exact ⟨_, fr_ovl 71 ⟨rfl, rfl, rfl, rfl, rfl, rfl, rfl, rfl, rfl, rfl, trivial⟩, hMid⟩
        · rintro a1 w974 ⟨σ, rfl, hCs973⟩
          have h0 := h0.ext hCs973
          have h1 := h1.ext hCs973
          have hv971 := hv971.ext hCs973
          have hC := hC.ext hCs973
          have hO := hO.ext hCs973
          rcases bif_some hs with ⟨hc982, hs⟩ | ⟨hc982, hs⟩
          · skip
            refine c_condT (congrArg Value.bool hc982) ?_
            refine wp_skip ?_
            refine c_seq ?_
            refine wp_block ?_
            refine x_start [24] Mx rfl ?_
            have hCw983 := Chg.drew w974
            generalize World.drew w974 = w983 at hCw983 ⊢
            have h0 := h0.ext hCw983
            have h1 := h1.ext hCw983
            have hv971 := hv971.ext hCw983
            have hC := hC.ext hCw983
            have hO := hO.ext hCw983
            have hS := Chg.refl [] w983
            refine x_p 0 (.slice a3 n3 c3) rfl (by kernel_rfl)  (fun _ => y_move rfl) (fun _ => hS) ?_
            refine x_p 1 (.int .i64 k669) rfl (by kernel_rfl)  (fun _ => y_move rfl) (fun _ => hS) ?_
            obtain ⟨x984, hx984, hs⟩ := bind_some hs
            obtain ⟨g985, f985, hg985, hk985, hp985, ha985, hf985⟩ := os_idx Sl100 Sz57 hv971 hx984
            have hb985 := own_row (Frz.os Frz.bool) ha985 hf985
            refine x_p 2 (.pointer (some ⟨g985, 0 + Int.toNat k669 * 1, none⟩)) rfl (by kernel_rfl)  (fun _ => hp985 _ _ _ _ _ _ _ _ _ rfl rfl) (fun _ => hS) ?_
            obtain ⟨v986, hl986, hrow986, hv986⟩ := at_load1 Ag57 Sz57 rfl rfl hb985
            obtain ⟨a986, n986, c986, rfl⟩ := rs_sl hv986
            refine x_l 3 (.slice a986 n986 c986) rfl (by kernel_rfl)  (fun w' hw' => y_load rfl (hl986 w' hw')) hS ?_
            refine x_p 4 (.int .i64 s965.1) rfl (by kernel_rfl)  (fun _ => y_move rfl) (fun _ => hS) ?_
            refine x_p 5 (.slice a3 n3 c3) rfl (by kernel_rfl)  (fun _ => y_move rfl) (fun _ => hS) ?_
            refine x_p 6 (.int .i64 k669) rfl (by kernel_rfl)  (fun _ => y_move rfl) (fun _ => hS) ?_
            obtain ⟨x988, hx988, hs⟩ := bind_some hs
            obtain ⟨g989, f989, hg989, hk989, hp989, ha989, hf989⟩ := os_idx Sl100 Sz57 hv971 hx988
            have hb989 := own_row (Frz.os Frz.bool) ha989 hf989
            refine x_p 7 (.pointer (some ⟨g989, 0 + Int.toNat k669 * 1, none⟩)) rfl (by kernel_rfl)  (fun _ => hp989 _ _ _ _ _ _ _ _ _ rfl rfl) (fun _ => hS) ?_
            obtain ⟨v990, hl990, hrow990, hv990⟩ := at_load1 Ag57 Sz57 rfl rfl hb989
            obtain ⟨a990, n990, c990, rfl⟩ := rs_sl hv990
            refine x_l 8 (.slice a990 n990 c990) rfl (by kernel_rfl)  (fun w' hw' => y_load rfl (hl990 w' hw')) hS ?_
            refine x_p 9 (.int .i64 s965.1) rfl (by kernel_rfl)  (fun _ => y_move rfl) (fun _ => hS) ?_
            obtain ⟨x992, hx992, hs⟩ := bind_some hs
            obtain ⟨fr993, hrr993, hfr993, _, _⟩ := os_put hg989 hv971 hx988 hrow990 rfl hO.inM
            obtain ⟨g993, f993, hg993, hk993, hp993, ha993, hf993⟩ := os_idx Sl57 Sz4 (show (RT.os 4 RT.bool).val M w983 (.slice a990 n990 c990) _ fr993 from ⟨[_], rfl, hrr993⟩) hx992
            refine x_p 10 (.pointer (some ⟨g993, 0 + Int.toNat s965.1 * 1, none⟩)) rfl (by kernel_rfl)  (fun _ => hp993 _ _ _ _ _ _ _ _ _ rfl rfl) (fun _ => hS) ?_
            refine x_l 11 (.bool x992) rfl (by kernel_rfl)  (fun w' hw' => y_load rfl ((at_load_bool Ag4 Sz4 ha993) w' hw')) hS ?_
            refine x_p 12 (.bool x992) rfl (by kernel_rfl)  (fun _ => y_move rfl) (fun _ => hS) ?_
            rcases bif_some hs with ⟨hc994, hs⟩ | ⟨hc994, hs⟩
            · skip
              refine x_pn 13 rfl (by kernel_rfl) (tg := 57) (by kernel_rfl) (congrArg Value.bool hc994) (fun _ => hS) ?_
              refine x_pn 14 rfl (by kernel_rfl) (tg := 57) (by kernel_rfl) (congrArg Value.bool hc994) (fun _ => hS) ?_
              refine x_pn 15 rfl (by kernel_rfl) (tg := 57) (by kernel_rfl) (congrArg Value.bool hc994) (fun _ => hS) ?_
              refine x_pn 16 rfl (by kernel_rfl) (tg := 57) (by kernel_rfl) (congrArg Value.bool hc994) (fun _ => hS) ?_
              refine x_pn 17 rfl (by kernel_rfl) (tg := 57) (by kernel_rfl) (congrArg Value.bool hc994) (fun _ => hS) ?_
              refine x_pn 18 rfl (by kernel_rfl) (tg := 57) (by kernel_rfl) (congrArg Value.bool hc994) (fun _ => hS) ?_
              refine x_pn 19 rfl (by kernel_rfl) (tg := 57) (by kernel_rfl) (congrArg Value.bool hc994) (fun _ => hS) ?_
              refine x_pn 20 rfl (by kernel_rfl) (tg := 57) (by kernel_rfl) (congrArg Value.bool hc994) (fun _ => hS) ?_
              refine x_pn 21 rfl (by kernel_rfl) (tg := 57) (by kernel_rfl) (congrArg Value.bool hc994) (fun _ => hS) ?_
              refine x_p 22 (.bool true) rfl (by kernel_rfl)  (fun _ => y_pick_t (congrArg Value.bool hc994) rfl) (fun _ => hS) ?_
              obtain ⟨x995, hx995, hs⟩ := bind_some hs
              obtain ⟨fr996, hrr996, hfr996, _, _⟩ := os_put hg985 hv971 hx984 hrow986 rfl hO.inM
              obtain ⟨g996, f996, hg996, hk996, hp996, ha996, hf996⟩ := os_idx Sl57 Sz4 (show (RT.os 4 RT.bool).val M w983 (.slice a986 n986 c986) _ fr996 from ⟨[_], rfl, hrr996⟩) hx995
              refine x_p 23 (.pointer (some ⟨g996, 0 + Int.toNat s965.1 * 1, none⟩)) rfl (by kernel_rfl)  (fun _ => hp996 _ _ _ _ _ _ _ _ _ rfl rfl) (fun _ => hS) ?_
              refine x_one (i := 24) (by kernel_rfl) ?_
              obtain ⟨w997, f997, hst997, hC997, hG997, hf997, hv997⟩ := os_store2 (P := Try.prog) (c' := [(.bool true)]) hg985 hv971 hx984 hrow986 hg996 hk996 hO.inM ⟨rfl, rfl⟩
              refine xk_skip (w' := w997) (b := true) rfl (ys_store rfl rfl (hst997 _ _ rfl Sz4)) rfl (fun h => nomatch h) ?_
              have h0 := h0.mut hC997 (fun g hg => hO.inM g (hG997 g hg)) (fun _ _ h => nomatch h)
              have h1 := h1.mut hC997 (fun g hg => hO.inM g (hG997 g hg)) (fun _ _ h => nomatch h)
              have hC := hC.step hC997 (fun g hg => hO.inN g (hG997 g hg))
              have hO := hO.grow hC997 hf997 (os_nodup hv997) hv997.fpl
              refine x_end (by kernel_rfl) ?_
              clear hS
              refine c_region ?_
              refine pl_val (.int .i64 s965.1) (y_move rfl) ?_
              refine pl_val (.int .i64 (w64 (s965.1 + 1))) (y_add rfl rfl) ?_
              refine pl_val (.int .i64 (w64 (s965.1 + 1))) (y_assign rfl) ?_
              refine c_nil ?_
              cases hs
              exact ⟨_, f997, fr_ovl 71 ⟨rfl, rfl, rfl, rfl, rfl, rfl, rfl, rfl, rfl, trivial⟩, hC, hO, h0, h1, hv997⟩
            · skip
              refine x_py 13 (.slice pa1 pn1 pc1) rfl (by kernel_rfl) (tg := 57) (by kernel_rfl) (congrArg Value.bool hc994) (fun _ => y_move rfl) (fun _ => hS) ?_
              refine x_py 14 (.int .i64 k894) rfl (by kernel_rfl) (tg := 57) (by kernel_rfl) (congrArg Value.bool hc994) (fun _ => y_move rfl) (fun _ => hS) ?_
              obtain ⟨x998, hx998, hs⟩ := bind_some hs
              obtain ⟨b999, o999, hp999, ha999⟩ := rs_idx Sl22 Sz3 h1 hx998
              refine x_py 15 (.pointer (some ⟨b999, o999, none⟩)) rfl (by kernel_rfl) (tg := 57) (by kernel_rfl) (congrArg Value.bool hc994) (fun _ => hp999 _ _ _ _ _ _ _ _ _ rfl rfl) (fun _ => hS) ?_
              refine x_ly 16 (.int .i64 x998) rfl (by kernel_rfl) (tg := 57) (by kernel_rfl) (congrArg Value.bool hc994) (fun w' hw' => y_load rfl ((at_load_int Ag3 Sz3 ha999) w' hw')) hS ?_
              refine x_py 17 (.slice pa1 pn1 pc1) rfl (by kernel_rfl) (tg := 57) (by kernel_rfl) (congrArg Value.bool hc994) (fun _ => y_move rfl) (fun _ => hS) ?_
              refine x_py 18 (.int .i64 s965.1) rfl (by kernel_rfl) (tg := 57) (by kernel_rfl) (congrArg Value.bool hc994) (fun _ => y_move rfl) (fun _ => hS) ?_
              obtain ⟨x1000, hx1000, hs⟩ := bind_some hs
              obtain ⟨b1001, o1001, hp1001, ha1001⟩ := rs_idx Sl22 Sz3 h1 hx1000
              refine x_py 19 (.pointer (some ⟨b1001, o1001, none⟩)) rfl (by kernel_rfl) (tg := 57) (by kernel_rfl) (congrArg Value.bool hc994) (fun _ => hp1001 _ _ _ _ _ _ _ _ _ rfl rfl) (fun _ => hS) ?_
              refine x_ly 20 (.int .i64 x1000) rfl (by kernel_rfl) (tg := 57) (by kernel_rfl) (congrArg Value.bool hc994) (fun w' hw' => y_load rfl ((at_load_int Ag3 Sz3 ha1001) w' hw')) hS ?_
              refine x_py 21 (.bool (x998 == x1000)) rfl (by kernel_rfl) (tg := 57) (by kernel_rfl) (congrArg Value.bool hc994) (fun _ => y_eql rfl rfl) (fun _ => hS) ?_
              refine x_p 22 (.bool (x998 == x1000)) rfl (by kernel_rfl)  (fun _ => y_pick_f (congrArg Value.bool hc994) rfl) (fun _ => hS) ?_
              obtain ⟨x1002, hx1002, hs⟩ := bind_some hs
              obtain ⟨fr1003, hrr1003, hfr1003, _, _⟩ := os_put hg985 hv971 hx984 hrow986 rfl hO.inM
              obtain ⟨g1003, f1003, hg1003, hk1003, hp1003, ha1003, hf1003⟩ := os_idx Sl57 Sz4 (show (RT.os 4 RT.bool).val M w983 (.slice a986 n986 c986) _ fr1003 from ⟨[_], rfl, hrr1003⟩) hx1002
              refine x_p 23 (.pointer (some ⟨g1003, 0 + Int.toNat s965.1 * 1, none⟩)) rfl (by kernel_rfl)  (fun _ => hp1003 _ _ _ _ _ _ _ _ _ rfl rfl) (fun _ => hS) ?_
              refine x_one (i := 24) (by kernel_rfl) ?_
              obtain ⟨w1004, f1004, hst1004, hC1004, hG1004, hf1004, hv1004⟩ := os_store2 (P := Try.prog) (c' := [(.bool (x998 == x1000))]) hg985 hv971 hx984 hrow986 hg1003 hk1003 hO.inM ⟨rfl, rfl⟩
              refine xk_skip (w' := w1004) (b := true) rfl (ys_store rfl rfl (hst1004 _ _ rfl Sz4)) rfl (fun h => nomatch h) ?_
              have h0 := h0.mut hC1004 (fun g hg => hO.inM g (hG1004 g hg)) (fun _ _ h => nomatch h)
              have h1 := h1.mut hC1004 (fun g hg => hO.inM g (hG1004 g hg)) (fun _ _ h => nomatch h)
              have hC := hC.step hC1004 (fun g hg => hO.inN g (hG1004 g hg))
              have hO := hO.grow hC1004 hf1004 (os_nodup hv1004) hv1004.fpl
              refine x_end (by kernel_rfl) ?_
              clear hS
              refine c_region ?_
              refine pl_val (.int .i64 s965.1) (y_move rfl) ?_
              refine pl_val (.int .i64 (w64 (s965.1 + 1))) (y_add rfl rfl) ?_
              refine pl_val (.int .i64 (w64 (s965.1 + 1))) (y_assign rfl) ?_
              refine c_nil ?_
              cases hs
              exact ⟨_, f1004, fr_ovl 71 ⟨rfl, rfl, rfl, rfl, rfl, rfl, rfl, rfl, rfl, trivial⟩, hC, hO, h0, h1, hv1004⟩
          · skip
            refine c_condF (congrArg Value.bool hc982) ?_
            refine wp_exit ?_
            cases hs
            exact ⟨rfl, _, f971, fr_ovl 71 ⟨rfl, rfl, rfl, rfl, rfl, rfl, rfl, rfl, trivial⟩, hC, hO, h0, h1, hv971⟩
      · skip
        exact ⟨_, f898, fr_ovl 71 ⟨rfl, rfl, rfl, rfl, rfl, rfl, rfl, rfl, rfl, trivial⟩, hC, hO, h0, h1, hv898⟩
      · cases o969 with
        | nx _ => exact True.intro
        | rt r_ =>
          have hs := after_rt hs
          intro a1 w1 hK
          cases hs
          exact hK
        | br s965 =>
          have hs := after_br hs
          rintro a1 w966 ⟨σ, f972, rfl, hC, hO, h0, h1, hv972⟩
          refine c_region ?_
          refine pl_val (.int .i64 k894) (y_move rfl) ?_
          refine pl_val (.int .i64 (w64 (k894 + 1))) (y_add rfl rfl) ?_
          refine pl_val (.int .i64 (w64 (k894 + 1))) (y_assign rfl) ?_
          refine c_nil ?_
          cases hs
          exact ⟨_, f972, fr_ovl 71 ⟨rfl, rfl, rfl, rfl, rfl, congrArg (Value.int .i64) hw, rfl, rfl, trivial⟩, hC, hO, h0, h1, hv972⟩
    · skip
      exact ⟨_, f680, fr_ovl 71 ⟨rfl, rfl, rfl, rfl, rfl, rfl, rfl, rfl, trivial⟩, hC, hO, h0, h1, hv680⟩
    · cases o896 with
      | nx _ => exact True.intro
      | rt r_ =>
        have hs := after_rt hs
        intro a1 w1 hK
        cases hs
        exact hK
      | br s892 =>
        have hs := after_br hs
        rintro a1 w893 ⟨σ, f899, rfl, hC, hO, h0, h1, hv899⟩
        refine c_region ?_
        refine pl_val (.int .i64 (w64 (k669 + 1))) (y_add rfl rfl) ?_
        refine pl_val (.int .i64 (w64 (k669 + 1))) (y_move rfl) ?_
        refine c_nil ?_
        cases hs
        exact ⟨_, f899, fr_ovl 71 ⟨rfl, rfl, rfl, rfl, rfl, congrArg (Value.int .i64) hw, trivial⟩, hC, hO, h0, h1, hv899⟩
  · skip
    exact ⟨_, f3, fr_ovl 71 ⟨rfl, rfl, rfl, rfl, rfl, rfl, trivial⟩, hC, hO, h0, h1, hv3⟩
  · cases o671 with
    | nx _ => exact True.intro
    | rt r_ =>
      have hs := after_rt hs
      intro a1 w1 hK
      cases hs
      exact hK
    | br s667 =>
      have hs := after_br hs
      rintro a1 w668 ⟨σ, f674, rfl, hC, hO, h0, h1, hv674⟩
      refine c_seq ?_
      refine c_region ?_
      refine pl_val (.slice a3 n3 c3) (y_move rfl) ?_
      refine pl_val (.slice a3 n3 c3) (y_assign rfl) ?_
      refine c_nil ?_
      refine wp_ret ?_
      cases hs
      exact ⟨_, a3, n3, c3, f674, fr_ovl 71 ⟨rfl, trivial⟩, hC, hv674, hO.top⟩

end Go.Proofs
