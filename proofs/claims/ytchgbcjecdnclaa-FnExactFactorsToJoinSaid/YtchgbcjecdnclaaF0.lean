/- What functions of the program compute, as plain functions, and that a call gives just that. Conditions: those named in each theorem. -/
import Derived.Test.YtchgbcjecdnclaaGHole
import Derived.Test.YtchgbcjecdnclaaRows
set_option linter.unusedVariables false
namespace Go.Proofs
open Go.G Go.RowKit
set_option maxRecDepth 100000

theorem Sl22 : SlT Try.prog 22 3 := Try.underlying22

theorem Rw22 : RowT Try.prog 22 3 1 [(.int .i64 0)] := ⟨Try.underlying22, ⟨_, _, rfl, rfl, rfl, rfl, by decide⟩, rfl, by decide⟩

theorem Sz3 : SzT Try.prog 3 1 := ⟨_, rfl, rfl⟩

theorem Ag3 : AggT Try.prog 3 false := fun _ => by kernel_rfl

def k_laws_toIntS (M : Nat → Prop) (w0 : World) (r : (List Int)) (a : Act) (w : World) : Prop :=
  ∃ (σ : Nat → Value) (ra0 : Option Addr) (rn0 rc0 : Nat) (rf0 : List Nat), a = fr 22 (ovl σ [(2, (.slice ra0 rn0 rc0))]) ∧ Chg [] w0 w ∧ (RT.os 3 (RT.int .i64)).val M w (.slice ra0 rn0 rc0) r rf0 ∧ Own (Nw w0 []) (fun _ => True) w (rf0 ++ ([]))
def s_laws_toIntS (a_ : List Int) : Option ((List Int)) :=
  (mks (a_.length : Int) (0 : Int)).bind fun y3 =>
  (forC (S := (List Int)) (R := (List Int)) (fun k18 s16 =>
  (idx a_ k18).bind fun x24 =>
  (idx s16 k18).bind fun x26 =>
  some (.nx (List.set s16 (Int.toNat k18) x24))) 0 (a_.length : Int) y3).bind fun o20 => after o20 (fun r_ => some r_) (fun s16 =>
  some s16)
set_option maxHeartbeats 4000000 in
theorem c_laws_toIntS {M : Nat → Prop} {w : World} {pa0 : Option Addr} {pn0 pc0 : Nat} (a_ : List Int) (h0 : (RT.rs (RT.int .i64)).val M w (.slice pa0 pn0 pc0) a_ ([])) (hM : ∀ g, w.heap.size ≤ g → M g) {r : (List Int)} (hs : s_laws_toIntS a_ = some r) :
    Gives Try.prog 14 [(.slice pa0 pn0 pc0)] w (fun v w' => ∃ (ra0 : Option Addr) (rn0 rc0 : Nat) (rf0 : List Nat), v = (.slice ra0 rn0 rc0) ∧ Chg [] w w' ∧ (RT.os 3 (RT.int .i64)).val M w' (.slice ra0 rn0 rc0) r rf0 ∧ Own (Nw w []) (fun _ => True) w' (rf0 ++ ([]))) := by
 refine calls_fr Try.func14 rfl Try.ntmps14 (Nat.le_of_ble_eq_true rfl) ?_
 have hO := Own.start (N := Nw w []) hM Nw.fut
 have hC := Chg.refl [] w
 unfold s_laws_toIntS at hs
 refine wp_mono (Q := KPost (k_laws_toIntS M w r)) ?_ (fun e a w1 h => ?_)
 rotate_left
 ·cases e
  case ret =>
   obtain ⟨σ, ra0, rn0, rc0, rf0, rfl, hrest⟩ := h
   exact ret1x Try.results14 (res_tmp rfl) ⟨ra0, rn0, rc0, rf0, rfl, hrest⟩
  all_goals exact (h : False).elim
 refine c_seq (c_region ?_)
 refine pl_val (.slice none 0 0) (y_assign rfl) ?_
 refine c_nil ?_
 refine c_seq (c_region ?_)
 refine pl_val (.slice pa0 pn0 pc0) (y_move rfl) ?_
 refine pl_val (.int .i64 (a_.length : Int)) (y_len' Sl22 (rs_len h0) rfl) ?_
 obtain ⟨y3, hy3, hs⟩ := bind_some hs
 obtain ⟨a2, n2, c2, w2, f2, hm2, hC2, hfr2, hv2⟩ := mk_os (M := M) (w := w) (r := (RT.int .i64)) Rw22 hy3 (fun _ _ => ⟨rfl, rfl⟩)
 refine pl_val (w' := w2) (.slice a2 n2 c2) (y_make rfl rfl hm2) ?_
 have h0 := h0.ext hC2
 have hC := hC.ext hC2
 have hO := hO.new hC2 hfr2 (os_nodup hv2) hv2.fpl
 refine pl_val (.slice a2 n2 c2) (y_assign rfl) ?_
 refine c_nil ?_
 refine c_seq ?_
 refine c_seq (c_region ?_)
 refine pl_val (.int .i64 0) (y_assign rfl) ?_
 refine c_nil ?_
 obtain ⟨o20, hl21, hs⟩ := bind_some hs
 refine wp_block ?_
 refine wp_forC (id := 0) (a_.length : Int) (I := fun k18 s16 a w17 => ∃ (σ : Nat → Value) (f22 : List Nat), a = fr 22 (ovl σ [(0, (.slice pa0 pn0 pc0)), (3, (.slice a2 n2 c2)), (4, (.int .i64 k18))]) ∧ Chg [] w w17 ∧ Own (Nw w []) M w17 (f22 ++ []) ∧ (RT.rs (RT.int .i64)).val M w17 (.slice pa0 pn0 pc0) a_ ([]) ∧ (RT.os 3 (RT.int .i64)).val M w17 (.slice a2 n2 c2) s16 f22) (J := fun s16 a w17 => ∃ (σ : Nat → Value) (f23 : List Nat), a = fr 22 (ovl σ [(3, (.slice a2 n2 c2))]) ∧ Chg [] w w17 ∧ Own (Nw w []) M w17 (f23 ++ []) ∧ (RT.rs (RT.int .i64)).val M w17 (.slice pa0 pn0 pc0) a_ ([]) ∧ (RT.os 3 (RT.int .i64)).val M w17 (.slice a2 n2 c2) s16 f23) (K := (k_laws_toIntS M w)) ?_ ?_ 0 y3 o20 _ _ ?_ hl21 ?_
 ·rintro k18 s16 a w17 ⟨σ, f22, rfl, hC, hO, h0, hv22⟩ hlt
  refine c_seq ?_
  refine c_seq (c_region ?_)
  refine pl_val (.int .i64 k18) (y_move rfl) ?_
  refine pl_val (.slice pa0 pn0 pc0) (y_move rfl) ?_
  refine pl_val (.int .i64 (a_.length : Int)) (y_len' Sl22 (rs_len h0) rfl) ?_
  refine pl_val (.bool (decide (k18 < (a_.length : Int)))) (y_lss rfl rfl) ?_
  refine c_nil ?_
  refine c_condF (congrArg Value.bool (decide_eq_false hlt)) ?_
  refine wp_exit ?_
  exact ⟨rfl, _, f22, fr_ovl 22 ⟨rfl, trivial⟩, hC, hO, h0, hv22⟩
 ·rintro k18 s16 o20 a w17 ⟨σ, f22, rfl, hC, hO, h0, hv22⟩ hlt hw hs
  refine c_seq ?_
  refine c_seq (c_region ?_)
  refine pl_val (.int .i64 k18) (y_move rfl) ?_
  refine pl_val (.slice pa0 pn0 pc0) (y_move rfl) ?_
  refine pl_val (.int .i64 (a_.length : Int)) (y_len' Sl22 (rs_len h0) rfl) ?_
  refine pl_val (.bool (decide (k18 < (a_.length : Int)))) (y_lss rfl rfl) ?_
  refine c_nil ?_
  refine c_condT (congrArg Value.bool (decide_eq_true hlt)) ?_
  refine wp_skip ?_
  refine c_seq ?_
  refine wp_block ?_
  refine c_region ?_
  refine pl_val (.slice a2 n2 c2) (y_move rfl) ?_
  refine pl_val (.int .i64 k18) (y_move rfl) ?_
  refine pl_val (.slice pa0 pn0 pc0) (y_move rfl) ?_
  refine pl_val (.int .i64 k18) (y_move rfl) ?_
  obtain ⟨x24, hx24, hs⟩ := bind_some hs
  obtain ⟨b25, o25, hp25, ha25⟩ := rs_idx Sl22 Sz3 h0 hx24
  refine pl_val (.pointer (some ⟨b25, o25, none⟩)) (hp25 _ _ _ _ _ _ _ _ _ rfl rfl) ?_
  refine pl_val (.int .i64 x24) (y_load rfl ((at_load_int Ag3 Sz3 ha25) _ (Chg.refl _ _))) ?_
  obtain ⟨x26, hx26, hs⟩ := bind_some hs
  obtain ⟨g27, f27, hg27, hk27, hp27, ha27, hf27⟩ := os_idx Sl22 Sz3 hv22 hx26
  refine pl_val (.pointer (some ⟨g27, 0 + Int.toNat k18 * 1, none⟩)) (hp27 _ _ _ _ _ _ _ _ _ rfl rfl) ?_
  obtain ⟨w28, f28, hst28, hC28, hf28, hv28⟩ := os_store (P := Try.prog) (c' := [(.int .i64 x24)]) hg27 hv22 hk27 (fun g hg => hO.inM g (os_block hv22 g (by simpa using hg))) ⟨rfl, rfl⟩ List.nodup_nil (fun _ h => nomatch h) (fun _ h => .inl h)
  have hG28 : ∀ q ∈ [g27], q ∈ f22 := fun q hq => os_block hv22 q (by rw [hg27]; exact hq)
  refine pl_skip (w' := w28) (ys_store rfl rfl (hst28 _ _ rfl Sz3)) ?_
  have h0 := h0.mut hC28 (fun g hg => hO.inM g (hG28 g hg)) (fun _ _ h => nomatch h)
  have hC := hC.step hC28 (fun g hg => hO.inN g (hG28 g hg))
  have hO := hO.grow hC28 (fun q hq => .inl ((hf28 q hq).resolve_right (fun h => nomatch h))) (os_nodup hv28) hv28.fpl
  refine c_nil ?_
  refine c_region ?_
  refine pl_val (.int .i64 k18) (y_move rfl) ?_
  refine pl_val (.int .i64 (w64 (k18 + 1))) (y_add rfl rfl) ?_
  refine pl_val (.int .i64 (w64 (k18 + 1))) (y_assign rfl) ?_
  refine c_nil ?_
  cases hs
  exact ⟨_, f28, fr_ovl 22 ⟨rfl, rfl, congrArg (Value.int .i64) hw, trivial⟩, hC, hO, h0, hv28⟩
 ·skip
  exact ⟨_, f2, fr_ovl 22 ⟨rfl, rfl, rfl, trivial⟩, hC, hO, h0, hv2⟩
 ·cases o20 with
  | nx _ => exact True.intro
  | rt r_ =>
   have hs := after_rt hs
   intro a1 w1 hK
   cases hs
   exact hK
  | br s16 =>
   have hs := after_br hs
   rintro a1 w17 ⟨σ, f23, rfl, hC, hO, h0, hv23⟩
   refine c_seq (c_region ?_)
   refine pl_val (.slice a2 n2 c2) (y_move rfl) ?_
   refine pl_val (.slice a2 n2 c2) (y_assign rfl) ?_
   refine c_nil ?_
   refine wp_ret ?_
   cases hs
   exact ⟨_, a2, n2, c2, f23, fr_ovl 22 ⟨rfl, trivial⟩, hC, hv23, hO.top⟩

def k_spec_l1In (M : Nat → Prop) (w0 : World) (r : Bool) (a : Act) (w : World) : Prop :=
  ∃ (σ : Nat → Value) , a = fr 15 (ovl σ [(6, (.bool r))]) ∧ Chg [] w0 w
def s_spec_l1In (x_ : Int) (a_ : Int) (b : Int) : Option (Bool) :=
  (bif (decide (a_ ≤ x_)) then some (decide (x_ ≤ b)) else some false)
set_option maxHeartbeats 4000000 in
theorem c_spec_l1In {M : Nat → Prop} {w : World}  (x_ : Int) (a_ : Int) (b : Int)  (hM : ∀ g, w.heap.size ≤ g → M g) {r : Bool} (hs : s_spec_l1In x_ a_ b = some r) :
    Gives Try.prog 93 [(.int .i64 x_), (.int .i64 a_), (.int .i64 b)] w (fun v w' => v = (.bool r) ∧ Chg [] w w') := by
 refine calls_fr Try.func93 rfl Try.ntmps93 (Nat.le_of_ble_eq_true rfl) ?_
 have hO := Own.start (N := Nw w []) hM Nw.fut
 have hC := Chg.refl [] w
 unfold s_spec_l1In at hs
 refine wp_mono (Q := KPost (k_spec_l1In M w r)) ?_ (fun e a w1 h => ?_)
 rotate_left
 ·cases e
  case ret =>
   obtain ⟨σ, rfl, hrest⟩ := h
   exact ret1x Try.results93 (res_tmp rfl) ⟨rfl, hrest⟩
  all_goals exact (h : False).elim
 refine c_seq (c_region ?_)
 refine pl_val (.bool false) (y_assign rfl) ?_
 refine c_nil ?_
 refine c_seq (c_region ?_)
 refine pl_val (.int .i64 x_) (y_move rfl) ?_
 refine pl_val (.int .i64 a_) (y_move rfl) ?_
 refine pl_val (.bool (decide (a_ ≤ x_))) (y_geq rfl rfl) ?_
 refine pl_val (.bool (decide (a_ ≤ x_))) (y_move rfl) ?_
 rcases bif_some hs with ⟨hc1, hs⟩ | ⟨hc1, hs⟩
 ·skip
  refine pl_yes (.int .i64 x_) (tg := 10) (by kernel_rfl) (congrArg Value.bool hc1) (y_move rfl) ?_
  refine pl_yes (.int .i64 b) (tg := 10) (by kernel_rfl) (congrArg Value.bool hc1) (y_move rfl) ?_
  refine pl_yes (.bool (decide (x_ ≤ b))) (tg := 10) (by kernel_rfl) (congrArg Value.bool hc1) (y_leq rfl rfl) ?_
  refine pl_val (.bool (decide (x_ ≤ b))) (y_pick_t (congrArg Value.bool hc1) rfl) ?_
  refine pl_val (.bool (decide (x_ ≤ b))) (y_assign rfl) ?_
  refine c_nil ?_
  refine wp_ret ?_
  cases hs
  exact ⟨_, fr_ovl 15 ⟨rfl, trivial⟩, hC⟩
 ·skip
  refine pl_not (tg := 10) (by kernel_rfl) (congrArg Value.bool hc1) ?_
  refine pl_not (tg := 10) (by kernel_rfl) (congrArg Value.bool hc1) ?_
  refine pl_not (tg := 10) (by kernel_rfl) (congrArg Value.bool hc1) ?_
  refine pl_val (.bool false) (y_pick_f (congrArg Value.bool hc1) rfl) ?_
  refine pl_val (.bool false) (y_assign rfl) ?_
  refine c_nil ?_
  refine wp_ret ?_
  cases hs
  exact ⟨_, fr_ovl 15 ⟨rfl, trivial⟩, hC⟩

theorem Bd93 : Bodied Try.prog 93 := bodied Try.func93 (by kernel_rfl) rfl

def k_spec_l6Size (M : Nat → Prop) (w0 : World) (r : Bool) (a : Act) (w : World) : Prop :=
  ∃ (σ : Nat → Value) , a = fr 5 (ovl σ [(2, (.bool r))]) ∧ Chg [] w0 w
def s_spec_l6Size (n : Int) : Option (Bool) :=
  (s_spec_l1In n 1 8).bind fun r2 =>
  some r2
set_option maxHeartbeats 4000000 in
theorem c_spec_l6Size {M : Nat → Prop} {w : World}  (n : Int)  (hM : ∀ g, w.heap.size ≤ g → M g) {r : Bool} (hs : s_spec_l6Size n = some r) :
    Gives Try.prog 70 [(.int .i64 n)] w (fun v w' => v = (.bool r) ∧ Chg [] w w') := by
 refine calls_fr Try.func70 rfl Try.ntmps70 (Nat.le_of_ble_eq_true rfl) ?_
 have hO := Own.start (N := Nw w []) hM Nw.fut
 have hC := Chg.refl [] w
 unfold s_spec_l6Size at hs
 refine wp_mono (Q := KPost (k_spec_l6Size M w r)) ?_ (fun e a w1 h => ?_)
 rotate_left
 ·cases e
  case ret =>
   obtain ⟨σ, rfl, hrest⟩ := h
   exact ret1x Try.results70 (res_tmp rfl) ⟨rfl, hrest⟩
  all_goals exact (h : False).elim
 refine c_seq (c_region ?_)
 refine pl_val (.bool false) (y_assign rfl) ?_
 refine c_nil ?_
 refine c_seq (c_region ?_)
 refine pl_val (.int .i64 n) (y_move rfl) ?_
 obtain ⟨r2, hr2, hs⟩ := bind_some hs
 refine pl_call Bd93 rfl (c_spec_l1In (M := M) n 1 8  hO.fut hr2) ?_
 rintro _ w1 ⟨rfl, hC1⟩
 have hC := hC.ext hC1
 have hO := hO.ext hC1
 refine pl_val (.bool r2) (y_assign rfl) ?_
 refine c_nil ?_
 refine wp_ret ?_
 cases hs
 exact ⟨_, fr_ovl 5 ⟨rfl, trivial⟩, hC⟩

theorem Mx : Try.prog.follows .mixedOrders = true := by kernel_rfl

def k_spec_l6Partition (M : Nat → Prop) (w0 : World) (r : Bool) (a : Act) (w : World) : Prop :=
  ∃ (σ : Nat → Value) , a = fr 36 (ovl σ [(4, (.bool r))]) ∧ Chg [] w0 w
def s_spec_l6Partition (n : Int) (p : List Int) : Option (Bool) :=
  (bif ((p.length : Int) != n) then some false else (forC (S := Unit) (R := Bool) (fun k22 s20 =>
  (idx p k22).bind fun x27 =>
  (s_spec_l1In x27 0 k22).bind fun r30 =>
  (bif (!r30) then some (.rt false) else (idx p k22).bind fun x32 =>
  (idx p k22).bind fun x34 =>
  (idx p x32).bind fun x36 =>
  (bif (x36 != x34) then some (.rt false) else some (.nx ())))) 0 n ()).bind fun o24 => after o24 (fun r_ => some r_) (fun s20 =>
  some true))
set_option maxHeartbeats 4000000 in
theorem c_spec_l6Partition {M : Nat → Prop} {w : World} {pa0 : Option Addr} {pn0 pc0 : Nat} (n : Int) (p : List Int) (h0 : (RT.rs (RT.int .i64)).val M w (.slice pa0 pn0 pc0) p ([])) (hM : ∀ g, w.heap.size ≤ g → M g) {r : Bool} (hs : s_spec_l6Partition n p = some r) :
    Gives Try.prog 62 [(.int .i64 n), (.slice pa0 pn0 pc0)] w (fun v w' => v = (.bool r) ∧ Chg [] w w') := by
 refine calls_fr Try.func62 rfl Try.ntmps62 (Nat.le_of_ble_eq_true rfl) ?_
 have hO := Own.start (N := Nw w []) hM Nw.fut
 have hC := Chg.refl [] w
 unfold s_spec_l6Partition at hs
 refine wp_mono (Q := KPost (k_spec_l6Partition M w r)) ?_ (fun e a w1 h => ?_)
 rotate_left
 ·cases e
  case ret =>
   obtain ⟨σ, rfl, hrest⟩ := h
   exact ret1x Try.results62 (res_tmp rfl) ⟨rfl, hrest⟩
  all_goals exact (h : False).elim
 refine c_seq (c_region ?_)
 refine pl_val (.bool false) (y_assign rfl) ?_
 refine c_nil ?_
 refine c_seq ?_
 refine c_seq (c_region ?_)
 refine pl_val (.slice pa0 pn0 pc0) (y_move rfl) ?_
 refine pl_val (.int .i64 (p.length : Int)) (y_len' Sl22 (rs_len h0) rfl) ?_
 refine pl_val (.int .i64 n) (y_move rfl) ?_
 refine pl_val (.bool ((p.length : Int) != n)) (y_neq rfl rfl) ?_
 refine c_nil ?_
 rcases bif_some hs with ⟨hc2, hs⟩ | ⟨hc2, hs⟩
 ·skip
  refine c_condT (congrArg Value.bool hc2) ?_
  refine c_seq (c_region ?_)
  refine pl_val (.bool false) (y_assign rfl) ?_
  refine c_nil ?_
  refine wp_ret ?_
  cases hs
  exact ⟨_, fr_ovl 36 ⟨rfl, trivial⟩, hC⟩
 ·skip
  refine c_condF (congrArg Value.bool hc2) ?_
  refine wp_skip ?_
  refine c_seq ?_
  refine c_seq (c_region ?_)
  refine pl_val (.int .i64 0) (y_assign rfl) ?_
  refine c_nil ?_
  obtain ⟨o24, hl25, hs⟩ := bind_some hs
  refine wp_block ?_
  refine wp_forC (id := 0) n (I := fun k22 s20 a w21 => ∃ (σ : Nat → Value), a = fr 36 (ovl σ [(0, (.int .i64 n)), (1, (.slice pa0 pn0 pc0)), (5, (.int .i64 k22))]) ∧ Chg [] w w21 ∧ Own (Nw w []) M w21 ([]) ∧ (RT.rs (RT.int .i64)).val M w21 (.slice pa0 pn0 pc0) p ([])) (J := fun s20 a w21 => ∃ (σ : Nat → Value), a = fr 36 (ovl σ []) ∧ Chg [] w w21 ∧ Own (Nw w []) M w21 ([]) ∧ (RT.rs (RT.int .i64)).val M w21 (.slice pa0 pn0 pc0) p ([])) (K := (k_spec_l6Partition M w)) ?_ ?_ 0 () o24 _ _ ?_ hl25 ?_
  ·rintro k22 s20 a w21 ⟨σ, rfl, hC, hO, h0⟩ hlt
   refine c_seq ?_
   refine c_seq (c_region ?_)
   refine pl_val (.int .i64 k22) (y_move rfl) ?_
   refine pl_val (.int .i64 n) (y_move rfl) ?_
   refine pl_val (.bool (decide (k22 < n))) (y_lss rfl rfl) ?_
   refine c_nil ?_
   refine c_condF (congrArg Value.bool (decide_eq_false hlt)) ?_
   refine wp_exit ?_
   exact ⟨rfl, _, fr_ovl 36 trivial, hC, hO, h0⟩
  ·rintro k22 s20 o24 a w21 ⟨σ, rfl, hC, hO, h0⟩ hlt hw hs
   refine c_seq ?_
   refine c_seq (c_region ?_)
   refine pl_val (.int .i64 k22) (y_move rfl) ?_
   refine pl_val (.int .i64 n) (y_move rfl) ?_
   refine pl_val (.bool (decide (k22 < n))) (y_lss rfl rfl) ?_
   refine c_nil ?_
   refine c_condT (congrArg Value.bool (decide_eq_true hlt)) ?_
   refine wp_skip ?_
   refine c_seq ?_
   refine wp_block ?_
   refine c_seq ?_
   refine x_start [] Mx rfl ?_
   have hCw26 := Chg.drew w21
   generalize World.drew w21 = w26 at hCw26 ⊢
   have h0 := h0.ext hCw26
   have hC := hC.ext hCw26
   have hO := hO.ext hCw26
   have hS := Chg.refl [] w26
   refine x_p 0 (.slice pa0 pn0 pc0) rfl (by kernel_rfl)  (fun _ => y_move rfl) (fun _ => hS) ?_
   refine x_p 1 (.int .i64 k22) rfl (by kernel_rfl)  (fun _ => y_move rfl) (fun _ => hS) ?_
   obtain ⟨x27, hx27, hs⟩ := bind_some hs
   obtain ⟨b28, o28, hp28, ha28⟩ := rs_idx Sl22 Sz3 h0 hx27
   refine x_p 2 (.pointer (some ⟨b28, o28, none⟩)) rfl (by kernel_rfl)  (fun _ => hp28 _ _ _ _ _ _ _ _ _ rfl rfl) (fun _ => hS) ?_
   refine x_l 3 (.int .i64 x27) rfl (by kernel_rfl)  (fun w' hw' => y_load rfl ((at_load_int Ag3 Sz3 ha28) w' hw')) hS ?_
   refine x_p 4 (.int .i64 k22) rfl (by kernel_rfl)  (fun _ => y_move rfl) (fun _ => hS) ?_
   refine x_one (i := 5) (by kernel_rfl) ?_
   obtain ⟨r30, hr30, hs⟩ := bind_some hs
   refine xk_call (b := false) rfl  Bd93 rfl (c_spec_l1In (M := M) x27 0 k22  hO.fut hr30) rfl (by rintro _ _ _ ⟨rfl, hC29⟩; exact hS.ext hC29) ?_
   rintro _ w29 ⟨rfl, hC29⟩
   have h0 := h0.ext hC29
   have hC := hC.ext hC29
   have hO := hO.ext hC29
   have hS := hS.ext hC29
   refine x_p 6 (.bool (!r30)) rfl (by kernel_rfl)  (fun _ => y_not rfl) (fun _ => hS) ?_
   refine x_p 7 (.bool (!r30)) rfl (by kernel_rfl)  (fun _ => y_move rfl) (fun _ => hS) ?_
   rcases bif_some hs with ⟨hc31, hs⟩ | ⟨hc31, hs⟩
   ·skip
    refine x_pn 8 rfl (by kernel_rfl) (tg := 22) (by kernel_rfl) (congrArg Value.bool hc31) (fun _ => hS) ?_
    refine x_pn 9 rfl (by kernel_rfl) (tg := 22) (by kernel_rfl) (congrArg Value.bool hc31) (fun _ => hS) ?_
    refine x_pn 10 rfl (by kernel_rfl) (tg := 22) (by kernel_rfl) (congrArg Value.bool hc31) (fun _ => hS) ?_
    refine x_pn 11 rfl (by kernel_rfl) (tg := 22) (by kernel_rfl) (congrArg Value.bool hc31) (fun _ => hS) ?_
    refine x_pn 12 rfl (by kernel_rfl) (tg := 22) (by kernel_rfl) (congrArg Value.bool hc31) (fun _ => hS) ?_
    refine x_pn 13 rfl (by kernel_rfl) (tg := 22) (by kernel_rfl) (congrArg Value.bool hc31) (fun _ => hS) ?_
    refine x_pn 14 rfl (by kernel_rfl) (tg := 22) (by kernel_rfl) (congrArg Value.bool hc31) (fun _ => hS) ?_
    refine x_pn 15 rfl (by kernel_rfl) (tg := 22) (by kernel_rfl) (congrArg Value.bool hc31) (fun _ => hS) ?_
    refine x_pn 16 rfl (by kernel_rfl) (tg := 22) (by kernel_rfl) (congrArg Value.bool hc31) (fun _ => hS) ?_
    refine x_pn 17 rfl (by kernel_rfl) (tg := 22) (by kernel_rfl) (congrArg Value.bool hc31) (fun _ => hS) ?_
    refine x_pn 18 rfl (by kernel_rfl) (tg := 22) (by kernel_rfl) (congrArg Value.bool hc31) (fun _ => hS) ?_
    refine x_pn 19 rfl (by kernel_rfl) (tg := 22) (by kernel_rfl) (congrArg Value.bool hc31) (fun _ => hS) ?_
    refine x_p 20 (.bool true) rfl (by kernel_rfl)  (fun _ => y_pick_t (congrArg Value.bool hc31) rfl) (fun _ => hS) ?_
    refine x_end (by kernel_rfl) ?_
    clear hS
    refine c_condT (by rfl) ?_
    refine c_seq (c_region ?_)
    refine pl_val (.bool false) (y_assign rfl) ?_
    refine c_nil ?_
    refine wp_ret ?_
    cases hs
    exact ⟨_, fr_ovl 36 ⟨rfl, trivial⟩, hC⟩
   ·skip
    refine x_py 8 (.slice pa0 pn0 pc0) rfl (by kernel_rfl) (tg := 22) (by kernel_rfl) (congrArg Value.bool hc31) (fun _ => y_move rfl) (fun _ => hS) ?_
    refine x_py 9 (.slice pa0 pn0 pc0) rfl (by kernel_rfl) (tg := 22) (by kernel_rfl) (congrArg Value.bool hc31) (fun _ => y_move rfl) (fun _ => hS) ?_
    refine x_py 10 (.int .i64 k22) rfl (by kernel_rfl) (tg := 22) (by kernel_rfl) (congrArg Value.bool hc31) (fun _ => y_move rfl) (fun _ => hS) ?_
    obtain ⟨x32, hx32, hs⟩ := bind_some hs
    obtain ⟨b33, o33, hp33, ha33⟩ := rs_idx Sl22 Sz3 h0 hx32
    refine x_py 11 (.pointer (some ⟨b33, o33, none⟩)) rfl (by kernel_rfl) (tg := 22) (by kernel_rfl) (congrArg Value.bool hc31) (fun _ => hp33 _ _ _ _ _ _ _ _ _ rfl rfl) (fun _ => hS) ?_
    refine x_py 15 (.slice pa0 pn0 pc0) rfl (by kernel_rfl) (tg := 22) (by kernel_rfl) (congrArg Value.bool hc31) (fun _ => y_move rfl) (fun _ => hS) ?_
    refine x_py 16 (.int .i64 k22) rfl (by kernel_rfl) (tg := 22) (by kernel_rfl) (congrArg Value.bool hc31) (fun _ => y_move rfl) (fun _ => hS) ?_
    obtain ⟨x34, hx34, hs⟩ := bind_some hs
    obtain ⟨b35, o35, hp35, ha35⟩ := rs_idx Sl22 Sz3 h0 hx34
    refine x_py 17 (.pointer (some ⟨b35, o35, none⟩)) rfl (by kernel_rfl) (tg := 22) (by kernel_rfl) (congrArg Value.bool hc31) (fun _ => hp35 _ _ _ _ _ _ _ _ _ rfl rfl) (fun _ => hS) ?_
    refine x_two (i := 12) (j := 18) (by kernel_rfl) ?_ ?_
    ·skip
     refine xk_valy (b := false) (.int .i64 x32) rfl (tg := 22) (by kernel_rfl) (congrArg Value.bool hc31) (y_load rfl ((at_load_int Ag3 Sz3 ha33) _ (Chg.refl _ _))) rfl (fun _ => hS) ?_
     obtain ⟨x36, hx36, hs⟩ := bind_some hs
     obtain ⟨b37, o37, hp37, ha37⟩ := rs_idx Sl22 Sz3 h0 hx36
     refine x_py 13 (.pointer (some ⟨b37, o37, none⟩)) rfl (by kernel_rfl) (tg := 22) (by kernel_rfl) (congrArg Value.bool hc31) (fun _ => hp37 _ _ _ _ _ _ _ _ _ rfl rfl) (fun _ => hS) ?_
     refine x_two (i := 14) (j := 18) (by kernel_rfl) ?_ ?_
     ·skip
      refine xk_valy (b := false) (.int .i64 x36) rfl (tg := 22) (by kernel_rfl) (congrArg Value.bool hc31) (y_load rfl ((at_load_int Ag3 Sz3 ha37) _ (Chg.refl _ _))) rfl (fun _ => hS) ?_
      refine x_one (i := 18) (by kernel_rfl) ?_
      refine xk_valy (b := false) (.int .i64 x34) rfl (tg := 22) (by kernel_rfl) (congrArg Value.bool hc31) (y_load rfl ((at_load_int Ag3 Sz3 ha35) _ (Chg.refl _ _))) rfl (fun _ => hS) ?_
      refine x_py 19 (.bool (x36 != x34)) rfl (by kernel_rfl) (tg := 22) (by kernel_rfl) (congrArg Value.bool hc31) (fun _ => y_neq rfl rfl) (fun _ => hS) ?_
      refine x_p 20 (.bool (x36 != x34)) rfl (by kernel_rfl)  (fun _ => y_pick_f (congrArg Value.bool hc31) rfl) (fun _ => hS) ?_
      refine x_end (by kernel_rfl) ?_
      clear hS
      rcases bif_some hs with ⟨hc38, hs⟩ | ⟨hc38, hs⟩
      ·skip
       refine c_condT (congrArg Value.bool hc38) ?_
       refine c_seq (c_region ?_)
       refine pl_val (.bool false) (y_assign rfl) ?_
       refine c_nil ?_
       refine wp_ret ?_
       cases hs
       exact ⟨_, fr_ovl 36 ⟨rfl, trivial⟩, hC⟩
      ·skip
       refine c_condF (congrArg Value.bool hc38) ?_
       refine wp_skip ?_
       refine c_region ?_
       refine pl_val (.int .i64 k22) (y_move rfl) ?_
       refine pl_val (.int .i64 (w64 (k22 + 1))) (y_add rfl rfl) ?_
       refine pl_val (.int .i64 (w64 (k22 + 1))) (y_assign rfl) ?_
       refine c_nil ?_
       cases hs
       exact ⟨_, fr_ovl 36 ⟨rfl, rfl, congrArg (Value.int .i64) hw, trivial⟩, hC, hO, h0⟩
     ·skip
      refine xk_valy (b := false) (.int .i64 x34) rfl (tg := 22) (by kernel_rfl) (congrArg Value.bool hc31) (y_load rfl ((at_load_int Ag3 Sz3 ha35) _ (Chg.refl _ _))) rfl (fun _ => hS) ?_
      refine x_one (i := 14) (by kernel_rfl) ?_
      refine xk_valy (b := false) (.int .i64 x36) rfl (tg := 22) (by kernel_rfl) (congrArg Value.bool hc31) (y_load rfl ((at_load_int Ag3 Sz3 ha37) _ (Chg.refl _ _))) rfl (fun _ => hS) ?_
      refine x_py 19 (.bool (x36 != x34)) rfl (by kernel_rfl) (tg := 22) (by kernel_rfl) (congrArg Value.bool hc31) (fun _ => y_neq rfl rfl) (fun _ => hS) ?_
      refine x_p 20 (.bool (x36 != x34)) rfl (by kernel_rfl)  (fun _ => y_pick_f (congrArg Value.bool hc31) rfl) (fun _ => hS) ?_
      refine x_end (by kernel_rfl) ?_
      clear hS
      rcases bif_some hs with ⟨hc39, hs⟩ | ⟨hc39, hs⟩
      ·skip
       refine c_condT (congrArg Value.bool hc39) ?_
       refine c_seq (c_region ?_)
       refine pl_val (.bool false) (y_assign rfl) ?_
       refine c_nil ?_
       refine wp_ret ?_
       cases hs
       exact ⟨_, fr_ovl 36 ⟨rfl, trivial⟩, hC⟩
      ·skip
       refine c_condF (congrArg Value.bool hc39) ?_
       refine wp_skip ?_
       refine c_region ?_
       refine pl_val (.int .i64 k22) (y_move rfl) ?_
       refine pl_val (.int .i64 (w64 (k22 + 1))) (y_add rfl rfl) ?_
       refine pl_val (.int .i64 (w64 (k22 + 1))) (y_assign rfl) ?_
       refine c_nil ?_
       cases hs
       exact ⟨_, fr_ovl 36 ⟨rfl, rfl, congrArg (Value.int .i64) hw, trivial⟩, hC, hO, h0⟩
    ·skip
     refine xk_valy (b := false) (.int .i64 x34) rfl (tg := 22) (by kernel_rfl) (congrArg Value.bool hc31) (y_load rfl ((at_load_int Ag3 Sz3 ha35) _ (Chg.refl _ _))) rfl (fun _ => hS) ?_
     refine x_one (i := 12) (by kernel_rfl) ?_
     refine xk_valy (b := false) (.int .i64 x32) rfl (tg := 22) (by kernel_rfl) (congrArg Value.bool hc31) (y_load rfl ((at_load_int Ag3 Sz3 ha33) _ (Chg.refl _ _))) rfl (fun _ => hS) ?_
     obtain ⟨x36, hx36, hs⟩ := bind_some hs
     obtain ⟨b41, o41, hp41, ha41⟩ := rs_idx Sl22 Sz3 h0 hx36
     refine x_py 13 (.pointer (some ⟨b41, o41, none⟩)) rfl (by kernel_rfl) (tg := 22) (by kernel_rfl) (congrArg Value.bool hc31) (fun _ => hp41 _ _ _ _ _ _ _ _ _ rfl rfl) (fun _ => hS) ?_
     refine x_one (i := 14) (by kernel_rfl) ?_
     refine xk_valy (b := false) (.int .i64 x36) rfl (tg := 22) (by kernel_rfl) (congrArg Value.bool hc31) (y_load rfl ((at_load_int Ag3 Sz3 ha41) _ (Chg.refl _ _))) rfl (fun _ => hS) ?_
     refine x_py 19 (.bool (x36 != x34)) rfl (by kernel_rfl) (tg := 22) (by kernel_rfl) (congrArg Value.bool hc31) (fun _ => y_neq rfl rfl) (fun _ => hS) ?_
     refine x_p 20 (.bool (x36 != x34)) rfl (by kernel_rfl)  (fun _ => y_pick_f (congrArg Value.bool hc31) rfl) (fun _ => hS) ?_
     refine x_end (by kernel_rfl) ?_
     clear hS
     rcases bif_some hs with ⟨hc42, hs⟩ | ⟨hc42, hs⟩
     ·skip
      refine c_condT (congrArg Value.bool hc42) ?_
      refine c_seq (c_region ?_)
      refine pl_val (.bool false) (y_assign rfl) ?_
      refine c_nil ?_
      refine wp_ret ?_
      cases hs
      exact ⟨_, fr_ovl 36 ⟨rfl, trivial⟩, hC⟩
     ·skip
      refine c_condF (congrArg Value.bool hc42) ?_
      refine wp_skip ?_
      refine c_region ?_
      refine pl_val (.int .i64 k22) (y_move rfl) ?_
      refine pl_val (.int .i64 (w64 (k22 + 1))) (y_add rfl rfl) ?_
      refine pl_val (.int .i64 (w64 (k22 + 1))) (y_assign rfl) ?_
      refine c_nil ?_
      cases hs
      exact ⟨_, fr_ovl 36 ⟨rfl, rfl, congrArg (Value.int .i64) hw, trivial⟩, hC, hO, h0⟩
  ·skip
   exact ⟨_, fr_ovl 36 ⟨rfl, rfl, rfl, trivial⟩, hC, hO, h0⟩
  ·cases o24 with
   | nx _ => exact True.intro
   | rt r_ =>
    have hs := after_rt hs
    intro a1 w1 hK
    cases hs
    exact hK
   | br s20 =>
    have hs := after_br hs
    rintro a1 w21 ⟨σ, rfl, hC, hO, h0⟩
    refine c_seq (c_region ?_)
    refine pl_val (.bool true) (y_assign rfl) ?_
    refine c_nil ?_
    refine wp_ret ?_
    cases hs
    exact ⟨_, fr_ovl 36 ⟨rfl, trivial⟩, hC⟩

theorem Bd70 : Bodied Try.prog 70 := bodied Try.func70 (by kernel_rfl) rfl

theorem Bd62 : Bodied Try.prog 62 := bodied Try.func62 (by kernel_rfl) rfl

def k_spec_l16Two (M : Nat → Prop) (w0 : World) (r : Bool) (a : Act) (w : World) : Prop :=
  ∃ (σ : Nat → Value) , a = fr 19 (ovl σ [(6, (.bool r))]) ∧ Chg [] w0 w
def s_spec_l16Two (n : Int) (p : List Int) (q : List Int) : Option (Bool) :=
  (s_spec_l6Size n).bind fun r4 =>
  (bif r4 then (s_spec_l6Partition n p).bind fun r7 =>
  (bif r7 then (s_spec_l6Partition n q).bind fun r10 =>
  some r10 else some false) else some false)
set_option maxHeartbeats 4000000 in
theorem c_spec_l16Two {M : Nat → Prop} {w : World} {pa0 : Option Addr} {pn0 pc0 : Nat} {pa1 : Option Addr} {pn1 pc1 : Nat} (n : Int) (p : List Int) (q : List Int) (h0 : (RT.rs (RT.int .i64)).val M w (.slice pa0 pn0 pc0) p ([])) (h1 : (RT.rs (RT.int .i64)).val M w (.slice pa1 pn1 pc1) q ([])) (hM : ∀ g, w.heap.size ≤ g → M g) {r : Bool} (hs : s_spec_l16Two n p q = some r) :
    Gives Try.prog 44 [(.int .i64 n), (.slice pa0 pn0 pc0), (.slice pa1 pn1 pc1)] w (fun v w' => v = (.bool r) ∧ Chg [] w w') := by
 refine calls_fr Try.func44 rfl Try.ntmps44 (Nat.le_of_ble_eq_true rfl) ?_
 have hO := Own.start (N := Nw w []) hM Nw.fut
 have hC := Chg.refl [] w
 unfold s_spec_l16Two at hs
 refine wp_mono (Q := KPost (k_spec_l16Two M w r)) ?_ (fun e a w1 h => ?_)
 rotate_left
 ·cases e
  case ret =>
   obtain ⟨σ, rfl, hrest⟩ := h
   exact ret1x Try.results44 (res_tmp rfl) ⟨rfl, hrest⟩
  all_goals exact (h : False).elim
 refine c_seq (c_region ?_)
 refine pl_val (.bool false) (y_assign rfl) ?_
 refine c_nil ?_
 refine c_seq (c_region ?_)
 refine pl_val (.int .i64 n) (y_move rfl) ?_
 obtain ⟨r4, hr4, hs⟩ := bind_some hs
 refine pl_call Bd70 rfl (c_spec_l6Size (M := M) n  hO.fut hr4) ?_
 rintro _ w3 ⟨rfl, hC3⟩
 have h0 := h0.ext hC3
 have h1 := h1.ext hC3
 have hC := hC.ext hC3
 have hO := hO.ext hC3
 refine pl_val (.bool r4) (y_move rfl) ?_
 rcases bif_some hs with ⟨hc5, hs⟩ | ⟨hc5, hs⟩
 ·skip
  refine pl_yes (.int .i64 n) (tg := 9) (by kernel_rfl) (congrArg Value.bool hc5) (y_move rfl) ?_
  refine pl_yes (.slice pa0 pn0 pc0) (tg := 9) (by kernel_rfl) (congrArg Value.bool hc5) (y_move rfl) ?_
  obtain ⟨r7, hr7, hs⟩ := bind_some hs
  refine pl_cally (tg := 9) (by kernel_rfl) (congrArg Value.bool hc5) Bd62 rfl (c_spec_l6Partition (M := M) n p h0 hO.fut hr7) ?_
  rintro _ w6 ⟨rfl, hC6⟩
  have h0 := h0.ext hC6
  have h1 := h1.ext hC6
  have hC := hC.ext hC6
  have hO := hO.ext hC6
  refine pl_val (.bool r7) (y_pick_t (congrArg Value.bool hc5) rfl) ?_
  refine pl_val (.bool r7) (y_move rfl) ?_
  rcases bif_some hs with ⟨hc8, hs⟩ | ⟨hc8, hs⟩
  ·skip
   refine pl_yes (.int .i64 n) (tg := 14) (by kernel_rfl) (congrArg Value.bool hc8) (y_move rfl) ?_
   refine pl_yes (.slice pa1 pn1 pc1) (tg := 14) (by kernel_rfl) (congrArg Value.bool hc8) (y_move rfl) ?_
   obtain ⟨r10, hr10, hs⟩ := bind_some hs
   refine pl_cally (tg := 14) (by kernel_rfl) (congrArg Value.bool hc8) Bd62 rfl (c_spec_l6Partition (M := M) n q h1 hO.fut hr10) ?_
   rintro _ w9 ⟨rfl, hC9⟩
   have h0 := h0.ext hC9
   have h1 := h1.ext hC9
   have hC := hC.ext hC9
   have hO := hO.ext hC9
   refine pl_val (.bool r10) (y_pick_t (congrArg Value.bool hc8) rfl) ?_
   refine pl_val (.bool r10) (y_assign rfl) ?_
   refine c_nil ?_
   refine wp_ret ?_
   cases hs
   exact ⟨_, fr_ovl 19 ⟨rfl, trivial⟩, hC⟩
  ·skip
   refine pl_not (tg := 14) (by kernel_rfl) (congrArg Value.bool hc8) ?_
   refine pl_not (tg := 14) (by kernel_rfl) (congrArg Value.bool hc8) ?_
   refine pl_not (tg := 14) (by kernel_rfl) (congrArg Value.bool hc8) ?_
   refine pl_val (.bool false) (y_pick_f (congrArg Value.bool hc8) rfl) ?_
   refine pl_val (.bool false) (y_assign rfl) ?_
   refine c_nil ?_
   refine wp_ret ?_
   cases hs
   exact ⟨_, fr_ovl 19 ⟨rfl, trivial⟩, hC⟩
 ·skip
  refine pl_not (tg := 9) (by kernel_rfl) (congrArg Value.bool hc5) ?_
  refine pl_not (tg := 9) (by kernel_rfl) (congrArg Value.bool hc5) ?_
  refine pl_not (tg := 9) (by kernel_rfl) (congrArg Value.bool hc5) ?_
  refine pl_val (.bool false) (y_pick_f (congrArg Value.bool hc5) rfl) ?_
  refine pl_val (.bool false) (y_move rfl) ?_
  refine pl_not (tg := 14) (by kernel_rfl) (by rfl) ?_
  refine pl_not (tg := 14) (by kernel_rfl) (by rfl) ?_
  refine pl_not (tg := 14) (by kernel_rfl) (by rfl) ?_
  refine pl_val (.bool false) (y_pick_f (by rfl) rfl) ?_
  refine pl_val (.bool false) (y_assign rfl) ?_
  refine c_nil ?_
  refine wp_ret ?_
  cases hs
  exact ⟨_, fr_ovl 19 ⟨rfl, trivial⟩, hC⟩

def k_spec_l1Own (M : Nat → Prop) (w0 : World) (r : (List Int)) (a : Act) (w : World) : Prop :=
  ∃ (σ : Nat → Value) (ra0 : Option Addr) (rn0 rc0 : Nat) (rf0 : List Nat), a = fr 6 (ovl σ [(2, (.slice ra0 rn0 rc0))]) ∧ Chg [] w0 w ∧ (RT.os 3 (RT.int .i64)).val M w (.slice ra0 rn0 rc0) r rf0 ∧ Own (Nw w0 []) (fun _ => True) w (rf0 ++ ([]))
def s_spec_l1Own (l : List Int) : Option ((List Int)) :=
  (app ([]) l).bind fun y5 =>
  some y5
set_option maxHeartbeats 4000000 in
theorem c_spec_l1Own {M : Nat → Prop} {w : World} {pa0 : Option Addr} {pn0 pc0 : Nat} (l : List Int) (h0 : (RT.rs (RT.int .i64)).val M w (.slice pa0 pn0 pc0) l ([])) (hM : ∀ g, w.heap.size ≤ g → M g) {r : (List Int)} (hs : s_spec_l1Own l = some r) :
    Gives Try.prog 100 [(.slice pa0 pn0 pc0)] w (fun v w' => ∃ (ra0 : Option Addr) (rn0 rc0 : Nat) (rf0 : List Nat), v = (.slice ra0 rn0 rc0) ∧ Chg [] w w' ∧ (RT.os 3 (RT.int .i64)).val M w' (.slice ra0 rn0 rc0) r rf0 ∧ Own (Nw w []) (fun _ => True) w' (rf0 ++ ([]))) := by
 refine calls_fr Try.func100 rfl Try.ntmps100 (Nat.le_of_ble_eq_true rfl) ?_
 have hO := Own.start (N := Nw w []) hM Nw.fut
 have hC := Chg.refl [] w
 unfold s_spec_l1Own at hs
 refine wp_mono (Q := KPost (k_spec_l1Own M w r)) ?_ (fun e a w1 h => ?_)
 rotate_left
 ·cases e
  case ret =>
   obtain ⟨σ, ra0, rn0, rc0, rf0, rfl, hrest⟩ := h
   exact ret1x Try.results100 (res_tmp rfl) ⟨ra0, rn0, rc0, rf0, rfl, hrest⟩
  all_goals exact (h : False).elim
 refine c_seq (c_region ?_)
 refine pl_val (.slice none 0 0) (y_assign rfl) ?_
 refine c_nil ?_
 refine c_seq (c_region ?_)
 obtain ⟨w2, g2, ew2, eg2, hC2, hb2⟩ := new_block w [] 3
 refine pl_val (w' := w2) (.slice (some ⟨g2, 0, none⟩) 0 0) (y_bslice rfl (by rw [ew2, eg2]; kernel_rfl)) ?_
 have h0 := h0.ext hC2
 have hC := hC.ext hC2
 have hO := hO.new1 hC2 eg2 hb2.lt
 have hv2 := os_of_box (r := (RT.int .i64)) (M := M) (css := []) (fps := []) (xs := ([] : List Int)) hb2 trivial (Nat.zero_le _) (List.nodup_cons.2 ⟨(fun h => nomatch h), List.nodup_nil⟩)
 have hv2 : (RT.os 3 (RT.int .i64)).val M w2 (.slice (some ⟨g2, 0, none⟩) 0 0) [] [g2] := hv2
 refine pl_val (.slice pa0 pn0 pc0) (y_move rfl) ?_
 obtain ⟨y5, hy5, hs⟩ := bind_some hs
 obtain ⟨a4, n4, c4, w4, f4, hr4, hC4, hf4, hv4⟩ := app_rs Rw22 hy5 hv2 h0 hO.inM
 have hG4 := os_block hv2
 refine pl_val (w' := w4) (.slice a4 n4 c4) (y_append rfl rfl (hr4 _)) ?_
 have h0 := h0.mut hC4 (fun g hg => hO.inM g (hG4 g hg)) (fun _ _ h => nomatch h)
 have hC := hC.step hC4 (fun g hg => hO.inN g (hG4 g hg))
 have hO := hO.grow hC4 hf4 (os_nodup hv4) hv4.fpl
 refine pl_val (.slice a4 n4 c4) (y_assign rfl) ?_
 refine c_nil ?_
 refine wp_ret ?_
 cases hs
 exact ⟨_, a4, n4, c4, f4, fr_ovl 6 ⟨rfl, trivial⟩, hC, hv4, hO.top⟩

def k_spec_l1Least (M : Nat → Prop) (w0 : World) (r : Int) (a : Act) (w : World) : Prop :=
  ∃ (σ : Nat → Value) , a = fr 10 (ovl σ [(4, (.int .i64 r))]) ∧ Chg [] w0 w
def s_spec_l1Least (a_ : Int) (b : Int) : Option (Int) :=
  (bif (decide (a_ < b)) then some a_ else some b)
set_option maxHeartbeats 4000000 in
theorem c_spec_l1Least {M : Nat → Prop} {w : World}  (a_ : Int) (b : Int)  (hM : ∀ g, w.heap.size ≤ g → M g) {r : Int} (hs : s_spec_l1Least a_ b = some r) :
    Gives Try.prog 116 [(.int .i64 a_), (.int .i64 b)] w (fun v w' => v = (.int .i64 r) ∧ Chg [] w w') := by
 refine calls_fr Try.func116 rfl Try.ntmps116 (Nat.le_of_ble_eq_true rfl) ?_
 have hO := Own.start (N := Nw w []) hM Nw.fut
 have hC := Chg.refl [] w
 unfold s_spec_l1Least at hs
 refine wp_mono (Q := KPost (k_spec_l1Least M w r)) ?_ (fun e a w1 h => ?_)
 rotate_left
 ·cases e
  case ret =>
   obtain ⟨σ, rfl, hrest⟩ := h
   exact ret1x Try.results116 (res_tmp rfl) ⟨rfl, hrest⟩
  all_goals exact (h : False).elim
 refine c_seq (c_region ?_)
 refine pl_val (.int .i64 0) (y_assign rfl) ?_
 refine c_nil ?_
 refine c_seq ?_
 refine c_seq (c_region ?_)
 refine pl_val (.int .i64 a_) (y_move rfl) ?_
 refine pl_val (.int .i64 b) (y_move rfl) ?_
 refine pl_val (.bool (decide (a_ < b))) (y_lss rfl rfl) ?_
 refine c_nil ?_
 rcases bif_some hs with ⟨hc1, hs⟩ | ⟨hc1, hs⟩
 ·skip
  refine c_condT (congrArg Value.bool hc1) ?_
  refine c_seq (c_region ?_)
  refine pl_val (.int .i64 a_) (y_move rfl) ?_
  refine pl_val (.int .i64 a_) (y_assign rfl) ?_
  refine c_nil ?_
  refine wp_ret ?_
  cases hs
  exact ⟨_, fr_ovl 10 ⟨rfl, trivial⟩, hC⟩
 ·skip
  refine c_condF (congrArg Value.bool hc1) ?_
  refine wp_skip ?_
  refine c_seq (c_region ?_)
  refine pl_val (.int .i64 b) (y_move rfl) ?_
  refine pl_val (.int .i64 b) (y_assign rfl) ?_
  refine c_nil ?_
  refine wp_ret ?_
  cases hs
  exact ⟨_, fr_ovl 10 ⟨rfl, trivial⟩, hC⟩

def k_spec_l1Most (M : Nat → Prop) (w0 : World) (r : Int) (a : Act) (w : World) : Prop :=
  ∃ (σ : Nat → Value) , a = fr 10 (ovl σ [(4, (.int .i64 r))]) ∧ Chg [] w0 w
def s_spec_l1Most (a_ : Int) (b : Int) : Option (Int) :=
  (bif (decide (b < a_)) then some a_ else some b)
set_option maxHeartbeats 4000000 in
theorem c_spec_l1Most {M : Nat → Prop} {w : World}  (a_ : Int) (b : Int)  (hM : ∀ g, w.heap.size ≤ g → M g) {r : Int} (hs : s_spec_l1Most a_ b = some r) :
    Gives Try.prog 51 [(.int .i64 a_), (.int .i64 b)] w (fun v w' => v = (.int .i64 r) ∧ Chg [] w w') := by
 refine calls_fr Try.func51 rfl Try.ntmps51 (Nat.le_of_ble_eq_true rfl) ?_
 have hO := Own.start (N := Nw w []) hM Nw.fut
 have hC := Chg.refl [] w
 unfold s_spec_l1Most at hs
 refine wp_mono (Q := KPost (k_spec_l1Most M w r)) ?_ (fun e a w1 h => ?_)
 rotate_left
 ·cases e
  case ret =>
   obtain ⟨σ, rfl, hrest⟩ := h
   exact ret1x Try.results51 (res_tmp rfl) ⟨rfl, hrest⟩
  all_goals exact (h : False).elim
 refine c_seq (c_region ?_)
 refine pl_val (.int .i64 0) (y_assign rfl) ?_
 refine c_nil ?_
 refine c_seq ?_
 refine c_seq (c_region ?_)
 refine pl_val (.int .i64 a_) (y_move rfl) ?_
 refine pl_val (.int .i64 b) (y_move rfl) ?_
 refine pl_val (.bool (decide (b < a_))) (y_gtr rfl rfl) ?_
 refine c_nil ?_
 rcases bif_some hs with ⟨hc1, hs⟩ | ⟨hc1, hs⟩
 ·skip
  refine c_condT (congrArg Value.bool hc1) ?_
  refine c_seq (c_region ?_)
  refine pl_val (.int .i64 a_) (y_move rfl) ?_
  refine pl_val (.int .i64 a_) (y_assign rfl) ?_
  refine c_nil ?_
  refine wp_ret ?_
  cases hs
  exact ⟨_, fr_ovl 10 ⟨rfl, trivial⟩, hC⟩
 ·skip
  refine c_condF (congrArg Value.bool hc1) ?_
  refine wp_skip ?_
  refine c_seq (c_region ?_)
  refine pl_val (.int .i64 b) (y_move rfl) ?_
  refine pl_val (.int .i64 b) (y_assign rfl) ?_
  refine c_nil ?_
  refine wp_ret ?_
  cases hs
  exact ⟨_, fr_ovl 10 ⟨rfl, trivial⟩, hC⟩

theorem Bd116 : Bodied Try.prog 116 := bodied Try.func116 (by kernel_rfl) rfl

theorem Bd51 : Bodied Try.prog 51 := bodied Try.func51 (by kernel_rfl) rfl

def k_spec_l6Unite (M : Nat → Prop) (w0 : World) (r : (List Int)) (a : Act) (w : World) : Prop :=
  ∃ (σ : Nat → Value) (ra0 : Option Addr) (rn0 rc0 : Nat) (rf0 : List Nat), a = fr 54 (ovl σ [(6, (.slice ra0 rn0 rc0))]) ∧ Chg [] w0 w ∧ (RT.os 3 (RT.int .i64)).val M w (.slice ra0 rn0 rc0) r rf0 ∧ Own (Nw w0 []) (fun _ => True) w (rf0 ++ ([]))
def s_spec_l6Unite (p : List Int) (x_ : Int) (y : Int) : Option ((List Int)) :=
  (idx p x_).bind fun x16 =>
  (idx p y).bind fun x18 =>
  (idx p x_).bind fun x20 =>
  (idx p y).bind fun x22 =>
  (s_spec_l1Least x16 x18).bind fun r25 =>
  (s_spec_l1Most x20 x22).bind fun r27 =>
  (forC (S := (List Int)) (R := (List Int)) (fun k49 s47 =>
  (idx p k49).bind fun x57 =>
  (bif (x57 == r27) then (app s47 ([r25])).bind fun y63 =>
  some (.nx y63) else (idx p k49).bind fun x65 =>
  (app s47 ([x65])).bind fun y70 =>
  some (.nx y70))) 0 (p.length : Int) ([])).bind fun o51 => after o51 (fun r_ => some r_) (fun s47 =>
  some s47)
set_option maxHeartbeats 4000000 in
theorem c_spec_l6Unite {M : Nat → Prop} {w : World} {pa0 : Option Addr} {pn0 pc0 : Nat} (p : List Int) (x_ : Int) (y : Int) (h0 : (RT.rs (RT.int .i64)).val M w (.slice pa0 pn0 pc0) p ([])) (hM : ∀ g, w.heap.size ≤ g → M g) {r : (List Int)} (hs : s_spec_l6Unite p x_ y = some r) :
    Gives Try.prog 101 [(.slice pa0 pn0 pc0), (.int .i64 x_), (.int .i64 y)] w (fun v w' => ∃ (ra0 : Option Addr) (rn0 rc0 : Nat) (rf0 : List Nat), v = (.slice ra0 rn0 rc0) ∧ Chg [] w w' ∧ (RT.os 3 (RT.int .i64)).val M w' (.slice ra0 rn0 rc0) r rf0 ∧ Own (Nw w []) (fun _ => True) w' (rf0 ++ ([]))) := by
 refine calls_fr Try.func101 rfl Try.ntmps101 (Nat.le_of_ble_eq_true rfl) ?_
 have hO := Own.start (N := Nw w []) hM Nw.fut
 have hC := Chg.refl [] w
 unfold s_spec_l6Unite at hs
 refine wp_mono (Q := KPost (k_spec_l6Unite M w r)) ?_ (fun e a w1 h => ?_)
 rotate_left
 ·cases e
  case ret =>
   obtain ⟨σ, ra0, rn0, rc0, rf0, rfl, hrest⟩ := h
   exact ret1x Try.results101 (res_tmp rfl) ⟨ra0, rn0, rc0, rf0, rfl, hrest⟩
  all_goals exact (h : False).elim
 refine c_seq (c_region ?_)
 refine pl_val (.slice none 0 0) (y_assign rfl) ?_
 refine c_nil ?_
 refine c_seq ?_
 refine x_start [] Mx rfl ?_
 have hCw15 := Chg.drew w
 generalize World.drew w = w15 at hCw15 ⊢
 have h0 := h0.ext hCw15
 have hC := hC.ext hCw15
 have hO := hO.ext hCw15
 have hS := Chg.refl [] w15
 refine x_p 0 (.slice pa0 pn0 pc0) rfl (by kernel_rfl)  (fun _ => y_move rfl) (fun _ => hS) ?_
 refine x_p 1 (.int .i64 x_) rfl (by kernel_rfl)  (fun _ => y_move rfl) (fun _ => hS) ?_
 obtain ⟨x16, hx16, hs⟩ := bind_some hs
 obtain ⟨b17, o17, hp17, ha17⟩ := rs_idx Sl22 Sz3 h0 hx16
 refine x_p 2 (.pointer (some ⟨b17, o17, none⟩)) rfl (by kernel_rfl)  (fun _ => hp17 _ _ _ _ _ _ _ _ _ rfl rfl) (fun _ => hS) ?_
 refine x_l 3 (.int .i64 x16) rfl (by kernel_rfl)  (fun w' hw' => y_load rfl ((at_load_int Ag3 Sz3 ha17) w' hw')) hS ?_
 refine x_p 4 (.slice pa0 pn0 pc0) rfl (by kernel_rfl)  (fun _ => y_move rfl) (fun _ => hS) ?_
 refine x_p 5 (.int .i64 y) rfl (by kernel_rfl)  (fun _ => y_move rfl) (fun _ => hS) ?_
 obtain ⟨x18, hx18, hs⟩ := bind_some hs
 obtain ⟨b19, o19, hp19, ha19⟩ := rs_idx Sl22 Sz3 h0 hx18
 refine x_p 6 (.pointer (some ⟨b19, o19, none⟩)) rfl (by kernel_rfl)  (fun _ => hp19 _ _ _ _ _ _ _ _ _ rfl rfl) (fun _ => hS) ?_
 refine x_l 7 (.int .i64 x18) rfl (by kernel_rfl)  (fun w' hw' => y_load rfl ((at_load_int Ag3 Sz3 ha19) w' hw')) hS ?_
 refine x_p 9 (.slice pa0 pn0 pc0) rfl (by kernel_rfl)  (fun _ => y_move rfl) (fun _ => hS) ?_
 refine x_p 10 (.int .i64 x_) rfl (by kernel_rfl)  (fun _ => y_move rfl) (fun _ => hS) ?_
 obtain ⟨x20, hx20, hs⟩ := bind_some hs
 obtain ⟨b21, o21, hp21, ha21⟩ := rs_idx Sl22 Sz3 h0 hx20
 refine x_p 11 (.pointer (some ⟨b21, o21, none⟩)) rfl (by kernel_rfl)  (fun _ => hp21 _ _ _ _ _ _ _ _ _ rfl rfl) (fun _ => hS) ?_
 refine x_l 12 (.int .i64 x20) rfl (by kernel_rfl)  (fun w' hw' => y_load rfl ((at_load_int Ag3 Sz3 ha21) w' hw')) hS ?_
 refine x_p 13 (.slice pa0 pn0 pc0) rfl (by kernel_rfl)  (fun _ => y_move rfl) (fun _ => hS) ?_
 refine x_p 14 (.int .i64 y) rfl (by kernel_rfl)  (fun _ => y_move rfl) (fun _ => hS) ?_
 obtain ⟨x22, hx22, hs⟩ := bind_some hs
 obtain ⟨b23, o23, hp23, ha23⟩ := rs_idx Sl22 Sz3 h0 hx22
 refine x_p 15 (.pointer (some ⟨b23, o23, none⟩)) rfl (by kernel_rfl)  (fun _ => hp23 _ _ _ _ _ _ _ _ _ rfl rfl) (fun _ => hS) ?_
 refine x_l 16 (.int .i64 x22) rfl (by kernel_rfl)  (fun w' hw' => y_load rfl ((at_load_int Ag3 Sz3 ha23) w' hw')) hS ?_
 refine x_one (i := 8) (by kernel_rfl) ?_
 obtain ⟨r25, hr25, hs⟩ := bind_some hs
 refine xk_call (b := false) rfl  Bd116 rfl (c_spec_l1Least (M := M) x16 x18  hO.fut hr25) rfl (by rintro _ _ _ ⟨rfl, hC24⟩; exact hS.ext hC24) ?_
 rintro _ w24 ⟨rfl, hC24⟩
 have h0 := h0.ext hC24
 have hC := hC.ext hC24
 have hO := hO.ext hC24
 have hS := hS.ext hC24
 refine x_one (i := 17) (by kernel_rfl) ?_
 obtain ⟨r27, hr27, hs⟩ := bind_some hs
 refine xk_call (b := false) rfl  Bd51 rfl (c_spec_l1Most (M := M) x20 x22  hO.fut hr27) rfl (by rintro _ _ _ ⟨rfl, hC26⟩; exact hS.ext hC26) ?_
 rintro _ w26 ⟨rfl, hC26⟩
 have h0 := h0.ext hC26
 have hC := hC.ext hC26
 have hO := hO.ext hC26
 have hS := hS.ext hC26
 refine x_p 18 (.int .i64 r25) rfl (by kernel_rfl)  (fun _ => y_assign rfl) (fun _ => hS) ?_
 refine x_p 19 (.int .i64 r27) rfl (by kernel_rfl)  (fun _ => y_assign rfl) (fun _ => hS) ?_
 refine x_end (by kernel_rfl) ?_
 clear hS
 refine c_seq (c_region ?_)
 obtain ⟨w28, g28, ew28, eg28, hC28, hb28⟩ := new_block w26 [] 3
 refine pl_val (w' := w28) (.slice (some ⟨g28, 0, none⟩) 0 0) (y_bslice rfl (by rw [ew28, eg28]; kernel_rfl)) ?_
 have h0 := h0.ext hC28
 have hC := hC.ext hC28
 have hO := hO.new1 hC28 eg28 hb28.lt
 have hv28 := os_of_box (r := (RT.int .i64)) (M := M) (css := []) (fps := []) (xs := ([] : List Int)) hb28 trivial (Nat.zero_le _) (List.nodup_cons.2 ⟨(fun h => nomatch h), List.nodup_nil⟩)
 have hv28 : (RT.os 3 (RT.int .i64)).val M w28 (.slice (some ⟨g28, 0, none⟩) 0 0) [] [g28] := hv28
 refine pl_val (.slice (some ⟨g28, 0, none⟩) 0 0) (y_assign rfl) ?_
 refine c_nil ?_
 refine c_seq ?_
 refine c_seq (c_region ?_)
 refine pl_val (.int .i64 0) (y_assign rfl) ?_
 refine c_nil ?_
 obtain ⟨o51, hl52, hs⟩ := bind_some hs
 refine wp_block ?_
 refine wp_forC (id := 0) (p.length : Int) (I := fun k49 s47 a w48 => ∃ (σ : Nat → Value) (a53 : Option Addr) (n53 : Nat) (c53 : Nat) (f53 : List Nat), a = fr 54 (ovl σ [(0, (.slice pa0 pn0 pc0)), (7, (.int .i64 r25)), (8, (.int .i64 r27)), (9, (.slice a53 n53 c53)), (10, (.int .i64 k49))]) ∧ Chg [] w w48 ∧ Own (Nw w []) M w48 (f53 ++ []) ∧ (RT.rs (RT.int .i64)).val M w48 (.slice pa0 pn0 pc0) p ([]) ∧ (RT.os 3 (RT.int .i64)).val M w48 (.slice a53 n53 c53) s47 f53) (J := fun s47 a w48 => ∃ (σ : Nat → Value) (a55 : Option Addr) (n55 : Nat) (c55 : Nat) (f55 : List Nat), a = fr 54 (ovl σ [(9, (.slice a55 n55 c55))]) ∧ Chg [] w w48 ∧ Own (Nw w []) M w48 (f55 ++ []) ∧ (RT.rs (RT.int .i64)).val M w48 (.slice pa0 pn0 pc0) p ([]) ∧ (RT.os 3 (RT.int .i64)).val M w48 (.slice a55 n55 c55) s47 f55) (K := (k_spec_l6Unite M w)) ?_ ?_ 0 ([]) o51 _ _ ?_ hl52 ?_
 ·rintro k49 s47 a w48 ⟨σ, a53, n53, c53, f53, rfl, hC, hO, h0, hv53⟩ hlt
  refine c_seq ?_
  refine c_seq (c_region ?_)
  refine pl_val (.int .i64 k49) (y_move rfl) ?_
  refine pl_val (.slice pa0 pn0 pc0) (y_move rfl) ?_
  refine pl_val (.int .i64 (p.length : Int)) (y_len' Sl22 (rs_len h0) rfl) ?_
  refine pl_val (.bool (decide (k49 < (p.length : Int)))) (y_lss rfl rfl) ?_
  refine c_nil ?_
  refine c_condF (congrArg Value.bool (decide_eq_false hlt)) ?_
  refine wp_exit ?_
  exact ⟨rfl, _, a53, n53, c53, f53, fr_ovl 54 ⟨rfl, trivial⟩, hC, hO, h0, hv53⟩
 ·rintro k49 s47 o51 a w48 ⟨σ, a53, n53, c53, f53, rfl, hC, hO, h0, hv53⟩ hlt hw hs
  refine c_seq ?_
  refine c_seq (c_region ?_)
  refine pl_val (.int .i64 k49) (y_move rfl) ?_
  refine pl_val (.slice pa0 pn0 pc0) (y_move rfl) ?_
  refine pl_val (.int .i64 (p.length : Int)) (y_len' Sl22 (rs_len h0) rfl) ?_
  refine pl_val (.bool (decide (k49 < (p.length : Int)))) (y_lss rfl rfl) ?_
  refine c_nil ?_
  refine c_condT (congrArg Value.bool (decide_eq_true hlt)) ?_
  refine wp_skip ?_
  refine c_seq ?_
  refine wp_block ?_
  refine c_seq (c_region ?_)
  refine pl_val (.slice pa0 pn0 pc0) (y_move rfl) ?_
  refine pl_val (.int .i64 k49) (y_move rfl) ?_
  obtain ⟨x57, hx57, hs⟩ := bind_some hs
  obtain ⟨b58, o58, hp58, ha58⟩ := rs_idx Sl22 Sz3 h0 hx57
  refine pl_val (.pointer (some ⟨b58, o58, none⟩)) (hp58 _ _ _ _ _ _ _ _ _ rfl rfl) ?_
  refine pl_val (.int .i64 x57) (y_load rfl ((at_load_int Ag3 Sz3 ha58) _ (Chg.refl _ _))) ?_
  refine pl_val (.int .i64 r27) (y_move rfl) ?_
  refine pl_val (.bool (x57 == r27)) (y_eql rfl rfl) ?_
  refine c_nil ?_
  rcases bif_some hs with ⟨hc59, hs⟩ | ⟨hc59, hs⟩
  ·skip
   refine c_condT (congrArg Value.bool hc59) ?_
   refine c_region ?_
   refine pl_val (.slice a53 n53 c53) (y_move rfl) ?_
   refine pl_val (.int .i64 r25) (y_move rfl) ?_
   obtain ⟨w60, g60, ew60, eg60, hC60, hb60⟩ := new_block w48 [(.int .i64 r25)] 3
   refine pl_val (w' := w60) (.slice (some ⟨g60, 0, none⟩) 1 1) (y_bslice rfl (by rw [ew60, eg60]; kernel_rfl)) ?_
   have h0 := h0.ext hC60
   have hv53 := hv53.ext hC60
   have hC := hC.ext hC60
   have hO := hO.new1 hC60 eg60 hb60.lt
   have hv60 := os_of_box (r := (RT.int .i64)) (M := M) (css := [[(.int .i64 r25)]]) (fps := [([] : List Nat)]) (xs := ([r25] : List Int)) hb60 ⟨⟨rfl, rfl⟩, trivial⟩ (Nat.le_of_ble_eq_true rfl) (List.nodup_cons.2 ⟨(fun h => nomatch h), List.nodup_nil⟩)
   have hv60 : (RT.os 3 (RT.int .i64)).val M w60 (.slice (some ⟨g60, 0, none⟩) 1 1) [r25] [g60] := hv60
   obtain ⟨y63, hy63, hs⟩ := bind_some hs
   have hO := hO.fr1
   obtain ⟨a62, n62, c62, w62, f62, hr62, hC62, hf62, hv62⟩ := app_os Rw22 hy63 hv53 hv60 hO.inM (fun g hg hq => hO.apart g hq (mem_l hg))
   have hG62 := os_block hv53
   refine pl_val (w' := w62) (.slice a62 n62 c62) (y_append rfl rfl (hr62 _)) ?_
   have hO := hO.fr1
   have hO := hO.fr1
   have h0 := h0.mut hC62 (fun g hg => hO.inM g (hG62 g hg)) (fun _ _ h => nomatch h)
   have hC := hC.step hC62 (fun g hg => hO.inN g (hG62 g hg))
   have hO := hO.eat hC62 hf62 (os_nodup hv62) hv62.fpl
   refine pl_val (.slice a62 n62 c62) (y_assign rfl) ?_
   refine c_nil ?_
   refine c_region ?_
   refine pl_val (.int .i64 k49) (y_move rfl) ?_
   refine pl_val (.int .i64 (w64 (k49 + 1))) (y_add rfl rfl) ?_
   refine pl_val (.int .i64 (w64 (k49 + 1))) (y_assign rfl) ?_
   refine c_nil ?_
   cases hs
   exact ⟨_, a62, n62, c62, f62, fr_ovl 54 ⟨rfl, rfl, rfl, rfl, congrArg (Value.int .i64) hw, trivial⟩, hC, hO, h0, hv62⟩
  ·skip
   refine c_condF (congrArg Value.bool hc59) ?_
   refine c_region ?_
   refine pl_val (.slice a53 n53 c53) (y_move rfl) ?_
   refine pl_val (.slice pa0 pn0 pc0) (y_move rfl) ?_
   refine pl_val (.int .i64 k49) (y_move rfl) ?_
   obtain ⟨x65, hx65, hs⟩ := bind_some hs
   obtain ⟨b66, o66, hp66, ha66⟩ := rs_idx Sl22 Sz3 h0 hx65
   refine pl_val (.pointer (some ⟨b66, o66, none⟩)) (hp66 _ _ _ _ _ _ _ _ _ rfl rfl) ?_
   refine pl_val (.int .i64 x65) (y_load rfl ((at_load_int Ag3 Sz3 ha66) _ (Chg.refl _ _))) ?_
   obtain ⟨w67, g67, ew67, eg67, hC67, hb67⟩ := new_block w48 [(.int .i64 x65)] 3
   refine pl_val (w' := w67) (.slice (some ⟨g67, 0, none⟩) 1 1) (y_bslice rfl (by rw [ew67, eg67]; kernel_rfl)) ?_
   have h0 := h0.ext hC67
   have hv53 := hv53.ext hC67
   have hC := hC.ext hC67
   have hO := hO.new1 hC67 eg67 hb67.lt
   have hv67 := os_of_box (r := (RT.int .i64)) (M := M) (css := [[(.int .i64 x65)]]) (fps := [([] : List Nat)]) (xs := ([x65] : List Int)) hb67 ⟨⟨rfl, rfl⟩, trivial⟩ (Nat.le_of_ble_eq_true rfl) (List.nodup_cons.2 ⟨(fun h => nomatch h), List.nodup_nil⟩)
   have hv67 : (RT.os 3 (RT.int .i64)).val M w67 (.slice (some ⟨g67, 0, none⟩) 1 1) [x65] [g67] := hv67
   obtain ⟨y70, hy70, hs⟩ := bind_some hs
   have hO := hO.fr1
   obtain ⟨a69, n69, c69, w69, f69, hr69, hC69, hf69, hv69⟩ := app_os Rw22 hy70 hv53 hv67 hO.inM (fun g hg hq => hO.apart g hq (mem_l hg))
   have hG69 := os_block hv53
   refine pl_val (w' := w69) (.slice a69 n69 c69) (y_append rfl rfl (hr69 _)) ?_
   have hO := hO.fr1
   have hO := hO.fr1
   have h0 := h0.mut hC69 (fun g hg => hO.inM g (hG69 g hg)) (fun _ _ h => nomatch h)
   have hC := hC.step hC69 (fun g hg => hO.inN g (hG69 g hg))
   have hO := hO.eat hC69 hf69 (os_nodup hv69) hv69.fpl
   refine pl_val (.slice a69 n69 c69) (y_assign rfl) ?_
   refine c_nil ?_
   refine c_region ?_
   refine pl_val (.int .i64 k49) (y_move rfl) ?_
   refine pl_val (.int .i64 (w64 (k49 + 1))) (y_add rfl rfl) ?_
   refine pl_val (.int .i64 (w64 (k49 + 1))) (y_assign rfl) ?_
   refine c_nil ?_
   cases hs
   exact ⟨_, a69, n69, c69, f69, fr_ovl 54 ⟨rfl, rfl, rfl, rfl, congrArg (Value.int .i64) hw, trivial⟩, hC, hO, h0, hv69⟩
 ·skip
  exact ⟨_, (some ⟨g28, 0, none⟩), 0, 0, ([g28]), fr_ovl 54 ⟨rfl, rfl, rfl, rfl, rfl, trivial⟩, hC, hO, h0, hv28⟩
 ·cases o51 with
  | nx _ => exact True.intro
  | rt r_ =>
   have hs := after_rt hs
   intro a1 w1 hK
   cases hs
   exact hK
  | br s47 =>
   have hs := after_br hs
   rintro a1 w48 ⟨σ, a55, n55, c55, f55, rfl, hC, hO, h0, hv55⟩
   refine c_seq (c_region ?_)
   refine pl_val (.slice a55 n55 c55) (y_move rfl) ?_
   refine pl_val (.slice a55 n55 c55) (y_assign rfl) ?_
   refine c_nil ?_
   refine wp_ret ?_
   cases hs
   exact ⟨_, a55, n55, c55, f55, fr_ovl 54 ⟨rfl, trivial⟩, hC, hv55, hO.top⟩

theorem Bd100 : Bodied Try.prog 100 := bodied Try.func100 (by kernel_rfl) rfl

theorem Bd101 : Bodied Try.prog 101 := bodied Try.func101 (by kernel_rfl) rfl

def k_spec_l6Join (M : Nat → Prop) (w0 : World) (r : (List Int)) (a : Act) (w : World) : Prop :=
  ∃ (σ : Nat → Value) (ra0 : Option Addr) (rn0 rc0 : Nat) (rf0 : List Nat), a = fr 23 (ovl σ [(4, (.slice ra0 rn0 rc0))]) ∧ Chg [] w0 w ∧ (RT.os 3 (RT.int .i64)).val M w (.slice ra0 rn0 rc0) r rf0 ∧ Own (Nw w0 []) (fun _ => True) w (rf0 ++ ([]))
def s_spec_l6Join (p : List Int) (q : List Int) : Option ((List Int)) :=
  (s_spec_l1Own p).bind fun r4 =>
  (forC (S := (List Int)) (R := (List Int)) (fun k15 s13 =>
  (idx q k15).bind fun x23 =>
  (s_spec_l6Unite s13 k15 x23).bind fun r26 =>
  some (.nx r26)) 0 (q.length : Int) r4).bind fun o17 => after o17 (fun r_ => some r_) (fun s13 =>
  some s13)
set_option maxHeartbeats 4000000 in
theorem c_spec_l6Join {M : Nat → Prop} {w : World} {pa0 : Option Addr} {pn0 pc0 : Nat} {pa1 : Option Addr} {pn1 pc1 : Nat} (p : List Int) (q : List Int) (h0 : (RT.rs (RT.int .i64)).val M w (.slice pa0 pn0 pc0) p ([])) (h1 : (RT.rs (RT.int .i64)).val M w (.slice pa1 pn1 pc1) q ([])) (hM : ∀ g, w.heap.size ≤ g → M g) {r : (List Int)} (hs : s_spec_l6Join p q = some r) :
    Gives Try.prog 72 [(.slice pa0 pn0 pc0), (.slice pa1 pn1 pc1)] w (fun v w' => ∃ (ra0 : Option Addr) (rn0 rc0 : Nat) (rf0 : List Nat), v = (.slice ra0 rn0 rc0) ∧ Chg [] w w' ∧ (RT.os 3 (RT.int .i64)).val M w' (.slice ra0 rn0 rc0) r rf0 ∧ Own (Nw w []) (fun _ => True) w' (rf0 ++ ([]))) := by
 refine calls_fr Try.func72 rfl Try.ntmps72 (Nat.le_of_ble_eq_true rfl) ?_
 have hO := Own.start (N := Nw w []) hM Nw.fut
 have hC := Chg.refl [] w
 unfold s_spec_l6Join at hs
 refine wp_mono (Q := KPost (k_spec_l6Join M w r)) ?_ (fun e a w1 h => ?_)
 rotate_left
 ·cases e
  case ret =>
   obtain ⟨σ, ra0, rn0, rc0, rf0, rfl, hrest⟩ := h
   exact ret1x Try.results72 (res_tmp rfl) ⟨ra0, rn0, rc0, rf0, rfl, hrest⟩
  all_goals exact (h : False).elim
 refine c_seq (c_region ?_)
 refine pl_val (.slice none 0 0) (y_assign rfl) ?_
 refine c_nil ?_
 refine c_seq (c_region ?_)
 refine pl_val (.slice pa0 pn0 pc0) (y_move rfl) ?_
 obtain ⟨r4, hr4, hs⟩ := bind_some hs
 refine pl_call Bd100 rfl (c_spec_l1Own (M := M) p h0 hO.fut hr4) ?_
 rintro _ w3 ⟨a3x0, n3x0, c3x0, f3x0, rfl, hC3, hv3x0, hOc3⟩
 have h0 := h0.ext hC3
 have h1 := h1.ext hC3
 have hC := hC.ext hC3
 have hO := Own.join0 hO hC3 hOc3
 have hO := hO.perm (R := f3x0 ++ ([])) (by simp)
 refine pl_val (.slice a3x0 n3x0 c3x0) (y_assign rfl) ?_
 refine c_nil ?_
 refine c_seq ?_
 refine c_seq (c_region ?_)
 refine pl_val (.int .i64 0) (y_assign rfl) ?_
 refine c_nil ?_
 obtain ⟨o17, hl18, hs⟩ := bind_some hs
 refine wp_block ?_
 refine wp_forC (id := 0) (q.length : Int) (I := fun k15 s13 a w14 => ∃ (σ : Nat → Value) (a19 : Option Addr) (n19 : Nat) (c19 : Nat) (f19 : List Nat), a = fr 23 (ovl σ [(1, (.slice pa1 pn1 pc1)), (5, (.slice a19 n19 c19)), (6, (.int .i64 k15))]) ∧ Chg [] w w14 ∧ Own (Nw w []) M w14 (f19 ++ []) ∧ (RT.rs (RT.int .i64)).val M w14 (.slice pa1 pn1 pc1) q ([]) ∧ (RT.os 3 (RT.int .i64)).val M w14 (.slice a19 n19 c19) s13 f19) (J := fun s13 a w14 => ∃ (σ : Nat → Value) (a21 : Option Addr) (n21 : Nat) (c21 : Nat) (f21 : List Nat), a = fr 23 (ovl σ [(5, (.slice a21 n21 c21))]) ∧ Chg [] w w14 ∧ Own (Nw w []) M w14 (f21 ++ []) ∧ (RT.rs (RT.int .i64)).val M w14 (.slice pa1 pn1 pc1) q ([]) ∧ (RT.os 3 (RT.int .i64)).val M w14 (.slice a21 n21 c21) s13 f21) (K := (k_spec_l6Join M w)) ?_ ?_ 0 r4 o17 _ _ ?_ hl18 ?_
 ·rintro k15 s13 a w14 ⟨σ, a19, n19, c19, f19, rfl, hC, hO, h1, hv19⟩ hlt
  refine c_seq ?_
  refine c_seq (c_region ?_)
  refine pl_val (.int .i64 k15) (y_move rfl) ?_
  refine pl_val (.slice pa1 pn1 pc1) (y_move rfl) ?_
  refine pl_val (.int .i64 (q.length : Int)) (y_len' Sl22 (rs_len h1) rfl) ?_
  refine pl_val (.bool (decide (k15 < (q.length : Int)))) (y_lss rfl rfl) ?_
  refine c_nil ?_
  refine c_condF (congrArg Value.bool (decide_eq_false hlt)) ?_
  refine wp_exit ?_
  exact ⟨rfl, _, a19, n19, c19, f19, fr_ovl 23 ⟨rfl, trivial⟩, hC, hO, h1, hv19⟩
 ·rintro k15 s13 o17 a w14 ⟨σ, a19, n19, c19, f19, rfl, hC, hO, h1, hv19⟩ hlt hw hs
  refine c_seq ?_
  refine c_seq (c_region ?_)
  refine pl_val (.int .i64 k15) (y_move rfl) ?_
  refine pl_val (.slice pa1 pn1 pc1) (y_move rfl) ?_
  refine pl_val (.int .i64 (q.length : Int)) (y_len' Sl22 (rs_len h1) rfl) ?_
  refine pl_val (.bool (decide (k15 < (q.length : Int)))) (y_lss rfl rfl) ?_
  refine c_nil ?_
  refine c_condT (congrArg Value.bool (decide_eq_true hlt)) ?_
  refine wp_skip ?_
  refine c_seq ?_
  refine wp_block ?_
  refine c_region ?_
  refine pl_val (.slice a19 n19 c19) (y_move rfl) ?_
  refine pl_val (.int .i64 k15) (y_move rfl) ?_
  refine pl_val (.slice pa1 pn1 pc1) (y_move rfl) ?_
  refine pl_val (.int .i64 k15) (y_move rfl) ?_
  obtain ⟨x23, hx23, hs⟩ := bind_some hs
  obtain ⟨b24, o24, hp24, ha24⟩ := rs_idx Sl22 Sz3 h1 hx23
  refine pl_val (.pointer (some ⟨b24, o24, none⟩)) (hp24 _ _ _ _ _ _ _ _ _ rfl rfl) ?_
  refine pl_val (.int .i64 x23) (y_load rfl ((at_load_int Ag3 Sz3 ha24) _ (Chg.refl _ _))) ?_
  obtain ⟨r26, hr26, hs⟩ := bind_some hs
  refine pl_call Bd101 rfl (c_spec_l6Unite (M := (Less M f19)) s13 k15 x23 (((Frz.os Frz.int)).val hv19 Less.sub Less.not) hO.less.fut hr26) ?_
  rintro _ w25 ⟨a25x0, n25x0, c25x0, f25x0, rfl, hC25, hv25x0, hOc25⟩
  have h1 := h1.ext hC25
  have hv19 := hv19.ext hC25
  have hC := hC.ext hC25
  have hO := Own.join0 hO hC25 hOc25
  have hO := hO.perm (R := f25x0 ++ (f19 ++ ([]))) (by simp)
  have hv25x0 := hv25x0.free (M' := M) (Free.os Free.int)
  refine pl_val (.slice a25x0 n25x0 c25x0) (y_assign rfl) ?_
  refine c_nil ?_
  refine c_region ?_
  refine pl_val (.int .i64 k15) (y_move rfl) ?_
  refine pl_val (.int .i64 (w64 (k15 + 1))) (y_add rfl rfl) ?_
  refine pl_val (.int .i64 (w64 (k15 + 1))) (y_assign rfl) ?_
  refine c_nil ?_
  cases hs
  have hO := hO.fr1
  have hO := hO.drop
  exact ⟨_, a25x0, n25x0, c25x0, f25x0, fr_ovl 23 ⟨rfl, rfl, congrArg (Value.int .i64) hw, trivial⟩, hC, hO, h1, hv25x0⟩
 ·skip
  exact ⟨_, a3x0, n3x0, c3x0, f3x0, fr_ovl 23 ⟨rfl, rfl, rfl, trivial⟩, hC, hO, h1, hv3x0⟩
 ·cases o17 with
  | nx _ => exact True.intro
  | rt r_ =>
   have hs := after_rt hs
   intro a1 w1 hK
   cases hs
   exact hK
  | br s13 =>
   have hs := after_br hs
   rintro a1 w14 ⟨σ, a21, n21, c21, f21, rfl, hC, hO, h1, hv21⟩
   refine c_seq (c_region ?_)
   refine pl_val (.slice a21 n21 c21) (y_move rfl) ?_
   refine pl_val (.slice a21 n21 c21) (y_assign rfl) ?_
   refine c_nil ?_
   refine wp_ret ?_
   cases hs
   exact ⟨_, a21, n21, c21, f21, fr_ovl 23 ⟨rfl, trivial⟩, hC, hv21, hO.top⟩

theorem Ag71 : AggT Try.prog 71 true := fun _ => by kernel_rfl

theorem Sz71 : SzT Try.prog 71 2 := ⟨_, rfl, rfl⟩

theorem Fa71x1 : ∀ (a : Addr) (w : World), (Instr.fieldAt 71 (.pointer (some a)) 1).run Try.prog w = .ok (.pointer (some (a.add 1))) w := fun _ _ => by kernel_rfl

theorem Ag41 : AggT Try.prog 41 false := fun _ => by kernel_rfl

theorem Sz41 : SzT Try.prog 41 1 := ⟨_, rfl, rfl⟩

theorem Rw41 : RowT Try.prog 41 22 1 [(.slice none 0 0)] := ⟨Try.underlying41, ⟨_, _, rfl, rfl, rfl, rfl, by decide⟩, rfl, by decide⟩

def k_spec_l13OfPartition (M : Nat → Prop) (w0 : World) (r : (Int × (List (List Int)))) (a : Act) (w : World) : Prop :=
  ∃ (σ : Nat → Value) (rg2 : Nat) (ra0 : Option Addr) (rn0 rc0 : Nat) (rf0 : List Nat), a = fr 38 (ovl σ [(2, (.pointer (some ⟨rg2, 0, none⟩)))]) ∧ BoxV w rg2 71 [(.int .i64 r.1), (.slice ra0 rn0 rc0)] ∧ Chg [] w0 w ∧ (RT.os 22 (RT.os 3 (RT.int .i64))).val M w (.slice ra0 rn0 rc0) r.2 rf0 ∧ Own (Nw w0 []) (fun _ => True) w (rf0 ++ ([]))
def s_spec_l13OfPartition (p : List Int) : Option ((Int × (List (List Int)))) :=
  (forC (S := (List (List Int))) (R := (Int × (List (List Int)))) (fun k150 s148 =>
  (forC (S := (List (List Int))) (R := (Int × (List (List Int)))) (fun k200 s198 =>
  (idx p k150).bind fun x214 =>
  (idx p k200).bind fun x216 =>
  (bif (x214 == x216) then (app s198 ([[k150, k200]])).bind fun y224 =>
  some (.nx y224) else some (.nx s198))) 0 (p.length : Int) s148).bind fun o202 => after o202 (fun r_ => some (.rt r_)) (fun s198 =>
  some (.nx s198))) 0 (p.length : Int) ([])).bind fun o152 => after o152 (fun r_ => some r_) (fun s148 =>
  some (2, s148))
set_option maxHeartbeats 4000000 in
theorem c_spec_l13OfPartition {M : Nat → Prop} {w : World} {pa0 : Option Addr} {pn0 pc0 : Nat} (p : List Int) (h0 : (RT.rs (RT.int .i64)).val M w (.slice pa0 pn0 pc0) p ([])) (hM : ∀ g, w.heap.size ≤ g → M g) {r : (Int × (List (List Int)))} (hs : s_spec_l13OfPartition p = some r) :
    Gives Try.prog 71 [(.slice pa0 pn0 pc0)] w (fun v w' => ∃ (ra0 : Option Addr) (rn0 rc0 : Nat) (rf0 : List Nat), v = (.agg #[(.int .i64 r.1), (.slice ra0 rn0 rc0)]) ∧ Chg [] w w' ∧ (RT.os 22 (RT.os 3 (RT.int .i64))).val M w' (.slice ra0 rn0 rc0) r.2 rf0 ∧ Own (Nw w []) (fun _ => True) w' (rf0 ++ ([]))) := by
 refine calls_fr Try.func71 rfl Try.ntmps71 (Nat.le_of_ble_eq_true rfl) ?_
 have hO := Own.start (N := Nw w []) hM Nw.fut
 have hC := Chg.refl [] w
 unfold s_spec_l13OfPartition at hs
 refine wp_mono (Q := KPost (k_spec_l13OfPartition M w r)) ?_ (fun e a w1 h => ?_)
 rotate_left
 ·cases e
  case ret =>
   obtain ⟨σ, rg2, ra0, rn0, rc0, rf0, rfl, hbrg2, hrest⟩ := h
   exact ret1x Try.results71 (res_cell rfl (box_load Ag71 Sz71 hbrg2 [] _ [] rfl rfl (fun h => nomatch h))) ⟨ra0, rn0, rc0, rf0, rfl, hrest⟩
  all_goals exact (h : False).elim
 refine c_seq (c_region ?_)
 obtain ⟨w2, g2, ew2, eg2, hC2, hb2⟩ := new_block w [(.int .i64 0), (.slice none 0 0)] 71
 refine pl_val (w' := w2) (.pointer (some ⟨g2, 0, none⟩)) (y_alloc (by rw [ew2, eg2]; kernel_rfl)) ?_
 have h0 := h0.ext hC2
 have hC := hC.ext hC2
 have hO := hO.new1 hC2 eg2 hb2.lt
 refine c_nil ?_
 refine c_seq (c_region ?_)
 obtain ⟨w3, g3, ew3, eg3, hC3, hb3⟩ := new_block w2 [] 22
 refine pl_val (w' := w3) (.slice (some ⟨g3, 0, none⟩) 0 0) (y_bslice rfl (by rw [ew3, eg3]; kernel_rfl)) ?_
 have h0 := h0.ext hC3
 have hb2 := hb2.chg hC3 (fun h => nomatch h)
 have hC := hC.ext hC3
 have hO := hO.new1 hC3 eg3 hb3.lt
 have hv3 := os_of_box (r := (RT.os 3 (RT.int .i64))) (M := M) (css := []) (fps := []) (xs := ([] : List (List Int))) hb3 trivial (Nat.zero_le _) (List.nodup_cons.2 ⟨(fun h => nomatch h), List.nodup_nil⟩)
 have hv3 : (RT.os 22 (RT.os 3 (RT.int .i64))).val M w3 (.slice (some ⟨g3, 0, none⟩) 0 0) [] [g3] := hv3
 refine pl_val (.agg #[(.int .i64 2), (.slice (some ⟨g3, 0, none⟩) 0 0)]) (y_build rfl (by kernel_rfl)) ?_
 obtain ⟨w5, g5, ew5, eg5, hC5, hb5⟩ := new_block w3 [(.int .i64 0), (.slice none 0 0)] 71
 refine pl_val (w' := w5) (.pointer (some ⟨g5, 0, none⟩)) (y_alloc (by rw [ew5, eg5]; kernel_rfl)) ?_
 have h0 := h0.ext hC5
 have hb2 := hb2.chg hC5 (fun h => nomatch h)
 have hv3 := hv3.ext hC5
 have hC := hC.ext hC5
 have hO := hO.new1 hC5 eg5 hb5.lt
 obtain ⟨w6, hst6, hC6, hb6⟩ := box_store (P := Try.prog) hb5 [] [(.int .i64 0), (.slice none 0 0)] [] [(.int .i64 2), (.slice (some ⟨g3, 0, none⟩) 0 0)] rfl rfl (by intro u hu; simp only [List.mem_cons, List.not_mem_nil, or_false] at hu; rcases hu with rfl | rfl <;> rfl)
 refine pl_skip (w' := w6) (ys_store rfl rfl (hst6 _ _ rfl Sz71)) ?_
 have h0 := h0.mut hC6 (fun g hg => hO.inM g ((fun _ h => h) g hg)) (fun _ _ h => nomatch h)
 have hb2 := hb2.chg hC6 (fun hg => hO.apart _ ((fun _ h => h) _ hg) (mem_r (mem_l (List.mem_singleton.2 rfl))))
 have hv3 := hv3.mut hC6 (fun g hg => hO.inM g ((fun _ h => h) g hg)) (fun g hg e => hO.apart g ((fun _ h => h) g hg) (mem_l (e)))
 have hC := hC.step hC6 (fun g hg => hO.inN g ((fun _ h => h) g hg))
 have hO := hO.ext hC6
 have hb6 : BoxV w6 g5 71 [(.int .i64 2), (.slice (some ⟨g3, 0, none⟩) 0 0)] := hb6
 refine c_nil ?_
 refine c_seq ?_
 refine c_seq (c_region ?_)
 refine pl_val (.int .i64 0) (y_assign rfl) ?_
 refine c_nil ?_
 obtain ⟨o152, hl153, hs⟩ := bind_some hs
 refine wp_block ?_
 refine wp_forC (id := 0) (p.length : Int) (I := fun k150 s148 a w149 => ∃ (σ : Nat → Value) (a154 : Option Addr) (n154 : Nat) (c154 : Nat) (f154 : List Nat), a = fr 38 (ovl σ [(0, (.slice pa0 pn0 pc0)), (2, (.pointer (some ⟨g2, 0, none⟩))), (3, (.pointer (some ⟨g5, 0, none⟩))), (4, (.int .i64 k150))]) ∧ Chg [] w w149 ∧ Own (Nw w []) M w149 (f154 ++ (([g5]) ++ (([g2]) ++ []))) ∧ (RT.rs (RT.int .i64)).val M w149 (.slice pa0 pn0 pc0) p ([]) ∧ BoxV w149 g2 71 [(.int .i64 0), (.slice none 0 0)] ∧ BoxV w149 g5 71 [(.int .i64 2), (.slice a154 n154 c154)] ∧ (RT.os 22 (RT.os 3 (RT.int .i64))).val M w149 (.slice a154 n154 c154) s148 f154) (J := fun s148 a w149 => ∃ (σ : Nat → Value) (a156 : Option Addr) (n156 : Nat) (c156 : Nat) (f156 : List Nat), a = fr 38 (ovl σ [(2, (.pointer (some ⟨g2, 0, none⟩))), (3, (.pointer (some ⟨g5, 0, none⟩)))]) ∧ Chg [] w w149 ∧ Own (Nw w []) M w149 (f156 ++ (([g5]) ++ (([g2]) ++ []))) ∧ (RT.rs (RT.int .i64)).val M w149 (.slice pa0 pn0 pc0) p ([]) ∧ BoxV w149 g2 71 [(.int .i64 0), (.slice none 0 0)] ∧ BoxV w149 g5 71 [(.int .i64 2), (.slice a156 n156 c156)] ∧ (RT.os 22 (RT.os 3 (RT.int .i64))).val M w149 (.slice a156 n156 c156) s148 f156) (K := (k_spec_l13OfPartition M w)) ?_ ?_ 0 ([]) o152 _ _ ?_ hl153 ?_
 ·rintro k150 s148 a w149 ⟨σ, a154, n154, c154, f154, rfl, hC, hO, h0, hb2, hb6, hv154⟩ hlt
  refine c_seq ?_
  refine c_seq (c_region ?_)
  refine pl_val (.int .i64 k150) (y_move rfl) ?_
  refine pl_val (.slice pa0 pn0 pc0) (y_move rfl) ?_
  refine pl_val (.int .i64 (p.length : Int)) (y_len' Sl22 (rs_len h0) rfl) ?_
  refine pl_val (.bool (decide (k150 < (p.length : Int)))) (y_lss rfl rfl) ?_
  refine c_nil ?_
  refine c_condF (congrArg Value.bool (decide_eq_false hlt)) ?_
  refine wp_exit ?_
  have hO := hO.fr2
  have hO := hO.fr2
  have hO := hO.fr2
  exact ⟨rfl, _, a154, n154, c154, f154, fr_ovl 38 ⟨rfl, rfl, trivial⟩, hC, hO, h0, hb2, hb6, hv154⟩
 ·rintro k150 s148 o152 a w149 ⟨σ, a154, n154, c154, f154, rfl, hC, hO, h0, hb2, hb6, hv154⟩ hlt hw hs
  refine c_seq ?_
  refine c_seq (c_region ?_)
  refine pl_val (.int .i64 k150) (y_move rfl) ?_
  refine pl_val (.slice pa0 pn0 pc0) (y_move rfl) ?_
  refine pl_val (.int .i64 (p.length : Int)) (y_len' Sl22 (rs_len h0) rfl) ?_
  refine pl_val (.bool (decide (k150 < (p.length : Int)))) (y_lss rfl rfl) ?_
  refine c_nil ?_
  refine c_condT (congrArg Value.bool (decide_eq_true hlt)) ?_
  refine wp_skip ?_
  refine c_seq ?_
  refine wp_block ?_
  refine c_seq (c_region ?_)
  refine pl_val (.int .i64 0) (y_assign rfl) ?_
  refine c_nil ?_
  obtain ⟨o202, hl203, hs⟩ := bind_some hs
  refine wp_block ?_
  refine wp_forC (id := 2) (p.length : Int) (I := fun k200 s198 a w199 => ∃ (σ : Nat → Value) (a204 : Option Addr) (n204 : Nat) (c204 : Nat) (f204 : List Nat), a = fr 38 (ovl σ [(0, (.slice pa0 pn0 pc0)), (2, (.pointer (some ⟨g2, 0, none⟩))), (3, (.pointer (some ⟨g5, 0, none⟩))), (4, (.int .i64 k150)), (5, (.int .i64 k200))]) ∧ Chg [] w w199 ∧ Own (Nw w []) M w199 (f204 ++ (([g5]) ++ (([g2]) ++ []))) ∧ (RT.rs (RT.int .i64)).val M w199 (.slice pa0 pn0 pc0) p ([]) ∧ BoxV w199 g2 71 [(.int .i64 0), (.slice none 0 0)] ∧ BoxV w199 g5 71 [(.int .i64 2), (.slice a204 n204 c204)] ∧ (RT.os 22 (RT.os 3 (RT.int .i64))).val M w199 (.slice a204 n204 c204) s198 f204) (J := fun s198 a w199 => ∃ (σ : Nat → Value) (a206 : Option Addr) (n206 : Nat) (c206 : Nat) (f206 : List Nat), a = fr 38 (ovl σ [(0, (.slice pa0 pn0 pc0)), (2, (.pointer (some ⟨g2, 0, none⟩))), (3, (.pointer (some ⟨g5, 0, none⟩))), (4, (.int .i64 k150))]) ∧ Chg [] w w199 ∧ Own (Nw w []) M w199 (f206 ++ (([g5]) ++ (([g2]) ++ []))) ∧ (RT.rs (RT.int .i64)).val M w199 (.slice pa0 pn0 pc0) p ([]) ∧ BoxV w199 g2 71 [(.int .i64 0), (.slice none 0 0)] ∧ BoxV w199 g5 71 [(.int .i64 2), (.slice a206 n206 c206)] ∧ (RT.os 22 (RT.os 3 (RT.int .i64))).val M w199 (.slice a206 n206 c206) s198 f206) (K := (k_spec_l13OfPartition M w)) ?_ ?_ 0 s148 o202 _ _ ?_ hl203 ?_
  ·rintro k200 s198 a w199 ⟨σ, a204, n204, c204, f204, rfl, hC, hO, h0, hb2, hb6, hv204⟩ hlt
   refine c_seq ?_
   refine c_seq (c_region ?_)
   refine pl_val (.int .i64 k200) (y_move rfl) ?_
   refine pl_val (.slice pa0 pn0 pc0) (y_move rfl) ?_
   refine pl_val (.int .i64 (p.length : Int)) (y_len' Sl22 (rs_len h0) rfl) ?_
   refine pl_val (.bool (decide (k200 < (p.length : Int)))) (y_lss rfl rfl) ?_
   refine c_nil ?_
   refine c_condF (congrArg Value.bool (decide_eq_false hlt)) ?_
   refine wp_exit ?_
   have hO := hO.fr2
   have hO := hO.fr2
   have hO := hO.fr2
   exact ⟨rfl, _, a204, n204, c204, f204, fr_ovl 38 ⟨rfl, rfl, rfl, rfl, trivial⟩, hC, hO, h0, hb2, hb6, hv204⟩
  ·rintro k200 s198 o202 a w199 ⟨σ, a204, n204, c204, f204, rfl, hC, hO, h0, hb2, hb6, hv204⟩ hlt hw hs
   refine c_seq ?_
   refine c_seq (c_region ?_)
   refine pl_val (.int .i64 k200) (y_move rfl) ?_
   refine pl_val (.slice pa0 pn0 pc0) (y_move rfl) ?_
   refine pl_val (.int .i64 (p.length : Int)) (y_len' Sl22 (rs_len h0) rfl) ?_
   refine pl_val (.bool (decide (k200 < (p.length : Int)))) (y_lss rfl rfl) ?_
   refine c_nil ?_
   refine c_condT (congrArg Value.bool (decide_eq_true hlt)) ?_
   refine wp_skip ?_
   refine c_seq ?_
   refine wp_block ?_
   refine c_seq ?_
   refine x_start [] Mx rfl ?_
   have hCw213 := Chg.drew w199
   generalize World.drew w199 = w213 at hCw213 ⊢
   have h0 := h0.ext hCw213
   have hb2 := hb2.chg hCw213 (fun h => nomatch h)
   have hb6 := hb6.chg hCw213 (fun h => nomatch h)
   have hv204 := hv204.ext hCw213
   have hC := hC.ext hCw213
   have hO := hO.ext hCw213
   have hS := Chg.refl [] w213
   refine x_p 0 (.slice pa0 pn0 pc0) rfl (by kernel_rfl)  (fun _ => y_move rfl) (fun _ => hS) ?_
   refine x_p 1 (.int .i64 k150) rfl (by kernel_rfl)  (fun _ => y_move rfl) (fun _ => hS) ?_
   obtain ⟨x214, hx214, hs⟩ := bind_some hs
   obtain ⟨b215, o215, hp215, ha215⟩ := rs_idx Sl22 Sz3 h0 hx214
   refine x_p 2 (.pointer (some ⟨b215, o215, none⟩)) rfl (by kernel_rfl)  (fun _ => hp215 _ _ _ _ _ _ _ _ _ rfl rfl) (fun _ => hS) ?_
   refine x_l 3 (.int .i64 x214) rfl (by kernel_rfl)  (fun w' hw' => y_load rfl ((at_load_int Ag3 Sz3 ha215) w' hw')) hS ?_
   refine x_p 4 (.slice pa0 pn0 pc0) rfl (by kernel_rfl)  (fun _ => y_move rfl) (fun _ => hS) ?_
   refine x_p 5 (.int .i64 k200) rfl (by kernel_rfl)  (fun _ => y_move rfl) (fun _ => hS) ?_
   obtain ⟨x216, hx216, hs⟩ := bind_some hs
   obtain ⟨b217, o217, hp217, ha217⟩ := rs_idx Sl22 Sz3 h0 hx216
   refine x_p 6 (.pointer (some ⟨b217, o217, none⟩)) rfl (by kernel_rfl)  (fun _ => hp217 _ _ _ _ _ _ _ _ _ rfl rfl) (fun _ => hS) ?_
   refine x_l 7 (.int .i64 x216) rfl (by kernel_rfl)  (fun w' hw' => y_load rfl ((at_load_int Ag3 Sz3 ha217) w' hw')) hS ?_
   refine x_p 8 (.bool (x214 == x216)) rfl (by kernel_rfl)  (fun _ => y_eql rfl rfl) (fun _ => hS) ?_
   refine x_end (by kernel_rfl) ?_
   clear hS
   rcases bif_some hs with ⟨hc218, hs⟩ | ⟨hc218, hs⟩
   ·skip
    refine c_condT (congrArg Value.bool hc218) ?_
    refine c_region ?_
    refine pl_val (.pointer (some ⟨g5, 1, none⟩)) (y_faddr rfl Fa71x1) ?_
    refine pl_val (.slice a204 n204 c204) (y_load rfl ((box_load Ag41 Sz41 hb6 [(.int .i64 2)] [(.slice a204 n204 c204)] [] rfl rfl (fun _ => rfl)) _ (Chg.refl _ _))) ?_
    refine pl_val (.int .i64 k150) (y_move rfl) ?_
    refine pl_val (.int .i64 k200) (y_move rfl) ?_
    obtain ⟨w219, g219, ew219, eg219, hC219, hb219⟩ := new_block w213 [(.int .i64 k150), (.int .i64 k200)] 3
    refine pl_val (w' := w219) (.slice (some ⟨g219, 0, none⟩) 2 2) (y_bslice rfl (by rw [ew219, eg219]; kernel_rfl)) ?_
    have h0 := h0.ext hC219
    have hb2 := hb2.chg hC219 (fun h => nomatch h)
    have hb6 := hb6.chg hC219 (fun h => nomatch h)
    have hv204 := hv204.ext hC219
    have hC := hC.ext hC219
    have hO := hO.new1 hC219 eg219 hb219.lt
    have hv219 := os_of_box (r := (RT.int .i64)) (M := M) (css := [[(.int .i64 k150)], [(.int .i64 k200)]]) (fps := [([] : List Nat), ([] : List Nat)]) (xs := ([k150, k200] : List Int)) hb219 ⟨⟨rfl, rfl⟩, ⟨⟨rfl, rfl⟩, trivial⟩⟩ (Nat.le_of_ble_eq_true rfl) (List.nodup_cons.2 ⟨(fun h => nomatch h), List.nodup_nil⟩)
    have hv219 : (RT.os 3 (RT.int .i64)).val M w219 (.slice (some ⟨g219, 0, none⟩) 2 2) [k150, k200] [g219] := hv219
    obtain ⟨w221, g221, ew221, eg221, hC221, hb221⟩ := new_block w219 [(.slice (some ⟨g219, 0, none⟩) 2 2)] 22
    refine pl_val (w' := w221) (.slice (some ⟨g221, 0, none⟩) 1 1) (y_bslice rfl (by rw [ew221, eg221]; kernel_rfl)) ?_
    have h0 := h0.ext hC221
    have hb2 := hb2.chg hC221 (fun h => nomatch h)
    have hb6 := hb6.chg hC221 (fun h => nomatch h)
    have hv204 := hv204.ext hC221
    have hv219 := hv219.ext hC221
    have hC := hC.ext hC221
    have hO := hO.new1 hC221 eg221 hb221.lt
    have hO := hO.perm (R := (g221 :: ((([g219])) ++ ([]))) ++ (f204 ++ (([g5]) ++ (([g2]) ++ ([]))))) (by simp)
    have hnd221 := hO.nd
    have hv221 := os_of_box (r := (RT.os 3 (RT.int .i64))) (M := M) (css := [[(.slice (some ⟨g219, 0, none⟩) 2 2)]]) (fps := [([g219] : List Nat)]) (xs := ([[k150, k200]] : List (List Int))) hb221 ⟨(os_unval hv219), trivial⟩ (Nat.le_of_ble_eq_true rfl) hnd221
    have hv221 : (RT.os 22 (RT.os 3 (RT.int .i64))).val M w221 (.slice (some ⟨g221, 0, none⟩) 1 1) [[k150, k200]] (g221 :: ((([g219])) ++ ([]))) := hv221
    obtain ⟨y224, hy224, hs⟩ := bind_some hs
    have hO := hO.fr1
    obtain ⟨a223, n223, c223, w223, f223, hr223, hC223, hf223, hv223⟩ := app_os Rw41 hy224 hv204 hv221 hO.inM (fun g hg hq => hO.apart g hq (mem_l hg))
    have hG223 := os_block hv204
    refine pl_val (w' := w223) (.slice a223 n223 c223) (y_append rfl rfl (hr223 _)) ?_
    have hO := hO.fr1
    have hO := hO.fr1
    have h0 := h0.mut hC223 (fun g hg => hO.inM g (hG223 g hg)) (fun _ _ h => nomatch h)
    have hb2 := hb2.chg hC223 (fun hg => hO.apart _ (hG223 _ hg) (mem_r (mem_r (mem_l (List.mem_singleton.2 rfl)))))
    have hb6 := hb6.chg hC223 (fun hg => hO.apart _ (hG223 _ hg) (mem_r (mem_l (List.mem_singleton.2 rfl))))
    have hC := hC.step hC223 (fun g hg => hO.inN g (hG223 g hg))
    have hO := hO.eat hC223 hf223 (os_nodup hv223) hv223.fpl
    refine pl_val (.pointer (some ⟨g5, 1, none⟩)) (y_faddr rfl Fa71x1) ?_
    obtain ⟨w226, hst226, hC226, hb226⟩ := box_store (P := Try.prog) hb6 [(.int .i64 2)] [(.slice a204 n204 c204)] [] [(.slice a223 n223 c223)] rfl rfl (by intro u hu; simp only [List.mem_cons, List.not_mem_nil, or_false] at hu; rcases hu with rfl <;> rfl)
    refine pl_skip (w' := w226) (ys_store rfl rfl (hst226 _ _ rfl Sz41)) ?_
    have hO := hO.fr1
    have h0 := h0.mut hC226 (fun g hg => hO.inM g ((fun _ h => h) g hg)) (fun _ _ h => nomatch h)
    have hb2 := hb2.chg hC226 (fun hg => hO.apart _ ((fun _ h => h) _ hg) (mem_r (mem_l (List.mem_singleton.2 rfl))))
    have hv223 := hv223.mut hC226 (fun g hg => hO.inM g ((fun _ h => h) g hg)) (fun g hg e => hO.apart g ((fun _ h => h) g hg) (mem_l (e)))
    have hC := hC.step hC226 (fun g hg => hO.inN g ((fun _ h => h) g hg))
    have hO := hO.ext hC226
    have hb226 : BoxV w226 g5 71 [(.int .i64 2), (.slice a223 n223 c223)] := hb226
    refine c_nil ?_
    refine c_region ?_
    refine pl_val (.int .i64 k200) (y_move rfl) ?_
    refine pl_val (.int .i64 (w64 (k200 + 1))) (y_add rfl rfl) ?_
    refine pl_val (.int .i64 (w64 (k200 + 1))) (y_assign rfl) ?_
    refine c_nil ?_
    cases hs
    have hO := hO.fr2
    have hO := hO.fr1
    have hO := hO.fr2
    exact ⟨_, a223, n223, c223, f223, fr_ovl 38 ⟨rfl, rfl, rfl, rfl, congrArg (Value.int .i64) hw, trivial⟩, hC, hO, h0, hb2, hb226, hv223⟩
   ·skip
    refine c_condF (congrArg Value.bool hc218) ?_
    refine wp_skip ?_
    refine c_region ?_
    refine pl_val (.int .i64 k200) (y_move rfl) ?_
    refine pl_val (.int .i64 (w64 (k200 + 1))) (y_add rfl rfl) ?_
    refine pl_val (.int .i64 (w64 (k200 + 1))) (y_assign rfl) ?_
    refine c_nil ?_
    cases hs
    have hO := hO.fr2
    have hO := hO.fr2
    have hO := hO.fr2
    exact ⟨_, a204, n204, c204, f204, fr_ovl 38 ⟨rfl, rfl, rfl, rfl, congrArg (Value.int .i64) hw, trivial⟩, hC, hO, h0, hb2, hb6, hv204⟩
  ·skip
   have hO := hO.fr2
   have hO := hO.fr2
   have hO := hO.fr2
   exact ⟨_, a154, n154, c154, f154, fr_ovl 38 ⟨rfl, rfl, rfl, rfl, rfl, trivial⟩, hC, hO, h0, hb2, hb6, hv154⟩
  ·cases o202 with
   | nx _ => exact True.intro
   | rt r_ =>
    have hs := after_rt hs
    intro a1 w1 hK
    cases hs
    exact hK
   | br s198 =>
    have hs := after_br hs
    rintro a1 w199 ⟨σ, a206, n206, c206, f206, rfl, hC, hO, h0, hb2, hb6, hv206⟩
    refine c_region ?_
    refine pl_val (.int .i64 k150) (y_move rfl) ?_
    refine pl_val (.int .i64 (w64 (k150 + 1))) (y_add rfl rfl) ?_
    refine pl_val (.int .i64 (w64 (k150 + 1))) (y_assign rfl) ?_
    refine c_nil ?_
    cases hs
    have hO := hO.fr2
    have hO := hO.fr2
    have hO := hO.fr2
    exact ⟨_, a206, n206, c206, f206, fr_ovl 38 ⟨rfl, rfl, rfl, congrArg (Value.int .i64) hw, trivial⟩, hC, hO, h0, hb2, hb6, hv206⟩
 ·skip
  have hO := hO.fr2
  have hO := hO.fr1
  have hO := hO.fr2
  exact ⟨_, (some ⟨g3, 0, none⟩), 0, 0, ([g3]), fr_ovl 38 ⟨rfl, rfl, rfl, rfl, trivial⟩, hC, hO, h0, hb2, hb6, hv3⟩
 ·cases o152 with
  | nx _ => exact True.intro
  | rt r_ =>
   have hs := after_rt hs
   intro a1 w1 hK
   cases hs
   exact hK
  | br s148 =>
   have hs := after_br hs
   rintro a1 w149 ⟨σ, a156, n156, c156, f156, rfl, hC, hO, h0, hb2, hb6, hv156⟩
   refine c_seq (c_region ?_)
   refine pl_val (.agg #[(.int .i64 2), (.slice a156 n156 c156)]) (y_load rfl ((box_load Ag71 Sz71 hb6 [] [(.int .i64 2), (.slice a156 n156 c156)] [] rfl rfl (fun h => nomatch h)) _ (Chg.refl _ _))) ?_
   obtain ⟨w227, hst227, hC227, hb227⟩ := box_store (P := Try.prog) hb2 [] [(.int .i64 0), (.slice none 0 0)] [] [(.int .i64 2), (.slice a156 n156 c156)] rfl rfl (by intro u hu; simp only [List.mem_cons, List.not_mem_nil, or_false] at hu; rcases hu with rfl | rfl <;> rfl)
   refine pl_skip (w' := w227) (ys_store rfl rfl (hst227 _ _ rfl Sz71)) ?_
   have hO := hO.fr2
   have h0 := h0.mut hC227 (fun g hg => hO.inM g ((fun _ h => h) g hg)) (fun _ _ h => nomatch h)
   have hb6 := hb6.chg hC227 (fun hg => hO.apart _ ((fun _ h => h) _ hg) (mem_r (mem_l (List.mem_singleton.2 rfl))))
   have hv156 := hv156.mut hC227 (fun g hg => hO.inM g ((fun _ h => h) g hg)) (fun g hg e => hO.apart g ((fun _ h => h) g hg) (mem_l (e)))
   have hC := hC.step hC227 (fun g hg => hO.inN g ((fun _ h => h) g hg))
   have hO := hO.ext hC227
   have hb227 : BoxV w227 g2 71 [(.int .i64 2), (.slice a156 n156 c156)] := hb227
   refine c_nil ?_
   refine wp_ret ?_
   cases hs
   have hO := hO.drop
   have hO := hO.fr1
   have hO := hO.drop
   exact ⟨_, g2, a156, n156, c156, f156, fr_ovl 38 ⟨rfl, trivial⟩, hb227, hC, hv156, hO.top⟩

def k_spec_l1Same (M : Nat → Prop) (w0 : World) (r : Bool) (a : Act) (w : World) : Prop :=
  ∃ (σ : Nat → Value) , a = fr 26 (ovl σ [(4, (.bool r))]) ∧ Chg [] w0 w
def s_spec_l1Same (a_ : List Int) (b : List Int) : Option (Bool) :=
  (bif ((a_.length : Int) != (b.length : Int)) then some false else (forC (S := Unit) (R := Bool) (fun k12 s10 =>
  (idx a_ k12).bind fun x17 =>
  (idx b k12).bind fun x19 =>
  (bif (x17 != x19) then some (.rt false) else some (.nx ()))) 0 (a_.length : Int) ()).bind fun o14 => after o14 (fun r_ => some r_) (fun s10 =>
  some true))
set_option maxHeartbeats 4000000 in
theorem c_spec_l1Same {M : Nat → Prop} {w : World} {pa0 : Option Addr} {pn0 pc0 : Nat} {pa1 : Option Addr} {pn1 pc1 : Nat} (a_ : List Int) (b : List Int) (h0 : (RT.rs (RT.int .i64)).val M w (.slice pa0 pn0 pc0) a_ ([])) (h1 : (RT.rs (RT.int .i64)).val M w (.slice pa1 pn1 pc1) b ([])) (hM : ∀ g, w.heap.size ≤ g → M g) {r : Bool} (hs : s_spec_l1Same a_ b = some r) :
    Gives Try.prog 86 [(.slice pa0 pn0 pc0), (.slice pa1 pn1 pc1)] w (fun v w' => v = (.bool r) ∧ Chg [] w w') := by
 refine calls_fr Try.func86 rfl Try.ntmps86 (Nat.le_of_ble_eq_true rfl) ?_
 have hO := Own.start (N := Nw w []) hM Nw.fut
 have hC := Chg.refl [] w
 unfold s_spec_l1Same at hs
 refine wp_mono (Q := KPost (k_spec_l1Same M w r)) ?_ (fun e a w1 h => ?_)
 rotate_left
 ·cases e
  case ret =>
   obtain ⟨σ, rfl, hrest⟩ := h
   exact ret1x Try.results86 (res_tmp rfl) ⟨rfl, hrest⟩
  all_goals exact (h : False).elim
 refine c_seq (c_region ?_)
 refine pl_val (.bool false) (y_assign rfl) ?_
 refine c_nil ?_
 refine c_seq ?_
 refine c_seq (c_region ?_)
 refine pl_val (.slice pa0 pn0 pc0) (y_move rfl) ?_
 refine pl_val (.int .i64 (a_.length : Int)) (y_len' Sl22 (rs_len h0) rfl) ?_
 refine pl_val (.slice pa1 pn1 pc1) (y_move rfl) ?_
 refine pl_val (.int .i64 (b.length : Int)) (y_len' Sl22 (rs_len h1) rfl) ?_
 refine pl_val (.bool ((a_.length : Int) != (b.length : Int))) (y_neq rfl rfl) ?_
 refine c_nil ?_
 rcases bif_some hs with ⟨hc3, hs⟩ | ⟨hc3, hs⟩
 ·skip
  refine c_condT (congrArg Value.bool hc3) ?_
  refine c_seq (c_region ?_)
  refine pl_val (.bool false) (y_assign rfl) ?_
  refine c_nil ?_
  refine wp_ret ?_
  cases hs
  exact ⟨_, fr_ovl 26 ⟨rfl, trivial⟩, hC⟩
 ·skip
  refine c_condF (congrArg Value.bool hc3) ?_
  refine wp_skip ?_
  refine c_seq ?_
  refine c_seq (c_region ?_)
  refine pl_val (.int .i64 0) (y_assign rfl) ?_
  refine c_nil ?_
  obtain ⟨o14, hl15, hs⟩ := bind_some hs
  refine wp_block ?_
  refine wp_forC (id := 0) (a_.length : Int) (I := fun k12 s10 a w11 => ∃ (σ : Nat → Value), a = fr 26 (ovl σ [(0, (.slice pa0 pn0 pc0)), (1, (.slice pa1 pn1 pc1)), (5, (.int .i64 k12))]) ∧ Chg [] w w11 ∧ Own (Nw w []) M w11 ([]) ∧ (RT.rs (RT.int .i64)).val M w11 (.slice pa0 pn0 pc0) a_ ([]) ∧ (RT.rs (RT.int .i64)).val M w11 (.slice pa1 pn1 pc1) b ([])) (J := fun s10 a w11 => ∃ (σ : Nat → Value), a = fr 26 (ovl σ []) ∧ Chg [] w w11 ∧ Own (Nw w []) M w11 ([]) ∧ (RT.rs (RT.int .i64)).val M w11 (.slice pa0 pn0 pc0) a_ ([]) ∧ (RT.rs (RT.int .i64)).val M w11 (.slice pa1 pn1 pc1) b ([])) (K := (k_spec_l1Same M w)) ?_ ?_ 0 () o14 _ _ ?_ hl15 ?_
  ·rintro k12 s10 a w11 ⟨σ, rfl, hC, hO, h0, h1⟩ hlt
   refine c_seq ?_
   refine c_seq (c_region ?_)
   refine pl_val (.int .i64 k12) (y_move rfl) ?_
   refine pl_val (.slice pa0 pn0 pc0) (y_move rfl) ?_
   refine pl_val (.int .i64 (a_.length : Int)) (y_len' Sl22 (rs_len h0) rfl) ?_
   refine pl_val (.bool (decide (k12 < (a_.length : Int)))) (y_lss rfl rfl) ?_
   refine c_nil ?_
   refine c_condF (congrArg Value.bool (decide_eq_false hlt)) ?_
   refine wp_exit ?_
   exact ⟨rfl, _, fr_ovl 26 trivial, hC, hO, h0, h1⟩
  ·rintro k12 s10 o14 a w11 ⟨σ, rfl, hC, hO, h0, h1⟩ hlt hw hs
   refine c_seq ?_
   refine c_seq (c_region ?_)
   refine pl_val (.int .i64 k12) (y_move rfl) ?_
   refine pl_val (.slice pa0 pn0 pc0) (y_move rfl) ?_
   refine pl_val (.int .i64 (a_.length : Int)) (y_len' Sl22 (rs_len h0) rfl) ?_
   refine pl_val (.bool (decide (k12 < (a_.length : Int)))) (y_lss rfl rfl) ?_
   refine c_nil ?_
   refine c_condT (congrArg Value.bool (decide_eq_true hlt)) ?_
   refine wp_skip ?_
   refine c_seq ?_
   refine wp_block ?_
   refine c_seq ?_
   refine x_start [] Mx rfl ?_
   have hCw16 := Chg.drew w11
   generalize World.drew w11 = w16 at hCw16 ⊢
   have h0 := h0.ext hCw16
   have h1 := h1.ext hCw16
   have hC := hC.ext hCw16
   have hO := hO.ext hCw16
   have hS := Chg.refl [] w16
   refine x_p 0 (.slice pa0 pn0 pc0) rfl (by kernel_rfl)  (fun _ => y_move rfl) (fun _ => hS) ?_
   refine x_p 1 (.int .i64 k12) rfl (by kernel_rfl)  (fun _ => y_move rfl) (fun _ => hS) ?_
   obtain ⟨x17, hx17, hs⟩ := bind_some hs
   obtain ⟨b18, o18, hp18, ha18⟩ := rs_idx Sl22 Sz3 h0 hx17
   refine x_p 2 (.pointer (some ⟨b18, o18, none⟩)) rfl (by kernel_rfl)  (fun _ => hp18 _ _ _ _ _ _ _ _ _ rfl rfl) (fun _ => hS) ?_
   refine x_l 3 (.int .i64 x17) rfl (by kernel_rfl)  (fun w' hw' => y_load rfl ((at_load_int Ag3 Sz3 ha18) w' hw')) hS ?_
   refine x_p 4 (.slice pa1 pn1 pc1) rfl (by kernel_rfl)  (fun _ => y_move rfl) (fun _ => hS) ?_
   refine x_p 5 (.int .i64 k12) rfl (by kernel_rfl)  (fun _ => y_move rfl) (fun _ => hS) ?_
   obtain ⟨x19, hx19, hs⟩ := bind_some hs
   obtain ⟨b20, o20, hp20, ha20⟩ := rs_idx Sl22 Sz3 h1 hx19
   refine x_p 6 (.pointer (some ⟨b20, o20, none⟩)) rfl (by kernel_rfl)  (fun _ => hp20 _ _ _ _ _ _ _ _ _ rfl rfl) (fun _ => hS) ?_
   refine x_l 7 (.int .i64 x19) rfl (by kernel_rfl)  (fun w' hw' => y_load rfl ((at_load_int Ag3 Sz3 ha20) w' hw')) hS ?_
   refine x_p 8 (.bool (x17 != x19)) rfl (by kernel_rfl)  (fun _ => y_neq rfl rfl) (fun _ => hS) ?_
   refine x_end (by kernel_rfl) ?_
   clear hS
   rcases bif_some hs with ⟨hc21, hs⟩ | ⟨hc21, hs⟩
   ·skip
    refine c_condT (congrArg Value.bool hc21) ?_
    refine c_seq (c_region ?_)
    refine pl_val (.bool false) (y_assign rfl) ?_
    refine c_nil ?_
    refine wp_ret ?_
    cases hs
    exact ⟨_, fr_ovl 26 ⟨rfl, trivial⟩, hC⟩
   ·skip
    refine c_condF (congrArg Value.bool hc21) ?_
    refine wp_skip ?_
    refine c_region ?_
    refine pl_val (.int .i64 k12) (y_move rfl) ?_
    refine pl_val (.int .i64 (w64 (k12 + 1))) (y_add rfl rfl) ?_
    refine pl_val (.int .i64 (w64 (k12 + 1))) (y_assign rfl) ?_
    refine c_nil ?_
    cases hs
    exact ⟨_, fr_ovl 26 ⟨rfl, rfl, congrArg (Value.int .i64) hw, trivial⟩, hC, hO, h0, h1⟩
  ·skip
   exact ⟨_, fr_ovl 26 ⟨rfl, rfl, rfl, trivial⟩, hC, hO, h0, h1⟩
  ·cases o14 with
   | nx _ => exact True.intro
   | rt r_ =>
    have hs := after_rt hs
    intro a1 w1 hK
    cases hs
    exact hK
   | br s10 =>
    have hs := after_br hs
    rintro a1 w11 ⟨σ, rfl, hC, hO, h0, h1⟩
    refine c_seq (c_region ?_)
    refine pl_val (.bool true) (y_assign rfl) ?_
    refine c_nil ?_
    refine wp_ret ?_
    cases hs
    exact ⟨_, fr_ovl 26 ⟨rfl, trivial⟩, hC⟩

theorem Sl41 : SlT Try.prog 41 22 := Try.underlying41

theorem Sz22 : SzT Try.prog 22 1 := ⟨_, rfl, rfl⟩

theorem Ag22 : AggT Try.prog 22 false := fun _ => by kernel_rfl

theorem Bd86 : Bodied Try.prog 86 := bodied Try.func86 (by kernel_rfl) rfl

def k_spec_l8Same (M : Nat → Prop) (w0 : World) (r : Bool) (a : Act) (w : World) : Prop :=
  ∃ (σ : Nat → Value) , a = fr 33 (ovl σ [(4, (.bool r))]) ∧ Chg [] w0 w
def s_spec_l8Same (r_ : List (List Int)) (s_ : List (List Int)) : Option (Bool) :=
  (iter (S := Int) (R := Bool) (fun s20 =>
  (bif ((decide (s20 < (r_.length : Int))) && (decide (s20 < (s_.length : Int)))) then (idx r_ s20).bind fun x32 =>
  (idx s_ s20).bind fun x36 =>
  (s_spec_l1Same x32 x36).bind fun r41 =>
  (bif (!r41) then some (.rt false) else some (.nx (w64 (s20 + 1)))) else some (.br s20))) FU 0).bind fun o24 => after o24 (fun r_ => some r_) (fun s20 =>
  some ((r_.length : Int) == (s_.length : Int)))
set_option maxHeartbeats 4000000 in
theorem c_spec_l8Same {M : Nat → Prop} {w : World} {pa0 : Option Addr} {pn0 pc0 : Nat} {pa1 : Option Addr} {pn1 pc1 : Nat} (r_ : List (List Int)) (s_ : List (List Int)) (h0 : (RT.rs (RT.rs (RT.int .i64))).val M w (.slice pa0 pn0 pc0) r_ ([])) (h1 : (RT.rs (RT.rs (RT.int .i64))).val M w (.slice pa1 pn1 pc1) s_ ([])) (hM : ∀ g, w.heap.size ≤ g → M g) {r : Bool} (hs : s_spec_l8Same r_ s_ = some r) :
    Gives Try.prog 73 [(.slice pa0 pn0 pc0), (.slice pa1 pn1 pc1)] w (fun v w' => v = (.bool r) ∧ Chg [] w w') := by
 refine calls_fr Try.func73 rfl Try.ntmps73 (Nat.le_of_ble_eq_true rfl) ?_
 have hO := Own.start (N := Nw w []) hM Nw.fut
 have hC := Chg.refl [] w
 unfold s_spec_l8Same at hs
 refine wp_mono (Q := KPost (k_spec_l8Same M w r)) ?_ (fun e a w1 h => ?_)
 rotate_left
 ·cases e
  case ret =>
   obtain ⟨σ, rfl, hrest⟩ := h
   exact ret1x Try.results73 (res_tmp rfl) ⟨rfl, hrest⟩
  all_goals exact (h : False).elim
 refine c_seq (c_region ?_)
 refine pl_val (.bool false) (y_assign rfl) ?_
 refine c_nil ?_
 refine c_seq ?_
 refine c_seq (c_region ?_)
 refine pl_val (.int .i64 0) (y_assign rfl) ?_
 refine c_nil ?_
 obtain ⟨o24, hl25, hs⟩ := bind_some hs
 refine wp_block ?_
 refine wp_iter (id := 0) (I := fun s20 a w21 => ∃ (σ : Nat → Value), a = fr 33 (ovl σ [(0, (.slice pa0 pn0 pc0)), (1, (.slice pa1 pn1 pc1)), (5, (.int .i64 s20))]) ∧ Chg [] w w21 ∧ Own (Nw w []) M w21 ([]) ∧ (RT.rs (RT.rs (RT.int .i64))).val M w21 (.slice pa0 pn0 pc0) r_ ([]) ∧ (RT.rs (RT.rs (RT.int .i64))).val M w21 (.slice pa1 pn1 pc1) s_ ([])) (J := fun s20 a w21 => ∃ (σ : Nat → Value), a = fr 33 (ovl σ [(0, (.slice pa0 pn0 pc0)), (1, (.slice pa1 pn1 pc1))]) ∧ Chg [] w w21 ∧ Own (Nw w []) M w21 ([]) ∧ (RT.rs (RT.rs (RT.int .i64))).val M w21 (.slice pa0 pn0 pc0) r_ ([]) ∧ (RT.rs (RT.rs (RT.int .i64))).val M w21 (.slice pa1 pn1 pc1) s_ ([])) (K := (k_spec_l8Same M w)) ?_ FU 0 o24 _ _ ?_ hl25 ?_
 ·rintro s20 o24 a w21 ⟨σ, rfl, hC, hO, h0, h1⟩ hs
  refine c_seq ?_
  refine c_seq ?_
  refine c_mid (I := fun a w27 => ∃ (σ : Nat → Value), a = fr 33 (ovl σ [(0, (.slice pa0 pn0 pc0)), (1, (.slice pa1 pn1 pc1)), (5, (.int .i64 s20)), (15, (.bool ((decide (s20 < (r_.length : Int))) && (decide (s20 < (s_.length : Int))))))]) ∧ Chg [] w21 w27) ?_ ?_
  ·have hMid := Chg.refl [] w21
   refine c_region ?_
   refine pl_val (.int .i64 s20) (y_move rfl) ?_
   refine pl_val (.slice pa0 pn0 pc0) (y_move rfl) ?_
   refine pl_val (.int .i64 (r_.length : Int)) (y_len' Sl41 (rs_len h0) rfl) ?_
   refine pl_val (.bool (decide (s20 < (r_.length : Int)))) (y_lss rfl rfl) ?_
   refine pl_val (.bool (decide (s20 < (r_.length : Int)))) (y_move rfl) ?_
   rcases Bool.eq_false_or_eq_true ((decide (s20 < (r_.length : Int)))) with hc29 | hc29
   ·skip
    refine pl_yes (.int .i64 s20) (tg := 10) (by kernel_rfl) (congrArg Value.bool hc29) (y_move rfl) ?_
    refine pl_yes (.slice pa1 pn1 pc1) (tg := 10) (by kernel_rfl) (congrArg Value.bool hc29) (y_move rfl) ?_
    refine pl_yes (.int .i64 (s_.length : Int)) (tg := 10) (by kernel_rfl) (congrArg Value.bool hc29) (y_len' Sl41 (rs_len h1) rfl) ?_
    refine pl_yes (.bool (decide (s20 < (s_.length : Int)))) (tg := 10) (by kernel_rfl) (congrArg Value.bool hc29) (y_lss rfl rfl) ?_
    refine pl_val (.bool ((decide (s20 < (r_.length : Int))) && (decide (s20 < (s_.length : Int))))) (y_pick_t (congrArg Value.bool hc29) (congrArg Value.bool (by rw [hc29]; rfl))) ?_
    refine c_nil ?_
    exact ⟨_, fr_ovl 33 ⟨rfl, rfl, rfl, rfl, trivial⟩, hMid⟩
   ·skip
    refine pl_not (tg := 10) (by kernel_rfl) (congrArg Value.bool hc29) ?_
    refine pl_not (tg := 10) (by kernel_rfl) (congrArg Value.bool hc29) ?_
    refine pl_not (tg := 10) (by kernel_rfl) (congrArg Value.bool hc29) ?_
    refine pl_not (tg := 10) (by kernel_rfl) (congrArg Value.bool hc29) ?_
    refine pl_val (.bool ((decide (s20 < (r_.length : Int))) && (decide (s20 < (s_.length : Int))))) (y_pick_f (congrArg Value.bool hc29) (congrArg Value.bool (by rw [hc29]; rfl))) ?_
    refine c_nil ?_
    exact ⟨_, fr_ovl 33 ⟨rfl, rfl, rfl, rfl, trivial⟩, hMid⟩
  ·rintro a1 w27 ⟨σ, rfl, hCs26⟩
   have h0 := h0.ext hCs26
   have h1 := h1.ext hCs26
   have hC := hC.ext hCs26
   have hO := hO.ext hCs26
   rcases bif_some hs with ⟨hc30, hs⟩ | ⟨hc30, hs⟩
   ·skip
    refine c_condT (congrArg Value.bool hc30) ?_
    refine wp_skip ?_
    refine c_seq ?_
    refine wp_block ?_
    refine c_seq ?_
    refine x_start [] Mx rfl ?_
    have hCw31 := Chg.drew w27
    generalize World.drew w27 = w31 at hCw31 ⊢
    have h0 := h0.ext hCw31
    have h1 := h1.ext hCw31
    have hC := hC.ext hCw31
    have hO := hO.ext hCw31
    have hS := Chg.refl [] w31
    refine x_p 0 (.slice pa0 pn0 pc0) rfl (by kernel_rfl)  (fun _ => y_move rfl) (fun _ => hS) ?_
    refine x_p 1 (.int .i64 s20) rfl (by kernel_rfl)  (fun _ => y_move rfl) (fun _ => hS) ?_
    obtain ⟨x32, hx32, hs⟩ := bind_some hs
    obtain ⟨b33, o33, hp33, ha33⟩ := rs_idx Sl41 Sz22 h0 hx32
    refine x_p 2 (.pointer (some ⟨b33, o33, none⟩)) rfl (by kernel_rfl)  (fun _ => hp33 _ _ _ _ _ _ _ _ _ rfl rfl) (fun _ => hS) ?_
    obtain ⟨v34, hl34, hv34⟩ := at_load Ag22 Sz22 (fun _ => rfl) ha33
    obtain ⟨a34, n34, c34, rfl⟩ := rs_sl hv34
    refine x_l 3 (.slice a34 n34 c34) rfl (by kernel_rfl)  (fun w' hw' => y_load rfl (hl34 w' hw')) hS ?_
    refine x_p 4 (.slice pa1 pn1 pc1) rfl (by kernel_rfl)  (fun _ => y_move rfl) (fun _ => hS) ?_
    refine x_p 5 (.int .i64 s20) rfl (by kernel_rfl)  (fun _ => y_move rfl) (fun _ => hS) ?_
    obtain ⟨x36, hx36, hs⟩ := bind_some hs
    obtain ⟨b37, o37, hp37, ha37⟩ := rs_idx Sl41 Sz22 h1 hx36
    refine x_p 6 (.pointer (some ⟨b37, o37, none⟩)) rfl (by kernel_rfl)  (fun _ => hp37 _ _ _ _ _ _ _ _ _ rfl rfl) (fun _ => hS) ?_
    obtain ⟨v38, hl38, hv38⟩ := at_load Ag22 Sz22 (fun _ => rfl) ha37
    obtain ⟨a38, n38, c38, rfl⟩ := rs_sl hv38
    refine x_l 7 (.slice a38 n38 c38) rfl (by kernel_rfl)  (fun w' hw' => y_load rfl (hl38 w' hw')) hS ?_
    refine x_one (i := 8) (by kernel_rfl) ?_
    obtain ⟨r41, hr41, hs⟩ := bind_some hs
    refine xk_call (b := false) rfl  Bd86 rfl (c_spec_l1Same (M := M) x32 x36 hv34 hv38 hO.fut hr41) rfl (by rintro _ _ _ ⟨rfl, hC40⟩; exact hS.ext hC40) ?_
    rintro _ w40 ⟨rfl, hC40⟩
    have h0 := h0.ext hC40
    have h1 := h1.ext hC40
    have hv34 := hv34.ext hC40
    have hv38 := hv38.ext hC40
    have hC := hC.ext hC40
    have hO := hO.ext hC40
    have hS := hS.ext hC40
    refine x_p 9 (.bool (!r41)) rfl (by kernel_rfl)  (fun _ => y_not rfl) (fun _ => hS) ?_
    refine x_end (by kernel_rfl) ?_
    clear hS
    rcases bif_some hs with ⟨hc42, hs⟩ | ⟨hc42, hs⟩
    ·skip
     refine c_condT (congrArg Value.bool hc42) ?_
     refine c_seq (c_region ?_)
     refine pl_val (.bool false) (y_assign rfl) ?_
     refine c_nil ?_
     refine wp_ret ?_
     cases hs
     exact ⟨_, fr_ovl 33 ⟨rfl, trivial⟩, hC⟩
    ·skip
     refine c_condF (congrArg Value.bool hc42) ?_
     refine wp_skip ?_
     refine c_region ?_
     refine pl_val (.int .i64 s20) (y_move rfl) ?_
     refine pl_val (.int .i64 (w64 (s20 + 1))) (y_add rfl rfl) ?_
     refine pl_val (.int .i64 (w64 (s20 + 1))) (y_assign rfl) ?_
     refine c_nil ?_
     cases hs
     exact ⟨_, fr_ovl 33 ⟨rfl, rfl, rfl, trivial⟩, hC, hO, h0, h1⟩
   ·skip
    refine c_condF (congrArg Value.bool hc30) ?_
    refine wp_exit ?_
    cases hs
    exact ⟨rfl, _, fr_ovl 33 ⟨rfl, rfl, trivial⟩, hC, hO, h0, h1⟩
 ·skip
  exact ⟨_, fr_ovl 33 ⟨rfl, rfl, rfl, trivial⟩, hC, hO, h0, h1⟩
 ·cases o24 with
  | nx _ => exact True.intro
  | rt r_ =>
   have hs := after_rt hs
   intro a1 w1 hK
   cases hs
   exact hK
  | br s20 =>
   have hs := after_br hs
   rintro a1 w21 ⟨σ, rfl, hC, hO, h0, h1⟩
   refine c_seq (c_region ?_)
   refine pl_val (.slice pa0 pn0 pc0) (y_move rfl) ?_
   refine pl_val (.int .i64 (r_.length : Int)) (y_len' Sl41 (rs_len h0) rfl) ?_
   refine pl_val (.slice pa1 pn1 pc1) (y_move rfl) ?_
   refine pl_val (.int .i64 (s_.length : Int)) (y_len' Sl41 (rs_len h1) rfl) ?_
   refine pl_val (.bool ((r_.length : Int) == (s_.length : Int))) (y_eql rfl rfl) ?_
   refine pl_val (.bool ((r_.length : Int) == (s_.length : Int))) (y_assign rfl) ?_
   refine c_nil ?_
   refine wp_ret ?_
   cases hs
   exact ⟨_, fr_ovl 33 ⟨rfl, trivial⟩, hC⟩

def k_spec_l3Less (M : Nat → Prop) (w0 : World) (r : Bool) (a : Act) (w : World) : Prop :=
  ∃ (σ : Nat → Value) , a = fr 30 (ovl σ [(4, (.bool r))]) ∧ Chg [] w0 w
def s_spec_l3Less (a_ : List Int) (b : List Int) : Option (Bool) :=
  (forC (S := Unit) (R := Bool) (fun k21 s19 =>
  (idx a_ k21).bind fun x31 =>
  (idx b k21).bind fun x33 =>
  (bif (x31 != x33) then (idx a_ k21).bind fun x37 =>
  (idx b k21).bind fun x39 =>
  some (.rt (decide (x37 < x39))) else some (.nx ()))) 0 (a_.length : Int) ()).bind fun o23 => after o23 (fun r_ => some r_) (fun s19 =>
  some false)
set_option maxHeartbeats 4000000 in
theorem c_spec_l3Less {M : Nat → Prop} {w : World} {pa0 : Option Addr} {pn0 pc0 : Nat} {pa1 : Option Addr} {pn1 pc1 : Nat} (a_ : List Int) (b : List Int) (h0 : (RT.rs (RT.int .i64)).val M w (.slice pa0 pn0 pc0) a_ ([])) (h1 : (RT.rs (RT.int .i64)).val M w (.slice pa1 pn1 pc1) b ([])) (hM : ∀ g, w.heap.size ≤ g → M g) {r : Bool} (hs : s_spec_l3Less a_ b = some r) :
    Gives Try.prog 131 [(.slice pa0 pn0 pc0), (.slice pa1 pn1 pc1)] w (fun v w' => v = (.bool r) ∧ Chg [] w w') := by
 refine calls_fr Try.func131 rfl Try.ntmps131 (Nat.le_of_ble_eq_true rfl) ?_
 have hO := Own.start (N := Nw w []) hM Nw.fut
 have hC := Chg.refl [] w
 unfold s_spec_l3Less at hs
 refine wp_mono (Q := KPost (k_spec_l3Less M w r)) ?_ (fun e a w1 h => ?_)
 rotate_left
 ·cases e
  case ret =>
   obtain ⟨σ, rfl, hrest⟩ := h
   exact ret1x Try.results131 (res_tmp rfl) ⟨rfl, hrest⟩
  all_goals exact (h : False).elim
 refine c_seq (c_region ?_)
 refine pl_val (.bool false) (y_assign rfl) ?_
 refine c_nil ?_
 refine c_seq ?_
 refine c_seq (c_region ?_)
 refine pl_val (.int .i64 0) (y_assign rfl) ?_
 refine c_nil ?_
 obtain ⟨o23, hl24, hs⟩ := bind_some hs
 refine wp_block ?_
 refine wp_forC (id := 0) (a_.length : Int) (I := fun k21 s19 a w20 => ∃ (σ : Nat → Value), a = fr 30 (ovl σ [(0, (.slice pa0 pn0 pc0)), (1, (.slice pa1 pn1 pc1)), (5, (.int .i64 k21))]) ∧ Chg [] w w20 ∧ Own (Nw w []) M w20 ([]) ∧ (RT.rs (RT.int .i64)).val M w20 (.slice pa0 pn0 pc0) a_ ([]) ∧ (RT.rs (RT.int .i64)).val M w20 (.slice pa1 pn1 pc1) b ([])) (J := fun s19 a w20 => ∃ (σ : Nat → Value), a = fr 30 (ovl σ []) ∧ Chg [] w w20 ∧ Own (Nw w []) M w20 ([]) ∧ (RT.rs (RT.int .i64)).val M w20 (.slice pa0 pn0 pc0) a_ ([]) ∧ (RT.rs (RT.int .i64)).val M w20 (.slice pa1 pn1 pc1) b ([])) (K := (k_spec_l3Less M w)) ?_ ?_ 0 () o23 _ _ ?_ hl24 ?_
 ·rintro k21 s19 a w20 ⟨σ, rfl, hC, hO, h0, h1⟩ hlt
  refine c_seq ?_
  refine c_seq (c_region ?_)
  refine pl_val (.int .i64 k21) (y_move rfl) ?_
  refine pl_val (.slice pa0 pn0 pc0) (y_move rfl) ?_
  refine pl_val (.int .i64 (a_.length : Int)) (y_len' Sl22 (rs_len h0) rfl) ?_
  refine pl_val (.bool (decide (k21 < (a_.length : Int)))) (y_lss rfl rfl) ?_
  refine c_nil ?_
  refine c_condF (congrArg Value.bool (decide_eq_false hlt)) ?_
  refine wp_exit ?_
  exact ⟨rfl, _, fr_ovl 30 trivial, hC, hO, h0, h1⟩
 ·rintro k21 s19 o23 a w20 ⟨σ, rfl, hC, hO, h0, h1⟩ hlt hw hs
  refine c_seq ?_
  refine c_seq (c_region ?_)
  refine pl_val (.int .i64 k21) (y_move rfl) ?_
  refine pl_val (.slice pa0 pn0 pc0) (y_move rfl) ?_
  refine pl_val (.int .i64 (a_.length : Int)) (y_len' Sl22 (rs_len h0) rfl) ?_
  refine pl_val (.bool (decide (k21 < (a_.length : Int)))) (y_lss rfl rfl) ?_
  refine c_nil ?_
  refine c_condT (congrArg Value.bool (decide_eq_true hlt)) ?_
  refine wp_skip ?_
  refine c_seq ?_
  refine wp_block ?_
  refine c_seq ?_
  refine x_start [] Mx rfl ?_
  have hCw30 := Chg.drew w20
  generalize World.drew w20 = w30 at hCw30 ⊢
  have h0 := h0.ext hCw30
  have h1 := h1.ext hCw30
  have hC := hC.ext hCw30
  have hO := hO.ext hCw30
  have hS := Chg.refl [] w30
  refine x_p 0 (.slice pa0 pn0 pc0) rfl (by kernel_rfl)  (fun _ => y_move rfl) (fun _ => hS) ?_
  refine x_p 1 (.int .i64 k21) rfl (by kernel_rfl)  (fun _ => y_move rfl) (fun _ => hS) ?_
  obtain ⟨x31, hx31, hs⟩ := bind_some hs
  obtain ⟨b32, o32, hp32, ha32⟩ := rs_idx Sl22 Sz3 h0 hx31
  refine x_p 2 (.pointer (some ⟨b32, o32, none⟩)) rfl (by kernel_rfl)  (fun _ => hp32 _ _ _ _ _ _ _ _ _ rfl rfl) (fun _ => hS) ?_
  refine x_l 3 (.int .i64 x31) rfl (by kernel_rfl)  (fun w' hw' => y_load rfl ((at_load_int Ag3 Sz3 ha32) w' hw')) hS ?_
  refine x_p 4 (.slice pa1 pn1 pc1) rfl (by kernel_rfl)  (fun _ => y_move rfl) (fun _ => hS) ?_
  refine x_p 5 (.int .i64 k21) rfl (by kernel_rfl)  (fun _ => y_move rfl) (fun _ => hS) ?_
  obtain ⟨x33, hx33, hs⟩ := bind_some hs
  obtain ⟨b34, o34, hp34, ha34⟩ := rs_idx Sl22 Sz3 h1 hx33
  refine x_p 6 (.pointer (some ⟨b34, o34, none⟩)) rfl (by kernel_rfl)  (fun _ => hp34 _ _ _ _ _ _ _ _ _ rfl rfl) (fun _ => hS) ?_
  refine x_l 7 (.int .i64 x33) rfl (by kernel_rfl)  (fun w' hw' => y_load rfl ((at_load_int Ag3 Sz3 ha34) w' hw')) hS ?_
  refine x_p 8 (.bool (x31 != x33)) rfl (by kernel_rfl)  (fun _ => y_neq rfl rfl) (fun _ => hS) ?_
  refine x_end (by kernel_rfl) ?_
  clear hS
  rcases bif_some hs with ⟨hc35, hs⟩ | ⟨hc35, hs⟩
  ·skip
   refine c_condT (congrArg Value.bool hc35) ?_
   refine c_seq ?_
   refine x_start [] Mx rfl ?_
   have hCw36 := Chg.drew w30
   generalize World.drew w30 = w36 at hCw36 ⊢
   have h0 := h0.ext hCw36
   have h1 := h1.ext hCw36
   have hC := hC.ext hCw36
   have hO := hO.ext hCw36
   have hS := Chg.refl [] w36
   refine x_p 0 (.slice pa0 pn0 pc0) rfl (by kernel_rfl)  (fun _ => y_move rfl) (fun _ => hS) ?_
   refine x_p 1 (.int .i64 k21) rfl (by kernel_rfl)  (fun _ => y_move rfl) (fun _ => hS) ?_
   obtain ⟨x37, hx37, hs⟩ := bind_some hs
   obtain ⟨b38, o38, hp38, ha38⟩ := rs_idx Sl22 Sz3 h0 hx37
   refine x_p 2 (.pointer (some ⟨b38, o38, none⟩)) rfl (by kernel_rfl)  (fun _ => hp38 _ _ _ _ _ _ _ _ _ rfl rfl) (fun _ => hS) ?_
   refine x_l 3 (.int .i64 x37) rfl (by kernel_rfl)  (fun w' hw' => y_load rfl ((at_load_int Ag3 Sz3 ha38) w' hw')) hS ?_
   refine x_p 4 (.slice pa1 pn1 pc1) rfl (by kernel_rfl)  (fun _ => y_move rfl) (fun _ => hS) ?_
   refine x_p 5 (.int .i64 k21) rfl (by kernel_rfl)  (fun _ => y_move rfl) (fun _ => hS) ?_
   obtain ⟨x39, hx39, hs⟩ := bind_some hs
   obtain ⟨b40, o40, hp40, ha40⟩ := rs_idx Sl22 Sz3 h1 hx39
   refine x_p 6 (.pointer (some ⟨b40, o40, none⟩)) rfl (by kernel_rfl)  (fun _ => hp40 _ _ _ _ _ _ _ _ _ rfl rfl) (fun _ => hS) ?_
   refine x_l 7 (.int .i64 x39) rfl (by kernel_rfl)  (fun w' hw' => y_load rfl ((at_load_int Ag3 Sz3 ha40) w' hw')) hS ?_
   refine x_p 8 (.bool (decide (x37 < x39))) rfl (by kernel_rfl)  (fun _ => y_lss rfl rfl) (fun _ => hS) ?_
   refine x_p 9 (.bool (decide (x37 < x39))) rfl (by kernel_rfl)  (fun _ => y_assign rfl) (fun _ => hS) ?_
   refine x_end (by kernel_rfl) ?_
   clear hS
   refine wp_ret ?_
   cases hs
   exact ⟨_, fr_ovl 30 ⟨rfl, trivial⟩, hC⟩
  ·skip
   refine c_condF (congrArg Value.bool hc35) ?_
   refine wp_skip ?_
   refine c_region ?_
   refine pl_val (.int .i64 k21) (y_move rfl) ?_
   refine pl_val (.int .i64 (w64 (k21 + 1))) (y_add rfl rfl) ?_
   refine pl_val (.int .i64 (w64 (k21 + 1))) (y_assign rfl) ?_
   refine c_nil ?_
   cases hs
   exact ⟨_, fr_ovl 30 ⟨rfl, rfl, congrArg (Value.int .i64) hw, trivial⟩, hC, hO, h0, h1⟩
 ·skip
  exact ⟨_, fr_ovl 30 ⟨rfl, rfl, rfl, trivial⟩, hC, hO, h0, h1⟩
 ·cases o23 with
  | nx _ => exact True.intro
  | rt r_ =>
   have hs := after_rt hs
   intro a1 w1 hK
   cases hs
   exact hK
  | br s19 =>
   have hs := after_br hs
   rintro a1 w20 ⟨σ, rfl, hC, hO, h0, h1⟩
   refine c_seq (c_region ?_)
   refine pl_val (.bool false) (y_assign rfl) ?_
   refine c_nil ?_
   refine wp_ret ?_
   cases hs
   exact ⟨_, fr_ovl 30 ⟨rfl, trivial⟩, hC⟩

theorem Bd131 : Bodied Try.prog 131 := bodied Try.func131 (by kernel_rfl) rfl

def k_spec_l8Find (M : Nat → Prop) (w0 : World) (r : Int × Bool) (a : Act) (w : World) : Prop :=
  ∃ (σ : Nat → Value) , a = fr 40 (ovl σ [(4, (.int .i64 r.1)), (5, (.bool r.2))]) ∧ Chg [] w0 w
def s_spec_l8Find (list : List (List Int)) (t : List Int) : Option (Int × Bool) :=
  (iter (S := Int × Int) (R := Int × Bool) (fun s11 =>
  (bif (decide (s11.1 < s11.2)) then (idx list (w64 (Int.tdiv (w64 (s11.1 + s11.2)) 2))).bind fun x18 =>
  (s_spec_l3Less x18 t).bind fun r23 =>
  (bif r23 then some (.nx (w64 ((w64 (Int.tdiv (w64 (s11.1 + s11.2)) 2)) + 1), s11.2)) else some (.nx (s11.1, w64 (Int.tdiv (w64 (s11.1 + s11.2)) 2)))) else some (.br (s11.1, s11.2)))) FU (0, (list.length : Int))).bind fun o15 => after o15 (fun r_ => some r_) (fun s11 =>
  (bif (decide (s11.1 < (list.length : Int))) then (idx list s11.1).bind fun x26 =>
  (s_spec_l1Same x26 t).bind fun r31 =>
  some (s11.1, r31) else some (s11.1, false)))
set_option maxHeartbeats 4000000 in
theorem c_spec_l8Find {M : Nat → Prop} {w : World} {pa0 : Option Addr} {pn0 pc0 : Nat} {pa1 : Option Addr} {pn1 pc1 : Nat} (list : List (List Int)) (t : List Int) (h0 : (RT.rs (RT.rs (RT.int .i64))).val M w (.slice pa0 pn0 pc0) list ([])) (h1 : (RT.rs (RT.int .i64)).val M w (.slice pa1 pn1 pc1) t ([])) (hM : ∀ g, w.heap.size ≤ g → M g) {r : Int × Bool} (hs : s_spec_l8Find list t = some r) :
    Gives Try.prog 117 [(.slice pa0 pn0 pc0), (.slice pa1 pn1 pc1)] w (fun v w' => v = (.tuple #[(.int .i64 r.1), (.bool r.2)]) ∧ Chg [] w w') := by
 refine calls_fr Try.func117 rfl Try.ntmps117 (Nat.le_of_ble_eq_true rfl) ?_
 have hO := Own.start (N := Nw w []) hM Nw.fut
 have hC := Chg.refl [] w
 unfold s_spec_l8Find at hs
 refine wp_mono (Q := KPost (k_spec_l8Find M w r)) ?_ (fun e a w1 h => ?_)
 rotate_left
 ·cases e
  case ret =>
   obtain ⟨σ, rfl, hrest⟩ := h
   exact ret2x Try.results117 (res_tmp rfl) (res_tmp rfl) ⟨rfl, hrest⟩
  all_goals exact (h : False).elim
 refine c_seq (c_region ?_)
 refine pl_val (.int .i64 0) (y_assign rfl) ?_
 refine pl_val (.bool false) (y_assign rfl) ?_
 refine c_nil ?_
 refine c_seq (c_region ?_)
 refine pl_val (.slice pa0 pn0 pc0) (y_move rfl) ?_
 refine pl_val (.int .i64 (list.length : Int)) (y_len' Sl41 (rs_len h0) rfl) ?_
 refine pl_val (.int .i64 0) (y_assign rfl) ?_
 refine pl_val (.int .i64 (list.length : Int)) (y_assign rfl) ?_
 refine c_nil ?_
 refine c_seq ?_
 obtain ⟨o15, hl16, hs⟩ := bind_some hs
 refine wp_block ?_
 refine wp_iter (id := 0) (I := fun s11 a w12 => ∃ (σ : Nat → Value), a = fr 40 (ovl σ [(0, (.slice pa0 pn0 pc0)), (1, (.slice pa1 pn1 pc1)), (6, (.int .i64 s11.1)), (7, (.int .i64 s11.2))]) ∧ Chg [] w w12 ∧ Own (Nw w []) M w12 ([]) ∧ (RT.rs (RT.rs (RT.int .i64))).val M w12 (.slice pa0 pn0 pc0) list ([]) ∧ (RT.rs (RT.int .i64)).val M w12 (.slice pa1 pn1 pc1) t ([])) (J := fun s11 a w12 => ∃ (σ : Nat → Value), a = fr 40 (ovl σ [(0, (.slice pa0 pn0 pc0)), (1, (.slice pa1 pn1 pc1)), (6, (.int .i64 s11.1))]) ∧ Chg [] w w12 ∧ Own (Nw w []) M w12 ([]) ∧ (RT.rs (RT.rs (RT.int .i64))).val M w12 (.slice pa0 pn0 pc0) list ([]) ∧ (RT.rs (RT.int .i64)).val M w12 (.slice pa1 pn1 pc1) t ([])) (K := (k_spec_l8Find M w)) ?_ FU (0, (list.length : Int)) o15 _ _ ?_ hl16 ?_
 ·rintro s11 o15 a w12 ⟨σ, rfl, hC, hO, h0, h1⟩ hs
  refine c_seq ?_
  refine c_seq (c_region ?_)
  refine pl_val (.int .i64 s11.1) (y_move rfl) ?_
  refine pl_val (.int .i64 s11.2) (y_move rfl) ?_
  refine pl_val (.bool (decide (s11.1 < s11.2))) (y_lss rfl rfl) ?_
  refine c_nil ?_
  rcases bif_some hs with ⟨hc17, hs⟩ | ⟨hc17, hs⟩
  ·skip
   refine c_condT (congrArg Value.bool hc17) ?_
   refine wp_skip ?_
   refine wp_block ?_
   refine c_seq (c_region ?_)
   refine pl_val (.int .i64 s11.1) (y_move rfl) ?_
   refine pl_val (.int .i64 s11.2) (y_move rfl) ?_
   refine pl_val (.int .i64 (w64 (s11.1 + s11.2))) (y_add rfl rfl) ?_
   refine pl_val (.int .i64 (w64 (Int.tdiv (w64 (s11.1 + s11.2)) 2))) (y_quo rfl rfl (by decide)) ?_
   refine pl_val (.int .i64 (w64 (Int.tdiv (w64 (s11.1 + s11.2)) 2))) (y_assign rfl) ?_
   refine c_nil ?_
   refine c_seq (c_region ?_)
   refine pl_val (.slice pa0 pn0 pc0) (y_move rfl) ?_
   refine pl_val (.int .i64 (w64 (Int.tdiv (w64 (s11.1 + s11.2)) 2))) (y_move rfl) ?_
   obtain ⟨x18, hx18, hs⟩ := bind_some hs
   obtain ⟨b19, o19, hp19, ha19⟩ := rs_idx Sl41 Sz22 h0 hx18
   refine pl_val (.pointer (some ⟨b19, o19, none⟩)) (hp19 _ _ _ _ _ _ _ _ _ rfl rfl) ?_
   obtain ⟨v20, hl20, hv20⟩ := at_load Ag22 Sz22 (fun _ => rfl) ha19
   obtain ⟨a20, n20, c20, rfl⟩ := rs_sl hv20
   refine pl_val (.slice a20 n20 c20) (y_load rfl (hl20 _ (Chg.refl _ _))) ?_
   refine pl_val (.slice pa1 pn1 pc1) (y_move rfl) ?_
   obtain ⟨r23, hr23, hs⟩ := bind_some hs
   refine pl_call Bd131 rfl (c_spec_l3Less (M := M) x18 t hv20 h1 hO.fut hr23) ?_
   rintro _ w22 ⟨rfl, hC22⟩
   have h0 := h0.ext hC22
   have h1 := h1.ext hC22
   have hv20 := hv20.ext hC22
   have hC := hC.ext hC22
   have hO := hO.ext hC22
   refine c_nil ?_
   rcases bif_some hs with ⟨hc24, hs⟩ | ⟨hc24, hs⟩
   ·skip
    refine c_condT (congrArg Value.bool hc24) ?_
    refine c_region ?_
    refine pl_val (.int .i64 (w64 (Int.tdiv (w64 (s11.1 + s11.2)) 2))) (y_move rfl) ?_
    refine pl_val (.int .i64 (w64 ((w64 (Int.tdiv (w64 (s11.1 + s11.2)) 2)) + 1))) (y_add rfl rfl) ?_
    refine pl_val (.int .i64 (w64 ((w64 (Int.tdiv (w64 (s11.1 + s11.2)) 2)) + 1))) (y_assign rfl) ?_
    refine c_nil ?_
    cases hs
    exact ⟨_, fr_ovl 40 ⟨rfl, rfl, rfl, rfl, trivial⟩, hC, hO, h0, h1⟩
   ·skip
    refine c_condF (congrArg Value.bool hc24) ?_
    refine c_region ?_
    refine pl_val (.int .i64 (w64 (Int.tdiv (w64 (s11.1 + s11.2)) 2))) (y_move rfl) ?_
    refine pl_val (.int .i64 (w64 (Int.tdiv (w64 (s11.1 + s11.2)) 2))) (y_assign rfl) ?_
    refine c_nil ?_
    cases hs
    exact ⟨_, fr_ovl 40 ⟨rfl, rfl, rfl, rfl, trivial⟩, hC, hO, h0, h1⟩
  ·skip
   refine c_condF (congrArg Value.bool hc17) ?_
   refine wp_exit ?_
   cases hs
   exact ⟨rfl, _, fr_ovl 40 ⟨rfl, rfl, rfl, trivial⟩, hC, hO, h0, h1⟩
 ·skip
  exact ⟨_, fr_ovl 40 ⟨rfl, rfl, rfl, rfl, trivial⟩, hC, hO, h0, h1⟩
 ·cases o15 with
  | nx _ => exact True.intro
  | rt r_ =>
   have hs := after_rt hs
   intro a1 w1 hK
   cases hs
   exact hK
  | br s11 =>
   have hs := after_br hs
   rintro a1 w12 ⟨σ, rfl, hC, hO, h0, h1⟩
   refine c_seq (c_region ?_)
   refine pl_val (.int .i64 s11.1) (y_move rfl) ?_
   refine pl_val (.int .i64 s11.1) (y_move rfl) ?_
   refine pl_val (.slice pa0 pn0 pc0) (y_move rfl) ?_
   refine pl_val (.int .i64 (list.length : Int)) (y_len' Sl41 (rs_len h0) rfl) ?_
   refine pl_val (.bool (decide (s11.1 < (list.length : Int)))) (y_lss rfl rfl) ?_
   refine pl_val (.bool (decide (s11.1 < (list.length : Int)))) (y_move rfl) ?_
   rcases bif_some hs with ⟨hc25, hs⟩ | ⟨hc25, hs⟩
   ·skip
    refine pl_yes (.slice pa0 pn0 pc0) (tg := 32) (by kernel_rfl) (congrArg Value.bool hc25) (y_move rfl) ?_
    refine pl_yes (.int .i64 s11.1) (tg := 32) (by kernel_rfl) (congrArg Value.bool hc25) (y_move rfl) ?_
    obtain ⟨x26, hx26, hs⟩ := bind_some hs
    obtain ⟨b27, o27, hp27, ha27⟩ := rs_idx Sl41 Sz22 h0 hx26
    refine pl_yes (.pointer (some ⟨b27, o27, none⟩)) (tg := 32) (by kernel_rfl) (congrArg Value.bool hc25) (hp27 _ _ _ _ _ _ _ _ _ rfl rfl) ?_
    obtain ⟨v28, hl28, hv28⟩ := at_load Ag22 Sz22 (fun _ => rfl) ha27
    obtain ⟨a28, n28, c28, rfl⟩ := rs_sl hv28
    refine pl_yes (.slice a28 n28 c28) (tg := 32) (by kernel_rfl) (congrArg Value.bool hc25) (y_load rfl (hl28 _ (Chg.refl _ _))) ?_
    refine pl_yes (.slice pa1 pn1 pc1) (tg := 32) (by kernel_rfl) (congrArg Value.bool hc25) (y_move rfl) ?_
    obtain ⟨r31, hr31, hs⟩ := bind_some hs
    refine pl_cally (tg := 32) (by kernel_rfl) (congrArg Value.bool hc25) Bd86 rfl (c_spec_l1Same (M := M) x26 t hv28 h1 hO.fut hr31) ?_
    rintro _ w30 ⟨rfl, hC30⟩
    have h0 := h0.ext hC30
    have h1 := h1.ext hC30
    have hv28 := hv28.ext hC30
    have hC := hC.ext hC30
    have hO := hO.ext hC30
    refine pl_val (.bool r31) (y_pick_t (congrArg Value.bool hc25) rfl) ?_
    refine pl_val (.int .i64 s11.1) (y_assign rfl) ?_
    refine pl_val (.bool r31) (y_assign rfl) ?_
    refine c_nil ?_
    refine wp_ret ?_
    cases hs
    exact ⟨_, fr_ovl 40 ⟨rfl, rfl, trivial⟩, hC⟩
   ·skip
    refine pl_not (tg := 32) (by kernel_rfl) (congrArg Value.bool hc25) ?_
    refine pl_not (tg := 32) (by kernel_rfl) (congrArg Value.bool hc25) ?_
    refine pl_not (tg := 32) (by kernel_rfl) (congrArg Value.bool hc25) ?_
    refine pl_not (tg := 32) (by kernel_rfl) (congrArg Value.bool hc25) ?_
    refine pl_not (tg := 32) (by kernel_rfl) (congrArg Value.bool hc25) ?_
    refine pl_not (tg := 32) (by kernel_rfl) (congrArg Value.bool hc25) ?_
    refine pl_val (.bool false) (y_pick_f (congrArg Value.bool hc25) rfl) ?_
    refine pl_val (.int .i64 s11.1) (y_assign rfl) ?_
    refine pl_val (.bool false) (y_assign rfl) ?_
    refine c_nil ?_
    refine wp_ret ?_
    cases hs
    exact ⟨_, fr_ovl 40 ⟨rfl, rfl, trivial⟩, hC⟩

theorem Fa71x0 : ∀ (a : Addr) (w : World), (Instr.fieldAt 71 (.pointer (some a)) 0).run Try.prog w = .ok (.pointer (some (a.add 0))) w := fun _ _ => by kernel_rfl

theorem Bd117 : Bodied Try.prog 117 := bodied Try.func117 (by kernel_rfl) rfl

def k_spec_l13Has (M : Nat → Prop) (w0 : World) (r : Bool) (a : Act) (w : World) : Prop :=
  ∃ (σ : Nat → Value) , a = fr 20 (ovl σ [(4, (.bool r))]) ∧ Chg [] w0 w
def s_spec_l13Has (r_ : Int × (List (List Int))) (t : List Int) : Option (Bool) :=
  (bif ((t.length : Int) != r_.1) then some false else (s_spec_l8Find r_.2 t).bind fun r6 =>
  some r6.2)
set_option maxHeartbeats 4000000 in
theorem c_spec_l13Has {M : Nat → Prop} {w : World} {pa0 : Option Addr} {pn0 pc0 : Nat} {pa1 : Option Addr} {pn1 pc1 : Nat} (r_ : Int × (List (List Int))) (t : List Int) (h0 : (RT.rs (RT.rs (RT.int .i64))).val M w (.slice pa0 pn0 pc0) r_.2 ([])) (h1 : (RT.rs (RT.int .i64)).val M w (.slice pa1 pn1 pc1) t ([])) (hM : ∀ g, w.heap.size ≤ g → M g) {r : Bool} (hs : s_spec_l13Has r_ t = some r) :
    Gives Try.prog 102 [(.agg #[(.int .i64 r_.1), (.slice pa0 pn0 pc0)]), (.slice pa1 pn1 pc1)] w (fun v w' => v = (.bool r) ∧ Chg [] w w') := by
 refine calls_fr Try.func102 rfl Try.ntmps102 (Nat.le_of_ble_eq_true rfl) ?_
 have hO := Own.start (N := Nw w []) hM Nw.fut
 have hC := Chg.refl [] w
 unfold s_spec_l13Has at hs
 refine wp_mono (Q := KPost (k_spec_l13Has M w r)) ?_ (fun e a w1 h => ?_)
 rotate_left
 ·cases e
  case ret =>
   obtain ⟨σ, rfl, hrest⟩ := h
   exact ret1x Try.results102 (res_tmp rfl) ⟨rfl, hrest⟩
  all_goals exact (h : False).elim
 refine c_seq (c_region ?_)
 obtain ⟨w3, g3, ew3, eg3, hC3, hb3⟩ := new_block w [(.int .i64 r_.1), (.slice pa0 pn0 pc0)] 71
 refine pl_val (w' := w3) (.pointer (some ⟨g3, 0, none⟩)) (y_box rfl (by rw [ew3, eg3]; kernel_rfl)) ?_
 have h0 := h0.ext hC3
 have h1 := h1.ext hC3
 have hC := hC.ext hC3
 have hO := hO.new1 hC3 eg3 hb3.lt
 refine pl_val (.bool false) (y_assign rfl) ?_
 refine c_nil ?_
 refine c_seq ?_
 refine c_seq (c_region ?_)
 refine pl_val (.slice pa1 pn1 pc1) (y_move rfl) ?_
 refine pl_val (.int .i64 (t.length : Int)) (y_len' Sl22 (rs_len h1) rfl) ?_
 refine pl_val (.pointer (some ⟨g3, 0, none⟩)) (y_faddr rfl Fa71x0) ?_
 refine pl_val (.int .i64 r_.1) (y_load rfl ((box_load Ag3 Sz3 hb3 [] [(.int .i64 r_.1)] [(.slice pa0 pn0 pc0)] rfl rfl (fun _ => rfl)) _ (Chg.refl _ _))) ?_
 refine pl_val (.bool ((t.length : Int) != r_.1)) (y_neq rfl rfl) ?_
 refine c_nil ?_
 rcases bif_some hs with ⟨hc4, hs⟩ | ⟨hc4, hs⟩
 ·skip
  refine c_condT (congrArg Value.bool hc4) ?_
  refine c_seq (c_region ?_)
  refine pl_val (.bool false) (y_assign rfl) ?_
  refine c_nil ?_
  refine wp_ret ?_
  cases hs
  exact ⟨_, fr_ovl 20 ⟨rfl, trivial⟩, hC⟩
 ·skip
  refine c_condF (congrArg Value.bool hc4) ?_
  refine wp_skip ?_
  refine c_seq (c_region ?_)
  refine pl_val (.pointer (some ⟨g3, 1, none⟩)) (y_faddr rfl Fa71x1) ?_
  refine pl_val (.slice pa0 pn0 pc0) (y_load rfl ((box_load Ag41 Sz41 hb3 [(.int .i64 r_.1)] [(.slice pa0 pn0 pc0)] [] rfl rfl (fun _ => rfl)) _ (Chg.refl _ _))) ?_
  refine pl_val (.slice pa1 pn1 pc1) (y_move rfl) ?_
  obtain ⟨r6, hr6, hs⟩ := bind_some hs
  refine pl_call Bd117 rfl (c_spec_l8Find (M := M) r_.2 t h0 h1 hO.fut hr6) ?_
  rintro _ w5 ⟨rfl, hC5⟩
  have h0 := h0.ext hC5
  have h1 := h1.ext hC5
  have hb3 := hb3.chg hC5 (fun h => nomatch h)
  have hC := hC.ext hC5
  have hO := hO.ext hC5
  refine pl_val (.tuple #[(.int .i64 r6.1), (.bool r6.2)]) (y_move rfl) ?_
  refine pl_val (.int .i64 r6.1) (y_extract rfl (by kernel_rfl)) ?_
  refine pl_val (.bool r6.2) (y_extract rfl (by kernel_rfl)) ?_
  refine pl_val (.int .i64 r6.1) (y_assign rfl) ?_
  refine pl_val (.bool r6.2) (y_assign rfl) ?_
  refine c_nil ?_
  refine c_seq (c_region ?_)
  refine pl_val (.bool r6.2) (y_move rfl) ?_
  refine pl_val (.bool r6.2) (y_assign rfl) ?_
  refine c_nil ?_
  refine wp_ret ?_
  cases hs
  exact ⟨_, fr_ovl 20 ⟨rfl, trivial⟩, hC⟩

theorem Bd102 : Bodied Try.prog 102 := bodied Try.func102 (by kernel_rfl) rfl

def k_spec_l13Compose (M : Nat → Prop) (w0 : World) (r : (Int × (List (List Int)))) (a : Act) (w : World) : Prop :=
  ∃ (σ : Nat → Value) (rg6 : Nat) (ra0 : Option Addr) (rn0 rc0 : Nat) (rf0 : List Nat), a = fr 55 (ovl σ [(6, (.pointer (some ⟨rg6, 0, none⟩)))]) ∧ BoxV w rg6 71 [(.int .i64 r.1), (.slice ra0 rn0 rc0)] ∧ Chg [] w0 w ∧ (RT.os 22 (RT.os 3 (RT.int .i64))).val M w (.slice ra0 rn0 rc0) r.2 rf0 ∧ Own (Nw w0 []) (fun _ => True) w (rf0 ++ ([]))
def s_spec_l13Compose (n : Int) (r_ : Int × (List (List Int))) (s_ : Int × (List (List Int))) : Option ((Int × (List (List Int)))) :=
  (forC (S := (List (List Int))) (R := (Int × (List (List Int)))) (fun k296 s294 =>
  (forC (S := (List (List Int))) (R := (Int × (List (List Int)))) (fun k394 s392 =>
  (iter (S := Bool × Int) (R := (Int × (List (List Int)))) (fun s416 =>
  (bif ((decide (s416.2 < n)) && (!s416.1)) then (s_spec_l13Has (r_.1, r_.2) ([k296, s416.2])).bind fun r430 =>
  (bif r430 then (s_spec_l13Has (s_.1, s_.2) ([s416.2, k394])).bind fun r435 =>
  some (.nx (r435, w64 (s416.2 + 1))) else some (.nx (false, w64 (s416.2 + 1)))) else some (.br (s416.1, s416.2)))) FU (false, 0)).bind fun o420 => after o420 (fun r_ => some (.rt r_)) (fun s416 =>
  (bif s416.1 then (app s392 ([[k296, k394]])).bind fun y442 =>
  some (.nx y442) else some (.nx s392)))) 0 n s294).bind fun o396 => after o396 (fun r_ => some (.rt r_)) (fun s392 =>
  some (.nx s392))) 0 n ([])).bind fun o298 => after o298 (fun r_ => some r_) (fun s294 =>
  some (2, s294))
set_option maxHeartbeats 4000000 in
theorem c_spec_l13Compose {M : Nat → Prop} {w : World} {pa0 : Option Addr} {pn0 pc0 : Nat} {pa1 : Option Addr} {pn1 pc1 : Nat} (n : Int) (r_ : Int × (List (List Int))) (s_ : Int × (List (List Int))) (h0 : (RT.rs (RT.rs (RT.int .i64))).val M w (.slice pa0 pn0 pc0) r_.2 ([])) (h1 : (RT.rs (RT.rs (RT.int .i64))).val M w (.slice pa1 pn1 pc1) s_.2 ([])) (hM : ∀ g, w.heap.size ≤ g → M g) {r : (Int × (List (List Int)))} (hs : s_spec_l13Compose n r_ s_ = some r) :
    Gives Try.prog 74 [(.int .i64 n), (.agg #[(.int .i64 r_.1), (.slice pa0 pn0 pc0)]), (.agg #[(.int .i64 s_.1), (.slice pa1 pn1 pc1)])] w (fun v w' => ∃ (ra0 : Option Addr) (rn0 rc0 : Nat) (rf0 : List Nat), v = (.agg #[(.int .i64 r.1), (.slice ra0 rn0 rc0)]) ∧ Chg [] w w' ∧ (RT.os 22 (RT.os 3 (RT.int .i64))).val M w' (.slice ra0 rn0 rc0) r.2 rf0 ∧ Own (Nw w []) (fun _ => True) w' (rf0 ++ ([]))) := by
 refine calls_fr Try.func74 rfl Try.ntmps74 (Nat.le_of_ble_eq_true rfl) ?_
 have hO := Own.start (N := Nw w []) hM Nw.fut
 have hC := Chg.refl [] w
 unfold s_spec_l13Compose at hs
 refine wp_mono (Q := KPost (k_spec_l13Compose M w r)) ?_ (fun e a w1 h => ?_)
 rotate_left
 ·cases e
  case ret =>
   obtain ⟨σ, rg6, ra0, rn0, rc0, rf0, rfl, hbrg6, hrest⟩ := h
   exact ret1x Try.results74 (res_cell rfl (box_load Ag71 Sz71 hbrg6 [] _ [] rfl rfl (fun h => nomatch h))) ⟨ra0, rn0, rc0, rf0, rfl, hrest⟩
  all_goals exact (h : False).elim
 refine c_seq (c_region ?_)
 obtain ⟨w3, g3, ew3, eg3, hC3, hb3⟩ := new_block w [(.int .i64 r_.1), (.slice pa0 pn0 pc0)] 71
 refine pl_val (w' := w3) (.pointer (some ⟨g3, 0, none⟩)) (y_box rfl (by rw [ew3, eg3]; kernel_rfl)) ?_
 have h0 := h0.ext hC3
 have h1 := h1.ext hC3
 have hC := hC.ext hC3
 have hO := hO.new1 hC3 eg3 hb3.lt
 obtain ⟨w4, g4, ew4, eg4, hC4, hb4⟩ := new_block w3 [(.int .i64 s_.1), (.slice pa1 pn1 pc1)] 71
 refine pl_val (w' := w4) (.pointer (some ⟨g4, 0, none⟩)) (y_box rfl (by rw [ew4, eg4]; kernel_rfl)) ?_
 have h0 := h0.ext hC4
 have h1 := h1.ext hC4
 have hb3 := hb3.chg hC4 (fun h => nomatch h)
 have hC := hC.ext hC4
 have hO := hO.new1 hC4 eg4 hb4.lt
 obtain ⟨w5, g5, ew5, eg5, hC5, hb5⟩ := new_block w4 [(.int .i64 0), (.slice none 0 0)] 71
 refine pl_val (w' := w5) (.pointer (some ⟨g5, 0, none⟩)) (y_alloc (by rw [ew5, eg5]; kernel_rfl)) ?_
 have h0 := h0.ext hC5
 have h1 := h1.ext hC5
 have hb3 := hb3.chg hC5 (fun h => nomatch h)
 have hb4 := hb4.chg hC5 (fun h => nomatch h)
 have hC := hC.ext hC5
 have hO := hO.new1 hC5 eg5 hb5.lt
 refine c_nil ?_
 refine c_seq (c_region ?_)
 obtain ⟨w6, g6, ew6, eg6, hC6, hb6⟩ := new_block w5 [] 22
 refine pl_val (w' := w6) (.slice (some ⟨g6, 0, none⟩) 0 0) (y_bslice rfl (by rw [ew6, eg6]; kernel_rfl)) ?_
 have h0 := h0.ext hC6
 have h1 := h1.ext hC6
 have hb3 := hb3.chg hC6 (fun h => nomatch h)
 have hb4 := hb4.chg hC6 (fun h => nomatch h)
 have hb5 := hb5.chg hC6 (fun h => nomatch h)
 have hC := hC.ext hC6
 have hO := hO.new1 hC6 eg6 hb6.lt
 have hv6 := os_of_box (r := (RT.os 3 (RT.int .i64))) (M := M) (css := []) (fps := []) (xs := ([] : List (List Int))) hb6 trivial (Nat.zero_le _) (List.nodup_cons.2 ⟨(fun h => nomatch h), List.nodup_nil⟩)
 have hv6 : (RT.os 22 (RT.os 3 (RT.int .i64))).val M w6 (.slice (some ⟨g6, 0, none⟩) 0 0) [] [g6] := hv6
 refine pl_val (.agg #[(.int .i64 2), (.slice (some ⟨g6, 0, none⟩) 0 0)]) (y_build rfl (by kernel_rfl)) ?_
 obtain ⟨w8, g8, ew8, eg8, hC8, hb8⟩ := new_block w6 [(.int .i64 0), (.slice none 0 0)] 71
 refine pl_val (w' := w8) (.pointer (some ⟨g8, 0, none⟩)) (y_alloc (by rw [ew8, eg8]; kernel_rfl)) ?_
 have h0 := h0.ext hC8
 have h1 := h1.ext hC8
 have hb3 := hb3.chg hC8 (fun h => nomatch h)
 have hb4 := hb4.chg hC8 (fun h => nomatch h)
 have hb5 := hb5.chg hC8 (fun h => nomatch h)
 have hv6 := hv6.ext hC8
 have hC := hC.ext hC8
 have hO := hO.new1 hC8 eg8 hb8.lt
 obtain ⟨w9, hst9, hC9, hb9⟩ := box_store (P := Try.prog) hb8 [] [(.int .i64 0), (.slice none 0 0)] [] [(.int .i64 2), (.slice (some ⟨g6, 0, none⟩) 0 0)] rfl rfl (by intro u hu; simp only [List.mem_cons, List.not_mem_nil, or_false] at hu; rcases hu with rfl | rfl <;> rfl)
 refine pl_skip (w' := w9) (ys_store rfl rfl (hst9 _ _ rfl Sz71)) ?_
 have h0 := h0.mut hC9 (fun g hg => hO.inM g ((fun _ h => h) g hg)) (fun _ _ h => nomatch h)
 have h1 := h1.mut hC9 (fun g hg => hO.inM g ((fun _ h => h) g hg)) (fun _ _ h => nomatch h)
 have hb3 := hb3.chg hC9 (fun hg => hO.apart _ ((fun _ h => h) _ hg) (mem_r (mem_r (mem_r (mem_l (List.mem_singleton.2 rfl))))))
 have hb4 := hb4.chg hC9 (fun hg => hO.apart _ ((fun _ h => h) _ hg) (mem_r (mem_r (mem_l (List.mem_singleton.2 rfl)))))
 have hb5 := hb5.chg hC9 (fun hg => hO.apart _ ((fun _ h => h) _ hg) (mem_r (mem_l (List.mem_singleton.2 rfl))))
 have hv6 := hv6.mut hC9 (fun g hg => hO.inM g ((fun _ h => h) g hg)) (fun g hg e => hO.apart g ((fun _ h => h) g hg) (mem_l (e)))
 have hC := hC.step hC9 (fun g hg => hO.inN g ((fun _ h => h) g hg))
 have hO := hO.ext hC9
 have hb9 : BoxV w9 g8 71 [(.int .i64 2), (.slice (some ⟨g6, 0, none⟩) 0 0)] := hb9
 refine c_nil ?_
 refine c_seq ?_
 refine c_seq (c_region ?_)
 refine pl_val (.int .i64 0) (y_assign rfl) ?_
 refine c_nil ?_
 obtain ⟨o298, hl299, hs⟩ := bind_some hs
 refine wp_block ?_
 refine wp_forC (id := 0) n (I := fun k296 s294 a w295 => ∃ (σ : Nat → Value) (a300 : Option Addr) (n300 : Nat) (c300 : Nat) (f300 : List Nat), a = fr 55 (ovl σ [(0, (.int .i64 n)), (4, (.pointer (some ⟨g3, 0, none⟩))), (5, (.pointer (some ⟨g4, 0, none⟩))), (6, (.pointer (some ⟨g5, 0, none⟩))), (7, (.pointer (some ⟨g8, 0, none⟩))), (8, (.int .i64 k296))]) ∧ Chg [] w w295 ∧ Own (Nw w []) M w295 (f300 ++ (([g8]) ++ (([g5]) ++ (([g4]) ++ (([g3]) ++ []))))) ∧ (RT.rs (RT.rs (RT.int .i64))).val M w295 (.slice pa0 pn0 pc0) r_.2 ([]) ∧ (RT.rs (RT.rs (RT.int .i64))).val M w295 (.slice pa1 pn1 pc1) s_.2 ([]) ∧ BoxV w295 g3 71 [(.int .i64 r_.1), (.slice pa0 pn0 pc0)] ∧ BoxV w295 g4 71 [(.int .i64 s_.1), (.slice pa1 pn1 pc1)] ∧ BoxV w295 g5 71 [(.int .i64 0), (.slice none 0 0)] ∧ BoxV w295 g8 71 [(.int .i64 2), (.slice a300 n300 c300)] ∧ (RT.os 22 (RT.os 3 (RT.int .i64))).val M w295 (.slice a300 n300 c300) s294 f300) (J := fun s294 a w295 => ∃ (σ : Nat → Value) (a302 : Option Addr) (n302 : Nat) (c302 : Nat) (f302 : List Nat), a = fr 55 (ovl σ [(6, (.pointer (some ⟨g5, 0, none⟩))), (7, (.pointer (some ⟨g8, 0, none⟩)))]) ∧ Chg [] w w295 ∧ Own (Nw w []) M w295 (f302 ++ (([g8]) ++ (([g5]) ++ (([g4]) ++ (([g3]) ++ []))))) ∧ (RT.rs (RT.rs (RT.int .i64))).val M w295 (.slice pa0 pn0 pc0) r_.2 ([]) ∧ (RT.rs (RT.rs (RT.int .i64))).val M w295 (.slice pa1 pn1 pc1) s_.2 ([]) ∧ BoxV w295 g3 71 [(.int .i64 r_.1), (.slice pa0 pn0 pc0)] ∧ BoxV w295 g4 71 [(.int .i64 s_.1), (.slice pa1 pn1 pc1)] ∧ BoxV w295 g5 71 [(.int .i64 0), (.slice none 0 0)] ∧ BoxV w295 g8 71 [(.int .i64 2), (.slice a302 n302 c302)] ∧ (RT.os 22 (RT.os 3 (RT.int .i64))).val M w295 (.slice a302 n302 c302) s294 f302) (K := (k_spec_l13Compose M w)) ?_ ?_ 0 ([]) o298 _ _ ?_ hl299 ?_
 ·rintro k296 s294 a w295 ⟨σ, a300, n300, c300, f300, rfl, hC, hO, h0, h1, hb3, hb4, hb5, hb9, hv300⟩ hlt
  refine c_seq ?_
  refine c_seq (c_region ?_)
  refine pl_val (.int .i64 k296) (y_move rfl) ?_
  refine pl_val (.int .i64 n) (y_move rfl) ?_
  refine pl_val (.bool (decide (k296 < n))) (y_lss rfl rfl) ?_
  refine c_nil ?_
  refine c_condF (congrArg Value.bool (decide_eq_false hlt)) ?_
  refine wp_exit ?_
  have hO := hO.fr4
  have hO := hO.fr4
  have hO := hO.fr4
  have hO := hO.fr4
  have hO := hO.fr4
  exact ⟨rfl, _, a300, n300, c300, f300, fr_ovl 55 ⟨rfl, rfl, trivial⟩, hC, hO, h0, h1, hb3, hb4, hb5, hb9, hv300⟩
 ·rintro k296 s294 o298 a w295 ⟨σ, a300, n300, c300, f300, rfl, hC, hO, h0, h1, hb3, hb4, hb5, hb9, hv300⟩ hlt hw hs
  refine c_seq ?_
  refine c_seq (c_region ?_)
  refine pl_val (.int .i64 k296) (y_move rfl) ?_
  refine pl_val (.int .i64 n) (y_move rfl) ?_
  refine pl_val (.bool (decide (k296 < n))) (y_lss rfl rfl) ?_
  refine c_nil ?_
  refine c_condT (congrArg Value.bool (decide_eq_true hlt)) ?_
  refine wp_skip ?_
  refine c_seq ?_
  refine wp_block ?_
  refine c_seq (c_region ?_)
  refine pl_val (.int .i64 0) (y_assign rfl) ?_
  refine c_nil ?_
  obtain ⟨o396, hl397, hs⟩ := bind_some hs
  refine wp_block ?_
  refine wp_forC (id := 2) n (I := fun k394 s392 a w393 => ∃ (σ : Nat → Value) (a398 : Option Addr) (n398 : Nat) (c398 : Nat) (f398 : List Nat), a = fr 55 (ovl σ [(0, (.int .i64 n)), (4, (.pointer (some ⟨g3, 0, none⟩))), (5, (.pointer (some ⟨g4, 0, none⟩))), (6, (.pointer (some ⟨g5, 0, none⟩))), (7, (.pointer (some ⟨g8, 0, none⟩))), (8, (.int .i64 k296)), (9, (.int .i64 k394))]) ∧ Chg [] w w393 ∧ Own (Nw w []) M w393 (f398 ++ (([g8]) ++ (([g5]) ++ (([g4]) ++ (([g3]) ++ []))))) ∧ (RT.rs (RT.rs (RT.int .i64))).val M w393 (.slice pa0 pn0 pc0) r_.2 ([]) ∧ (RT.rs (RT.rs (RT.int .i64))).val M w393 (.slice pa1 pn1 pc1) s_.2 ([]) ∧ BoxV w393 g3 71 [(.int .i64 r_.1), (.slice pa0 pn0 pc0)] ∧ BoxV w393 g4 71 [(.int .i64 s_.1), (.slice pa1 pn1 pc1)] ∧ BoxV w393 g5 71 [(.int .i64 0), (.slice none 0 0)] ∧ BoxV w393 g8 71 [(.int .i64 2), (.slice a398 n398 c398)] ∧ (RT.os 22 (RT.os 3 (RT.int .i64))).val M w393 (.slice a398 n398 c398) s392 f398) (J := fun s392 a w393 => ∃ (σ : Nat → Value) (a400 : Option Addr) (n400 : Nat) (c400 : Nat) (f400 : List Nat), a = fr 55 (ovl σ [(0, (.int .i64 n)), (4, (.pointer (some ⟨g3, 0, none⟩))), (5, (.pointer (some ⟨g4, 0, none⟩))), (6, (.pointer (some ⟨g5, 0, none⟩))), (7, (.pointer (some ⟨g8, 0, none⟩))), (8, (.int .i64 k296))]) ∧ Chg [] w w393 ∧ Own (Nw w []) M w393 (f400 ++ (([g8]) ++ (([g5]) ++ (([g4]) ++ (([g3]) ++ []))))) ∧ (RT.rs (RT.rs (RT.int .i64))).val M w393 (.slice pa0 pn0 pc0) r_.2 ([]) ∧ (RT.rs (RT.rs (RT.int .i64))).val M w393 (.slice pa1 pn1 pc1) s_.2 ([]) ∧ BoxV w393 g3 71 [(.int .i64 r_.1), (.slice pa0 pn0 pc0)] ∧ BoxV w393 g4 71 [(.int .i64 s_.1), (.slice pa1 pn1 pc1)] ∧ BoxV w393 g5 71 [(.int .i64 0), (.slice none 0 0)] ∧ BoxV w393 g8 71 [(.int .i64 2), (.slice a400 n400 c400)] ∧ (RT.os 22 (RT.os 3 (RT.int .i64))).val M w393 (.slice a400 n400 c400) s392 f400) (K := (k_spec_l13Compose M w)) ?_ ?_ 0 s294 o396 _ _ ?_ hl397 ?_
  ·rintro k394 s392 a w393 ⟨σ, a398, n398, c398, f398, rfl, hC, hO, h0, h1, hb3, hb4, hb5, hb9, hv398⟩ hlt
   refine c_seq ?_
   refine c_seq (c_region ?_)
   refine pl_val (.int .i64 k394) (y_move rfl) ?_
   refine pl_val (.int .i64 n) (y_move rfl) ?_
   refine pl_val (.bool (decide (k394 < n))) (y_lss rfl rfl) ?_
   refine c_nil ?_
   refine c_condF (congrArg Value.bool (decide_eq_false hlt)) ?_
   refine wp_exit ?_
   have hO := hO.fr4
   have hO := hO.fr4
   have hO := hO.fr4
   have hO := hO.fr4
   have hO := hO.fr4
   exact ⟨rfl, _, a398, n398, c398, f398, fr_ovl 55 ⟨rfl, rfl, rfl, rfl, rfl, rfl, trivial⟩, hC, hO, h0, h1, hb3, hb4, hb5, hb9, hv398⟩
  ·rintro k394 s392 o396 a w393 ⟨σ, a398, n398, c398, f398, rfl, hC, hO, h0, h1, hb3, hb4, hb5, hb9, hv398⟩ hlt hw hs
   refine c_seq ?_
   refine c_seq (c_region ?_)
   refine pl_val (.int .i64 k394) (y_move rfl) ?_
   refine pl_val (.int .i64 n) (y_move rfl) ?_
   refine pl_val (.bool (decide (k394 < n))) (y_lss rfl rfl) ?_
   refine c_nil ?_
   refine c_condT (congrArg Value.bool (decide_eq_true hlt)) ?_
   refine wp_skip ?_
   refine c_seq ?_
   refine wp_block ?_
   refine c_seq (c_region ?_)
   refine pl_val (.bool false) (y_assign rfl) ?_
   refine c_nil ?_
   refine c_seq ?_
   refine c_seq (c_region ?_)
   refine pl_val (.int .i64 0) (y_assign rfl) ?_
   refine c_nil ?_
   obtain ⟨o420, hl421, hs⟩ := bind_some hs
   refine wp_block ?_
   refine wp_iter (id := 4) (I := fun s416 a w417 => ∃ (σ : Nat → Value), a = fr 55 (ovl σ [(0, (.int .i64 n)), (4, (.pointer (some ⟨g3, 0, none⟩))), (5, (.pointer (some ⟨g4, 0, none⟩))), (6, (.pointer (some ⟨g5, 0, none⟩))), (7, (.pointer (some ⟨g8, 0, none⟩))), (8, (.int .i64 k296)), (9, (.int .i64 k394)), (10, (.bool s416.1)), (11, (.int .i64 s416.2))]) ∧ Chg [] w w417 ∧ Own (Nw w []) M w417 (f398 ++ (([g8]) ++ (([g5]) ++ (([g4]) ++ (([g3]) ++ []))))) ∧ (RT.rs (RT.rs (RT.int .i64))).val M w417 (.slice pa0 pn0 pc0) r_.2 ([]) ∧ (RT.rs (RT.rs (RT.int .i64))).val M w417 (.slice pa1 pn1 pc1) s_.2 ([]) ∧ BoxV w417 g3 71 [(.int .i64 r_.1), (.slice pa0 pn0 pc0)] ∧ BoxV w417 g4 71 [(.int .i64 s_.1), (.slice pa1 pn1 pc1)] ∧ BoxV w417 g5 71 [(.int .i64 0), (.slice none 0 0)] ∧ BoxV w417 g8 71 [(.int .i64 2), (.slice a398 n398 c398)] ∧ (RT.os 22 (RT.os 3 (RT.int .i64))).val M w417 (.slice a398 n398 c398) s392 f398) (J := fun s416 a w417 => ∃ (σ : Nat → Value), a = fr 55 (ovl σ [(0, (.int .i64 n)), (4, (.pointer (some ⟨g3, 0, none⟩))), (5, (.pointer (some ⟨g4, 0, none⟩))), (6, (.pointer (some ⟨g5, 0, none⟩))), (7, (.pointer (some ⟨g8, 0, none⟩))), (8, (.int .i64 k296)), (9, (.int .i64 k394)), (10, (.bool s416.1))]) ∧ Chg [] w w417 ∧ Own (Nw w []) M w417 (f398 ++ (([g8]) ++ (([g5]) ++ (([g4]) ++ (([g3]) ++ []))))) ∧ (RT.rs (RT.rs (RT.int .i64))).val M w417 (.slice pa0 pn0 pc0) r_.2 ([]) ∧ (RT.rs (RT.rs (RT.int .i64))).val M w417 (.slice pa1 pn1 pc1) s_.2 ([]) ∧ BoxV w417 g3 71 [(.int .i64 r_.1), (.slice pa0 pn0 pc0)] ∧ BoxV w417 g4 71 [(.int .i64 s_.1), (.slice pa1 pn1 pc1)] ∧ BoxV w417 g5 71 [(.int .i64 0), (.slice none 0 0)] ∧ BoxV w417 g8 71 [(.int .i64 2), (.slice a398 n398 c398)] ∧ (RT.os 22 (RT.os 3 (RT.int .i64))).val M w417 (.slice a398 n398 c398) s392 f398) (K := (k_spec_l13Compose M w)) ?_ FU (false, 0) o420 _ _ ?_ hl421 ?_
   ·rintro s416 o420 a w417 ⟨σ, rfl, hC, hO, h0, h1, hb3, hb4, hb5, hb9, hv398⟩ hs
    refine c_seq ?_
    refine c_seq ?_
    refine c_mid (I := fun a w423 => ∃ (σ : Nat → Value), a = fr 55 (ovl σ [(0, (.int .i64 n)), (4, (.pointer (some ⟨g3, 0, none⟩))), (5, (.pointer (some ⟨g4, 0, none⟩))), (6, (.pointer (some ⟨g5, 0, none⟩))), (7, (.pointer (some ⟨g8, 0, none⟩))), (8, (.int .i64 k296)), (9, (.int .i64 k394)), (10, (.bool s416.1)), (11, (.int .i64 s416.2)), (30, (.bool ((decide (s416.2 < n)) && (!s416.1))))]) ∧ Chg [] w417 w423) ?_ ?_
    ·have hMid := Chg.refl [] w417
     refine c_region ?_
     refine pl_val (.int .i64 s416.2) (y_move rfl) ?_
     refine pl_val (.int .i64 n) (y_move rfl) ?_
     refine pl_val (.bool (decide (s416.2 < n))) (y_lss rfl rfl) ?_
     refine pl_val (.bool (decide (s416.2 < n))) (y_move rfl) ?_
     rcases Bool.eq_false_or_eq_true ((decide (s416.2 < n))) with hc425 | hc425
     ·skip
      refine pl_yes (.bool s416.1) (tg := 27) (by kernel_rfl) (congrArg Value.bool hc425) (y_move rfl) ?_
      refine pl_yes (.bool (!s416.1)) (tg := 27) (by kernel_rfl) (congrArg Value.bool hc425) (y_not rfl) ?_
      refine pl_val (.bool ((decide (s416.2 < n)) && (!s416.1))) (y_pick_t (congrArg Value.bool hc425) (congrArg Value.bool (by rw [hc425]; rfl))) ?_
      refine c_nil ?_
      exact ⟨_, fr_ovl 55 ⟨rfl, rfl, rfl, rfl, rfl, rfl, rfl, rfl, rfl, rfl, trivial⟩, hMid⟩
     ·skip
      refine pl_not (tg := 27) (by kernel_rfl) (congrArg Value.bool hc425) ?_
      refine pl_not (tg := 27) (by kernel_rfl) (congrArg Value.bool hc425) ?_
      refine pl_val (.bool ((decide (s416.2 < n)) && (!s416.1))) (y_pick_f (congrArg Value.bool hc425) (congrArg Value.bool (by rw [hc425]; rfl))) ?_
      refine c_nil ?_
      exact ⟨_, fr_ovl 55 ⟨rfl, rfl, rfl, rfl, rfl, rfl, rfl, rfl, rfl, rfl, trivial⟩, hMid⟩
    ·rintro a1 w423 ⟨σ, rfl, hCs422⟩
     have h0 := h0.ext hCs422
     have h1 := h1.ext hCs422
     have hb3 := hb3.chg hCs422 (fun h => nomatch h)
     have hb4 := hb4.chg hCs422 (fun h => nomatch h)
     have hb5 := hb5.chg hCs422 (fun h => nomatch h)
     have hb9 := hb9.chg hCs422 (fun h => nomatch h)
     have hv398 := hv398.ext hCs422
     have hC := hC.ext hCs422
     have hO := hO.ext hCs422
     rcases bif_some hs with ⟨hc426, hs⟩ | ⟨hc426, hs⟩
     ·skip
      refine c_condT (congrArg Value.bool hc426) ?_
      refine wp_skip ?_
      refine c_seq ?_
      refine wp_block ?_
      refine c_region ?_
      refine pl_val (.agg #[(.int .i64 r_.1), (.slice pa0 pn0 pc0)]) (y_load rfl ((box_load Ag71 Sz71 hb3 [] [(.int .i64 r_.1), (.slice pa0 pn0 pc0)] [] rfl rfl (fun h => nomatch h)) _ (Chg.refl _ _))) ?_
      refine pl_val (.int .i64 k296) (y_move rfl) ?_
      refine pl_val (.int .i64 s416.2) (y_move rfl) ?_
      obtain ⟨w427, g427, ew427, eg427, hC427, hb427⟩ := new_block w423 [(.int .i64 k296), (.int .i64 s416.2)] 3
      refine pl_val (w' := w427) (.slice (some ⟨g427, 0, none⟩) 2 2) (y_bslice rfl (by rw [ew427, eg427]; kernel_rfl)) ?_
      have h0 := h0.ext hC427
      have h1 := h1.ext hC427
      have hb3 := hb3.chg hC427 (fun h => nomatch h)
      have hb4 := hb4.chg hC427 (fun h => nomatch h)
      have hb5 := hb5.chg hC427 (fun h => nomatch h)
      have hb9 := hb9.chg hC427 (fun h => nomatch h)
      have hv398 := hv398.ext hC427
      have hC := hC.ext hC427
      have hO := hO.new1 hC427 eg427 hb427.lt
      have hv427 := os_of_box (r := (RT.int .i64)) (M := M) (css := [[(.int .i64 k296)], [(.int .i64 s416.2)]]) (fps := [([] : List Nat), ([] : List Nat)]) (xs := ([k296, s416.2] : List Int)) hb427 ⟨⟨rfl, rfl⟩, ⟨⟨rfl, rfl⟩, trivial⟩⟩ (Nat.le_of_ble_eq_true rfl) (List.nodup_cons.2 ⟨(fun h => nomatch h), List.nodup_nil⟩)
      have hv427 : (RT.os 3 (RT.int .i64)).val M w427 (.slice (some ⟨g427, 0, none⟩) 2 2) [k296, s416.2] [g427] := hv427
      obtain ⟨r430, hr430, hs⟩ := bind_some hs
      refine pl_call Bd102 rfl (c_spec_l13Has (M := (Less M ([g427]))) (r_.1, r_.2) ([k296, s416.2]) (h0.sub Less.sub) (((Frz.os Frz.int)).val hv427 Less.sub Less.not) hO.less.fut hr430) ?_
      rintro _ w429 ⟨rfl, hC429⟩
      have h0 := h0.ext hC429
      have h1 := h1.ext hC429
      have hb3 := hb3.chg hC429 (fun h => nomatch h)
      have hb4 := hb4.chg hC429 (fun h => nomatch h)
      have hb5 := hb5.chg hC429 (fun h => nomatch h)
      have hb9 := hb9.chg hC429 (fun h => nomatch h)
      have hv398 := hv398.ext hC429
      have hv427 := hv427.ext hC429
      have hC := hC.ext hC429
      have hO := hO.ext hC429
      refine pl_val (.bool r430) (y_move rfl) ?_
      rcases bif_some hs with ⟨hc431, hs⟩ | ⟨hc431, hs⟩
      ·skip
       refine pl_yes (.agg #[(.int .i64 s_.1), (.slice pa1 pn1 pc1)]) (tg := 38) (by kernel_rfl) (congrArg Value.bool hc431) (y_load rfl ((box_load Ag71 Sz71 hb4 [] [(.int .i64 s_.1), (.slice pa1 pn1 pc1)] [] rfl rfl (fun h => nomatch h)) _ (Chg.refl _ _))) ?_
       refine pl_yes (.int .i64 s416.2) (tg := 38) (by kernel_rfl) (congrArg Value.bool hc431) (y_move rfl) ?_
       refine pl_yes (.int .i64 k394) (tg := 38) (by kernel_rfl) (congrArg Value.bool hc431) (y_move rfl) ?_
       obtain ⟨w432, g432, ew432, eg432, hC432, hb432⟩ := new_block w429 [(.int .i64 s416.2), (.int .i64 k394)] 3
       refine pl_yes (w' := w432) (.slice (some ⟨g432, 0, none⟩) 2 2) (tg := 38) (by kernel_rfl) (congrArg Value.bool hc431) (y_bslice rfl (by rw [ew432, eg432]; kernel_rfl)) ?_
       have h0 := h0.ext hC432
       have h1 := h1.ext hC432
       have hb3 := hb3.chg hC432 (fun h => nomatch h)
       have hb4 := hb4.chg hC432 (fun h => nomatch h)
       have hb5 := hb5.chg hC432 (fun h => nomatch h)
       have hb9 := hb9.chg hC432 (fun h => nomatch h)
       have hv398 := hv398.ext hC432
       have hv427 := hv427.ext hC432
       have hC := hC.ext hC432
       have hO := hO.new1 hC432 eg432 hb432.lt
       have hv432 := os_of_box (r := (RT.int .i64)) (M := M) (css := [[(.int .i64 s416.2)], [(.int .i64 k394)]]) (fps := [([] : List Nat), ([] : List Nat)]) (xs := ([s416.2, k394] : List Int)) hb432 ⟨⟨rfl, rfl⟩, ⟨⟨rfl, rfl⟩, trivial⟩⟩ (Nat.le_of_ble_eq_true rfl) (List.nodup_cons.2 ⟨(fun h => nomatch h), List.nodup_nil⟩)
       have hv432 : (RT.os 3 (RT.int .i64)).val M w432 (.slice (some ⟨g432, 0, none⟩) 2 2) [s416.2, k394] [g432] := hv432
       obtain ⟨r435, hr435, hs⟩ := bind_some hs
       refine pl_cally (tg := 38) (by kernel_rfl) (congrArg Value.bool hc431) Bd102 rfl (c_spec_l13Has (M := (Less M ([g432]))) (s_.1, s_.2) ([s416.2, k394]) (h1.sub Less.sub) (((Frz.os Frz.int)).val hv432 Less.sub Less.not) hO.less.fut hr435) ?_
       rintro _ w434 ⟨rfl, hC434⟩
       have h0 := h0.ext hC434
       have h1 := h1.ext hC434
       have hb3 := hb3.chg hC434 (fun h => nomatch h)
       have hb4 := hb4.chg hC434 (fun h => nomatch h)
       have hb5 := hb5.chg hC434 (fun h => nomatch h)
       have hb9 := hb9.chg hC434 (fun h => nomatch h)
       have hv398 := hv398.ext hC434
       have hv427 := hv427.ext hC434
       have hv432 := hv432.ext hC434
       have hC := hC.ext hC434
       have hO := hO.ext hC434
       refine pl_val (.bool r435) (y_pick_t (congrArg Value.bool hc431) rfl) ?_
       refine pl_val (.bool r435) (y_assign rfl) ?_
       refine c_nil ?_
       refine c_region ?_
       refine pl_val (.int .i64 s416.2) (y_move rfl) ?_
       refine pl_val (.int .i64 (w64 (s416.2 + 1))) (y_add rfl rfl) ?_
       refine pl_val (.int .i64 (w64 (s416.2 + 1))) (y_assign rfl) ?_
       refine c_nil ?_
       cases hs
       have hO := hO.drop
       have hO := hO.drop
       have hO := hO.fr4
       have hO := hO.fr4
       have hO := hO.fr4
       have hO := hO.fr4
       have hO := hO.fr4
       exact ⟨_, fr_ovl 55 ⟨rfl, rfl, rfl, rfl, rfl, rfl, rfl, rfl, rfl, trivial⟩, hC, hO, h0, h1, hb3, hb4, hb5, hb9, hv398⟩
      ·skip
       refine pl_not (tg := 38) (by kernel_rfl) (congrArg Value.bool hc431) ?_
       refine pl_not (tg := 38) (by kernel_rfl) (congrArg Value.bool hc431) ?_
       refine pl_not (tg := 38) (by kernel_rfl) (congrArg Value.bool hc431) ?_
       refine pl_not (tg := 38) (by kernel_rfl) (congrArg Value.bool hc431) ?_
       refine pl_not (tg := 38) (by kernel_rfl) (congrArg Value.bool hc431) ?_
       refine pl_val (.bool false) (y_pick_f (congrArg Value.bool hc431) rfl) ?_
       refine pl_val (.bool false) (y_assign rfl) ?_
       refine c_nil ?_
       refine c_region ?_
       refine pl_val (.int .i64 s416.2) (y_move rfl) ?_
       refine pl_val (.int .i64 (w64 (s416.2 + 1))) (y_add rfl rfl) ?_
       refine pl_val (.int .i64 (w64 (s416.2 + 1))) (y_assign rfl) ?_
       refine c_nil ?_
       cases hs
       have hO := hO.drop
       have hO := hO.fr4
       have hO := hO.fr4
       have hO := hO.fr4
       have hO := hO.fr4
       have hO := hO.fr4
       exact ⟨_, fr_ovl 55 ⟨rfl, rfl, rfl, rfl, rfl, rfl, rfl, rfl, rfl, trivial⟩, hC, hO, h0, h1, hb3, hb4, hb5, hb9, hv398⟩
     ·skip
      refine c_condF (congrArg Value.bool hc426) ?_
      refine wp_exit ?_
      cases hs
      have hO := hO.fr4
      have hO := hO.fr4
      have hO := hO.fr4
      have hO := hO.fr4
      have hO := hO.fr4
      exact ⟨rfl, _, fr_ovl 55 ⟨rfl, rfl, rfl, rfl, rfl, rfl, rfl, rfl, trivial⟩, hC, hO, h0, h1, hb3, hb4, hb5, hb9, hv398⟩
   ·skip
    have hO := hO.fr4
    have hO := hO.fr4
    have hO := hO.fr4
    have hO := hO.fr4
    have hO := hO.fr4
    exact ⟨_, fr_ovl 55 ⟨rfl, rfl, rfl, rfl, rfl, rfl, rfl, rfl, rfl, trivial⟩, hC, hO, h0, h1, hb3, hb4, hb5, hb9, hv398⟩
   ·cases o420 with
    | nx _ => exact True.intro
    | rt r_ =>
     have hs := after_rt hs
     intro a1 w1 hK
     cases hs
     exact hK
    | br s416 =>
     have hs := after_br hs
     rintro a1 w417 ⟨σ, rfl, hC, hO, h0, h1, hb3, hb4, hb5, hb9, hv398⟩
     refine c_seq (c_region ?_)
     refine pl_val (.bool s416.1) (y_move rfl) ?_
     refine c_nil ?_
     rcases bif_some hs with ⟨hc436, hs⟩ | ⟨hc436, hs⟩
     ·skip
      refine c_condT (congrArg Value.bool hc436) ?_
      refine c_region ?_
      refine pl_val (.pointer (some ⟨g8, 1, none⟩)) (y_faddr rfl Fa71x1) ?_
      refine pl_val (.slice a398 n398 c398) (y_load rfl ((box_load Ag41 Sz41 hb9 [(.int .i64 2)] [(.slice a398 n398 c398)] [] rfl rfl (fun _ => rfl)) _ (Chg.refl _ _))) ?_
      refine pl_val (.int .i64 k296) (y_move rfl) ?_
      refine pl_val (.int .i64 k394) (y_move rfl) ?_
      obtain ⟨w437, g437, ew437, eg437, hC437, hb437⟩ := new_block w417 [(.int .i64 k296), (.int .i64 k394)] 3
      refine pl_val (w' := w437) (.slice (some ⟨g437, 0, none⟩) 2 2) (y_bslice rfl (by rw [ew437, eg437]; kernel_rfl)) ?_
      have h0 := h0.ext hC437
      have h1 := h1.ext hC437
      have hb3 := hb3.chg hC437 (fun h => nomatch h)
      have hb4 := hb4.chg hC437 (fun h => nomatch h)
      have hb5 := hb5.chg hC437 (fun h => nomatch h)
      have hb9 := hb9.chg hC437 (fun h => nomatch h)
      have hv398 := hv398.ext hC437
      have hC := hC.ext hC437
      have hO := hO.new1 hC437 eg437 hb437.lt
      have hv437 := os_of_box (r := (RT.int .i64)) (M := M) (css := [[(.int .i64 k296)], [(.int .i64 k394)]]) (fps := [([] : List Nat), ([] : List Nat)]) (xs := ([k296, k394] : List Int)) hb437 ⟨⟨rfl, rfl⟩, ⟨⟨rfl, rfl⟩, trivial⟩⟩ (Nat.le_of_ble_eq_true rfl) (List.nodup_cons.2 ⟨(fun h => nomatch h), List.nodup_nil⟩)
      have hv437 : (RT.os 3 (RT.int .i64)).val M w437 (.slice (some ⟨g437, 0, none⟩) 2 2) [k296, k394] [g437] := hv437
      obtain ⟨w439, g439, ew439, eg439, hC439, hb439⟩ := new_block w437 [(.slice (some ⟨g437, 0, none⟩) 2 2)] 22
      refine pl_val (w' := w439) (.slice (some ⟨g439, 0, none⟩) 1 1) (y_bslice rfl (by rw [ew439, eg439]; kernel_rfl)) ?_
      have h0 := h0.ext hC439
      have h1 := h1.ext hC439
      have hb3 := hb3.chg hC439 (fun h => nomatch h)
      have hb4 := hb4.chg hC439 (fun h => nomatch h)
      have hb5 := hb5.chg hC439 (fun h => nomatch h)
      have hb9 := hb9.chg hC439 (fun h => nomatch h)
      have hv398 := hv398.ext hC439
      have hv437 := hv437.ext hC439
      have hC := hC.ext hC439
      have hO := hO.new1 hC439 eg439 hb439.lt
      have hO := hO.perm (R := (g439 :: ((([g437])) ++ ([]))) ++ (f398 ++ (([g8]) ++ (([g5]) ++ (([g4]) ++ (([g3]) ++ ([]))))))) (by simp)
      have hnd439 := hO.nd
      have hv439 := os_of_box (r := (RT.os 3 (RT.int .i64))) (M := M) (css := [[(.slice (some ⟨g437, 0, none⟩) 2 2)]]) (fps := [([g437] : List Nat)]) (xs := ([[k296, k394]] : List (List Int))) hb439 ⟨(os_unval hv437), trivial⟩ (Nat.le_of_ble_eq_true rfl) hnd439
      have hv439 : (RT.os 22 (RT.os 3 (RT.int .i64))).val M w439 (.slice (some ⟨g439, 0, none⟩) 1 1) [[k296, k394]] (g439 :: ((([g437])) ++ ([]))) := hv439
      obtain ⟨y442, hy442, hs⟩ := bind_some hs
      have hO := hO.fr1
      obtain ⟨a441, n441, c441, w441, f441, hr441, hC441, hf441, hv441⟩ := app_os Rw41 hy442 hv398 hv439 hO.inM (fun g hg hq => hO.apart g hq (mem_l hg))
      have hG441 := os_block hv398
      refine pl_val (w' := w441) (.slice a441 n441 c441) (y_append rfl rfl (hr441 _)) ?_
      have hO := hO.fr1
      have hO := hO.fr1
      have h0 := h0.mut hC441 (fun g hg => hO.inM g (hG441 g hg)) (fun _ _ h => nomatch h)
      have h1 := h1.mut hC441 (fun g hg => hO.inM g (hG441 g hg)) (fun _ _ h => nomatch h)
      have hb3 := hb3.chg hC441 (fun hg => hO.apart _ (hG441 _ hg) (mem_r (mem_r (mem_r (mem_r (mem_l (List.mem_singleton.2 rfl)))))))
      have hb4 := hb4.chg hC441 (fun hg => hO.apart _ (hG441 _ hg) (mem_r (mem_r (mem_r (mem_l (List.mem_singleton.2 rfl))))))
      have hb5 := hb5.chg hC441 (fun hg => hO.apart _ (hG441 _ hg) (mem_r (mem_r (mem_l (List.mem_singleton.2 rfl)))))
      have hb9 := hb9.chg hC441 (fun hg => hO.apart _ (hG441 _ hg) (mem_r (mem_l (List.mem_singleton.2 rfl))))
      have hC := hC.step hC441 (fun g hg => hO.inN g (hG441 g hg))
      have hO := hO.eat hC441 hf441 (os_nodup hv441) hv441.fpl
      refine pl_val (.pointer (some ⟨g8, 1, none⟩)) (y_faddr rfl Fa71x1) ?_
      obtain ⟨w444, hst444, hC444, hb444⟩ := box_store (P := Try.prog) hb9 [(.int .i64 2)] [(.slice a398 n398 c398)] [] [(.slice a441 n441 c441)] rfl rfl (by intro u hu; simp only [List.mem_cons, List.not_mem_nil, or_false] at hu; rcases hu with rfl <;> rfl)
      refine pl_skip (w' := w444) (ys_store rfl rfl (hst444 _ _ rfl Sz41)) ?_
      have hO := hO.fr1
      have h0 := h0.mut hC444 (fun g hg => hO.inM g ((fun _ h => h) g hg)) (fun _ _ h => nomatch h)
      have h1 := h1.mut hC444 (fun g hg => hO.inM g ((fun _ h => h) g hg)) (fun _ _ h => nomatch h)
      have hb3 := hb3.chg hC444 (fun hg => hO.apart _ ((fun _ h => h) _ hg) (mem_r (mem_r (mem_r (mem_l (List.mem_singleton.2 rfl))))))
      have hb4 := hb4.chg hC444 (fun hg => hO.apart _ ((fun _ h => h) _ hg) (mem_r (mem_r (mem_l (List.mem_singleton.2 rfl)))))
      have hb5 := hb5.chg hC444 (fun hg => hO.apart _ ((fun _ h => h) _ hg) (mem_r (mem_l (List.mem_singleton.2 rfl))))
      have hv441 := hv441.mut hC444 (fun g hg => hO.inM g ((fun _ h => h) g hg)) (fun g hg e => hO.apart g ((fun _ h => h) g hg) (mem_l (e)))
      have hC := hC.step hC444 (fun g hg => hO.inN g ((fun _ h => h) g hg))
      have hO := hO.ext hC444
      have hb444 : BoxV w444 g8 71 [(.int .i64 2), (.slice a441 n441 c441)] := hb444
      refine c_nil ?_
      refine c_region ?_
      refine pl_val (.int .i64 k394) (y_move rfl) ?_
      refine pl_val (.int .i64 (w64 (k394 + 1))) (y_add rfl rfl) ?_
      refine pl_val (.int .i64 (w64 (k394 + 1))) (y_assign rfl) ?_
      refine c_nil ?_
      cases hs
      have hO := hO.fr4
      have hO := hO.fr4
      have hO := hO.fr4
      have hO := hO.fr3
      have hO := hO.fr4
      exact ⟨_, a441, n441, c441, f441, fr_ovl 55 ⟨rfl, rfl, rfl, rfl, rfl, rfl, congrArg (Value.int .i64) hw, trivial⟩, hC, hO, h0, h1, hb3, hb4, hb5, hb444, hv441⟩
     ·skip
      refine c_condF (congrArg Value.bool hc436) ?_
      refine wp_skip ?_
      refine c_region ?_
      refine pl_val (.int .i64 k394) (y_move rfl) ?_
      refine pl_val (.int .i64 (w64 (k394 + 1))) (y_add rfl rfl) ?_
      refine pl_val (.int .i64 (w64 (k394 + 1))) (y_assign rfl) ?_
      refine c_nil ?_
      cases hs
      have hO := hO.fr4
      have hO := hO.fr4
      have hO := hO.fr4
      have hO := hO.fr4
      have hO := hO.fr4
      exact ⟨_, a398, n398, c398, f398, fr_ovl 55 ⟨rfl, rfl, rfl, rfl, rfl, rfl, congrArg (Value.int .i64) hw, trivial⟩, hC, hO, h0, h1, hb3, hb4, hb5, hb9, hv398⟩
  ·skip
   have hO := hO.fr4
   have hO := hO.fr4
   have hO := hO.fr4
   have hO := hO.fr4
   have hO := hO.fr4
   exact ⟨_, a300, n300, c300, f300, fr_ovl 55 ⟨rfl, rfl, rfl, rfl, rfl, rfl, rfl, trivial⟩, hC, hO, h0, h1, hb3, hb4, hb5, hb9, hv300⟩
  ·cases o396 with
   | nx _ => exact True.intro
   | rt r_ =>
    have hs := after_rt hs
    intro a1 w1 hK
    cases hs
    exact hK
   | br s392 =>
    have hs := after_br hs
    rintro a1 w393 ⟨σ, a400, n400, c400, f400, rfl, hC, hO, h0, h1, hb3, hb4, hb5, hb9, hv400⟩
    refine c_region ?_
    refine pl_val (.int .i64 k296) (y_move rfl) ?_
    refine pl_val (.int .i64 (w64 (k296 + 1))) (y_add rfl rfl) ?_
    refine pl_val (.int .i64 (w64 (k296 + 1))) (y_assign rfl) ?_
    refine c_nil ?_
    cases hs
    have hO := hO.fr4
    have hO := hO.fr4
    have hO := hO.fr4
    have hO := hO.fr4
    have hO := hO.fr4
    exact ⟨_, a400, n400, c400, f400, fr_ovl 55 ⟨rfl, rfl, rfl, rfl, rfl, congrArg (Value.int .i64) hw, trivial⟩, hC, hO, h0, h1, hb3, hb4, hb5, hb9, hv400⟩
 ·skip
  have hO := hO.fr4
  have hO := hO.fr4
  have hO := hO.fr4
  have hO := hO.fr3
  have hO := hO.fr4
  exact ⟨_, (some ⟨g6, 0, none⟩), 0, 0, ([g6]), fr_ovl 55 ⟨rfl, rfl, rfl, rfl, rfl, rfl, trivial⟩, hC, hO, h0, h1, hb3, hb4, hb5, hb9, hv6⟩
 ·cases o298 with
  | nx _ => exact True.intro
  | rt r_ =>
   have hs := after_rt hs
   intro a1 w1 hK
   cases hs
   exact hK
  | br s294 =>
   have hs := after_br hs
   rintro a1 w295 ⟨σ, a302, n302, c302, f302, rfl, hC, hO, h0, h1, hb3, hb4, hb5, hb9, hv302⟩
   refine c_seq (c_region ?_)
   refine pl_val (.agg #[(.int .i64 2), (.slice a302 n302 c302)]) (y_load rfl ((box_load Ag71 Sz71 hb9 [] [(.int .i64 2), (.slice a302 n302 c302)] [] rfl rfl (fun h => nomatch h)) _ (Chg.refl _ _))) ?_
   obtain ⟨w445, hst445, hC445, hb445⟩ := box_store (P := Try.prog) hb5 [] [(.int .i64 0), (.slice none 0 0)] [] [(.int .i64 2), (.slice a302 n302 c302)] rfl rfl (by intro u hu; simp only [List.mem_cons, List.not_mem_nil, or_false] at hu; rcases hu with rfl | rfl <;> rfl)
   refine pl_skip (w' := w445) (ys_store rfl rfl (hst445 _ _ rfl Sz71)) ?_
   have hO := hO.fr2
   have h0 := h0.mut hC445 (fun g hg => hO.inM g ((fun _ h => h) g hg)) (fun _ _ h => nomatch h)
   have h1 := h1.mut hC445 (fun g hg => hO.inM g ((fun _ h => h) g hg)) (fun _ _ h => nomatch h)
   have hb3 := hb3.chg hC445 (fun hg => hO.apart _ ((fun _ h => h) _ hg) (mem_r (mem_r (mem_r (mem_l (List.mem_singleton.2 rfl))))))
   have hb4 := hb4.chg hC445 (fun hg => hO.apart _ ((fun _ h => h) _ hg) (mem_r (mem_r (mem_l (List.mem_singleton.2 rfl)))))
   have hb9 := hb9.chg hC445 (fun hg => hO.apart _ ((fun _ h => h) _ hg) (mem_r (mem_l (List.mem_singleton.2 rfl))))
   have hv302 := hv302.mut hC445 (fun g hg => hO.inM g ((fun _ h => h) g hg)) (fun g hg e => hO.apart g ((fun _ h => h) g hg) (mem_l (e)))
   have hC := hC.step hC445 (fun g hg => hO.inN g ((fun _ h => h) g hg))
   have hO := hO.ext hC445
   have hb445 : BoxV w445 g5 71 [(.int .i64 2), (.slice a302 n302 c302)] := hb445
   refine c_nil ?_
   refine wp_ret ?_
   cases hs
   have hO := hO.drop
   have hO := hO.fr1
   have hO := hO.drop
   have hO := hO.fr1
   have hO := hO.drop
   have hO := hO.fr1
   have hO := hO.drop
   exact ⟨_, g5, a302, n302, c302, f302, fr_ovl 55 ⟨rfl, trivial⟩, hb445, hC, hv302, hO.top⟩

theorem Bd72 : Bodied Try.prog 72 := bodied Try.func72 (by kernel_rfl) rfl

theorem Bd71 : Bodied Try.prog 71 := bodied Try.func71 (by kernel_rfl) rfl

theorem Bd73 : Bodied Try.prog 73 := bodied Try.func73 (by kernel_rfl) rfl

theorem Bd74 : Bodied Try.prog 74 := bodied Try.func74 (by kernel_rfl) rfl

def k_spec_l16Factors (M : Nat → Prop) (w0 : World) (r : Int) (a : Act) (w : World) : Prop :=
  ∃ (σ : Nat → Value) , a = fr 38 (ovl σ [(4, (.int .i64 r))]) ∧ Chg [] w0 w
def s_spec_l16Factors (p : List Int) (q : List Int) : Option (Int) :=
  (s_spec_l6Join p q).bind fun r4 =>
  (s_spec_l13OfPartition r4).bind fun r7 =>
  (s_spec_l13OfPartition p).bind fun r10 =>
  (iter (S := Int × Int × (List (List Int))) (R := Int) (fun s58 =>
  (s_spec_l8Same s58.2.2 r7.2).bind fun r70 =>
  (bif (!r70) then (bif ((Int.tmod (w64 (s58.1 + 1)) 2) == 0) then (s_spec_l13OfPartition q).bind fun r75 =>
  (s_spec_l13Compose (p.length : Int) (s58.2.1, s58.2.2) (r75.1, r75.2)).bind fun r78 =>
  some (.nx (w64 (s58.1 + 1), r78.1, r78.2)) else (s_spec_l13OfPartition p).bind fun r83 =>
  (s_spec_l13Compose (p.length : Int) (s58.2.1, s58.2.2) (r83.1, r83.2)).bind fun r86 =>
  some (.nx (w64 (s58.1 + 1), r86.1, r86.2))) else some (.br (s58.1, s58.2.1, s58.2.2)))) FU (1, r10.1, r10.2)).bind fun o62 => after o62 (fun r_ => some r_) (fun s58 =>
  some s58.1)
set_option maxHeartbeats 4000000 in
theorem c_spec_l16Factors {M : Nat → Prop} {w : World} {pa0 : Option Addr} {pn0 pc0 : Nat} {pa1 : Option Addr} {pn1 pc1 : Nat} (p : List Int) (q : List Int) (h0 : (RT.rs (RT.int .i64)).val M w (.slice pa0 pn0 pc0) p ([])) (h1 : (RT.rs (RT.int .i64)).val M w (.slice pa1 pn1 pc1) q ([])) (hM : ∀ g, w.heap.size ≤ g → M g) {r : Int} (hs : s_spec_l16Factors p q = some r) :
    Gives Try.prog 45 [(.slice pa0 pn0 pc0), (.slice pa1 pn1 pc1)] w (fun v w' => v = (.int .i64 r) ∧ Chg [] w w') := by
 refine calls_fr Try.func45 rfl Try.ntmps45 (Nat.le_of_ble_eq_true rfl) ?_
 have hO := Own.start (N := Nw w []) hM Nw.fut
 have hC := Chg.refl [] w
 unfold s_spec_l16Factors at hs
 refine wp_mono (Q := KPost (k_spec_l16Factors M w r)) ?_ (fun e a w1 h => ?_)
 rotate_left
 ·cases e
  case ret =>
   obtain ⟨σ, rfl, hrest⟩ := h
   exact ret1x Try.results45 (res_tmp rfl) ⟨rfl, hrest⟩
  all_goals exact (h : False).elim
 refine c_seq (c_region ?_)
 refine pl_val (.int .i64 0) (y_assign rfl) ?_
 refine c_nil ?_
 refine c_seq (c_region ?_)
 refine pl_val (.slice pa0 pn0 pc0) (y_move rfl) ?_
 refine pl_val (.slice pa1 pn1 pc1) (y_move rfl) ?_
 obtain ⟨r4, hr4, hs⟩ := bind_some hs
 refine pl_call Bd72 rfl (c_spec_l6Join (M := M) p q h0 h1 hO.fut hr4) ?_
 rintro _ w3 ⟨a3x0, n3x0, c3x0, f3x0, rfl, hC3, hv3x0, hOc3⟩
 have h0 := h0.ext hC3
 have h1 := h1.ext hC3
 have hC := hC.ext hC3
 have hO := Own.join0 hO hC3 hOc3
 have hO := hO.perm (R := f3x0 ++ ([])) (by simp)
 obtain ⟨r7, hr7, hs⟩ := bind_some hs
 refine pl_call Bd71 rfl (c_spec_l13OfPartition (M := (Less M f3x0)) r4 (((Frz.os Frz.int)).val hv3x0 Less.sub Less.not) hO.less.fut hr7) ?_
 rintro _ w6 ⟨a6x0, n6x0, c6x0, f6x0, rfl, hC6, hv6x0, hOc6⟩
 have h0 := h0.ext hC6
 have h1 := h1.ext hC6
 have hv3x0 := hv3x0.ext hC6
 have hC := hC.ext hC6
 have hO := Own.join0 hO hC6 hOc6
 have hO := hO.perm (R := f6x0 ++ (f3x0 ++ ([]))) (by simp)
 have hv6x0 := hv6x0.free (M' := M) (Free.os (Free.os Free.int))
 refine pl_val (.slice pa0 pn0 pc0) (y_move rfl) ?_
 obtain ⟨r10, hr10, hs⟩ := bind_some hs
 refine pl_call Bd71 rfl (c_spec_l13OfPartition (M := M) p h0 hO.fut hr10) ?_
 rintro _ w9 ⟨a9x0, n9x0, c9x0, f9x0, rfl, hC9, hv9x0, hOc9⟩
 have h0 := h0.ext hC9
 have h1 := h1.ext hC9
 have hv3x0 := hv3x0.ext hC9
 have hv6x0 := hv6x0.ext hC9
 have hC := hC.ext hC9
 have hO := Own.join0 hO hC9 hOc9
 have hO := hO.perm (R := f9x0 ++ (f6x0 ++ (f3x0 ++ ([])))) (by simp)
 obtain ⟨w12, g12, ew12, eg12, hC12, hb12⟩ := new_block w9 [(.int .i64 0), (.slice none 0 0)] 71
 refine pl_val (w' := w12) (.pointer (some ⟨g12, 0, none⟩)) (y_alloc (by rw [ew12, eg12]; kernel_rfl)) ?_
 have h0 := h0.ext hC12
 have h1 := h1.ext hC12
 have hv3x0 := hv3x0.ext hC12
 have hv6x0 := hv6x0.ext hC12
 have hv9x0 := hv9x0.ext hC12
 have hC := hC.ext hC12
 have hO := hO.new1 hC12 eg12 hb12.lt
 obtain ⟨w13, g13, ew13, eg13, hC13, hb13⟩ := new_block w12 [(.int .i64 0), (.slice none 0 0)] 71
 refine pl_val (w' := w13) (.pointer (some ⟨g13, 0, none⟩)) (y_alloc (by rw [ew13, eg13]; kernel_rfl)) ?_
 have h0 := h0.ext hC13
 have h1 := h1.ext hC13
 have hv3x0 := hv3x0.ext hC13
 have hv6x0 := hv6x0.ext hC13
 have hv9x0 := hv9x0.ext hC13
 have hb12 := hb12.chg hC13 (fun h => nomatch h)
 have hC := hC.ext hC13
 have hO := hO.new1 hC13 eg13 hb13.lt
 obtain ⟨w14, hst14, hC14, hb14⟩ := box_store (P := Try.prog) hb12 [] [(.int .i64 0), (.slice none 0 0)] [] [(.int .i64 r7.1), (.slice a6x0 n6x0 c6x0)] rfl rfl (by intro u hu; simp only [List.mem_cons, List.not_mem_nil, or_false] at hu; rcases hu with rfl | rfl <;> rfl)
 refine pl_skip (w' := w14) (ys_store rfl rfl (hst14 _ _ rfl Sz71)) ?_
 have hO := hO.fr1
 have h0 := h0.mut hC14 (fun g hg => hO.inM g ((fun _ h => h) g hg)) (fun _ _ h => nomatch h)
 have h1 := h1.mut hC14 (fun g hg => hO.inM g ((fun _ h => h) g hg)) (fun _ _ h => nomatch h)
 have hv3x0 := hv3x0.mut hC14 (fun g hg => hO.inM g ((fun _ h => h) g hg)) (fun g hg e => hO.apart g ((fun _ h => h) g hg) (mem_r (mem_r (mem_r (mem_l (e))))))
 have hv6x0 := hv6x0.mut hC14 (fun g hg => hO.inM g ((fun _ h => h) g hg)) (fun g hg e => hO.apart g ((fun _ h => h) g hg) (mem_r (mem_r (mem_l (e)))))
 have hv9x0 := hv9x0.mut hC14 (fun g hg => hO.inM g ((fun _ h => h) g hg)) (fun g hg e => hO.apart g ((fun _ h => h) g hg) (mem_r (mem_l (e))))
 have hb13 := hb13.chg hC14 (fun hg => hO.apart _ ((fun _ h => h) _ hg) (mem_l (List.mem_singleton.2 rfl)))
 have hC := hC.step hC14 (fun g hg => hO.inN g ((fun _ h => h) g hg))
 have hO := hO.ext hC14
 have hb14 : BoxV w14 g12 71 [(.int .i64 r7.1), (.slice a6x0 n6x0 c6x0)] := hb14
 obtain ⟨w15, hst15, hC15, hb15⟩ := box_store (P := Try.prog) hb13 [] [(.int .i64 0), (.slice none 0 0)] [] [(.int .i64 r10.1), (.slice a9x0 n9x0 c9x0)] rfl rfl (by intro u hu; simp only [List.mem_cons, List.not_mem_nil, or_false] at hu; rcases hu with rfl | rfl <;> rfl)
 refine pl_skip (w' := w15) (ys_store rfl rfl (hst15 _ _ rfl Sz71)) ?_
 have hO := hO.fr1
 have h0 := h0.mut hC15 (fun g hg => hO.inM g ((fun _ h => h) g hg)) (fun _ _ h => nomatch h)
 have h1 := h1.mut hC15 (fun g hg => hO.inM g ((fun _ h => h) g hg)) (fun _ _ h => nomatch h)
 have hv3x0 := hv3x0.mut hC15 (fun g hg => hO.inM g ((fun _ h => h) g hg)) (fun g hg e => hO.apart g ((fun _ h => h) g hg) (mem_r (mem_r (mem_r (mem_l (e))))))
 have hv6x0 := hv6x0.mut hC15 (fun g hg => hO.inM g ((fun _ h => h) g hg)) (fun g hg e => hO.apart g ((fun _ h => h) g hg) (mem_r (mem_r (mem_l (e)))))
 have hv9x0 := hv9x0.mut hC15 (fun g hg => hO.inM g ((fun _ h => h) g hg)) (fun g hg e => hO.apart g ((fun _ h => h) g hg) (mem_r (mem_l (e))))
 have hb14 := hb14.chg hC15 (fun hg => hO.apart _ ((fun _ h => h) _ hg) (mem_l (List.mem_singleton.2 rfl)))
 have hC := hC.step hC15 (fun g hg => hO.inN g ((fun _ h => h) g hg))
 have hO := hO.ext hC15
 have hb15 : BoxV w15 g13 71 [(.int .i64 r10.1), (.slice a9x0 n9x0 c9x0)] := hb15
 refine c_nil ?_
 refine c_seq (c_region ?_)
 refine pl_val (.int .i64 1) (y_assign rfl) ?_
 refine c_nil ?_
 refine c_seq ?_
 have hO := hO.fr4
 have hO := hO.drop
 obtain ⟨o62, hl63, hs⟩ := bind_some hs
 refine wp_block ?_
 refine wp_iter (id := 0) (I := fun s58 a w59 => ∃ (σ : Nat → Value) (a65 : Option Addr) (n65 : Nat) (c65 : Nat) (f65 : List Nat), a = fr 38 (ovl σ [(0, (.slice pa0 pn0 pc0)), (1, (.slice pa1 pn1 pc1)), (5, (.pointer (some ⟨g12, 0, none⟩))), (6, (.pointer (some ⟨g13, 0, none⟩))), (7, (.int .i64 s58.1))]) ∧ Chg [] w w59 ∧ Own (Nw w []) M w59 (f65 ++ (([g13]) ++ (([g12]) ++ (f6x0 ++ [])))) ∧ (RT.rs (RT.int .i64)).val M w59 (.slice pa0 pn0 pc0) p ([]) ∧ (RT.rs (RT.int .i64)).val M w59 (.slice pa1 pn1 pc1) q ([]) ∧ (RT.os 22 (RT.os 3 (RT.int .i64))).val M w59 (.slice a6x0 n6x0 c6x0) r7.2 f6x0 ∧ BoxV w59 g12 71 [(.int .i64 r7.1), (.slice a6x0 n6x0 c6x0)] ∧ BoxV w59 g13 71 [(.int .i64 s58.2.1), (.slice a65 n65 c65)] ∧ (RT.os 22 (RT.os 3 (RT.int .i64))).val M w59 (.slice a65 n65 c65) s58.2.2 f65) (J := fun s58 a w59 => ∃ (σ : Nat → Value) (a67 : Option Addr) (n67 : Nat) (c67 : Nat) (f67 : List Nat), a = fr 38 (ovl σ [(7, (.int .i64 s58.1))]) ∧ Chg [] w w59 ∧ Own (Nw w []) M w59 (f67 ++ (([g13]) ++ (([g12]) ++ (f6x0 ++ [])))) ∧ (RT.rs (RT.int .i64)).val M w59 (.slice pa0 pn0 pc0) p ([]) ∧ (RT.rs (RT.int .i64)).val M w59 (.slice pa1 pn1 pc1) q ([]) ∧ (RT.os 22 (RT.os 3 (RT.int .i64))).val M w59 (.slice a6x0 n6x0 c6x0) r7.2 f6x0 ∧ BoxV w59 g12 71 [(.int .i64 r7.1), (.slice a6x0 n6x0 c6x0)] ∧ BoxV w59 g13 71 [(.int .i64 s58.2.1), (.slice a67 n67 c67)] ∧ (RT.os 22 (RT.os 3 (RT.int .i64))).val M w59 (.slice a67 n67 c67) s58.2.2 f67) (K := (k_spec_l16Factors M w)) ?_ FU (1, r10.1, r10.2) o62 _ _ ?_ hl63 ?_
 ·rintro s58 o62 a w59 ⟨σ, a65, n65, c65, f65, rfl, hC, hO, h0, h1, hv6x0, hb14, hb15, hv65⟩ hs
  refine c_seq ?_
  refine c_seq (c_region ?_)
  refine pl_val (.pointer (some ⟨g13, 1, none⟩)) (y_faddr rfl Fa71x1) ?_
  refine pl_val (.slice a65 n65 c65) (y_load rfl ((box_load Ag41 Sz41 hb15 [(.int .i64 s58.2.1)] [(.slice a65 n65 c65)] [] rfl rfl (fun _ => rfl)) _ (Chg.refl _ _))) ?_
  refine pl_val (.pointer (some ⟨g12, 1, none⟩)) (y_faddr rfl Fa71x1) ?_
  refine pl_val (.slice a6x0 n6x0 c6x0) (y_load rfl ((box_load Ag41 Sz41 hb14 [(.int .i64 r7.1)] [(.slice a6x0 n6x0 c6x0)] [] rfl rfl (fun _ => rfl)) _ (Chg.refl _ _))) ?_
  have hO := hO.fr3
  have hO := hO.fr1
  obtain ⟨r70, hr70, hs⟩ := bind_some hs
  refine pl_call Bd73 rfl (c_spec_l8Same (M := (Less (Less M f65) f6x0)) s58.2.2 r7.2 ((((Frz.os (Frz.os Frz.int))).val hv65 Less.sub Less.not).sub Less.sub) (((Frz.os (Frz.os Frz.int))).val (hv6x0.sub Less.sub) Less.sub Less.not) (hO.less).less.fut hr70) ?_
  rintro _ w69 ⟨rfl, hC69⟩
  have h0 := h0.ext hC69
  have h1 := h1.ext hC69
  have hv6x0 := hv6x0.ext hC69
  have hb14 := hb14.chg hC69 (fun h => nomatch h)
  have hb15 := hb15.chg hC69 (fun h => nomatch h)
  have hv65 := hv65.ext hC69
  have hC := hC.ext hC69
  have hO := hO.ext hC69
  refine pl_val (.bool (!r70)) (y_not rfl) ?_
  refine c_nil ?_
  rcases bif_some hs with ⟨hc71, hs⟩ | ⟨hc71, hs⟩
  ·skip
   refine c_condT (congrArg Value.bool hc71) ?_
   refine wp_skip ?_
   refine wp_block ?_
   refine c_seq (c_region ?_)
   refine pl_val (.int .i64 s58.1) (y_move rfl) ?_
   refine pl_val (.int .i64 (w64 (s58.1 + 1))) (y_add rfl rfl) ?_
   refine pl_val (.int .i64 (w64 (s58.1 + 1))) (y_assign rfl) ?_
   refine c_nil ?_
   refine c_seq (c_region ?_)
   refine pl_val (.int .i64 (w64 (s58.1 + 1))) (y_move rfl) ?_
   refine pl_val (.int .i64 (Int.tmod (w64 (s58.1 + 1)) 2)) (y_rem rfl rfl (by decide)) ?_
   refine pl_val (.bool ((Int.tmod (w64 (s58.1 + 1)) 2) == 0)) (y_eql rfl rfl) ?_
   refine c_nil ?_
   rcases bif_some hs with ⟨hc72, hs⟩ | ⟨hc72, hs⟩
   ·skip
    refine c_condT (congrArg Value.bool hc72) ?_
    refine x_start [6] Mx rfl ?_
    have hCw73 := Chg.drew w69
    generalize World.drew w69 = w73 at hCw73 ⊢
    have h0 := h0.ext hCw73
    have h1 := h1.ext hCw73
    have hv6x0 := hv6x0.ext hCw73
    have hb14 := hb14.chg hCw73 (fun h => nomatch h)
    have hb15 := hb15.chg hCw73 (fun h => nomatch h)
    have hv65 := hv65.ext hCw73
    have hC := hC.ext hCw73
    have hO := hO.ext hCw73
    have hS := Chg.refl [] w73
    refine x_p 0 (.slice pa0 pn0 pc0) rfl (by kernel_rfl)  (fun _ => y_move rfl) (fun _ => hS) ?_
    refine x_p 1 (.int .i64 (p.length : Int)) rfl (by kernel_rfl)  (fun _ => y_len' Sl22 (rs_len h0) rfl) (fun _ => hS) ?_
    refine x_l 2 (.agg #[(.int .i64 s58.2.1), (.slice a65 n65 c65)]) rfl (by kernel_rfl)  (fun w' hw' => y_load rfl ((box_load Ag71 Sz71 hb15 [] [(.int .i64 s58.2.1), (.slice a65 n65 c65)] [] rfl rfl (fun h => nomatch h)) w' hw')) hS ?_
    refine x_p 3 (.slice pa1 pn1 pc1) rfl (by kernel_rfl)  (fun _ => y_move rfl) (fun _ => hS) ?_
    refine x_one (i := 4) (by kernel_rfl) ?_
    obtain ⟨r75, hr75, hs⟩ := bind_some hs
    refine xk_call (b := false) rfl  Bd71 rfl (c_spec_l13OfPartition (M := M) q h1 hO.fut hr75) rfl (by rintro _ _ _ ⟨a74x0, n74x0, c74x0, f74x0, rfl, hC74, hv74x0, hOc74⟩; exact hS.ext hC74) ?_
    rintro _ w74 ⟨a74x0, n74x0, c74x0, f74x0, rfl, hC74, hv74x0, hOc74⟩
    have h0 := h0.ext hC74
    have h1 := h1.ext hC74
    have hv6x0 := hv6x0.ext hC74
    have hb14 := hb14.chg hC74 (fun h => nomatch h)
    have hb15 := hb15.chg hC74 (fun h => nomatch h)
    have hv65 := hv65.ext hC74
    have hC := hC.ext hC74
    have hO := Own.join0 hO hC74 hOc74
    have hO := hO.perm (R := f74x0 ++ (f65 ++ (f6x0 ++ (([g13]) ++ (([g12]) ++ ([])))))) (by simp)
    have hS := hS.ext hC74
    refine x_one (i := 5) (by kernel_rfl) ?_
    have hO := hO.fr1
    obtain ⟨r78, hr78, hs⟩ := bind_some hs
    refine xk_call (b := false) rfl  Bd74 rfl (c_spec_l13Compose (M := (Less (Less M f65) f74x0)) (p.length : Int) (s58.2.1, s58.2.2) (r75.1, r75.2) ((((Frz.os (Frz.os Frz.int))).val hv65 Less.sub Less.not).sub Less.sub) (((Frz.os (Frz.os Frz.int))).val (hv74x0.sub Less.sub) Less.sub Less.not) (hO.less).less.fut hr78) rfl (by rintro _ _ _ ⟨a77x0, n77x0, c77x0, f77x0, rfl, hC77, hv77x0, hOc77⟩; exact hS.ext hC77) ?_
    rintro _ w77 ⟨a77x0, n77x0, c77x0, f77x0, rfl, hC77, hv77x0, hOc77⟩
    have h0 := h0.ext hC77
    have h1 := h1.ext hC77
    have hv6x0 := hv6x0.ext hC77
    have hb14 := hb14.chg hC77 (fun h => nomatch h)
    have hb15 := hb15.chg hC77 (fun h => nomatch h)
    have hv65 := hv65.ext hC77
    have hv74x0 := hv74x0.ext hC77
    have hC := hC.ext hC77
    have hO := Own.join0 hO hC77 hOc77
    have hO := hO.perm (R := f77x0 ++ (f65 ++ (f74x0 ++ (f6x0 ++ (([g13]) ++ (([g12]) ++ ([]))))))) (by simp)
    have hv77x0 := hv77x0.free (M' := M) (Free.os (Free.os Free.int))
    have hS := hS.ext hC77
    refine x_one (i := 6) (by kernel_rfl) ?_
    obtain ⟨w80, hst80, hC80, hb80⟩ := box_store (P := Try.prog) hb15 [] [(.int .i64 s58.2.1), (.slice a65 n65 c65)] [] [(.int .i64 r78.1), (.slice a77x0 n77x0 c77x0)] rfl rfl (by intro u hu; simp only [List.mem_cons, List.not_mem_nil, or_false] at hu; rcases hu with rfl | rfl <;> rfl)
    refine xk_skip (w' := w80) (b := true) rfl (ys_store rfl rfl (hst80 _ _ rfl Sz71)) rfl (fun h => nomatch h) ?_
    have hO := hO.fr4
    have h0 := h0.mut hC80 (fun g hg => hO.inM g ((fun _ h => h) g hg)) (fun _ _ h => nomatch h)
    have h1 := h1.mut hC80 (fun g hg => hO.inM g ((fun _ h => h) g hg)) (fun _ _ h => nomatch h)
    have hv6x0 := hv6x0.mut hC80 (fun g hg => hO.inM g ((fun _ h => h) g hg)) (fun g hg e => hO.apart g ((fun _ h => h) g hg) (mem_r (mem_r (mem_r (mem_l (e))))))
    have hb14 := hb14.chg hC80 (fun hg => hO.apart _ ((fun _ h => h) _ hg) (mem_r (mem_r (mem_r (mem_r (mem_l (List.mem_singleton.2 rfl)))))))
    have hv65 := hv65.mut hC80 (fun g hg => hO.inM g ((fun _ h => h) g hg)) (fun g hg e => hO.apart g ((fun _ h => h) g hg) (mem_r (mem_l (e))))
    have hv74x0 := hv74x0.mut hC80 (fun g hg => hO.inM g ((fun _ h => h) g hg)) (fun g hg e => hO.apart g ((fun _ h => h) g hg) (mem_r (mem_r (mem_l (e)))))
    have hv77x0 := hv77x0.mut hC80 (fun g hg => hO.inM g ((fun _ h => h) g hg)) (fun g hg e => hO.apart g ((fun _ h => h) g hg) (mem_l (e)))
    have hC := hC.step hC80 (fun g hg => hO.inN g ((fun _ h => h) g hg))
    have hO := hO.ext hC80
    have hb80 : BoxV w80 g13 71 [(.int .i64 r78.1), (.slice a77x0 n77x0 c77x0)] := hb80
    refine x_end (by kernel_rfl) ?_
    clear hS
    cases hs
    have hO := hO.fr2
    have hO := hO.drop
    have hO := hO.fr2
    have hO := hO.drop
    have hO := hO.fr2
    have hO := hO.fr3
    have hO := hO.fr2
    have hO := hO.fr3
    exact ⟨_, a77x0, n77x0, c77x0, f77x0, fr_ovl 38 ⟨rfl, rfl, rfl, rfl, rfl, trivial⟩, hC, hO, h0, h1, hv6x0, hb14, hb80, hv77x0⟩
   ·skip
    refine c_condF (congrArg Value.bool hc72) ?_
    refine x_start [6] Mx rfl ?_
    have hCw81 := Chg.drew w69
    generalize World.drew w69 = w81 at hCw81 ⊢
    have h0 := h0.ext hCw81
    have h1 := h1.ext hCw81
    have hv6x0 := hv6x0.ext hCw81
    have hb14 := hb14.chg hCw81 (fun h => nomatch h)
    have hb15 := hb15.chg hCw81 (fun h => nomatch h)
    have hv65 := hv65.ext hCw81
    have hC := hC.ext hCw81
    have hO := hO.ext hCw81
    have hS := Chg.refl [] w81
    refine x_p 0 (.slice pa0 pn0 pc0) rfl (by kernel_rfl)  (fun _ => y_move rfl) (fun _ => hS) ?_
    refine x_p 1 (.int .i64 (p.length : Int)) rfl (by kernel_rfl)  (fun _ => y_len' Sl22 (rs_len h0) rfl) (fun _ => hS) ?_
    refine x_l 2 (.agg #[(.int .i64 s58.2.1), (.slice a65 n65 c65)]) rfl (by kernel_rfl)  (fun w' hw' => y_load rfl ((box_load Ag71 Sz71 hb15 [] [(.int .i64 s58.2.1), (.slice a65 n65 c65)] [] rfl rfl (fun h => nomatch h)) w' hw')) hS ?_
    refine x_p 3 (.slice pa0 pn0 pc0) rfl (by kernel_rfl)  (fun _ => y_move rfl) (fun _ => hS) ?_
    refine x_one (i := 4) (by kernel_rfl) ?_
    obtain ⟨r83, hr83, hs⟩ := bind_some hs
    refine xk_call (b := false) rfl  Bd71 rfl (c_spec_l13OfPartition (M := M) p h0 hO.fut hr83) rfl (by rintro _ _ _ ⟨a82x0, n82x0, c82x0, f82x0, rfl, hC82, hv82x0, hOc82⟩; exact hS.ext hC82) ?_
    rintro _ w82 ⟨a82x0, n82x0, c82x0, f82x0, rfl, hC82, hv82x0, hOc82⟩
    have h0 := h0.ext hC82
    have h1 := h1.ext hC82
    have hv6x0 := hv6x0.ext hC82
    have hb14 := hb14.chg hC82 (fun h => nomatch h)
    have hb15 := hb15.chg hC82 (fun h => nomatch h)
    have hv65 := hv65.ext hC82
    have hC := hC.ext hC82
    have hO := Own.join0 hO hC82 hOc82
    have hO := hO.perm (R := f82x0 ++ (f65 ++ (f6x0 ++ (([g13]) ++ (([g12]) ++ ([])))))) (by simp)
    have hS := hS.ext hC82
    refine x_one (i := 5) (by kernel_rfl) ?_
    have hO := hO.fr1
    obtain ⟨r86, hr86, hs⟩ := bind_some hs
    refine xk_call (b := false) rfl  Bd74 rfl (c_spec_l13Compose (M := (Less (Less M f65) f82x0)) (p.length : Int) (s58.2.1, s58.2.2) (r83.1, r83.2) ((((Frz.os (Frz.os Frz.int))).val hv65 Less.sub Less.not).sub Less.sub) (((Frz.os (Frz.os Frz.int))).val (hv82x0.sub Less.sub) Less.sub Less.not) (hO.less).less.fut hr86) rfl (by rintro _ _ _ ⟨a85x0, n85x0, c85x0, f85x0, rfl, hC85, hv85x0, hOc85⟩; exact hS.ext hC85) ?_
    rintro _ w85 ⟨a85x0, n85x0, c85x0, f85x0, rfl, hC85, hv85x0, hOc85⟩
    have h0 := h0.ext hC85
    have h1 := h1.ext hC85
    have hv6x0 := hv6x0.ext hC85
    have hb14 := hb14.chg hC85 (fun h => nomatch h)
    have hb15 := hb15.chg hC85 (fun h => nomatch h)
    have hv65 := hv65.ext hC85
    have hv82x0 := hv82x0.ext hC85
    have hC := hC.ext hC85
    have hO := Own.join0 hO hC85 hOc85
    have hO := hO.perm (R := f85x0 ++ (f65 ++ (f82x0 ++ (f6x0 ++ (([g13]) ++ (([g12]) ++ ([]))))))) (by simp)
    have hv85x0 := hv85x0.free (M' := M) (Free.os (Free.os Free.int))
    have hS := hS.ext hC85
    refine x_one (i := 6) (by kernel_rfl) ?_
    obtain ⟨w88, hst88, hC88, hb88⟩ := box_store (P := Try.prog) hb15 [] [(.int .i64 s58.2.1), (.slice a65 n65 c65)] [] [(.int .i64 r86.1), (.slice a85x0 n85x0 c85x0)] rfl rfl (by intro u hu; simp only [List.mem_cons, List.not_mem_nil, or_false] at hu; rcases hu with rfl | rfl <;> rfl)
    refine xk_skip (w' := w88) (b := true) rfl (ys_store rfl rfl (hst88 _ _ rfl Sz71)) rfl (fun h => nomatch h) ?_
    have hO := hO.fr4
    have h0 := h0.mut hC88 (fun g hg => hO.inM g ((fun _ h => h) g hg)) (fun _ _ h => nomatch h)
    have h1 := h1.mut hC88 (fun g hg => hO.inM g ((fun _ h => h) g hg)) (fun _ _ h => nomatch h)
    have hv6x0 := hv6x0.mut hC88 (fun g hg => hO.inM g ((fun _ h => h) g hg)) (fun g hg e => hO.apart g ((fun _ h => h) g hg) (mem_r (mem_r (mem_r (mem_l (e))))))
    have hb14 := hb14.chg hC88 (fun hg => hO.apart _ ((fun _ h => h) _ hg) (mem_r (mem_r (mem_r (mem_r (mem_l (List.mem_singleton.2 rfl)))))))
    have hv65 := hv65.mut hC88 (fun g hg => hO.inM g ((fun _ h => h) g hg)) (fun g hg e => hO.apart g ((fun _ h => h) g hg) (mem_r (mem_l (e))))
    have hv82x0 := hv82x0.mut hC88 (fun g hg => hO.inM g ((fun _ h => h) g hg)) (fun g hg e => hO.apart g ((fun _ h => h) g hg) (mem_r (mem_r (mem_l (e)))))
    have hv85x0 := hv85x0.mut hC88 (fun g hg => hO.inM g ((fun _ h => h) g hg)) (fun g hg e => hO.apart g ((fun _ h => h) g hg) (mem_l (e)))
    have hC := hC.step hC88 (fun g hg => hO.inN g ((fun _ h => h) g hg))
    have hO := hO.ext hC88
    have hb88 : BoxV w88 g13 71 [(.int .i64 r86.1), (.slice a85x0 n85x0 c85x0)] := hb88
    refine x_end (by kernel_rfl) ?_
    clear hS
    cases hs
    have hO := hO.fr2
    have hO := hO.drop
    have hO := hO.fr2
    have hO := hO.drop
    have hO := hO.fr2
    have hO := hO.fr3
    have hO := hO.fr2
    have hO := hO.fr3
    exact ⟨_, a85x0, n85x0, c85x0, f85x0, fr_ovl 38 ⟨rfl, rfl, rfl, rfl, rfl, trivial⟩, hC, hO, h0, h1, hv6x0, hb14, hb88, hv85x0⟩
  ·skip
   refine c_condF (congrArg Value.bool hc71) ?_
   refine wp_exit ?_
   cases hs
   have hO := hO.fr1
   have hO := hO.fr3
   have hO := hO.fr3
   have hO := hO.fr3
   exact ⟨rfl, _, a65, n65, c65, f65, fr_ovl 38 ⟨rfl, trivial⟩, hC, hO, h0, h1, hv6x0, hb14, hb15, hv65⟩
 ·skip
  have hO := hO.fr3
  have hO := hO.fr2
  have hO := hO.fr2
  have hO := hO.fr3
  exact ⟨_, a9x0, n9x0, c9x0, f9x0, fr_ovl 38 ⟨rfl, rfl, rfl, rfl, rfl, trivial⟩, hC, hO, h0, h1, hv6x0, hb14, hb15, hv9x0⟩
 ·cases o62 with
  | nx _ => exact True.intro
  | rt r_ =>
   have hs := after_rt hs
   intro a1 w1 hK
   cases hs
   exact hK
  | br s58 =>
   have hs := after_br hs
   rintro a1 w59 ⟨σ, a67, n67, c67, f67, rfl, hC, hO, h0, h1, hv6x0, hb14, hb15, hv67⟩
   refine c_seq (c_region ?_)
   refine pl_val (.int .i64 s58.1) (y_move rfl) ?_
   refine pl_val (.int .i64 s58.1) (y_assign rfl) ?_
   refine c_nil ?_
   refine wp_ret ?_
   cases hs
   exact ⟨_, fr_ovl 38 ⟨rfl, trivial⟩, hC⟩

theorem Bd44 : Bodied Try.prog 44 := bodied Try.func44 (by kernel_rfl) rfl

theorem Bd45 : Bodied Try.prog 45 := bodied Try.func45 (by kernel_rfl) rfl

def k_spec_FactorsToJoin (M : Nat → Prop) (w0 : World) (r : Int × Bool) (a : Act) (w : World) : Prop :=
  ∃ (σ : Nat → Value) , a = fr 16 (ovl σ [(6, (.int .i64 r.1)), (7, (.bool r.2))]) ∧ Chg [] w0 w
def s_spec_FactorsToJoin (n : Int) (p : List Int) (q : List Int) : Option (Int × Bool) :=
  (s_spec_l16Two n p q).bind fun r4 =>
  (bif (!r4) then some (0, false) else (s_spec_l16Factors p q).bind fun r7 =>
  some (r7, true))
set_option maxHeartbeats 4000000 in
theorem c_spec_FactorsToJoin {M : Nat → Prop} {w : World} {pa0 : Option Addr} {pn0 pc0 : Nat} {pa1 : Option Addr} {pn1 pc1 : Nat} (n : Int) (p : List Int) (q : List Int) (h0 : (RT.rs (RT.int .i64)).val M w (.slice pa0 pn0 pc0) p ([])) (h1 : (RT.rs (RT.int .i64)).val M w (.slice pa1 pn1 pc1) q ([])) (hM : ∀ g, w.heap.size ≤ g → M g) {r : Int × Bool} (hs : s_spec_FactorsToJoin n p q = some r) :
    Gives Try.prog 13 [(.int .i64 n), (.slice pa0 pn0 pc0), (.slice pa1 pn1 pc1)] w (fun v w' => v = (.tuple #[(.int .i64 r.1), (.bool r.2)]) ∧ Chg [] w w') := by
 refine calls_fr Try.func13 rfl Try.ntmps13 (Nat.le_of_ble_eq_true rfl) ?_
 have hO := Own.start (N := Nw w []) hM Nw.fut
 have hC := Chg.refl [] w
 unfold s_spec_FactorsToJoin at hs
 refine wp_mono (Q := KPost (k_spec_FactorsToJoin M w r)) ?_ (fun e a w1 h => ?_)
 rotate_left
 ·cases e
  case ret =>
   obtain ⟨σ, rfl, hrest⟩ := h
   exact ret2x Try.results13 (res_tmp rfl) (res_tmp rfl) ⟨rfl, hrest⟩
  all_goals exact (h : False).elim
 refine c_seq (c_region ?_)
 refine pl_val (.int .i64 0) (y_assign rfl) ?_
 refine pl_val (.bool false) (y_assign rfl) ?_
 refine c_nil ?_
 refine c_seq ?_
 refine c_seq (c_region ?_)
 refine pl_val (.int .i64 n) (y_move rfl) ?_
 refine pl_val (.slice pa0 pn0 pc0) (y_move rfl) ?_
 refine pl_val (.slice pa1 pn1 pc1) (y_move rfl) ?_
 obtain ⟨r4, hr4, hs⟩ := bind_some hs
 refine pl_call Bd44 rfl (c_spec_l16Two (M := M) n p q h0 h1 hO.fut hr4) ?_
 rintro _ w3 ⟨rfl, hC3⟩
 have h0 := h0.ext hC3
 have h1 := h1.ext hC3
 have hC := hC.ext hC3
 have hO := hO.ext hC3
 refine pl_val (.bool (!r4)) (y_not rfl) ?_
 refine c_nil ?_
 rcases bif_some hs with ⟨hc5, hs⟩ | ⟨hc5, hs⟩
 ·skip
  refine c_condT (congrArg Value.bool hc5) ?_
  refine c_seq (c_region ?_)
  refine pl_val (.int .i64 0) (y_assign rfl) ?_
  refine pl_val (.bool false) (y_assign rfl) ?_
  refine c_nil ?_
  refine wp_ret ?_
  cases hs
  exact ⟨_, fr_ovl 16 ⟨rfl, rfl, trivial⟩, hC⟩
 ·skip
  refine c_condF (congrArg Value.bool hc5) ?_
  refine wp_skip ?_
  refine c_seq (c_region ?_)
  refine pl_val (.slice pa0 pn0 pc0) (y_move rfl) ?_
  refine pl_val (.slice pa1 pn1 pc1) (y_move rfl) ?_
  obtain ⟨r7, hr7, hs⟩ := bind_some hs
  refine pl_call Bd45 rfl (c_spec_l16Factors (M := M) p q h0 h1 hO.fut hr7) ?_
  rintro _ w6 ⟨rfl, hC6⟩
  have h0 := h0.ext hC6
  have h1 := h1.ext hC6
  have hC := hC.ext hC6
  have hO := hO.ext hC6
  refine pl_val (.int .i64 r7) (y_assign rfl) ?_
  refine pl_val (.bool true) (y_assign rfl) ?_
  refine c_nil ?_
  refine wp_ret ?_
  cases hs
  exact ⟨_, fr_ovl 16 ⟨rfl, rfl, trivial⟩, hC⟩

def k_impl_isSize (M : Nat → Prop) (w0 : World) (r : Bool) (a : Act) (w : World) : Prop :=
  ∃ (σ : Nat → Value) , a = fr 9 (ovl σ [(2, (.bool r))]) ∧ Chg [] w0 w
def s_impl_isSize (n : Int) : Option (Bool) :=
  (bif (decide (1 ≤ n)) then some (decide (n ≤ 8)) else some false)
set_option maxHeartbeats 4000000 in
theorem c_impl_isSize {M : Nat → Prop} {w : World}  (n : Int)  (hM : ∀ g, w.heap.size ≤ g → M g) {r : Bool} (hs : s_impl_isSize n = some r) :
    Gives Try.prog 75 [(.int .i64 n)] w (fun v w' => v = (.bool r) ∧ Chg [] w w') := by
 refine calls_fr Try.func75 rfl Try.ntmps75 (Nat.le_of_ble_eq_true rfl) ?_
 have hO := Own.start (N := Nw w []) hM Nw.fut
 have hC := Chg.refl [] w
 unfold s_impl_isSize at hs
 refine wp_mono (Q := KPost (k_impl_isSize M w r)) ?_ (fun e a w1 h => ?_)
 rotate_left
 ·cases e
  case ret =>
   obtain ⟨σ, rfl, hrest⟩ := h
   exact ret1x Try.results75 (res_tmp rfl) ⟨rfl, hrest⟩
  all_goals exact (h : False).elim
 refine c_seq (c_region ?_)
 refine pl_val (.bool false) (y_assign rfl) ?_
 refine c_nil ?_
 refine c_seq (c_region ?_)
 refine pl_val (.int .i64 n) (y_move rfl) ?_
 refine pl_val (.bool (decide (1 ≤ n))) (y_geq rfl rfl) ?_
 refine pl_val (.bool (decide (1 ≤ n))) (y_move rfl) ?_
 rcases bif_some hs with ⟨hc1, hs⟩ | ⟨hc1, hs⟩
 ·skip
  refine pl_yes (.int .i64 n) (tg := 5) (by kernel_rfl) (congrArg Value.bool hc1) (y_move rfl) ?_
  refine pl_yes (.bool (decide (n ≤ 8))) (tg := 5) (by kernel_rfl) (congrArg Value.bool hc1) (y_leq rfl rfl) ?_
  refine pl_val (.bool (decide (n ≤ 8))) (y_pick_t (congrArg Value.bool hc1) rfl) ?_
  refine pl_val (.bool (decide (n ≤ 8))) (y_assign rfl) ?_
  refine c_nil ?_
  refine wp_ret ?_
  cases hs
  exact ⟨_, fr_ovl 9 ⟨rfl, trivial⟩, hC⟩
 ·skip
  refine pl_not (tg := 5) (by kernel_rfl) (congrArg Value.bool hc1) ?_
  refine pl_not (tg := 5) (by kernel_rfl) (congrArg Value.bool hc1) ?_
  refine pl_val (.bool false) (y_pick_f (congrArg Value.bool hc1) rfl) ?_
  refine pl_val (.bool false) (y_assign rfl) ?_
  refine c_nil ?_
  refine wp_ret ?_
  cases hs
  exact ⟨_, fr_ovl 9 ⟨rfl, trivial⟩, hC⟩

def k_impl_isPartition (M : Nat → Prop) (w0 : World) (r : Bool) (a : Act) (w : World) : Prop :=
  ∃ (σ : Nat → Value) , a = fr 34 (ovl σ [(4, (.bool r))]) ∧ Chg [] w0 w
def s_impl_isPartition (n : Int) (p : List Int) : Option (Bool) :=
  (bif ((p.length : Int) != n) then some false else (forC (S := Unit) (R := Bool) (fun k12 s10 =>
  (idx p k12).bind fun x16 =>
  (bif (decide (x16 < 0)) then some (.rt false) else (bif (decide (k12 < x16)) then some (.rt false) else (idx p x16).bind fun x20 =>
  (bif (x20 != x16) then some (.rt false) else some (.nx ()))))) 0 (p.length : Int) ()).bind fun o14 => after o14 (fun r_ => some r_) (fun s10 =>
  some true))
set_option maxHeartbeats 4000000 in
theorem c_impl_isPartition {M : Nat → Prop} {w : World} {pa0 : Option Addr} {pn0 pc0 : Nat} (n : Int) (p : List Int) (h0 : (RT.rs (RT.int .i64)).val M w (.slice pa0 pn0 pc0) p ([])) (hM : ∀ g, w.heap.size ≤ g → M g) {r : Bool} (hs : s_impl_isPartition n p = some r) :
    Gives Try.prog 76 [(.int .i64 n), (.slice pa0 pn0 pc0)] w (fun v w' => v = (.bool r) ∧ Chg [] w w') := by
 refine calls_fr Try.func76 rfl Try.ntmps76 (Nat.le_of_ble_eq_true rfl) ?_
 have hO := Own.start (N := Nw w []) hM Nw.fut
 have hC := Chg.refl [] w
 unfold s_impl_isPartition at hs
 refine wp_mono (Q := KPost (k_impl_isPartition M w r)) ?_ (fun e a w1 h => ?_)
 rotate_left
 ·cases e
  case ret =>
   obtain ⟨σ, rfl, hrest⟩ := h
   exact ret1x Try.results76 (res_tmp rfl) ⟨rfl, hrest⟩
  all_goals exact (h : False).elim
 refine c_seq (c_region ?_)
 refine pl_val (.bool false) (y_assign rfl) ?_
 refine c_nil ?_
 refine c_seq ?_
 refine c_seq (c_region ?_)
 refine pl_val (.slice pa0 pn0 pc0) (y_move rfl) ?_
 refine pl_val (.int .i64 (p.length : Int)) (y_len' Sl22 (rs_len h0) rfl) ?_
 refine pl_val (.int .i64 n) (y_move rfl) ?_
 refine pl_val (.bool ((p.length : Int) != n)) (y_neq rfl rfl) ?_
 refine c_nil ?_
 rcases bif_some hs with ⟨hc2, hs⟩ | ⟨hc2, hs⟩
 ·skip
  refine c_condT (congrArg Value.bool hc2) ?_
  refine c_seq (c_region ?_)
  refine pl_val (.bool false) (y_assign rfl) ?_
  refine c_nil ?_
  refine wp_ret ?_
  cases hs
  exact ⟨_, fr_ovl 34 ⟨rfl, trivial⟩, hC⟩
 ·skip
  refine c_condF (congrArg Value.bool hc2) ?_
  refine wp_skip ?_
  refine c_seq ?_
  refine c_seq (c_region ?_)
  refine pl_val (.slice pa0 pn0 pc0) (y_move rfl) ?_
  refine pl_val (.int .i64 (p.length : Int)) (y_len' Sl22 (rs_len h0) rfl) ?_
  refine pl_val (.int .i64 0) (y_move rfl) ?_
  refine c_nil ?_
  obtain ⟨o14, hl15, hs⟩ := bind_some hs
  refine wp_block ?_
  refine wp_forC (id := 0) (p.length : Int) (I := fun k12 s10 a w11 => ∃ (σ : Nat → Value), a = fr 34 (ovl σ [(1, (.slice pa0 pn0 pc0)), (11, (.slice pa0 pn0 pc0)), (12, (.int .i64 (p.length : Int))), (13, (.int .i64 k12))]) ∧ Chg [] w w11 ∧ Own (Nw w []) M w11 ([]) ∧ (RT.rs (RT.int .i64)).val M w11 (.slice pa0 pn0 pc0) p ([])) (J := fun s10 a w11 => ∃ (σ : Nat → Value), a = fr 34 (ovl σ []) ∧ Chg [] w w11 ∧ Own (Nw w []) M w11 ([]) ∧ (RT.rs (RT.int .i64)).val M w11 (.slice pa0 pn0 pc0) p ([])) (K := (k_impl_isPartition M w)) ?_ ?_ 0 () o14 _ _ ?_ hl15 ?_
  ·rintro k12 s10 a w11 ⟨σ, rfl, hC, hO, h0⟩ hlt
   refine c_seq (c_region ?_)
   refine pl_val (.bool (decide (k12 < (p.length : Int)))) (y_lss rfl rfl) ?_
   refine c_nil ?_
   refine c_seq ?_
   refine c_condF (congrArg Value.bool (decide_eq_false hlt)) ?_
   refine wp_exit ?_
   exact ⟨rfl, _, fr_ovl 34 trivial, hC, hO, h0⟩
  ·rintro k12 s10 o14 a w11 ⟨σ, rfl, hC, hO, h0⟩ hlt hw hs
   refine c_seq (c_region ?_)
   refine pl_val (.bool (decide (k12 < (p.length : Int)))) (y_lss rfl rfl) ?_
   refine c_nil ?_
   refine c_seq ?_
   refine c_condT (congrArg Value.bool (decide_eq_true hlt)) ?_
   refine wp_skip ?_
   refine c_seq ?_
   refine wp_block ?_
   refine c_seq (c_region ?_)
   refine pl_val (.int .i64 k12) (y_move rfl) ?_
   obtain ⟨x16, hx16, hs⟩ := bind_some hs
   obtain ⟨b17, o17, hp17, ha17⟩ := rs_idx Sl22 Sz3 h0 hx16
   refine pl_val (.pointer (some ⟨b17, o17, none⟩)) (hp17 _ _ _ _ _ _ _ _ _ rfl rfl) ?_
   refine pl_val (.int .i64 x16) (y_load rfl ((at_load_int Ag3 Sz3 ha17) _ (Chg.refl _ _))) ?_
   refine pl_val (.int .i64 k12) (y_assign rfl) ?_
   refine pl_val (.int .i64 x16) (y_assign rfl) ?_
   refine c_nil ?_
   refine c_seq (c_region ?_)
   refine pl_val (.int .i64 x16) (y_move rfl) ?_
   refine pl_val (.bool (decide (x16 < 0))) (y_lss rfl rfl) ?_
   refine pl_val (.bool (decide (x16 < 0))) (y_move rfl) ?_
   rcases bif_some hs with ⟨hc18, hs⟩ | ⟨hc18, hs⟩
   ·skip
    refine pl_not (tg := 20) (by kernel_rfl) (congrArg Value.bool hc18) ?_
    refine pl_not (tg := 20) (by kernel_rfl) (congrArg Value.bool hc18) ?_
    refine pl_not (tg := 20) (by kernel_rfl) (congrArg Value.bool hc18) ?_
    refine pl_val (.bool true) (y_pick_t (congrArg Value.bool hc18) rfl) ?_
    refine pl_val (.bool true) (y_move rfl) ?_
    refine pl_not (tg := 25) (by kernel_rfl) (by rfl) ?_
    refine pl_not (tg := 25) (by kernel_rfl) (by rfl) ?_
    refine pl_not (tg := 25) (by kernel_rfl) (by rfl) ?_
    refine pl_not (tg := 25) (by kernel_rfl) (by rfl) ?_
    refine pl_not (tg := 25) (by kernel_rfl) (by rfl) ?_
    refine pl_not (tg := 25) (by kernel_rfl) (by rfl) ?_
    refine pl_val (.bool true) (y_pick_t (by rfl) rfl) ?_
    refine c_nil ?_
    refine c_condT (by rfl) ?_
    refine c_seq (c_region ?_)
    refine pl_val (.bool false) (y_assign rfl) ?_
    refine c_nil ?_
    refine wp_ret ?_
    cases hs
    exact ⟨_, fr_ovl 34 ⟨rfl, trivial⟩, hC⟩
   ·skip
    refine pl_yes (.int .i64 x16) (tg := 20) (by kernel_rfl) (congrArg Value.bool hc18) (y_move rfl) ?_
    refine pl_yes (.int .i64 k12) (tg := 20) (by kernel_rfl) (congrArg Value.bool hc18) (y_move rfl) ?_
    refine pl_yes (.bool (decide (k12 < x16))) (tg := 20) (by kernel_rfl) (congrArg Value.bool hc18) (y_gtr rfl rfl) ?_
    refine pl_val (.bool (decide (k12 < x16))) (y_pick_f (congrArg Value.bool hc18) rfl) ?_
    refine pl_val (.bool (decide (k12 < x16))) (y_move rfl) ?_
    rcases bif_some hs with ⟨hc19, hs⟩ | ⟨hc19, hs⟩
    ·skip
     refine pl_not (tg := 25) (by kernel_rfl) (congrArg Value.bool hc19) ?_
     refine pl_not (tg := 25) (by kernel_rfl) (congrArg Value.bool hc19) ?_
     refine pl_not (tg := 25) (by kernel_rfl) (congrArg Value.bool hc19) ?_
     refine pl_not (tg := 25) (by kernel_rfl) (congrArg Value.bool hc19) ?_
     refine pl_not (tg := 25) (by kernel_rfl) (congrArg Value.bool hc19) ?_
     refine pl_not (tg := 25) (by kernel_rfl) (congrArg Value.bool hc19) ?_
     refine pl_val (.bool true) (y_pick_t (congrArg Value.bool hc19) rfl) ?_
     refine c_nil ?_
     refine c_condT (by rfl) ?_
     refine c_seq (c_region ?_)
     refine pl_val (.bool false) (y_assign rfl) ?_
     refine c_nil ?_
     refine wp_ret ?_
     cases hs
     exact ⟨_, fr_ovl 34 ⟨rfl, trivial⟩, hC⟩
    ·skip
     refine pl_yes (.slice pa0 pn0 pc0) (tg := 25) (by kernel_rfl) (congrArg Value.bool hc19) (y_move rfl) ?_
     refine pl_yes (.int .i64 x16) (tg := 25) (by kernel_rfl) (congrArg Value.bool hc19) (y_move rfl) ?_
     obtain ⟨x20, hx20, hs⟩ := bind_some hs
     obtain ⟨b21, o21, hp21, ha21⟩ := rs_idx Sl22 Sz3 h0 hx20
     refine pl_yes (.pointer (some ⟨b21, o21, none⟩)) (tg := 25) (by kernel_rfl) (congrArg Value.bool hc19) (hp21 _ _ _ _ _ _ _ _ _ rfl rfl) ?_
     refine pl_yes (.int .i64 x20) (tg := 25) (by kernel_rfl) (congrArg Value.bool hc19) (y_load rfl ((at_load_int Ag3 Sz3 ha21) _ (Chg.refl _ _))) ?_
     refine pl_yes (.int .i64 x16) (tg := 25) (by kernel_rfl) (congrArg Value.bool hc19) (y_move rfl) ?_
     refine pl_yes (.bool (x20 != x16)) (tg := 25) (by kernel_rfl) (congrArg Value.bool hc19) (y_neq rfl rfl) ?_
     refine pl_val (.bool (x20 != x16)) (y_pick_f (congrArg Value.bool hc19) rfl) ?_
     refine c_nil ?_
     rcases bif_some hs with ⟨hc22, hs⟩ | ⟨hc22, hs⟩
     ·skip
      refine c_condT (congrArg Value.bool hc22) ?_
      refine c_seq (c_region ?_)
      refine pl_val (.bool false) (y_assign rfl) ?_
      refine c_nil ?_
      refine wp_ret ?_
      cases hs
      exact ⟨_, fr_ovl 34 ⟨rfl, trivial⟩, hC⟩
     ·skip
      refine c_condF (congrArg Value.bool hc22) ?_
      refine wp_skip ?_
      refine c_region ?_
      refine pl_val (.int .i64 (w64 (k12 + 1))) (y_add rfl rfl) ?_
      refine pl_val (.int .i64 (w64 (k12 + 1))) (y_move rfl) ?_
      refine c_nil ?_
      cases hs
      exact ⟨_, fr_ovl 34 ⟨rfl, rfl, rfl, congrArg (Value.int .i64) hw, trivial⟩, hC, hO, h0⟩
  ·skip
   exact ⟨_, fr_ovl 34 ⟨rfl, rfl, rfl, rfl, trivial⟩, hC, hO, h0⟩
  ·cases o14 with
   | nx _ => exact True.intro
   | rt r_ =>
    have hs := after_rt hs
    intro a1 w1 hK
    cases hs
    exact hK
   | br s10 =>
    have hs := after_br hs
    rintro a1 w11 ⟨σ, rfl, hC, hO, h0⟩
    refine c_seq (c_region ?_)
    refine pl_val (.bool true) (y_assign rfl) ?_
    refine c_nil ?_
    refine wp_ret ?_
    cases hs
    exact ⟨_, fr_ovl 34 ⟨rfl, trivial⟩, hC⟩

theorem Bd75 : Bodied Try.prog 75 := bodied Try.func75 (by kernel_rfl) rfl

theorem Bd76 : Bodied Try.prog 76 := bodied Try.func76 (by kernel_rfl) rfl

def k_impl_arePartitions (M : Nat → Prop) (w0 : World) (r : Bool) (a : Act) (w : World) : Prop :=
  ∃ (σ : Nat → Value) , a = fr 19 (ovl σ [(6, (.bool r))]) ∧ Chg [] w0 w
def s_impl_arePartitions (n : Int) (p : List Int) (q : List Int) : Option (Bool) :=
  (s_impl_isSize n).bind fun r4 =>
  (bif r4 then (s_impl_isPartition n p).bind fun r7 =>
  (bif r7 then (s_impl_isPartition n q).bind fun r10 =>
  some r10 else some false) else some false)
set_option maxHeartbeats 4000000 in
theorem c_impl_arePartitions {M : Nat → Prop} {w : World} {pa0 : Option Addr} {pn0 pc0 : Nat} {pa1 : Option Addr} {pn1 pc1 : Nat} (n : Int) (p : List Int) (q : List Int) (h0 : (RT.rs (RT.int .i64)).val M w (.slice pa0 pn0 pc0) p ([])) (h1 : (RT.rs (RT.int .i64)).val M w (.slice pa1 pn1 pc1) q ([])) (hM : ∀ g, w.heap.size ≤ g → M g) {r : Bool} (hs : s_impl_arePartitions n p q = some r) :
    Gives Try.prog 46 [(.int .i64 n), (.slice pa0 pn0 pc0), (.slice pa1 pn1 pc1)] w (fun v w' => v = (.bool r) ∧ Chg [] w w') := by
 refine calls_fr Try.func46 rfl Try.ntmps46 (Nat.le_of_ble_eq_true rfl) ?_
 have hO := Own.start (N := Nw w []) hM Nw.fut
 have hC := Chg.refl [] w
 unfold s_impl_arePartitions at hs
 refine wp_mono (Q := KPost (k_impl_arePartitions M w r)) ?_ (fun e a w1 h => ?_)
 rotate_left
 ·cases e
  case ret =>
   obtain ⟨σ, rfl, hrest⟩ := h
   exact ret1x Try.results46 (res_tmp rfl) ⟨rfl, hrest⟩
  all_goals exact (h : False).elim
 refine c_seq (c_region ?_)
 refine pl_val (.bool false) (y_assign rfl) ?_
 refine c_nil ?_
 refine c_seq (c_region ?_)
 refine pl_val (.int .i64 n) (y_move rfl) ?_
 obtain ⟨r4, hr4, hs⟩ := bind_some hs
 refine pl_call Bd75 rfl (c_impl_isSize (M := M) n  hO.fut hr4) ?_
 rintro _ w3 ⟨rfl, hC3⟩
 have h0 := h0.ext hC3
 have h1 := h1.ext hC3
 have hC := hC.ext hC3
 have hO := hO.ext hC3
 refine pl_val (.bool r4) (y_move rfl) ?_
 rcases bif_some hs with ⟨hc5, hs⟩ | ⟨hc5, hs⟩
 ·skip
  refine pl_yes (.int .i64 n) (tg := 9) (by kernel_rfl) (congrArg Value.bool hc5) (y_move rfl) ?_
  refine pl_yes (.slice pa0 pn0 pc0) (tg := 9) (by kernel_rfl) (congrArg Value.bool hc5) (y_move rfl) ?_
  obtain ⟨r7, hr7, hs⟩ := bind_some hs
  refine pl_cally (tg := 9) (by kernel_rfl) (congrArg Value.bool hc5) Bd76 rfl (c_impl_isPartition (M := M) n p h0 hO.fut hr7) ?_
  rintro _ w6 ⟨rfl, hC6⟩
  have h0 := h0.ext hC6
  have h1 := h1.ext hC6
  have hC := hC.ext hC6
  have hO := hO.ext hC6
  refine pl_val (.bool r7) (y_pick_t (congrArg Value.bool hc5) rfl) ?_
  refine pl_val (.bool r7) (y_move rfl) ?_
  rcases bif_some hs with ⟨hc8, hs⟩ | ⟨hc8, hs⟩
  ·skip
   refine pl_yes (.int .i64 n) (tg := 14) (by kernel_rfl) (congrArg Value.bool hc8) (y_move rfl) ?_
   refine pl_yes (.slice pa1 pn1 pc1) (tg := 14) (by kernel_rfl) (congrArg Value.bool hc8) (y_move rfl) ?_
   obtain ⟨r10, hr10, hs⟩ := bind_some hs
   refine pl_cally (tg := 14) (by kernel_rfl) (congrArg Value.bool hc8) Bd76 rfl (c_impl_isPartition (M := M) n q h1 hO.fut hr10) ?_
   rintro _ w9 ⟨rfl, hC9⟩
   have h0 := h0.ext hC9
   have h1 := h1.ext hC9
   have hC := hC.ext hC9
   have hO := hO.ext hC9
   refine pl_val (.bool r10) (y_pick_t (congrArg Value.bool hc8) rfl) ?_
   refine pl_val (.bool r10) (y_assign rfl) ?_
   refine c_nil ?_
   refine wp_ret ?_
   cases hs
   exact ⟨_, fr_ovl 19 ⟨rfl, trivial⟩, hC⟩
  ·skip
   refine pl_not (tg := 14) (by kernel_rfl) (congrArg Value.bool hc8) ?_
   refine pl_not (tg := 14) (by kernel_rfl) (congrArg Value.bool hc8) ?_
   refine pl_not (tg := 14) (by kernel_rfl) (congrArg Value.bool hc8) ?_
   refine pl_val (.bool false) (y_pick_f (congrArg Value.bool hc8) rfl) ?_
   refine pl_val (.bool false) (y_assign rfl) ?_
   refine c_nil ?_
   refine wp_ret ?_
   cases hs
   exact ⟨_, fr_ovl 19 ⟨rfl, trivial⟩, hC⟩
 ·skip
  refine pl_not (tg := 9) (by kernel_rfl) (congrArg Value.bool hc5) ?_
  refine pl_not (tg := 9) (by kernel_rfl) (congrArg Value.bool hc5) ?_
  refine pl_not (tg := 9) (by kernel_rfl) (congrArg Value.bool hc5) ?_
  refine pl_val (.bool false) (y_pick_f (congrArg Value.bool hc5) rfl) ?_
  refine pl_val (.bool false) (y_move rfl) ?_
  refine pl_not (tg := 14) (by kernel_rfl) (by rfl) ?_
  refine pl_not (tg := 14) (by kernel_rfl) (by rfl) ?_
  refine pl_not (tg := 14) (by kernel_rfl) (by rfl) ?_
  refine pl_val (.bool false) (y_pick_f (by rfl) rfl) ?_
  refine pl_val (.bool false) (y_assign rfl) ?_
  refine c_nil ?_
  refine wp_ret ?_
  cases hs
  exact ⟨_, fr_ovl 19 ⟨rfl, trivial⟩, hC⟩

def k_impl_clone (M : Nat → Prop) (w0 : World) (r : (List Int)) (a : Act) (w : World) : Prop :=
  ∃ (σ : Nat → Value) (ra0 : Option Addr) (rn0 rc0 : Nat) (rf0 : List Nat), a = fr 6 (ovl σ [(2, (.slice ra0 rn0 rc0))]) ∧ Chg [] w0 w ∧ (RT.os 3 (RT.int .i64)).val M w (.slice ra0 rn0 rc0) r rf0 ∧ Own (Nw w0 []) (fun _ => True) w (rf0 ++ ([]))
def s_impl_clone (list : List Int) : Option ((List Int)) :=
  (app ([]) list).bind fun y5 =>
  some y5
set_option maxHeartbeats 4000000 in
theorem c_impl_clone {M : Nat → Prop} {w : World} {pa0 : Option Addr} {pn0 pc0 : Nat} (list : List Int) (h0 : (RT.rs (RT.int .i64)).val M w (.slice pa0 pn0 pc0) list ([])) (hM : ∀ g, w.heap.size ≤ g → M g) {r : (List Int)} (hs : s_impl_clone list = some r) :
    Gives Try.prog 98 [(.slice pa0 pn0 pc0)] w (fun v w' => ∃ (ra0 : Option Addr) (rn0 rc0 : Nat) (rf0 : List Nat), v = (.slice ra0 rn0 rc0) ∧ Chg [] w w' ∧ (RT.os 3 (RT.int .i64)).val M w' (.slice ra0 rn0 rc0) r rf0 ∧ Own (Nw w []) (fun _ => True) w' (rf0 ++ ([]))) := by
 refine calls_fr Try.func98 rfl Try.ntmps98 (Nat.le_of_ble_eq_true rfl) ?_
 have hO := Own.start (N := Nw w []) hM Nw.fut
 have hC := Chg.refl [] w
 unfold s_impl_clone at hs
 refine wp_mono (Q := KPost (k_impl_clone M w r)) ?_ (fun e a w1 h => ?_)
 rotate_left
 ·cases e
  case ret =>
   obtain ⟨σ, ra0, rn0, rc0, rf0, rfl, hrest⟩ := h
   exact ret1x Try.results98 (res_tmp rfl) ⟨ra0, rn0, rc0, rf0, rfl, hrest⟩
  all_goals exact (h : False).elim
 refine c_seq (c_region ?_)
 refine pl_val (.slice none 0 0) (y_assign rfl) ?_
 refine c_nil ?_
 refine c_seq (c_region ?_)
 obtain ⟨w2, g2, ew2, eg2, hC2, hb2⟩ := new_block w [] 3
 refine pl_val (w' := w2) (.slice (some ⟨g2, 0, none⟩) 0 0) (y_bslice rfl (by rw [ew2, eg2]; kernel_rfl)) ?_
 have h0 := h0.ext hC2
 have hC := hC.ext hC2
 have hO := hO.new1 hC2 eg2 hb2.lt
 have hv2 := os_of_box (r := (RT.int .i64)) (M := M) (css := []) (fps := []) (xs := ([] : List Int)) hb2 trivial (Nat.zero_le _) (List.nodup_cons.2 ⟨(fun h => nomatch h), List.nodup_nil⟩)
 have hv2 : (RT.os 3 (RT.int .i64)).val M w2 (.slice (some ⟨g2, 0, none⟩) 0 0) [] [g2] := hv2
 refine pl_val (.slice pa0 pn0 pc0) (y_move rfl) ?_
 obtain ⟨y5, hy5, hs⟩ := bind_some hs
 obtain ⟨a4, n4, c4, w4, f4, hr4, hC4, hf4, hv4⟩ := app_rs Rw22 hy5 hv2 h0 hO.inM
 have hG4 := os_block hv2
 refine pl_val (w' := w4) (.slice a4 n4 c4) (y_append rfl rfl (hr4 _)) ?_
 have h0 := h0.mut hC4 (fun g hg => hO.inM g (hG4 g hg)) (fun _ _ h => nomatch h)
 have hC := hC.step hC4 (fun g hg => hO.inN g (hG4 g hg))
 have hO := hO.grow hC4 hf4 (os_nodup hv4) hv4.fpl
 refine pl_val (.slice a4 n4 c4) (y_assign rfl) ?_
 refine c_nil ?_
 refine wp_ret ?_
 cases hs
 exact ⟨_, a4, n4, c4, f4, fr_ovl 6 ⟨rfl, trivial⟩, hC, hv4, hO.top⟩

end Go.Proofs
