/- What functions of the program compute, as plain functions, and that a call gives just that. Conditions: those named in each theorem. -/
import Derived.Test.YtkbacbikbndakaaF1
set_option linter.unusedVariables false
namespace Go.Proofs
open Go.G Go.RowKit
set_option maxRecDepth 100000

def k_impl_IsAlgebra (M : Nat → Prop) (w0 : World) (r : Bool) (a : Act) (w : World) : Prop :=
  ∃ (σ : Nat → Value) , a = fr 32 (ovl σ [(2, (.bool r))]) ∧ Chg [] w0 w
def s_impl_IsAlgebra (a_ : Int × (List (Int × (List Int)))) : Option (Bool) :=
  (bif (((decide (a_.1 < 1)) || (decide (8 < a_.1))) || (decide (4 < (a_.2.length : Int)))) then some false else (forR (S := Unit) (R := Bool) (fun _ x21 s18 =>
  (s_impl_isOp (x21.1, x21.2) a_.1).bind fun r30 =>
  (bif (!r30) then some (.rt false) else some (.nx ()))) 0 a_.2 ()).bind fun o22 => after o22 (fun r_ => some r_) (fun s18 =>
  some true))
set_option maxHeartbeats 4000000 in
theorem c_impl_IsAlgebra {M : Nat → Prop} {w : World} {pa0 : Option Addr} {pn0 pc0 : Nat} (a_ : Int × (List (Int × (List Int)))) (h0 : (RT.rs (RT.pr ri (RT.rs ri))).val M w (.slice pa0 pn0 pc0) a_.2 ([])) (hM : ∀ g, w.heap.size ≤ g → M g) {r : Bool} (hs : s_impl_IsAlgebra a_ = some r) :
    Gives Try.prog 39 [(.agg #[(.int .i64 a_.1), (.slice pa0 pn0 pc0)])] w (fun v w' => v = (.bool r) ∧ Chg [] w w') := by
 refine calls_fr Try.func39 rfl Try.ntmps39 (Nat.le_of_ble_eq_true rfl) ?_
 have hO := Own.start (N := Nw w []) hM Nw.fut
 have hC := Chg.refl [] w
 unfold s_impl_IsAlgebra at hs
 refine wp_mono (Q := KPost (k_impl_IsAlgebra M w r)) ?_ (fun e a c8 h => ?_)
 rotate_left
 ·cases e
  case ret =>
   obtain ⟨σ, rfl, hrest⟩ := h
   exact ret1x Try.results39 (res_tmp rfl) ⟨rfl, hrest⟩
  all_goals exact (h : False).elim
 refine c_sr ?_
 obtain ⟨b6, a1, c9, c1, b7, a0⟩ := new_block w [(.int .i64 a_.1), (.slice pa0 pn0 pc0)] 35
 refine pl_val (w' := b6) (pq a1 0) (y_box rfl (by rw [c9, c1]; kernel_rfl)) ?_
 have h0 := h0.ext b7
 have hC := hC.ext b7
 have hO := hO.new1 b7 c1 a0.lt
 refine ab rfl (c_nil (c_seq (c_seq (c_mid (I := fun a c2 => ∃ (σ : Nat → Value), a = fr 32 (ovl σ [(1, (pq a1 0)), (2, (.bool false)), (18, (.bool (((decide (a_.1 < 1)) || (decide (8 < a_.1))) || (decide (4 < (a_.2.length : Int))))))]) ∧ Chg [] b6 c2) ?_ ?_))))
 ·have hMid := Chg.refl [] b6
  refine c_region (pl_val (pq a1 0) (y_faddr rfl Fa35x0) (pl_val (.int .i64 a_.1) (y_load rfl ((box_load Ag3 Sz3 a0 [] [(.int .i64 a_.1)] [(.slice pa0 pn0 pc0)] rfl rfl (fun _ => rfl)) _ (Chg.refl _ _))) (pl_val _ (y_lss rfl rfl) (mb rfl ?_))))
  rcases Bool.eq_false_or_eq_true ((decide (a_.1 < 1))) with a5 | a5
  ·skip
   refine pl_not (tg := 8) (by kernel_rfl) (cb a5) (pl_not (tg := 8) (by kernel_rfl) (cb a5) (pl_not (tg := 8) (by kernel_rfl) (cb a5) (pl_val (.bool ((decide (a_.1 < 1)) || (decide (8 < a_.1)))) (y_pick_t (cb a5) (cb (by rw [a5]; rfl))) (mb rfl ?_))))
   rcases Bool.eq_false_or_eq_true (((decide (a_.1 < 1)) || (decide (8 < a_.1)))) with a2 | a2
   ·skip
    refine pl_not (tg := 13) (by kernel_rfl) (cb a2) (pl_not (tg := 13) (by kernel_rfl) (cb a2) (pl_not (tg := 13) (by kernel_rfl) (cb a2) (pl_not (tg := 13) (by kernel_rfl) (cb a2) (pl_val (.bool (((decide (a_.1 < 1)) || (decide (8 < a_.1))) || (decide (4 < (a_.2.length : Int))))) (y_pick_t (cb a2) (cb (by rw [a2]; rfl))) (c_nil ?_)))))
    exact ⟨_, fr_ovl 32 ⟨rfl, rfl, rfl, trivial⟩, hMid⟩
   refine pl_yes (pq a1 1) (tg := 13) (by kernel_rfl) (cb a2) (y_faddr rfl Fa35x1) (pl_yes (.slice pa0 pn0 pc0) (tg := 13) (by kernel_rfl) (cb a2) (y_load rfl ((box_load Ag33 Sz33 a0 [(.int .i64 a_.1)] [(.slice pa0 pn0 pc0)] [] rfl rfl (fun _ => rfl)) _ (Chg.refl _ _))) (pl_yes (.int .i64 (a_.2.length : Int)) (tg := 13) (by kernel_rfl) (cb a2) (y_len' Sl33 (rs_len h0) rfl) (pl_yes (.bool (decide (4 < (a_.2.length : Int)))) (tg := 13) (by kernel_rfl) (cb a2) (y_gtr rfl rfl) (pl_val (.bool (((decide (a_.1 < 1)) || (decide (8 < a_.1))) || (decide (4 < (a_.2.length : Int))))) (y_pick_f (cb a2) (cb (by rw [a2]; rfl))) (c_nil ?_)))))
   exact ⟨_, fr_ovl 32 ⟨rfl, rfl, rfl, trivial⟩, hMid⟩
  refine pl_yes (pq a1 0) (tg := 8) (by kernel_rfl) (cb a5) (y_faddr rfl Fa35x0) (pl_yes (.int .i64 a_.1) (tg := 8) (by kernel_rfl) (cb a5) (y_load rfl ((box_load Ag3 Sz3 a0 [] [(.int .i64 a_.1)] [(.slice pa0 pn0 pc0)] rfl rfl (fun _ => rfl)) _ (Chg.refl _ _))) (pl_yes (.bool (decide (8 < a_.1))) (tg := 8) (by kernel_rfl) (cb a5) (y_gtr rfl rfl) (pl_val (.bool ((decide (a_.1 < 1)) || (decide (8 < a_.1)))) (y_pick_f (cb a5) (cb (by rw [a5]; rfl))) (mb rfl ?_))))
  rcases Bool.eq_false_or_eq_true (((decide (a_.1 < 1)) || (decide (8 < a_.1)))) with a3 | a3
  ·skip
   refine pl_not (tg := 13) (by kernel_rfl) (cb a3) (pl_not (tg := 13) (by kernel_rfl) (cb a3) (pl_not (tg := 13) (by kernel_rfl) (cb a3) (pl_not (tg := 13) (by kernel_rfl) (cb a3) (pl_val (.bool (((decide (a_.1 < 1)) || (decide (8 < a_.1))) || (decide (4 < (a_.2.length : Int))))) (y_pick_t (cb a3) (cb (by rw [a3]; rfl))) (c_nil ?_)))))
   exact ⟨_, fr_ovl 32 ⟨rfl, rfl, rfl, trivial⟩, hMid⟩
  refine pl_yes (pq a1 1) (tg := 13) (by kernel_rfl) (cb a3) (y_faddr rfl Fa35x1) (pl_yes (.slice pa0 pn0 pc0) (tg := 13) (by kernel_rfl) (cb a3) (y_load rfl ((box_load Ag33 Sz33 a0 [(.int .i64 a_.1)] [(.slice pa0 pn0 pc0)] [] rfl rfl (fun _ => rfl)) _ (Chg.refl _ _))) (pl_yes (.int .i64 (a_.2.length : Int)) (tg := 13) (by kernel_rfl) (cb a3) (y_len' Sl33 (rs_len h0) rfl) (pl_yes (.bool (decide (4 < (a_.2.length : Int)))) (tg := 13) (by kernel_rfl) (cb a3) (y_gtr rfl rfl) (pl_val (.bool (((decide (a_.1 < 1)) || (decide (8 < a_.1))) || (decide (4 < (a_.2.length : Int))))) (y_pick_f (cb a3) (cb (by rw [a3]; rfl))) (c_nil ?_)))))
  exact ⟨_, fr_ovl 32 ⟨rfl, rfl, rfl, trivial⟩, hMid⟩
 rintro c3 c2 ⟨σ, rfl, b5⟩
 have h0 := h0.ext b5
 have a0 := a0.cn b5
 have hC := hC.ext b5
 have hO := hO.ext b5
 rcases bif_some hs with ⟨b8, hs⟩ | ⟨b8, hs⟩
 ·refine c_condT (cb b8) (c_sr (ab rfl (c_nil (wp_ret ?_))))
  cases hs
  exact ⟨_, fr_ovl 32 ⟨rfl, trivial⟩, hC⟩
 refine c_condF (cb b8) (wp_skip (c_seq (c_sr (pl_val (pq a1 1) (y_faddr rfl Fa35x1) (pl_val (.slice pa0 pn0 pc0) (y_load rfl ((box_load Ag33 Sz33 a0 [(.int .i64 a_.1)] [(.slice pa0 pn0 pc0)] [] rfl rfl (fun _ => rfl)) _ (Chg.refl _ _))) (pl_val _ (y_len' Sl33 (rs_len h0) rfl) (mi rfl (c_nil ?_))))))))
 obtain ⟨o22, d0, hs⟩ := bind_some hs
 refine wp_block (wp_forR (id := 0) (I := fun i_ xs_ s18 a a4 => ∃ a6 : Nat, i_ = (a6 : Int) ∧ List.drop a6 a_.2 = xs_ ∧ (∃ (σ : Nat → Value), a = fr 32 (ovl σ [(1, (pq a1 0)), (20, (.slice pa0 pn0 pc0)), (21, (.int .i64 (a_.2.length : Int))), (22, (.int .i64 (a6 : Int)))]) ∧ Chg [] w a4 ∧ Own (Nw w []) M a4 (([a1]) ++ []) ∧ (RT.rs (RT.pr ri (RT.rs ri))).val M a4 (.slice pa0 pn0 pc0) a_.2 ([]) ∧ BoxV a4 a1 35 [(.int .i64 a_.1), (.slice pa0 pn0 pc0)])) (J := fun s18 a a4 => ∃ (σ : Nat → Value), a = fr 32 (ovl σ []) ∧ Chg [] w a4 ∧ Own (Nw w []) M a4 (([a1]) ++ []) ∧ (RT.rs (RT.pr ri (RT.rs ri))).val M a4 (.slice pa0 pn0 pc0) a_.2 ([]) ∧ BoxV a4 a1 35 [(.int .i64 a_.1), (.slice pa0 pn0 pc0)]) (K := (k_impl_IsAlgebra M w)) ?_ ?_ a_.2 0 () o22 _ _ ?_ d0 ?_)
 ·rintro _ s18 a a4 ⟨a6, rfl, hd, σ, rfl, hC, hO, h0, a0⟩
  have hlt := drop_nil_ge hd
  refine c_sr (pl_val _ (y_lss rfl rfl) (c_nil (c_seq (c_condF (cb (decide_eq_false hlt)) (wp_exit ?_)))))
  exact ⟨rfl, _, fr_ovl 32 trivial, hC, hO, h0, a0⟩
 ·rintro _ x21 xs_ s18 o22 a a4 ⟨a6, rfl, hd, σ, rfl, hC, hO, h0, a0⟩ hs
  have hlt := drop_cons_lt hd
  have d1 := drop_cons_idx hd
  refine c_sr (pl_val _ (y_lss rfl rfl) (c_nil (c_seq (c_condT (cb (decide_eq_true hlt)) (wp_skip (c_seq (wp_block (c_sr ?_))))))))
  obtain ⟨d2, d3, d4, b9⟩ := rs_idx Sl33 Sz89 h0 d1
  refine pl_val _ (d4 _ _ _ _ _ _ _ _ _ rfl rfl) ?_
  obtain ⟨e4, d5, d6⟩ := at_load Ag89 Sz89 (by intro h; cases h) b9
  obtain ⟨e5, rfl, d7⟩ := d6
  obtain ⟨e6, e7, rfl, d8, d9⟩ := pr_open d7
  obtain rfl := int_rel d8
  obtain ⟨b0, b1, b2, rfl, a7⟩ := rs_rel d9
  refine pl_val (.agg #[(.int .i64 x21.1), (.slice b0 b1 b2)]) (y_load rfl (d5 _ (Chg.refl _ _))) ?_
  obtain ⟨e0, c4, e1, c5, a8, c6⟩ := new_block a4 [(.int .i64 0), (.slice none 0 0)] 89
  refine pl_val (w' := e0) (pq c4 0) (y_alloc (by rw [e1, c5]; kernel_rfl)) ?_
  have h0 := h0.ext a8
  have a0 := a0.cn a8
  have a7 := a7.ext a8
  have b9 := at_ext b9 a8
  have hC := hC.ext a8
  have hO := hO.new1 a8 c5 c6.lt
  obtain ⟨c7, e2, b3, b4⟩ := box_store (P := Try.prog) c6 [] [(.int .i64 0), (.slice none 0 0)] [] [(.int .i64 x21.1), (.slice b0 b1 b2)] rfl rfl (by intro u hu; simp only [List.mem_cons, List.not_mem_nil, or_false] at hu; rcases hu with rfl | rfl <;> rfl)
  refine pl_skip (w' := c7) (ys_store rfl rfl (e2 _ _ rfl Sz89)) ?_
  have h0 := h0.mt b3 hO same_
  have a0 := a0.ap b3 hO same_ (mem_l (List.mem_singleton.2 rfl))
  have a7 := a7.mt b3 hO same_
  have hC := hC.st b3 hO same_
  have hO := hO.ext b3
  have b4 : BoxV c7 c4 89 [(.int .i64 x21.1), (.slice b0 b1 b2)] := b4
  refine c_nil (c_sr (pl_val (.agg #[(.int .i64 x21.1), (.slice b0 b1 b2)]) (y_load rfl ((box_load Ag89 Sz89 b4 [] [(.int .i64 x21.1), (.slice b0 b1 b2)] [] rfl rfl (fun h => nomatch h)) _ (Chg.refl _ _))) (pl_val (pq a1 0) (y_faddr rfl Fa35x0) (pl_val (.int .i64 a_.1) (y_load rfl ((box_load Ag3 Sz3 a0 [] [(.int .i64 a_.1)] [(.slice pa0 pn0 pc0)] rfl rfl (fun _ => rfl)) _ (Chg.refl _ _))) ?_))))
  obtain ⟨r30, e3, hs⟩ := bind_some hs
  refine pl_call Bd76 rfl (c_impl_isOp (M := M) (x21.1, x21.2) a_.1 a7 hO.fut e3) ?_
  rintro _ e8 ⟨rfl, a9⟩
  have h0 := h0.ext a9
  have a0 := a0.cn a9
  have a7 := a7.ext a9
  have b4 := b4.cn a9
  have hC := hC.ext a9
  have hO := hO.ext a9
  refine pl_val _ (y_not rfl) (c_nil ?_)
  rcases bif_some hs with ⟨c0, hs⟩ | ⟨c0, hs⟩
  ·refine c_condT (cb c0) (c_sr (ab rfl (c_nil (wp_ret ?_))))
   cases hs
   exact ⟨_, fr_ovl 32 ⟨rfl, trivial⟩, hC⟩
  refine c_condF (cb c0) (wp_skip (c_region (pl_val (.int .i64 (w64 ((a6 : Int) + 1))) (y_add rfl rfl) (mi rfl (c_nil ?_)))))
  cases hs
  have hO := hO.drop
  exact ⟨_, rfl, drop_cons_next hd, _, fr_ovl 32 ⟨rfl, rfl, rfl, congrArg (Value.int .i64) (w64_succ hlt (Int.natCast_nonneg _) (rs_max h0)), trivial⟩, hC, hO, h0, a0⟩
 ·skip
  exact ⟨0, rfl, rfl, _, fr_ovl 32 ⟨rfl, rfl, rfl, rfl, trivial⟩, hC, hO, h0, a0⟩
 cases o22 with
 | nx _ => exact True.intro
 | rt r_ =>
  have hs := after_rt hs
  intro c3 c8 hK
  cases hs
  exact hK
 | br s18 =>
  have hs := after_br hs
  rintro c3 a4 ⟨σ, rfl, hC, hO, h0, a0⟩
  refine c_sr (ab rfl (c_nil (wp_ret ?_)))
  cases hs
  exact ⟨_, fr_ovl 32 ⟨rfl, trivial⟩, hC⟩

def k_impl_isLength (M : Nat → Prop) (w0 : World) (r : Bool) (a : Act) (w : World) : Prop :=
  ∃ (σ : Nat → Value) , a = fr 9 (ovl σ [(2, (.bool r))]) ∧ Chg [] w0 w
def s_impl_isLength (k : Int) : Option (Bool) :=
  (bif (decide (1 ≤ k)) then some (decide (k ≤ 64)) else some false)
set_option maxHeartbeats 4000000 in
theorem c_impl_isLength {M : Nat → Prop} {w : World}  (k : Int)  (hM : ∀ g, w.heap.size ≤ g → M g) {r : Bool} (hs : s_impl_isLength k = some r) :
    Gives Try.prog 96 [(.int .i64 k)] w (fun v w' => v = (.bool r) ∧ Chg [] w w') := by
 refine calls_fr Try.func96 rfl Try.ntmps96 (Nat.le_of_ble_eq_true rfl) ?_
 have hO := Own.start (N := Nw w []) hM Nw.fut
 have hC := Chg.refl [] w
 unfold s_impl_isLength at hs
 refine wp_mono (Q := KPost (k_impl_isLength M w r)) ?_ (fun e a a1 h => ?_)
 rotate_left
 ·cases e
  case ret =>
   obtain ⟨σ, rfl, hrest⟩ := h
   exact ret1x Try.results96 (res_tmp rfl) ⟨rfl, hrest⟩
  all_goals exact (h : False).elim
 refine c_sr (ab rfl (c_nil (c_sr (mi rfl (pl_val _ (y_geq rfl rfl) (mb rfl ?_))))))
 rcases bif_some hs with ⟨a0, hs⟩ | ⟨a0, hs⟩
 ·skip
  refine pl_yes (.int .i64 k) (tg := 5) (by kernel_rfl) (cb a0) (y_move rfl) (pl_yes (.bool (decide (k ≤ 64))) (tg := 5) (by kernel_rfl) (cb a0) (y_leq rfl rfl) (pl_val (.bool (decide (k ≤ 64))) (y_pick_t (cb a0) rfl) (ab rfl (c_nil (wp_ret ?_)))))
  cases hs
  exact ⟨_, fr_ovl 9 ⟨rfl, trivial⟩, hC⟩
 refine pl_not (tg := 5) (by kernel_rfl) (cb a0) (pl_not (tg := 5) (by kernel_rfl) (cb a0) (pl_val (.bool false) (y_pick_f (cb a0) rfl) (ab rfl (c_nil (wp_ret ?_)))))
 cases hs
 exact ⟨_, fr_ovl 9 ⟨rfl, trivial⟩, hC⟩

def k_impl_areTuples (M : Nat → Prop) (w0 : World) (r : Bool) (a : Act) (w : World) : Prop :=
  ∃ (σ : Nat → Value) , a = fr 27 (ovl σ [(6, (.bool r))]) ∧ Chg [] w0 w
def s_impl_areTuples (a_ : Int × (List (Int × (List Int)))) (k : Int) (tuples : List (List Int)) : Option (Bool) :=
  (forR (S := Unit) (R := Bool) (fun _ x14 s11 =>
  (bif ((x14.length : Int) != k) then some (.rt false) else (s_impl_inSize x14 a_.1).bind fun r22 =>
  (bif (!r22) then some (.rt false) else some (.nx ())))) 0 tuples ()).bind fun o15 => after o15 (fun r_ => some r_) (fun s11 =>
  some true)
set_option maxHeartbeats 4000000 in
theorem c_impl_areTuples {M : Nat → Prop} {w : World} {pa0 : Option Addr} {pn0 pc0 : Nat} {pa1 : Option Addr} {pn1 pc1 : Nat} (a_ : Int × (List (Int × (List Int)))) (k : Int) (tuples : List (List Int)) (h0 : (RT.rs (RT.pr ri (RT.rs ri))).val M w (.slice pa0 pn0 pc0) a_.2 ([])) (h1 : (RT.rs (RT.rs ri)).val M w (.slice pa1 pn1 pc1) tuples ([])) (hM : ∀ g, w.heap.size ≤ g → M g) {r : Bool} (hs : s_impl_areTuples a_ k tuples = some r) :
    Gives Try.prog 97 [(.agg #[(.int .i64 a_.1), (.slice pa0 pn0 pc0)]), (.int .i64 k), (.slice pa1 pn1 pc1)] w (fun v w' => v = (.bool r) ∧ Chg [] w w') := by
 refine calls_fr Try.func97 rfl Try.ntmps97 (Nat.le_of_ble_eq_true rfl) ?_
 have hO := Own.start (N := Nw w []) hM Nw.fut
 have hC := Chg.refl [] w
 unfold s_impl_areTuples at hs
 refine wp_mono (Q := KPost (k_impl_areTuples M w r)) ?_ (fun e a b3 h => ?_)
 rotate_left
 ·cases e
  case ret =>
   obtain ⟨σ, rfl, hrest⟩ := h
   exact ret1x Try.results97 (res_tmp rfl) ⟨rfl, hrest⟩
  all_goals exact (h : False).elim
 refine c_sr ?_
 obtain ⟨b4, a4, b5, b2, a7, a2⟩ := new_block w [(.int .i64 a_.1), (.slice pa0 pn0 pc0)] 35
 refine pl_val (w' := b4) (pq a4 0) (y_box rfl (by rw [b5, b2]; kernel_rfl)) ?_
 have h0 := h0.ext a7
 have h1 := h1.ext a7
 have hC := hC.ext a7
 have hO := hO.new1 a7 b2 a2.lt
 refine ab rfl (c_nil (c_seq (c_sr (ms rfl (pl_val _ (y_len' Sl25 (rs_len h1) rfl) (mi rfl (c_nil ?_)))))))
 obtain ⟨o15, b6, hs⟩ := bind_some hs
 refine wp_block (wp_forR (id := 0) (I := fun i_ xs_ s11 a a0 => ∃ a3 : Nat, i_ = (a3 : Int) ∧ List.drop a3 tuples = xs_ ∧ (∃ (σ : Nat → Value), a = fr 27 (ovl σ [(1, (.int .i64 k)), (3, (pq a4 0)), (9, (.slice pa1 pn1 pc1)), (10, (.int .i64 (tuples.length : Int))), (11, (.int .i64 (a3 : Int)))]) ∧ Chg [] w a0 ∧ Own (Nw w []) M a0 (([a4]) ++ []) ∧ (RT.rs (RT.pr ri (RT.rs ri))).val M a0 (.slice pa0 pn0 pc0) a_.2 ([]) ∧ (RT.rs (RT.rs ri)).val M a0 (.slice pa1 pn1 pc1) tuples ([]) ∧ BoxV a0 a4 35 [(.int .i64 a_.1), (.slice pa0 pn0 pc0)])) (J := fun s11 a a0 => ∃ (σ : Nat → Value), a = fr 27 (ovl σ []) ∧ Chg [] w a0 ∧ Own (Nw w []) M a0 (([a4]) ++ []) ∧ (RT.rs (RT.pr ri (RT.rs ri))).val M a0 (.slice pa0 pn0 pc0) a_.2 ([]) ∧ (RT.rs (RT.rs ri)).val M a0 (.slice pa1 pn1 pc1) tuples ([]) ∧ BoxV a0 a4 35 [(.int .i64 a_.1), (.slice pa0 pn0 pc0)]) (K := (k_impl_areTuples M w)) ?_ ?_ tuples 0 () o15 _ _ ?_ b6 ?_)
 ·rintro _ s11 a a0 ⟨a3, rfl, hd, σ, rfl, hC, hO, h0, h1, a2⟩
  have hlt := drop_nil_ge hd
  refine c_sr (pl_val _ (y_lss rfl rfl) (c_nil (c_seq (c_condF (cb (decide_eq_false hlt)) (wp_exit ?_)))))
  exact ⟨rfl, _, fr_ovl 27 trivial, hC, hO, h0, h1, a2⟩
 ·rintro _ x14 xs_ s11 o15 a a0 ⟨a3, rfl, hd, σ, rfl, hC, hO, h0, h1, a2⟩ hs
  have hlt := drop_cons_lt hd
  have b7 := drop_cons_idx hd
  refine c_sr (pl_val _ (y_lss rfl rfl) (c_nil (c_seq (c_condT (cb (decide_eq_true hlt)) (wp_skip (c_seq (wp_block (c_sr ?_))))))))
  obtain ⟨b8, b9, c0, c1⟩ := rs_idx Sl25 Sz43 h1 b7
  refine pl_val _ (c0 _ _ _ _ _ _ _ _ _ rfl rfl) ?_
  obtain ⟨c5, c2, a6⟩ := at_load Ag43 Sz43 (fun _ => rfl) c1
  obtain ⟨a8, a9, b0, rfl⟩ := rs_sl a6
  refine pl_val (.slice a8 a9 b0) (y_load rfl (c2 _ (Chg.refl _ _))) (ax rfl (c_nil (c_sr (ms rfl (pl_val _ (y_len' Sl43 (rs_len a6) rfl) (mi rfl (pl_val (.bool ((x14.length : Int) != k)) (y_neq rfl rfl) (mb rfl ?_))))))))
  rcases bif_some hs with ⟨a1, hs⟩ | ⟨a1, hs⟩
  ·skip
   refine pl_not (tg := 19) (by kernel_rfl) (cb a1) (pl_not (tg := 19) (by kernel_rfl) (cb a1) (pl_not (tg := 19) (by kernel_rfl) (cb a1) (pl_not (tg := 19) (by kernel_rfl) (cb a1) (pl_not (tg := 19) (by kernel_rfl) (cb a1) (pl_val (.bool true) (y_pick_t (cb a1) rfl) (c_nil (c_condT (by rfl) (c_sr (ab rfl (c_nil (wp_ret ?_)))))))))))
   cases hs
   exact ⟨_, fr_ovl 27 ⟨rfl, trivial⟩, hC⟩
  refine pl_yes (.slice a8 a9 b0) (tg := 19) (by kernel_rfl) (cb a1) (y_move rfl) (pl_yes (pq a4 0) (tg := 19) (by kernel_rfl) (cb a1) (y_faddr rfl Fa35x0) (pl_yes (.int .i64 a_.1) (tg := 19) (by kernel_rfl) (cb a1) (y_load rfl ((box_load Ag3 Sz3 a2 [] [(.int .i64 a_.1)] [(.slice pa0 pn0 pc0)] rfl rfl (fun _ => rfl)) _ (Chg.refl _ _))) ?_))
  obtain ⟨r22, c3, hs⟩ := bind_some hs
  refine pl_cally (tg := 19) (by kernel_rfl) (cb a1) Bd77 rfl (c_impl_inSize (M := M) x14 a_.1 a6 hO.fut c3) ?_
  rintro _ c6 ⟨rfl, a5⟩
  have h0 := h0.ext a5
  have h1 := h1.ext a5
  have a2 := a2.cn a5
  have a6 := a6.ext a5
  have hC := hC.ext a5
  have hO := hO.ext a5
  refine pl_yes (.bool (!r22)) (tg := 19) (by kernel_rfl) (cb a1) (y_not rfl) (pl_val (.bool (!r22)) (y_pick_f (cb a1) rfl) (c_nil ?_))
  rcases bif_some hs with ⟨b1, hs⟩ | ⟨b1, hs⟩
  ·refine c_condT (cb b1) (c_sr (ab rfl (c_nil (wp_ret ?_))))
   cases hs
   exact ⟨_, fr_ovl 27 ⟨rfl, trivial⟩, hC⟩
  refine c_condF (cb b1) (wp_skip (c_region (pl_val (.int .i64 (w64 ((a3 : Int) + 1))) (y_add rfl rfl) (mi rfl (c_nil ?_)))))
  cases hs
  exact ⟨_, rfl, drop_cons_next hd, _, fr_ovl 27 ⟨rfl, rfl, rfl, rfl, congrArg (Value.int .i64) (w64_succ hlt (Int.natCast_nonneg _) (rs_max h1)), trivial⟩, hC, hO, h0, h1, a2⟩
 ·skip
  exact ⟨0, rfl, rfl, _, fr_ovl 27 ⟨rfl, rfl, rfl, rfl, rfl, trivial⟩, hC, hO, h0, h1, a2⟩
 cases o15 with
 | nx _ => exact True.intro
 | rt r_ =>
  have hs := after_rt hs
  intro c4 b3 hK
  cases hs
  exact hK
 | br s11 =>
  have hs := after_br hs
  rintro c4 a0 ⟨σ, rfl, hC, hO, h0, h1, a2⟩
  refine c_sr (ab rfl (c_nil (wp_ret ?_)))
  cases hs
  exact ⟨_, fr_ovl 27 ⟨rfl, trivial⟩, hC⟩

theorem Bd39 : Bodied Try.prog 39 := bodied Try.func39 (by kernel_rfl) rfl

theorem Bd96 : Bodied Try.prog 96 := bodied Try.func96 (by kernel_rfl) rfl

theorem Bd97 : Bodied Try.prog 97 := bodied Try.func97 (by kernel_rfl) rfl

def k_impl_areGens (M : Nat → Prop) (w0 : World) (r : Bool) (a : Act) (w : World) : Prop :=
  ∃ (σ : Nat → Value) , a = fr 24 (ovl σ [(6, (.bool r))]) ∧ Chg [] w0 w
def s_impl_areGens (a_ : Int × (List (Int × (List Int)))) (k : Int) (gens : List (List Int)) : Option (Bool) :=
  (s_impl_IsAlgebra (a_.1, a_.2)).bind fun r5 =>
  (bif r5 then (s_impl_isLength k).bind fun r8 =>
  (bif r8 then (bif (decide ((gens.length : Int) ≤ 20)) then (s_impl_areTuples (a_.1, a_.2) k gens).bind fun r12 =>
  some r12 else some false) else some false) else some false)
set_option maxHeartbeats 4000000 in
theorem c_impl_areGens {M : Nat → Prop} {w : World} {pa0 : Option Addr} {pn0 pc0 : Nat} {pa1 : Option Addr} {pn1 pc1 : Nat} (a_ : Int × (List (Int × (List Int)))) (k : Int) (gens : List (List Int)) (h0 : (RT.rs (RT.pr ri (RT.rs ri))).val M w (.slice pa0 pn0 pc0) a_.2 ([])) (h1 : (RT.rs (RT.rs ri)).val M w (.slice pa1 pn1 pc1) gens ([])) (hM : ∀ g, w.heap.size ≤ g → M g) {r : Bool} (hs : s_impl_areGens a_ k gens = some r) :
    Gives Try.prog 55 [(.agg #[(.int .i64 a_.1), (.slice pa0 pn0 pc0)]), (.int .i64 k), (.slice pa1 pn1 pc1)] w (fun v w' => v = (.bool r) ∧ Chg [] w w') := by
 refine calls_fr Try.func55 rfl Try.ntmps55 (Nat.le_of_ble_eq_true rfl) ?_
 have hO := Own.start (N := Nw w []) hM Nw.fut
 have hC := Chg.refl [] w
 unfold s_impl_areGens at hs
 refine wp_mono (Q := KPost (k_impl_areGens M w r)) ?_ (fun e a b5 h => ?_)
 rotate_left
 ·cases e
  case ret =>
   obtain ⟨σ, rfl, hrest⟩ := h
   exact ret1x Try.results55 (res_tmp rfl) ⟨rfl, hrest⟩
  all_goals exact (h : False).elim
 refine c_sr ?_
 obtain ⟨a9, b0, b1, a8, a7, a1⟩ := new_block w [(.int .i64 a_.1), (.slice pa0 pn0 pc0)] 35
 refine pl_val (w' := a9) (pq b0 0) (y_box rfl (by rw [b1, a8]; kernel_rfl)) ?_
 have h0 := h0.ext a7
 have h1 := h1.ext a7
 have hC := hC.ext a7
 have hO := hO.new1 a7 a8 a1.lt
 refine ab rfl (c_nil (c_sr (pl_val (.agg #[(.int .i64 a_.1), (.slice pa0 pn0 pc0)]) (y_load rfl ((box_load Ag35 Sz35 a1 [] [(.int .i64 a_.1), (.slice pa0 pn0 pc0)] [] rfl rfl (fun h => nomatch h)) _ (Chg.refl _ _))) ?_)))
 obtain ⟨r5, b2, hs⟩ := bind_some hs
 refine pl_call Bd39 rfl (c_impl_IsAlgebra (M := M) (a_.1, a_.2) h0 hO.fut b2) ?_
 rintro _ b6 ⟨rfl, a4⟩
 have h0 := h0.ext a4
 have h1 := h1.ext a4
 have a1 := a1.cn a4
 have hC := hC.ext a4
 have hO := hO.ext a4
 refine mb rfl ?_
 rcases bif_some hs with ⟨a3, hs⟩ | ⟨a3, hs⟩
 ·skip
  refine pl_yes (.int .i64 k) (tg := 9) (by kernel_rfl) (cb a3) (y_move rfl) ?_
  obtain ⟨r8, b3, hs⟩ := bind_some hs
  refine pl_cally (tg := 9) (by kernel_rfl) (cb a3) Bd96 rfl (c_impl_isLength (M := M) k  hO.fut b3) ?_
  rintro _ b7 ⟨rfl, a5⟩
  have h0 := h0.ext a5
  have h1 := h1.ext a5
  have a1 := a1.cn a5
  have hC := hC.ext a5
  have hO := hO.ext a5
  refine pl_val (.bool r8) (y_pick_t (cb a3) rfl) (mb rfl ?_)
  rcases bif_some hs with ⟨a2, hs⟩ | ⟨a2, hs⟩
  ·skip
   refine pl_yes (.slice pa1 pn1 pc1) (tg := 13) (by kernel_rfl) (cb a2) (y_move rfl) (pl_yes (.int .i64 (gens.length : Int)) (tg := 13) (by kernel_rfl) (cb a2) (y_len' Sl25 (rs_len h1) rfl) (pl_yes (.bool (decide ((gens.length : Int) ≤ 20))) (tg := 13) (by kernel_rfl) (cb a2) (y_leq rfl rfl) (pl_val (.bool (decide ((gens.length : Int) ≤ 20))) (y_pick_t (cb a2) rfl) (mb rfl ?_))))
   rcases bif_some hs with ⟨a0, hs⟩ | ⟨a0, hs⟩
   ·skip
    refine pl_yes (.agg #[(.int .i64 a_.1), (.slice pa0 pn0 pc0)]) (tg := 18) (by kernel_rfl) (cb a0) (y_load rfl ((box_load Ag35 Sz35 a1 [] [(.int .i64 a_.1), (.slice pa0 pn0 pc0)] [] rfl rfl (fun h => nomatch h)) _ (Chg.refl _ _))) (pl_yes (.int .i64 k) (tg := 18) (by kernel_rfl) (cb a0) (y_move rfl) (pl_yes (.slice pa1 pn1 pc1) (tg := 18) (by kernel_rfl) (cb a0) (y_move rfl) ?_))
    obtain ⟨r12, b4, hs⟩ := bind_some hs
    refine pl_cally (tg := 18) (by kernel_rfl) (cb a0) Bd97 rfl (c_impl_areTuples (M := M) (a_.1, a_.2) k gens h0 h1 hO.fut b4) ?_
    rintro _ b8 ⟨rfl, a6⟩
    have h0 := h0.ext a6
    have h1 := h1.ext a6
    have a1 := a1.cn a6
    have hC := hC.ext a6
    have hO := hO.ext a6
    refine pl_val (.bool r12) (y_pick_t (cb a0) rfl) (ab rfl (c_nil (wp_ret ?_)))
    cases hs
    exact ⟨_, fr_ovl 24 ⟨rfl, trivial⟩, hC⟩
   refine pl_not (tg := 18) (by kernel_rfl) (cb a0) (pl_not (tg := 18) (by kernel_rfl) (cb a0) (pl_not (tg := 18) (by kernel_rfl) (cb a0) (pl_not (tg := 18) (by kernel_rfl) (cb a0) (pl_val (.bool false) (y_pick_f (cb a0) rfl) (ab rfl (c_nil (wp_ret ?_)))))))
   cases hs
   exact ⟨_, fr_ovl 24 ⟨rfl, trivial⟩, hC⟩
  refine pl_not (tg := 13) (by kernel_rfl) (cb a2) (pl_not (tg := 13) (by kernel_rfl) (cb a2) (pl_not (tg := 13) (by kernel_rfl) (cb a2) (pl_val (.bool false) (y_pick_f (cb a2) rfl) (mb rfl (pl_not (tg := 18) (by kernel_rfl) (by rfl) (pl_not (tg := 18) (by kernel_rfl) (by rfl) (pl_not (tg := 18) (by kernel_rfl) (by rfl) (pl_not (tg := 18) (by kernel_rfl) (by rfl) (pl_val (.bool false) (y_pick_f (by rfl) rfl) (ab rfl (c_nil (wp_ret ?_))))))))))))
  cases hs
  exact ⟨_, fr_ovl 24 ⟨rfl, trivial⟩, hC⟩
 refine pl_not (tg := 9) (by kernel_rfl) (cb a3) (pl_not (tg := 9) (by kernel_rfl) (cb a3) (pl_val (.bool false) (y_pick_f (cb a3) rfl) (mb rfl (pl_not (tg := 13) (by kernel_rfl) (by rfl) (pl_not (tg := 13) (by kernel_rfl) (by rfl) (pl_not (tg := 13) (by kernel_rfl) (by rfl) (pl_val (.bool false) (y_pick_f (by rfl) rfl) (mb rfl (pl_not (tg := 18) (by kernel_rfl) (by rfl) (pl_not (tg := 18) (by kernel_rfl) (by rfl) (pl_not (tg := 18) (by kernel_rfl) (by rfl) (pl_not (tg := 18) (by kernel_rfl) (by rfl) (pl_val (.bool false) (y_pick_f (by rfl) rfl) (ab rfl (c_nil (wp_ret ?_))))))))))))))))
 cases hs
 exact ⟨_, fr_ovl 24 ⟨rfl, trivial⟩, hC⟩

def k_impl_clone (M : Nat → Prop) (w0 : World) (r : (List Int)) (a : Act) (w : World) : Prop :=
  ∃ (σ : Nat → Value) (ra0 : Option Addr) (rn0 rc0 : Nat) (rf0 : List Nat), a = fr 6 (ovl σ [(2, (.slice ra0 rn0 rc0))]) ∧ Chg [] w0 w ∧ (RT.os 3 (RT.int .i64)).val M w (.slice ra0 rn0 rc0) r rf0 ∧ Option.isNone ra0 = false ∧ Own (Nw w0 []) (fun _ => True) w (rf0 ++ ([]))
def s_impl_clone (list : List Int) : Option ((List Int)) :=
  (app ([]) list).bind fun y5 =>
  some y5
set_option maxHeartbeats 4000000 in
theorem c_impl_clone {M : Nat → Prop} {w : World} {pa0 : Option Addr} {pn0 pc0 : Nat} (list : List Int) (h0 : (RT.rs ri).val M w (.slice pa0 pn0 pc0) list ([])) (hM : ∀ g, w.heap.size ≤ g → M g) {r : (List Int)} (hs : s_impl_clone list = some r) :
    Gives Try.prog 99 [(.slice pa0 pn0 pc0)] w (fun v w' => ∃ (ra0 : Option Addr) (rn0 rc0 : Nat) (rf0 : List Nat), v = (.slice ra0 rn0 rc0) ∧ Chg [] w w' ∧ (RT.os 3 ri).val M w' (.slice ra0 rn0 rc0) r rf0 ∧ Option.isNone ra0 = false ∧ Own (Nw w []) (fun _ => True) w' (rf0 ++ ([]))) := by
 refine calls_fr Try.func99 rfl Try.ntmps99 (Nat.le_of_ble_eq_true rfl) ?_
 have hO := Own.start (N := Nw w []) hM Nw.fut
 have hC := Chg.refl [] w
 unfold s_impl_clone at hs
 refine wp_mono (Q := KPost (k_impl_clone M w r)) ?_ (fun e a b9 h => ?_)
 rotate_left
 ·cases e
  case ret =>
   obtain ⟨σ, ra0, rn0, rc0, rf0, rfl, hrest⟩ := h
   exact ret1x Try.results99 (res_tmp rfl) ⟨ra0, rn0, rc0, rf0, rfl, hrest⟩
  all_goals exact (h : False).elim
 refine c_sr (ax rfl (c_nil (c_sr ?_)))
 obtain ⟨a8, a1, b2, a9, a2, b0⟩ := new_block w [] 3
 refine pl_val (w' := a8) (.slice (some ⟨a1, 0, none⟩) 0 0) (y_bslice rfl (by rw [b2, a9]; kernel_rfl)) ?_
 have h0 := h0.ext a2
 have hC := hC.ext a2
 have hO := hO.new1 a2 a9 b0.lt
 have a0 := os_of_box (r := ri) (M := M) (css := []) (fps := []) (xs := ([] : List Int)) b0 trivial (Nat.zero_le _) (List.nodup_cons.2 ⟨(fun h => nomatch h), List.nodup_nil⟩)
 have a0 : (RT.os 3 ri).val M a8 (.slice (some ⟨a1, 0, none⟩) 0 0) [] [a1] := a0
 refine ms rfl ?_
 obtain ⟨y5, b3, hs⟩ := bind_some hs
 obtain ⟨a3, a4, a5, b4, b5, b6, a6, b7, a7, b8⟩ := app_rs_nn Rw43 b3 a0 h0 hO.inM
 have b1 := os_block a0
 refine pl_val (w' := b4) (.slice a3 a4 a5) (y_append rfl rfl (b6 _)) ?_
 have h0 := h0.mt a6 hO b1
 have hC := hC.st a6 hO b1
 have hO := hO.grow a6 b7 (os_nodup a7) a7.fpl
 refine ax rfl (c_nil (wp_ret ?_))
 cases hs
 exact ⟨_, a3, a4, a5, b5, fr_ovl 6 ⟨rfl, trivial⟩, hC, a7, b8, hO.top⟩

theorem Rw118 : RowT Try.prog 118 5 1 [(.int .u8 0)] := ⟨Try.underlying118, ⟨_, _, rfl, rfl, rfl, rfl, by decide⟩, rfl, by decide⟩

def k_impl_keyOf (M : Nat → Prop) (w0 : World) (r : ByteArray) (a : Act) (w : World) : Prop :=
  ∃ (σ : Nat → Value) , a = fr 27 (ovl σ [(2, (.string r))]) ∧ Chg [] w0 w
def s_impl_keyOf (list : List Int) : Option (ByteArray) :=
  (mkc 0 (w64 (2 * (list.length : Int)))).bind fun u3 =>
  (forR (S := (List Int)) (R := ByteArray) (fun _ x16 s13 =>
  (app s13 ([IntKind.u8.wrap (ishr .i64 x16 8), IntKind.u8.wrap x16])).bind fun y27 =>
  some (.nx y27)) 0 list (List.replicate (Int.toNat 0) (0 : Int))).bind fun o17 => after o17 (fun r_ => some r_) (fun s13 =>
  some (bstr s13))
set_option maxHeartbeats 4000000 in
theorem c_impl_keyOf {M : Nat → Prop} {w : World} {pa0 : Option Addr} {pn0 pc0 : Nat} (list : List Int) (h0 : (RT.rs ri).val M w (.slice pa0 pn0 pc0) list ([])) (hM : ∀ g, w.heap.size ≤ g → M g) {r : ByteArray} (hs : s_impl_keyOf list = some r) :
    Gives Try.prog 59 [(.slice pa0 pn0 pc0)] w (fun v w' => v = (.string r) ∧ Chg [] w w') := by
 refine calls_fr Try.func59 rfl Try.ntmps59 (Nat.le_of_ble_eq_true rfl) ?_
 have hO := Own.start (N := Nw w []) hM Nw.fut
 have hC := Chg.refl [] w
 unfold s_impl_keyOf at hs
 refine wp_mono (Q := KPost (k_impl_keyOf M w r)) ?_ (fun e a c8 h => ?_)
 rotate_left
 ·cases e
  case ret =>
   obtain ⟨σ, rfl, hrest⟩ := h
   exact ret1x Try.results59 (res_tmp rfl) ⟨rfl, hrest⟩
  all_goals exact (h : False).elim
 refine c_sr (pl_val (.string ByteArray.empty) (y_assign rfl) (c_nil (c_sr (ms rfl (pl_val _ (y_len' Sl43 (rs_len h0) rfl) (pl_val (.int .i64 (w64 (2 * (list.length : Int)))) (y_mul rfl rfl) ?_))))))
 obtain ⟨u3, c9, hs⟩ := bind_some hs
 obtain ⟨b1, b2, b3, d0, d1, d2, b4, d3, b5⟩ := mk_cap (M := M) (w := w) (r := (RT.int .u8)) (x := (0 : Int)) Rw118 c9 (fun _ _ => ⟨rfl, rfl⟩)
 refine pl_val (w' := d0) (.slice b1 b2 b3) (y_make rfl rfl d2) ?_
 have h0 := h0.ext b4
 have hC := hC.ext b4
 have hO := hO.new b4 d3 (os_nodup b5) b5.fpl
 refine ax rfl (c_nil (c_seq (c_sr (ms rfl (pl_val _ (y_len' Sl43 (rs_len h0) rfl) (mi rfl (c_nil ?_)))))))
 obtain ⟨o17, d4, hs⟩ := bind_some hs
 refine wp_block (wp_forR (id := 0) (I := fun i_ xs_ s13 a a0 => ∃ a1 : Nat, i_ = (a1 : Int) ∧ List.drop a1 list = xs_ ∧ (∃ (σ : Nat → Value) (a2 : Option Addr) (a3 : Nat) (a4 : Nat) (a6 : List Nat), a = fr 27 (ovl σ [(3, (.slice a2 a3 a4)), (10, (.slice pa0 pn0 pc0)), (11, (.int .i64 (list.length : Int))), (12, (.int .i64 (a1 : Int)))]) ∧ Chg [] w a0 ∧ Own (Nw w []) M a0 (a6 ++ []) ∧ (RT.rs ri).val M a0 (.slice pa0 pn0 pc0) list ([]) ∧ (RT.os 5 (RT.int .u8)).val M a0 (.slice a2 a3 a4) s13 a6)) (J := fun s13 a a0 => ∃ (σ : Nat → Value) (a7 : Option Addr) (a8 : Nat) (a9 : Nat) (b6 : List Nat), a = fr 27 (ovl σ [(3, (.slice a7 a8 a9))]) ∧ Chg [] w a0 ∧ Own (Nw w []) M a0 (b6 ++ []) ∧ (RT.rs ri).val M a0 (.slice pa0 pn0 pc0) list ([]) ∧ (RT.os 5 (RT.int .u8)).val M a0 (.slice a7 a8 a9) s13 b6) (K := (k_impl_keyOf M w)) ?_ ?_ list 0 (List.replicate (Int.toNat 0) (0 : Int)) o17 _ _ ?_ d4 ?_)
 ·rintro _ s13 a a0 ⟨a1, rfl, hd, σ, a2, a3, a4, a6, rfl, hC, hO, h0, a5⟩
  have hlt := drop_nil_ge hd
  refine c_sr (pl_val _ (y_lss rfl rfl) (c_nil (c_seq (c_condF (cb (decide_eq_false hlt)) (wp_exit ?_)))))
  exact ⟨rfl, _, a2, a3, a4, a6, fr_ovl 27 ⟨rfl, trivial⟩, hC, hO, h0, a5⟩
 ·rintro _ x16 xs_ s13 o17 a a0 ⟨a1, rfl, hd, σ, a2, a3, a4, a6, rfl, hC, hO, h0, a5⟩ hs
  have hlt := drop_cons_lt hd
  have d5 := drop_cons_idx hd
  refine c_sr (pl_val _ (y_lss rfl rfl) (c_nil (c_seq (c_condT (cb (decide_eq_true hlt)) (wp_skip (c_seq (wp_block (c_sr ?_))))))))
  obtain ⟨d6, d7, d8, d9⟩ := rs_idx Sl43 Sz3 h0 d5
  refine pl_val _ (d8 _ _ _ _ _ _ _ _ _ rfl rfl) (pl_val (.int .i64 x16) (y_load rfl ((at_load_int Ag3 Sz3 d9) _ (Chg.refl _ _))) (ai rfl (c_nil (c_region (ms rfl (mi rfl (pl_val (.int .i64 (ishr .i64 x16 8)) (y_shr rfl rfl (by decide)) (pl_val (.int .u8 (IntKind.u8.wrap (ishr .i64 x16 8))) (y_conv_int Try.underlying3 Try.underlying5 rfl) (mi rfl (pl_val (.int .u8 (IntKind.u8.wrap x16)) (y_conv_int Try.underlying3 Try.underlying5 rfl) ?_))))))))))
  obtain ⟨c4, b7, e0, c5, b0, c6⟩ := new_block a0 [(.int .u8 (IntKind.u8.wrap (ishr .i64 x16 8))), (.int .u8 (IntKind.u8.wrap x16))] 5
  refine pl_val (w' := c4) (.slice (some ⟨b7, 0, none⟩) 2 2) (y_bslice rfl (by rw [e0, c5]; kernel_rfl)) ?_
  have h0 := h0.ext b0
  have a5 := a5.ext b0
  have hC := hC.ext b0
  have hO := hO.new1 b0 c5 c6.lt
  have b8 := os_of_box (r := (RT.int .u8)) (M := M) (css := [[(.int .u8 (IntKind.u8.wrap (ishr .i64 x16 8)))], [(.int .u8 (IntKind.u8.wrap x16))]]) (fps := [([] : List Nat), ([] : List Nat)]) (xs := ([IntKind.u8.wrap (ishr .i64 x16 8), IntKind.u8.wrap x16] : List Int)) c6 ⟨⟨rfl, rfl⟩, ⟨⟨rfl, rfl⟩, trivial⟩⟩ (Nat.le_of_ble_eq_true rfl) (List.nodup_cons.2 ⟨(fun h => nomatch h), List.nodup_nil⟩)
  have b8 : (RT.os 5 (RT.int .u8)).val M c4 (.slice (some ⟨b7, 0, none⟩) 2 2) [IntKind.u8.wrap (ishr .i64 x16 8), IntKind.u8.wrap x16] [b7] := b8
  obtain ⟨y27, e1, hs⟩ := bind_some hs
  have hO := hO.fr1
  obtain ⟨b9, c0, c1, e2, e3, e4, c2, e5, c3⟩ := app_os Rw118 e1 a5 b8 hO.inM (fun g hg hq => hO.apart g hq (mem_l hg))
  have c7 := os_block a5
  refine pl_val (w' := e2) (.slice b9 c0 c1) (y_append rfl rfl (e4 _)) ?_
  have hO := hO.fr1
  have hO := hO.fr1
  have h0 := h0.mt c2 hO c7
  have hC := hC.st c2 hO c7
  have hO := hO.eat c2 e5 (os_nodup c3) c3.fpl
  refine ax rfl (c_nil (c_region (pl_val (.int .i64 (w64 ((a1 : Int) + 1))) (y_add rfl rfl) (mi rfl (c_nil ?_)))))
  cases hs
  exact ⟨_, rfl, drop_cons_next hd, _, b9, c0, c1, e3, fr_ovl 27 ⟨rfl, rfl, rfl, congrArg (Value.int .i64) (w64_succ hlt (Int.natCast_nonneg _) (rs_max h0)), trivial⟩, hC, hO, h0, c3⟩
 ·skip
  exact ⟨0, rfl, rfl, _, b1, b2, b3, d1, fr_ovl 27 ⟨rfl, rfl, rfl, rfl, trivial⟩, hC, hO, h0, b5⟩
 cases o17 with
 | nx _ => exact True.intro
 | rt r_ =>
  have hs := after_rt hs
  intro e6 c8 hK
  cases hs
  exact hK
 | br s13 =>
  have hs := after_br hs
  rintro e6 a0 ⟨σ, a7, a8, a9, b6, rfl, hC, hO, h0, e7⟩
  refine c_sr (ms rfl (pl_val (.string (bstr s13)) (y_str Try.underlying118 Try.underlying9 Try.underlying5 e7 rfl) (pl_val (.string (bstr s13)) (y_assign rfl) (c_nil (wp_ret ?_)))))
  cases hs
  exact ⟨_, fr_ovl 27 ⟨rfl, trivial⟩, hC⟩

theorem Fa81x3 : ∀ (a : Addr) (w : World), (Instr.fieldAt 81 (.pointer (some a)) 3).run Try.prog w = .ok (.pointer (some (a.add 4))) w := fun _ _ => by kernel_rfl

theorem Ag79 : AggT Try.prog 79 false := fun _ => by kernel_rfl

theorem Sz79 : SzT Try.prog 79 1 := ⟨_, rfl, rfl⟩

theorem Bd59 : Bodied Try.prog 59 := bodied Try.func59 (by kernel_rfl) rfl

theorem Zv3 : ∀ w, (zeroValue 3).run Try.prog w = .ok ((Value.int .i64) 0) w := fun _ => by kernel_rfl

theorem Fa81x2 : ∀ (a : Addr) (w : World), (Instr.fieldAt 81 (.pointer (some a)) 2).run Try.prog w = .ok (.pointer (some (a.add 3))) w := fun _ _ => by kernel_rfl

theorem Ag25 : AggT Try.prog 25 false := fun _ => by kernel_rfl

theorem Sz25 : SzT Try.prog 25 1 := ⟨_, rfl, rfl⟩

def k_impl_span__add (M : Nat → Prop) (w0 : World) (vg0 : Nat) (pa0 : Option Addr) (pn0 pc0 : Nat) (va0x1 : Option Addr) (vn0x1 vc0x1 : Nat) (va0x3 : Option Addr) (vn0x3 vc0x3 : Nat) (vf0x3 : List Nat) (vn0x4 : Nat) (vf0x4 : List Nat) (t : List Int) (b0 : Int × (List (Int × (List Int))) × Int × (List (List Int)) × (List (ByteArray × Int))) (r : (List (List Int)) × (List (ByteArray × Int))) (a : Act) (w : World) : Prop :=
  ∃ (σ : Nat → Value) (oa0x3 : Option Addr) (on0x3 : Nat) (oc0x3 : Nat) (of0x3 : List Nat) (on0x4 : Nat) (of0x4 : List Nat), a = fr 39 (ovl σ []) ∧ Chg ([vg0] ++ (vf0x3 ++ (vf0x4 ++ ([])))) w0 w ∧ BoxV w vg0 81 [(.int .i64 b0.1), (.slice va0x1 vn0x1 vc0x1), (.int .i64 b0.2.2.1), (.slice oa0x3 on0x3 oc0x3), (.map (some on0x4))] ∧ (RT.os 43 (RT.rs (RT.int .i64))).val M w (.slice oa0x3 on0x3 oc0x3) r.1 of0x3 ∧ (RT.mo (Value.int .i64)).val M w (.map (some on0x4)) r.2 of0x4 ∧ Own (Nw w0 ([vg0] ++ (vf0x3 ++ (vf0x4 ++ ([]))))) (fun _ => True) w ([vg0] ++ (of0x3 ++ (of0x4 ++ ([]))))
def s_impl_span__add (t : List Int) (b0 : Int × (List (Int × (List Int))) × Int × (List (List Int)) × (List (ByteArray × Int))) : Option ((List (List Int)) × (List (ByteArray × Int))) :=
  (s_impl_keyOf t).bind fun r11 =>
  (bif (!((mget b0.2.2.2.2 r11).isSome)) then (s_impl_keyOf t).bind fun r19 =>
  (app b0.2.2.2.1 ([t])).bind fun y24 =>
  some (y24, mput b0.2.2.2.2 r19 (b0.2.2.2.1.length : Int)) else some (b0.2.2.2.1, b0.2.2.2.2))
set_option maxHeartbeats 4000000 in
theorem c_impl_span__add {M : Nat → Prop} {w : World} {vg0 : Nat} {pa0 : Option Addr} {pn0 pc0 : Nat} {va0x1 : Option Addr} {vn0x1 vc0x1 : Nat} {va0x3 : Option Addr} {vn0x3 vc0x3 : Nat} {vf0x3 : List Nat} {vn0x4 : Nat} {vf0x4 : List Nat} (t : List Int) (b0 : Int × (List (Int × (List Int))) × Int × (List (List Int)) × (List (ByteArray × Int))) (h0 : (RT.rs ri).val M w (.slice pa0 pn0 pc0) t ([])) (hb0 : BoxV w vg0 81 [(.int .i64 b0.1), (.slice va0x1 vn0x1 vc0x1), (.int .i64 b0.2.2.1), (.slice va0x3 vn0x3 vc0x3), (.map (some vn0x4))]) (hl0x1 : (RT.rs (RT.pr ri (RT.rs ri))).val M w (.slice va0x1 vn0x1 vc0x1) b0.2.1 ([])) (hl0x3 : (RT.os 43 (RT.rs ri)).val M w (.slice va0x3 vn0x3 vc0x3) b0.2.2.2.1 vf0x3) (hl0x4 : (RT.mo (Value.int .i64)).val M w (.map (some vn0x4)) b0.2.2.2.2 vf0x4) (hI : Own (Nw w ([vg0] ++ (vf0x3 ++ (vf0x4 ++ ([]))))) M w ([vg0] ++ (vf0x3 ++ (vf0x4 ++ ([]))))) (hM : ∀ g, w.heap.size ≤ g → M g) {r : (List (List Int)) × (List (ByteArray × Int))} (hs : s_impl_span__add t b0 = some r) :
    Gives Try.prog 98 [(pq vg0 0), (.slice pa0 pn0 pc0)] w (fun v w' => ∃ (oa0x3 : Option Addr) (on0x3 : Nat) (oc0x3 : Nat) (of0x3 : List Nat) (on0x4 : Nat) (of0x4 : List Nat), v = (.tuple #[]) ∧ Chg ([vg0] ++ (vf0x3 ++ (vf0x4 ++ ([])))) w w' ∧ BoxV w' vg0 81 [(.int .i64 b0.1), (.slice va0x1 vn0x1 vc0x1), (.int .i64 b0.2.2.1), (.slice oa0x3 on0x3 oc0x3), (.map (some on0x4))] ∧ (RT.os 43 (RT.rs ri)).val M w' (.slice oa0x3 on0x3 oc0x3) r.1 of0x3 ∧ (RT.mo (Value.int .i64)).val M w' (.map (some on0x4)) r.2 of0x4 ∧ Own (Nw w ([vg0] ++ (vf0x3 ++ (vf0x4 ++ ([]))))) (fun _ => True) w' ([vg0] ++ (of0x3 ++ (of0x4 ++ ([]))))) := by
 refine calls_fr Try.func98 rfl Try.ntmps98 (Nat.le_of_ble_eq_true rfl) ?_
 have hO := hI
 have hC := Chg.refl ([vg0] ++ (vf0x3 ++ (vf0x4 ++ ([])))) w
 unfold s_impl_span__add at hs
 refine wp_mono (Q := KPostN (k_impl_span__add M w vg0 pa0 pn0 pc0 va0x1 vn0x1 vc0x1 va0x3 vn0x3 vc0x3 vf0x3 vn0x4 vf0x4 t b0 r)) ?_ (fun e a d7 h => ?_)
 rotate_left
 ·cases e
  case ret =>
   obtain ⟨σ, oa0x3, on0x3, oc0x3, of0x3, on0x4, of0x4, rfl, hrest⟩ := h
   exact ret0x Try.results98  ⟨oa0x3, on0x3, oc0x3, of0x3, on0x4, of0x4, rfl, hrest⟩
  case normal =>
   obtain ⟨σ, oa0x3, on0x3, oc0x3, of0x3, on0x4, of0x4, rfl, hrest⟩ := h
   exact ret0n Try.results98  ⟨oa0x3, on0x3, oc0x3, of0x3, on0x4, of0x4, rfl, hrest⟩
  all_goals exact (h : False).elim
 refine c_seq (x_start [] Mx rfl ?_)
 have a2 := Chg.drew w
 generalize World.drew w = c5 at a2 ⊢
 have h0 := h0.ext a2
 have hl0x1 := hl0x1.ext a2
 have hl0x3 := hl0x3.ext a2
 have hl0x4 := hl0x4.ext a2
 have hb0 := hb0.cn a2
 have hC := hC.ext a2
 have hO := hO.ext a2
 have hS := Chg.refl [] c5
 refine x_p 0 (pq vg0 0) rfl (by kernel_rfl)  (fun _ => y_move rfl) (fun _ => hS) (x_p 1 (pq vg0 0) rfl (by kernel_rfl)  (fun _ => y_nilc rfl) (fun _ => hS) (x_p 2 (pq vg0 4) rfl (by kernel_rfl)  (fun _ => y_faddr rfl Fa81x3) (fun _ => hS) (x_l 3 (.map (some vn0x4)) rfl (by kernel_rfl)  (fun w' hw' => y_load rfl ((box_load Ag79 Sz79 hb0 [(.int .i64 b0.1), (.slice va0x1 vn0x1 vc0x1), (.int .i64 b0.2.2.1), (.slice va0x3 vn0x3 vc0x3)] [(.map (some vn0x4))] [] rfl rfl (fun _ => rfl)) w' hw')) hS (x_p 4 (.slice pa0 pn0 pc0) rfl (by kernel_rfl)  (fun _ => y_move rfl) (fun _ => hS) (x_one (i := 5) (by kernel_rfl) ?_)))))
 obtain ⟨r11, c6, hs⟩ := bind_some hs
 refine xk_call (b := false) rfl  Bd59 rfl (c_impl_keyOf (M := M) t h0 hO.fut c6) rfl (by rintro _ _ _ ⟨rfl, a0⟩; exact hS.ext a0) ?_
 rintro _ b9 ⟨rfl, a0⟩
 have h0 := h0.ext a0
 have hl0x1 := hl0x1.ext a0
 have hl0x3 := hl0x3.ext a0
 have hl0x4 := hl0x4.ext a0
 have hb0 := hb0.cn a0
 have hC := hC.ext a0
 have hO := hO.ext a0
 have hS := hS.ext a0
 refine x_one (i := 6) (by kernel_rfl) (xk_val (b := false) (.tuple #[(.int .i64 ((mget b0.2.2.2.2 r11).getD 0)), (.bool ((mget b0.2.2.2.2 r11).isSome))]) rfl  (y_look2 (enc := (Value.int .i64)) Try.underlying79 Try.underlying9 Zv3 (mo_at hl0x4) rfl rfl) rfl (fun _ => hS) (x_p 7 (.tuple #[(.int .i64 ((mget b0.2.2.2.2 r11).getD 0)), (.bool ((mget b0.2.2.2.2 r11).isSome))]) rfl (by kernel_rfl)  (fun _ => y_move rfl) (fun _ => hS) (x_p 8 (.int .i64 ((mget b0.2.2.2.2 r11).getD 0)) rfl (by kernel_rfl)  (fun _ => y_extract rfl (by kernel_rfl)) (fun _ => hS) (x_p 9 (.bool ((mget b0.2.2.2.2 r11).isSome)) rfl (by kernel_rfl)  (fun _ => y_extract rfl (by kernel_rfl)) (fun _ => hS) (x_p 10 (.int .i64 ((mget b0.2.2.2.2 r11).getD 0)) rfl (by kernel_rfl)  (fun _ => y_assign rfl) (fun _ => hS) (x_p 11 (.bool ((mget b0.2.2.2.2 r11).isSome)) rfl (by kernel_rfl)  (fun _ => y_assign rfl) (fun _ => hS) (x_end (by kernel_rfl) ?_)))))))
 clear hS
 refine c_sr (mb rfl (pl_val _ (y_not rfl) (c_nil ?_)))
 rcases bif_some hs with ⟨b5, hs⟩ | ⟨b5, hs⟩
 ·refine c_condT (cb b5) (c_seq (x_start [11] Mx rfl ?_))
  have a3 := Chg.drew b9
  generalize World.drew b9 = c7 at a3 ⊢
  have h0 := h0.ext a3
  have hl0x1 := hl0x1.ext a3
  have hl0x3 := hl0x3.ext a3
  have hl0x4 := hl0x4.ext a3
  have hb0 := hb0.cn a3
  have hC := hC.ext a3
  have hO := hO.ext a3
  have hS := Chg.refl [] c7
  refine x_p 0 (pq vg0 0) rfl (by kernel_rfl)  (fun _ => y_move rfl) (fun _ => hS) (x_p 1 (pq vg0 0) rfl (by kernel_rfl)  (fun _ => y_nilc rfl) (fun _ => hS) (x_p 2 (pq vg0 4) rfl (by kernel_rfl)  (fun _ => y_faddr rfl Fa81x3) (fun _ => hS) (x_l 3 (.map (some vn0x4)) rfl (by kernel_rfl)  (fun w' hw' => y_load rfl ((box_load Ag79 Sz79 hb0 [(.int .i64 b0.1), (.slice va0x1 vn0x1 vc0x1), (.int .i64 b0.2.2.1), (.slice va0x3 vn0x3 vc0x3)] [(.map (some vn0x4))] [] rfl rfl (fun _ => rfl)) w' hw')) hS (x_p 4 (.slice pa0 pn0 pc0) rfl (by kernel_rfl)  (fun _ => y_move rfl) (fun _ => hS) (x_p 6 (pq vg0 0) rfl (by kernel_rfl)  (fun _ => y_move rfl) (fun _ => hS) (x_p 7 (pq vg0 0) rfl (by kernel_rfl)  (fun _ => y_nilc rfl) (fun _ => hS) (x_p 8 (pq vg0 3) rfl (by kernel_rfl)  (fun _ => y_faddr rfl Fa81x2) (fun _ => hS) (x_l 9 (.slice va0x3 vn0x3 vc0x3) rfl (by kernel_rfl)  (fun w' hw' => y_load rfl ((box_load Ag25 Sz25 hb0 [(.int .i64 b0.1), (.slice va0x1 vn0x1 vc0x1), (.int .i64 b0.2.2.1)] [(.slice va0x3 vn0x3 vc0x3)] [(.map (some vn0x4))] rfl rfl (fun _ => rfl)) w' hw')) hS (x_p 10 (.int .i64 (b0.2.2.2.1.length : Int)) rfl (by kernel_rfl)  (fun _ => y_len' Sl25 (os_len hl0x3) rfl) (fun _ => hS) (x_one (i := 5) (by kernel_rfl) ?_))))))))))
  obtain ⟨r19, c8, hs⟩ := bind_some hs
  refine xk_call (b := false) rfl  Bd59 rfl (c_impl_keyOf (M := M) t h0 hO.fut c8) rfl (by rintro _ _ _ ⟨rfl, a1⟩; exact hS.ext a1) ?_
  rintro _ d8 ⟨rfl, a1⟩
  have h0 := h0.ext a1
  have hl0x1 := hl0x1.ext a1
  have hl0x3 := hl0x3.ext a1
  have hl0x4 := hl0x4.ext a1
  have hb0 := hb0.cn a1
  have hC := hC.ext a1
  have hO := hO.ext a1
  have hS := hS.ext a1
  refine x_one (i := 11) (by kernel_rfl) ?_
  have hO := hO.fr2
  obtain ⟨c0, c9, a6, a4⟩ := mo_put (P := Try.prog) (t := 79) (key := r19) (x := (b0.2.2.2.1.length : Int)) Try.underlying79 Try.underlying9 hl0x4
  refine xk_skip (w' := c0) (b := true) rfl (ys_put rfl rfl rfl c9) rfl (fun h => nomatch h) ?_
  have h0 := h0.mt a6 hO same_
  have hl0x1 := hl0x1.mt a6 hO same_
  have hl0x3 := hl0x3.ma a6 hO same_ (fun _ e => (mem_r (mem_l (e))))
  have hb0 := hb0.ap a6 hO same_ (mem_l (List.mem_singleton.2 rfl))
  have hC := hC.st a6 hO same_
  have hO := hO.ext a6
  refine x_end (by kernel_rfl) ?_
  clear hS
  refine c_region (mp rfl (mp rfl (pl_val _ (y_nilc rfl) (pl_val (pq vg0 3) (y_faddr rfl Fa81x2) (pl_val (.slice va0x3 vn0x3 vc0x3) (y_load rfl ((box_load Ag25 Sz25 hb0 [(.int .i64 b0.1), (.slice va0x1 vn0x1 vc0x1), (.int .i64 b0.2.2.1)] [(.slice va0x3 vn0x3 vc0x3)] [(.map (some vn0x4))] rfl rfl (fun _ => rfl)) _ (Chg.refl _ _))) (ms rfl ?_))))))
  obtain ⟨c1, b6, d0, c2, a5, c3⟩ := new_block c0 [(.slice pa0 pn0 pc0)] 43
  refine pl_val (w' := c1) (.slice (some ⟨b6, 0, none⟩) 1 1) (y_bslice rfl (by rw [d0, c2]; kernel_rfl)) ?_
  have h0 := h0.ext a5
  have hl0x1 := hl0x1.ext a5
  have hl0x3 := hl0x3.ext a5
  have a4 := a4.ext a5
  have hb0 := hb0.cn a5
  have hC := hC.ext a5
  have hO := hO.new1 a5 c2 c3.lt
  have b7 := os_of_box (r := (RT.rs ri)) (M := M) (css := [[(.slice pa0 pn0 pc0)]]) (fps := [([] : List Nat)]) (xs := ([t] : List (List Int))) c3 ⟨(rs_unval h0), trivial⟩ (Nat.le_of_ble_eq_true rfl) (List.nodup_cons.2 ⟨(fun h => nomatch h), List.nodup_nil⟩)
  have b7 : (RT.os 43 (RT.rs ri)).val M c1 (.slice (some ⟨b6, 0, none⟩) 1 1) [t] [b6] := b7
  obtain ⟨y24, d1, hs⟩ := bind_some hs
  have hO := hO.fr3
  obtain ⟨b2, b3, b4, d2, d3, d4, a7, d5, a9⟩ := app_os Rw25 d1 hl0x3 b7 hO.inM (fun g hg hq => hO.apart g hq (mem_l hg))
  have b1 := os_block hl0x3
  refine pl_val (w' := d2) (.slice b2 b3 b4) (y_append rfl rfl (d4 _)) ?_
  have hO := hO.fr1
  have hO := hO.fr1
  have h0 := h0.mt a7 hO b1
  have hl0x1 := hl0x1.mt a7 hO b1
  have a4 := a4.ma a7 hO b1 (fun _ e => (mem_r (mem_l (e))))
  have hb0 := hb0.ap a7 hO b1 (mem_r (mem_r (mem_l (List.mem_singleton.2 rfl))))
  have hC := hC.st a7 hO b1
  have hO := hO.eat a7 d5 (os_nodup a9) a9.fpl
  refine pl_val _ (y_nilc rfl) (pl_val (pq vg0 3) (y_faddr rfl Fa81x2) ?_)
  obtain ⟨c4, d6, a8, b8⟩ := box_store (P := Try.prog) hb0 [(.int .i64 b0.1), (.slice va0x1 vn0x1 vc0x1), (.int .i64 b0.2.2.1)] [(.slice va0x3 vn0x3 vc0x3)] [(.map (some vn0x4))] [(.slice b2 b3 b4)] rfl rfl (by intro u hu; simp only [List.mem_cons, List.not_mem_nil, or_false] at hu; rcases hu with rfl <;> rfl)
  refine pl_skip (w' := c4) (ys_store rfl rfl (d6 _ _ rfl Sz25)) ?_
  have hO := hO.fr2
  have h0 := h0.mt a8 hO same_
  have hl0x1 := hl0x1.mt a8 hO same_
  have a4 := a4.ma a8 hO same_ (fun _ e => (mem_r (mem_l (e))))
  have a9 := a9.ma a8 hO same_ (fun _ e => (mem_l (e)))
  have hC := hC.st a8 hO same_
  have hO := hO.ext a8
  have b8 : BoxV c4 vg0 81 [(.int .i64 b0.1), (.slice va0x1 vn0x1 vc0x1), (.int .i64 b0.2.2.1), (.slice b2 b3 b4), (.map (some vn0x4))] := b8
  refine c_nil ?_
  cases hs
  have hO := hO.fr2
  have hO := hO.fr2
  have hO := hO.fr2
  exact ⟨_, b2, b3, b4, d3, vn0x4, vf0x4, fr_ovl 39 trivial, hC, b8, a9, a4, hO.top⟩
 refine c_condF (cb b5) (wp_skip ?_)
 cases hs
 have hO := hO.fr2
 have hO := hO.fr2
 have hO := hO.fr2
 exact ⟨_, va0x3, vn0x3, vc0x3, vf0x3, vn0x4, vf0x4, fr_ovl 39 trivial, hC, hb0, hl0x3, hl0x4, hO.top⟩

def k_impl_mostTuples (M : Nat → Prop) (w0 : World) (r : Int) (a : Act) (w : World) : Prop :=
  ∃ (σ : Nat → Value) , a = fr 23 (ovl σ [(2, (.int .i64 r))]) ∧ Chg [] w0 w
def s_impl_mostTuples (a_ : Int × (List (Int × (List Int)))) : Option (Int) :=
  (forR (S := Int) (R := Int) (fun _ x11 s8 =>
  some (.nx (max s8 x11.1))) 0 a_.2 0).bind fun o12 => after o12 (fun r_ => some r_) (fun s8 =>
  (bif (s8 == 3) then some 40 else (bif (s8 == 2) then some 200 else some 300)))
set_option maxHeartbeats 4000000 in
theorem c_impl_mostTuples {M : Nat → Prop} {w : World} {pa0 : Option Addr} {pn0 pc0 : Nat} (a_ : Int × (List (Int × (List Int)))) (h0 : (RT.rs (RT.pr ri (RT.rs ri))).val M w (.slice pa0 pn0 pc0) a_.2 ([])) (hM : ∀ g, w.heap.size ≤ g → M g) {r : Int} (hs : s_impl_mostTuples a_ = some r) :
    Gives Try.prog 100 [(.agg #[(.int .i64 a_.1), (.slice pa0 pn0 pc0)])] w (fun v w' => v = (.int .i64 r) ∧ Chg [] w w') := by
 refine calls_fr Try.func100 rfl Try.ntmps100 (Nat.le_of_ble_eq_true rfl) ?_
 have hO := Own.start (N := Nw w []) hM Nw.fut
 have hC := Chg.refl [] w
 unfold s_impl_mostTuples at hs
 refine wp_mono (Q := KPost (k_impl_mostTuples M w r)) ?_ (fun e a c0 h => ?_)
 rotate_left
 ·cases e
  case ret =>
   obtain ⟨σ, rfl, hrest⟩ := h
   exact ret1x Try.results100 (res_tmp rfl) ⟨rfl, hrest⟩
  all_goals exact (h : False).elim
 refine c_sr ?_
 obtain ⟨c1, b4, c2, b5, a8, b6⟩ := new_block w [(.int .i64 a_.1), (.slice pa0 pn0 pc0)] 35
 refine pl_val (w' := c1) (pq b4 0) (y_box rfl (by rw [c2, b5]; kernel_rfl)) ?_
 have h0 := h0.ext a8
 have hC := hC.ext a8
 have hO := hO.new1 a8 b5 b6.lt
 refine ai rfl (c_nil (c_sr (ai rfl (c_nil (c_seq (c_sr (pl_val (pq b4 1) (y_faddr rfl Fa35x1) (pl_val (.slice pa0 pn0 pc0) (y_load rfl ((box_load Ag33 Sz33 b6 [(.int .i64 a_.1)] [(.slice pa0 pn0 pc0)] [] rfl rfl (fun _ => rfl)) _ (Chg.refl _ _))) (pl_val _ (y_len' Sl33 (rs_len h0) rfl) (mi rfl (c_nil ?_)))))))))))
 have hO := hO.drop
 obtain ⟨o12, c3, hs⟩ := bind_some hs
 refine wp_block (wp_forR (id := 0) (I := fun i_ xs_ s8 a a0 => ∃ a1 : Nat, i_ = (a1 : Int) ∧ List.drop a1 a_.2 = xs_ ∧ (∃ (σ : Nat → Value), a = fr 23 (ovl σ [(3, (.int .i64 s8)), (7, (.slice pa0 pn0 pc0)), (8, (.int .i64 (a_.2.length : Int))), (9, (.int .i64 (a1 : Int)))]) ∧ Chg [] w a0 ∧ Own (Nw w []) M a0 ([]) ∧ (RT.rs (RT.pr ri (RT.rs ri))).val M a0 (.slice pa0 pn0 pc0) a_.2 ([]))) (J := fun s8 a a0 => ∃ (σ : Nat → Value), a = fr 23 (ovl σ [(3, (.int .i64 s8))]) ∧ Chg [] w a0 ∧ Own (Nw w []) M a0 ([]) ∧ (RT.rs (RT.pr ri (RT.rs ri))).val M a0 (.slice pa0 pn0 pc0) a_.2 ([])) (K := (k_impl_mostTuples M w)) ?_ ?_ a_.2 0 0 o12 _ _ ?_ c3 ?_)
 ·rintro _ s8 a a0 ⟨a1, rfl, hd, σ, rfl, hC, hO, h0⟩
  have hlt := drop_nil_ge hd
  refine c_sr (pl_val _ (y_lss rfl rfl) (c_nil (c_seq (c_condF (cb (decide_eq_false hlt)) (wp_exit ?_)))))
  exact ⟨rfl, _, fr_ovl 23 ⟨rfl, trivial⟩, hC, hO, h0⟩
 ·rintro _ x11 xs_ s8 o12 a a0 ⟨a1, rfl, hd, σ, rfl, hC, hO, h0⟩ hs
  have hlt := drop_cons_lt hd
  have c4 := drop_cons_idx hd
  refine c_sr (pl_val _ (y_lss rfl rfl) (c_nil (c_seq (c_condT (cb (decide_eq_true hlt)) (wp_skip (c_seq (wp_block (c_sr ?_))))))))
  obtain ⟨c5, c6, c7, a9⟩ := rs_idx Sl33 Sz89 h0 c4
  refine pl_val _ (c7 _ _ _ _ _ _ _ _ _ rfl rfl) ?_
  obtain ⟨d7, c8, c9⟩ := at_load Ag89 Sz89 (by intro h; cases h) a9
  obtain ⟨d8, rfl, d0⟩ := c9
  obtain ⟨d9, e0, rfl, d1, d2⟩ := pr_open d0
  obtain rfl := int_rel d1
  obtain ⟨a3, a4, a5, rfl, a6⟩ := rs_rel d2
  refine pl_val (.agg #[(.int .i64 x11.1), (.slice a3 a4 a5)]) (y_load rfl (c8 _ (Chg.refl _ _))) ?_
  obtain ⟨d3, b0, d4, b7, a2, b8⟩ := new_block a0 [(.int .i64 0), (.slice none 0 0)] 89
  refine pl_val (w' := d3) (pq b0 0) (y_alloc (by rw [d4, b7]; kernel_rfl)) ?_
  have h0 := h0.ext a2
  have a6 := a6.ext a2
  have a9 := at_ext a9 a2
  have hC := hC.ext a2
  have hO := hO.new1 a2 b7 b8.lt
  obtain ⟨b9, d5, a7, b1⟩ := box_store (P := Try.prog) b8 [] [(.int .i64 0), (.slice none 0 0)] [] [(.int .i64 x11.1), (.slice a3 a4 a5)] rfl rfl (by intro u hu; simp only [List.mem_cons, List.not_mem_nil, or_false] at hu; rcases hu with rfl | rfl <;> rfl)
  refine pl_skip (w' := b9) (ys_store rfl rfl (d5 _ _ rfl Sz89)) ?_
  have h0 := h0.mt a7 hO same_
  have a6 := a6.mt a7 hO same_
  have hC := hC.st a7 hO same_
  have hO := hO.ext a7
  have b1 : BoxV b9 b0 89 [(.int .i64 x11.1), (.slice a3 a4 a5)] := b1
  refine c_nil (c_region (mi rfl (pl_val (pq b0 0) (y_faddr rfl Fa89x0) (pl_val (.int .i64 x11.1) (y_load rfl ((box_load Ag3 Sz3 b1 [] [(.int .i64 x11.1)] [(.slice a3 a4 a5)] rfl rfl (fun _ => rfl)) _ (Chg.refl _ _))) (pl_val (.int .i64 (max s8 x11.1)) (y_max rfl rfl) (ai rfl (c_nil (c_region (pl_val (.int .i64 (w64 ((a1 : Int) + 1))) (y_add rfl rfl) (mi rfl (c_nil ?_)))))))))))
  cases hs
  have hO := hO.drop
  exact ⟨_, rfl, drop_cons_next hd, _, fr_ovl 23 ⟨rfl, rfl, rfl, congrArg (Value.int .i64) (w64_succ hlt (Int.natCast_nonneg _) (rs_max h0)), trivial⟩, hC, hO, h0⟩
 ·skip
  exact ⟨0, rfl, rfl, _, fr_ovl 23 ⟨rfl, rfl, rfl, rfl, trivial⟩, hC, hO, h0⟩
 cases o12 with
 | nx _ => exact True.intro
 | rt r_ =>
  have hs := after_rt hs
  intro d6 c0 hK
  cases hs
  exact hK
 | br s8 =>
  have hs := after_br hs
  rintro d6 a0 ⟨σ, rfl, hC, hO, h0⟩
  refine c_seq (c_sr (mi rfl (c_nil (wp_block (c_sr (pl_val (.bool (s8 == 3)) (y_eql rfl rfl) (ab rfl (c_nil ?_))))))))
  rcases bif_some hs with ⟨b2, hs⟩ | ⟨b2, hs⟩
  ·refine c_condT (cb b2) (c_sr (ai rfl (c_nil (wp_ret ?_))))
   cases hs
   exact ⟨_, fr_ovl 23 ⟨rfl, trivial⟩, hC⟩
  refine c_condF (cb b2) (c_sr (pl_val (.bool (s8 == 2)) (y_eql rfl rfl) (ab rfl (c_nil ?_))))
  rcases bif_some hs with ⟨b3, hs⟩ | ⟨b3, hs⟩
  ·refine c_condT (cb b3) (c_sr (ai rfl (c_nil (wp_ret ?_))))
   cases hs
   exact ⟨_, fr_ovl 23 ⟨rfl, trivial⟩, hC⟩
  refine c_condF (cb b3) (wp_skip (c_sr (ai rfl (c_nil (wp_ret ?_)))))
  cases hs
  exact ⟨_, fr_ovl 23 ⟨rfl, trivial⟩, hC⟩

def k_impl_applyTuples (M : Nat → Prop) (w0 : World) (r : (List Int)) (a : Act) (w : World) : Prop :=
  ∃ (σ : Nat → Value) (ra0 : Option Addr) (rn0 rc0 : Nat) (rf0 : List Nat), a = fr 47 (ovl σ [(8, (.slice ra0 rn0 rc0))]) ∧ Chg [] w0 w ∧ (RT.os 3 (RT.int .i64)).val M w (.slice ra0 rn0 rc0) r rf0 ∧ Own (Nw w0 []) (fun _ => True) w (rf0 ++ ([]))
def s_impl_applyTuples (a_ : Int × (List (Int × (List Int)))) (f : Int × (List Int)) (k : Int) (tuples : List (List Int)) : Option ((List Int)) :=
  (mks k (0 : Int)).bind fun y7 =>
  (forC (S := (List Int)) (R := (List Int)) (fun k58 s56 =>
  (forR (S := Int) (R := (List Int)) (fun _ x74 s71 =>
  (idx x74 k58).bind fun x81 =>
  some (.nx (w64 ((w64 (s71 * a_.1)) + x81)))) 0 tuples 0).bind fun o75 => after o75 (fun r_ => some (.rt r_)) (fun s71 =>
  (idx f.2 s71).bind fun x83 =>
  (idx s56 k58).bind fun x85 =>
  some (.nx (List.set s56 (Int.toNat k58) x83)))) 0 (y7.length : Int) y7).bind fun o60 => after o60 (fun r_ => some r_) (fun s56 =>
  some s56)
set_option maxHeartbeats 4000000 in
theorem c_impl_applyTuples {M : Nat → Prop} {w : World} {pa0 : Option Addr} {pn0 pc0 : Nat} {pa1 : Option Addr} {pn1 pc1 : Nat} {pa2 : Option Addr} {pn2 pc2 : Nat} (a_ : Int × (List (Int × (List Int)))) (f : Int × (List Int)) (k : Int) (tuples : List (List Int)) (h0 : (RT.rs (RT.pr ri (RT.rs ri))).val M w (.slice pa0 pn0 pc0) a_.2 ([])) (h1 : (RT.rs ri).val M w (.slice pa1 pn1 pc1) f.2 ([])) (h2 : (RT.rs (RT.rs ri)).val M w (.slice pa2 pn2 pc2) tuples ([])) (hM : ∀ g, w.heap.size ≤ g → M g) {r : (List Int)} (hs : s_impl_applyTuples a_ f k tuples = some r) :
    Gives Try.prog 112 [(.agg #[(.int .i64 a_.1), (.slice pa0 pn0 pc0)]), (.agg #[(.int .i64 f.1), (.slice pa1 pn1 pc1)]), (.int .i64 k), (.slice pa2 pn2 pc2)] w (fun v w' => ∃ (ra0 : Option Addr) (rn0 rc0 : Nat) (rf0 : List Nat), v = (.slice ra0 rn0 rc0) ∧ Chg [] w w' ∧ (RT.os 3 ri).val M w' (.slice ra0 rn0 rc0) r rf0 ∧ Own (Nw w []) (fun _ => True) w' (rf0 ++ ([]))) := by
 refine calls_fr Try.func112 rfl Try.ntmps112 (Nat.le_of_ble_eq_true rfl) ?_
 have hO := Own.start (N := Nw w []) hM Nw.fut
 have hC := Chg.refl [] w
 unfold s_impl_applyTuples at hs
 refine wp_mono (Q := KPost (k_impl_applyTuples M w r)) ?_ (fun e a c6 h => ?_)
 rotate_left
 ·cases e
  case ret =>
   obtain ⟨σ, ra0, rn0, rc0, rf0, rfl, hrest⟩ := h
   exact ret1x Try.results112 (res_tmp rfl) ⟨ra0, rn0, rc0, rf0, rfl, hrest⟩
  all_goals exact (h : False).elim
 refine c_sr ?_
 obtain ⟨c7, a8, d3, c8, b7, a0⟩ := new_block w [(.int .i64 a_.1), (.slice pa0 pn0 pc0)] 35
 refine pl_val (w' := c7) (pq a8 0) (y_box rfl (by rw [d3, c8]; kernel_rfl)) ?_
 have h0 := h0.ext b7
 have h1 := h1.ext b7
 have h2 := h2.ext b7
 have hC := hC.ext b7
 have hO := hO.new1 b7 c8 a0.lt
 obtain ⟨c9, a9, d4, d0, b5, a2⟩ := new_block c7 [(.int .i64 f.1), (.slice pa1 pn1 pc1)] 89
 refine pl_val (w' := c9) (pq a9 0) (y_box rfl (by rw [d4, d0]; kernel_rfl)) ?_
 have h0 := h0.ext b5
 have h1 := h1.ext b5
 have h2 := h2.ext b5
 have a0 := a0.cn b5
 have hC := hC.ext b5
 have hO := hO.new1 b5 d0 a2.lt
 refine ax rfl (c_nil (c_sr (mi rfl ?_)))
 obtain ⟨y7, d5, hs⟩ := bind_some hs
 obtain ⟨a4, a5, a6, d6, d7, d8, b3, d9, b8⟩ := mk_os (M := M) (w := c9) (r := ri) Rw43 d5 (fun _ _ => ⟨rfl, rfl⟩)
 refine pl_val (w' := d6) (.slice a4 a5 a6) (y_make rfl rfl d8) ?_
 have h0 := h0.ext b3
 have h1 := h1.ext b3
 have h2 := h2.ext b3
 have a0 := a0.cn b3
 have a2 := a2.cn b3
 have hC := hC.ext b3
 have hO := hO.new b3 d9 (os_nodup b8) b8.fpl
 refine ax rfl (c_nil (c_seq (c_sr (ms rfl (pl_val _ (y_len' Sl43 (os_len b8) rfl) (mi rfl (c_nil ?_)))))))
 obtain ⟨o60, e0, hs⟩ := bind_some hs
 refine wp_block (wp_forC (id := 0) (y7.length : Int) (I := fun k58 s56 a a3 => ∃ (σ : Nat → Value) (b0 : List Nat), a = fr 47 (ovl σ [(3, (.slice pa2 pn2 pc2)), (4, (pq a8 0)), (5, (pq a9 0)), (9, (.slice a4 a5 a6)), (17, (.int .i64 (y7.length : Int))), (18, (.int .i64 k58))]) ∧ Chg [] w a3 ∧ Own (Nw w []) M a3 (b0 ++ (([a9]) ++ (([a8]) ++ []))) ∧ (RT.rs (RT.pr ri (RT.rs ri))).val M a3 (.slice pa0 pn0 pc0) a_.2 ([]) ∧ (RT.rs ri).val M a3 (.slice pa1 pn1 pc1) f.2 ([]) ∧ (RT.rs (RT.rs ri)).val M a3 (.slice pa2 pn2 pc2) tuples ([]) ∧ BoxV a3 a8 35 [(.int .i64 a_.1), (.slice pa0 pn0 pc0)] ∧ BoxV a3 a9 89 [(.int .i64 f.1), (.slice pa1 pn1 pc1)] ∧ (RT.os 3 ri).val M a3 (.slice a4 a5 a6) s56 b0) (J := fun s56 a a3 => ∃ (σ : Nat → Value) (b9 : List Nat), a = fr 47 (ovl σ [(9, (.slice a4 a5 a6))]) ∧ Chg [] w a3 ∧ Own (Nw w []) M a3 (b9 ++ (([a9]) ++ (([a8]) ++ []))) ∧ (RT.rs (RT.pr ri (RT.rs ri))).val M a3 (.slice pa0 pn0 pc0) a_.2 ([]) ∧ (RT.rs ri).val M a3 (.slice pa1 pn1 pc1) f.2 ([]) ∧ (RT.rs (RT.rs ri)).val M a3 (.slice pa2 pn2 pc2) tuples ([]) ∧ BoxV a3 a8 35 [(.int .i64 a_.1), (.slice pa0 pn0 pc0)] ∧ BoxV a3 a9 89 [(.int .i64 f.1), (.slice pa1 pn1 pc1)] ∧ (RT.os 3 ri).val M a3 (.slice a4 a5 a6) s56 b9) (K := (k_impl_applyTuples M w)) ?_ ?_ 0 y7 o60 _ _ ?_ e0 ?_)
 ·rintro k58 s56 a a3 ⟨σ, b0, rfl, hC, hO, h0, h1, h2, a0, a2, a7⟩ hlt
  refine c_sr (pl_val _ (y_lss rfl rfl) (c_nil (c_seq (c_condF (cb (decide_eq_false hlt)) (wp_exit ?_)))))
  have hO := hO.fr2
  have hO := hO.fr2
  have hO := hO.fr2
  exact ⟨rfl, _, b0, fr_ovl 47 ⟨rfl, trivial⟩, hC, hO, h0, h1, h2, a0, a2, a7⟩
 ·rintro k58 s56 o60 a a3 ⟨σ, b0, rfl, hC, hO, h0, h1, h2, a0, a2, a7⟩ hlt hw hs
  refine c_sr (pl_val _ (y_lss rfl rfl) (c_nil (c_seq (c_condT (cb (decide_eq_true hlt)) (wp_skip (c_seq (wp_block (c_sr (mi rfl (ai rfl (c_nil (c_sr (ai rfl (c_nil (c_seq (c_sr (ms rfl (pl_val _ (y_len' Sl25 (rs_len h2) rfl) (mi rfl (c_nil ?_))))))))))))))))))))
  obtain ⟨o75, e1, hs⟩ := bind_some hs
  refine wp_block (wp_forR (id := 2) (I := fun i_ xs_ s71 a a1 => ∃ b2 : Nat, i_ = (b2 : Int) ∧ List.drop b2 tuples = xs_ ∧ (∃ (σ : Nat → Value), a = fr 47 (ovl σ [(3, (.slice pa2 pn2 pc2)), (4, (pq a8 0)), (5, (pq a9 0)), (9, (.slice a4 a5 a6)), (10, (.int .i64 k58)), (11, (.int .i64 s71)), (17, (.int .i64 (y7.length : Int))), (18, (.int .i64 k58)), (21, (.slice pa2 pn2 pc2)), (22, (.int .i64 (tuples.length : Int))), (23, (.int .i64 (b2 : Int)))]) ∧ Chg [] w a1 ∧ Own (Nw w []) M a1 (b0 ++ (([a9]) ++ (([a8]) ++ []))) ∧ (RT.rs (RT.pr ri (RT.rs ri))).val M a1 (.slice pa0 pn0 pc0) a_.2 ([]) ∧ (RT.rs ri).val M a1 (.slice pa1 pn1 pc1) f.2 ([]) ∧ (RT.rs (RT.rs ri)).val M a1 (.slice pa2 pn2 pc2) tuples ([]) ∧ BoxV a1 a8 35 [(.int .i64 a_.1), (.slice pa0 pn0 pc0)] ∧ BoxV a1 a9 89 [(.int .i64 f.1), (.slice pa1 pn1 pc1)] ∧ (RT.os 3 ri).val M a1 (.slice a4 a5 a6) s56 b0)) (J := fun s71 a a1 => ∃ (σ : Nat → Value), a = fr 47 (ovl σ [(3, (.slice pa2 pn2 pc2)), (4, (pq a8 0)), (5, (pq a9 0)), (9, (.slice a4 a5 a6)), (10, (.int .i64 k58)), (11, (.int .i64 s71)), (17, (.int .i64 (y7.length : Int))), (18, (.int .i64 k58))]) ∧ Chg [] w a1 ∧ Own (Nw w []) M a1 (b0 ++ (([a9]) ++ (([a8]) ++ []))) ∧ (RT.rs (RT.pr ri (RT.rs ri))).val M a1 (.slice pa0 pn0 pc0) a_.2 ([]) ∧ (RT.rs ri).val M a1 (.slice pa1 pn1 pc1) f.2 ([]) ∧ (RT.rs (RT.rs ri)).val M a1 (.slice pa2 pn2 pc2) tuples ([]) ∧ BoxV a1 a8 35 [(.int .i64 a_.1), (.slice pa0 pn0 pc0)] ∧ BoxV a1 a9 89 [(.int .i64 f.1), (.slice pa1 pn1 pc1)] ∧ (RT.os 3 ri).val M a1 (.slice a4 a5 a6) s56 b0) (K := (k_impl_applyTuples M w)) ?_ ?_ tuples 0 0 o75 _ _ ?_ e1 ?_)
  ·rintro _ s71 a a1 ⟨b2, rfl, hd, σ, rfl, hC, hO, h0, h1, h2, a0, a2, a7⟩
   have hlt := drop_nil_ge hd
   refine c_sr (pl_val _ (y_lss rfl rfl) (c_nil (c_seq (c_condF (cb (decide_eq_false hlt)) (wp_exit ?_)))))
   have hO := hO.fr2
   have hO := hO.fr2
   have hO := hO.fr2
   exact ⟨rfl, _, fr_ovl 47 ⟨rfl, rfl, rfl, rfl, rfl, rfl, rfl, rfl, trivial⟩, hC, hO, h0, h1, h2, a0, a2, a7⟩
  ·rintro _ x74 xs_ s71 o75 a a1 ⟨b2, rfl, hd, σ, rfl, hC, hO, h0, h1, h2, a0, a2, a7⟩ hs
   have hlt := drop_cons_lt hd
   have e2 := drop_cons_idx hd
   refine c_sr (pl_val _ (y_lss rfl rfl) (c_nil (c_seq (c_condT (cb (decide_eq_true hlt)) (wp_skip (c_seq (wp_block (c_sr ?_))))))))
   obtain ⟨e3, e4, e5, e6⟩ := rs_idx Sl25 Sz43 h2 e2
   refine pl_val _ (e5 _ _ _ _ _ _ _ _ _ rfl rfl) ?_
   obtain ⟨g7, e7, c0⟩ := at_load Ag43 Sz43 (fun _ => rfl) e6
   obtain ⟨c1, c2, c3, rfl⟩ := rs_sl c0
   refine pl_val (.slice c1 c2 c3) (y_load rfl (e7 _ (Chg.refl _ _))) (ax rfl (c_nil (x_start [] Mx rfl ?_)))
   have b1 := Chg.drew a1
   generalize World.drew a1 = e8 at b1 ⊢
   have h0 := h0.ext b1
   have h1 := h1.ext b1
   have h2 := h2.ext b1
   have a0 := a0.cn b1
   have a2 := a2.cn b1
   have a7 := a7.ext b1
   have c0 := c0.ext b1
   have hC := hC.ext b1
   have hO := hO.ext b1
   have hS := Chg.refl [] e8
   refine x_p 0 (.int .i64 s71) rfl (by kernel_rfl)  (fun _ => y_move rfl) (fun _ => hS) (x_p 1 (pq a8 0) rfl (by kernel_rfl)  (fun _ => y_faddr rfl Fa35x0) (fun _ => hS) (x_l 2 (.int .i64 a_.1) rfl (by kernel_rfl)  (fun w' hw' => y_load rfl ((box_load Ag3 Sz3 a0 [] [(.int .i64 a_.1)] [(.slice pa0 pn0 pc0)] rfl rfl (fun _ => rfl)) w' hw')) hS (x_p 3 (.int .i64 (w64 (s71 * a_.1))) rfl (by kernel_rfl)  (fun _ => y_mul rfl rfl) (fun _ => hS) (x_p 4 (.slice c1 c2 c3) rfl (by kernel_rfl)  (fun _ => y_move rfl) (fun _ => hS) (x_p 5 (.int .i64 k58) rfl (by kernel_rfl)  (fun _ => y_move rfl) (fun _ => hS) ?_)))))
   obtain ⟨x81, e9, hs⟩ := bind_some hs
   obtain ⟨f0, f1, f2, f3⟩ := rs_idx Sl43 Sz3 c0 e9
   refine x_p 6 (pq f0 f1) rfl (by kernel_rfl)  (fun _ => f2 _ _ _ _ _ _ _ _ _ rfl rfl) (fun _ => hS) (x_l 7 (.int .i64 x81) rfl (by kernel_rfl)  (fun w' hw' => y_load rfl ((at_load_int Ag3 Sz3 f3) w' hw')) hS (x_p 8 (.int .i64 (w64 ((w64 (s71 * a_.1)) + x81))) rfl (by kernel_rfl)  (fun _ => y_add rfl rfl) (fun _ => hS) (x_p 9 (.int .i64 (w64 ((w64 (s71 * a_.1)) + x81))) rfl (by kernel_rfl)  (fun _ => y_assign rfl) (fun _ => hS) (x_end (by kernel_rfl) ?_))))
   clear hS
   refine c_region (pl_val (.int .i64 (w64 ((b2 : Int) + 1))) (y_add rfl rfl) (mi rfl (c_nil ?_)))
   cases hs
   have hO := hO.fr2
   have hO := hO.fr2
   have hO := hO.fr2
   exact ⟨_, rfl, drop_cons_next hd, _, fr_ovl 47 ⟨rfl, rfl, rfl, rfl, rfl, rfl, rfl, rfl, rfl, rfl, congrArg (Value.int .i64) (w64_succ hlt (Int.natCast_nonneg _) (rs_max h2)), trivial⟩, hC, hO, h0, h1, h2, a0, a2, a7⟩
  ·skip
   have hO := hO.fr2
   have hO := hO.fr2
   have hO := hO.fr2
   exact ⟨0, rfl, rfl, _, fr_ovl 47 ⟨rfl, rfl, rfl, rfl, rfl, rfl, rfl, rfl, rfl, rfl, rfl, trivial⟩, hC, hO, h0, h1, h2, a0, a2, a7⟩
  cases o75 with
  | nx _ => exact True.intro
  | rt r_ =>
   have hs := after_rt hs
   intro c4 c6 hK
   cases hs
   exact hK
  | br s71 =>
   have hs := after_br hs
   rintro c4 a1 ⟨σ, rfl, hC, hO, h0, h1, h2, a0, a2, a7⟩
   refine c_region (ms rfl (mi rfl (pl_val (pq a9 1) (y_faddr rfl Fa89x1) (pl_val (.slice pa1 pn1 pc1) (y_load rfl ((box_load Ag43 Sz43 a2 [(.int .i64 f.1)] [(.slice pa1 pn1 pc1)] [] rfl rfl (fun _ => rfl)) _ (Chg.refl _ _))) (mi rfl ?_)))))
   obtain ⟨x83, f4, hs⟩ := bind_some hs
   obtain ⟨f5, f6, f7, f8⟩ := rs_idx Sl43 Sz3 h1 f4
   refine pl_val _ (f7 _ _ _ _ _ _ _ _ _ rfl rfl) (pl_val (.int .i64 x83) (y_load rfl ((at_load_int Ag3 Sz3 f8) _ (Chg.refl _ _))) ?_)
   obtain ⟨x85, f9, hs⟩ := bind_some hs
   obtain ⟨d1, g8, d2, g0, g1, g9, h3⟩ := os_idx Sl43 Sz3 a7 f9
   refine pl_val _ (g1 _ _ _ _ _ _ _ _ _ rfl rfl) ?_
   obtain ⟨g2, g3, g4, b4, g5, c5⟩ := os_store (P := Try.prog) (c' := [(.int .i64 x83)]) d2 a7 g0 (fun g hg => hO.inM g (os_block a7 g (by simpa using hg))) ⟨rfl, rfl⟩ List.nodup_nil (fun _ h => nomatch h) (fun _ h => .inl h)
   have b6 : ∀ q ∈ [d1], q ∈ b0 := fun q hq => os_block a7 q (by rw [d2]; exact hq)
   refine pl_skip (w' := g2) (ys_store rfl rfl (g4 _ _ rfl Sz3)) ?_
   have h0 := h0.mt b4 hO b6
   have h1 := h1.mt b4 hO b6
   have h2 := h2.mt b4 hO b6
   have a0 := a0.ap b4 hO b6 (mem_r (mem_l (List.mem_singleton.2 rfl)))
   have a2 := a2.ap b4 hO b6 (mem_l (List.mem_singleton.2 rfl))
   have hC := hC.st b4 hO b6
   have hO := hO.grow b4 (fun q hq => .inl ((g5 q hq).resolve_right (fun h => nomatch h))) (os_nodup c5) c5.fpl
   refine c_nil (c_region (pl_val (.int .i64 (w64 (k58 + 1))) (y_add rfl rfl) (mi rfl (c_nil ?_))))
   cases hs
   have hO := hO.fr2
   have hO := hO.fr2
   have hO := hO.fr2
   exact ⟨_, g3, fr_ovl 47 ⟨rfl, rfl, rfl, rfl, rfl, congrArg (Value.int .i64) hw, trivial⟩, hC, hO, h0, h1, h2, a0, a2, c5⟩
 ·skip
  have hO := hO.fr2
  have hO := hO.fr2
  have hO := hO.fr2
  exact ⟨_, d7, fr_ovl 47 ⟨rfl, rfl, rfl, rfl, rfl, rfl, trivial⟩, hC, hO, h0, h1, h2, a0, a2, b8⟩
 cases o60 with
 | nx _ => exact True.intro
 | rt r_ =>
  have hs := after_rt hs
  intro c4 c6 hK
  cases hs
  exact hK
 | br s56 =>
  have hs := after_br hs
  rintro c4 a3 ⟨σ, b9, rfl, hC, hO, h0, h1, h2, a0, a2, g6⟩
  refine c_sr (ms rfl (ax rfl (c_nil (wp_ret ?_))))
  cases hs
  have hO := hO.fr1
  have hO := hO.drop
  have hO := hO.fr1
  have hO := hO.drop
  exact ⟨_, a4, a5, a6, b9, fr_ovl 47 ⟨rfl, trivial⟩, hC, g6, hO.top⟩

theorem Fa81x0 : ∀ (a : Addr) (w : World), (Instr.fieldAt 81 (.pointer (some a)) 0).run Try.prog w = .ok (.pointer (some (a.add 0))) w := fun _ _ => by kernel_rfl

theorem Fa81x1 : ∀ (a : Addr) (w : World), (Instr.fieldAt 81 (.pointer (some a)) 1).run Try.prog w = .ok (.pointer (some (a.add 2))) w := fun _ _ => by kernel_rfl

theorem Bd112 : Bodied Try.prog 112 := bodied Try.func112 (by kernel_rfl) rfl

theorem Bd98 : Bodied Try.prog 98 := bodied Try.func98 (by kernel_rfl) rfl

theorem Bd100 : Bodied Try.prog 100 := bodied Try.func100 (by kernel_rfl) rfl

theorem Bd101 : Bodied Try.prog 101 := bodied Try.func101 (by kernel_rfl) rfl

def k_impl_span__applyNew (M : Nat → Prop) (w0 : World) (vg0 : Nat) (pa0 : Option Addr) (pn0 pc0 : Nat) (pa1 : Option Addr) (pn1 pc1 : Nat) (pf1 : List Nat) (va0x1 : Option Addr) (vn0x1 vc0x1 : Nat) (va0x3 : Option Addr) (vn0x3 vc0x3 : Nat) (vf0x3 : List Nat) (vn0x4 : Nat) (vf0x4 : List Nat) (f : Int × (List Int)) (args : List (List Int)) (old : Int) (many : Int) (fresh : Bool) (b0 : Int × (List (Int × (List Int))) × Int × (List (List Int)) × (List (ByteArray × Int))) (r : Bool × (List (List Int)) × (List (ByteArray × Int))) (a : Act) (w : World) : Prop :=
  ∃ (σ : Nat → Value) (rfi0 : List Nat) (oa0x3 : Option Addr) (on0x3 : Nat) (oc0x3 : Nat) (of0x3 : List Nat) (on0x4 : Nat) (of0x4 : List Nat), a = fr 80 (ovl σ [(12, (.bool r.1))]) ∧ Chg (pf1 ++ ([vg0] ++ (vf0x3 ++ (vf0x4 ++ ([]))))) w0 w ∧ (RT.os 43 (RT.rs (RT.int .i64))).val (PastL M (pf1 ++ ([vg0] ++ (vf0x3 ++ (vf0x4 ++ ([]))))) w0 w (rfi0 ++ ([vg0] ++ (of0x3 ++ (of0x4 ++ ([])))))) w (.slice pa1 pn1 pc1) args rfi0 ∧ BoxV w vg0 81 [(.int .i64 b0.1), (.slice va0x1 vn0x1 vc0x1), (.int .i64 b0.2.2.1), (.slice oa0x3 on0x3 oc0x3), (.map (some on0x4))] ∧ (RT.os 43 (RT.rs (RT.int .i64))).val (PastL M (pf1 ++ ([vg0] ++ (vf0x3 ++ (vf0x4 ++ ([]))))) w0 w (rfi0 ++ ([vg0] ++ (of0x3 ++ (of0x4 ++ ([])))))) w (.slice oa0x3 on0x3 oc0x3) r.2.1 of0x3 ∧ (RT.mo (Value.int .i64)).val (PastL M (pf1 ++ ([vg0] ++ (vf0x3 ++ (vf0x4 ++ ([]))))) w0 w (rfi0 ++ ([vg0] ++ (of0x3 ++ (of0x4 ++ ([])))))) w (.map (some on0x4)) r.2.2 of0x4 ∧ Own (Nw w0 (pf1 ++ ([vg0] ++ (vf0x3 ++ (vf0x4 ++ ([])))))) (fun _ => True) w (rfi0 ++ ([vg0] ++ (of0x3 ++ (of0x4 ++ ([])))))
def s_impl_span__applyNew : Nat → (Int × (List Int)) → (List (List Int)) → (Int) → (Int) → (Bool) → (Int × (List (Int × (List Int))) × Int × (List (List Int)) × (List (ByteArray × Int))) → Option (Bool × (List (List Int)) × (List (ByteArray × Int)))
  | 0, _, _, _, _, _, _ => none
  | fu_ + 1, f, args, old, many, fresh, b0 =>
  (bif ((args.length : Int) == f.1) then (bif (fresh || ((f.1 == 0) && (old == 0))) then (s_impl_applyTuples (b0.1, b0.2.1) (f.1, f.2) b0.2.2.1 args).bind fun r45 =>
  (s_impl_span__add r45 (b0.1, b0.2.1, b0.2.2.1, b0.2.2.2.1, b0.2.2.2.2)).bind fun r50 =>
  some (r50.1, r50.2) else some (b0.2.2.2.1, b0.2.2.2.2)).bind fun s34 =>
  (s_impl_mostTuples (b0.1, b0.2.1)).bind fun r58 =>
  some ((decide ((s34.1.length : Int) ≤ r58)), s34.1, s34.2) else (forC (S := (List (List Int)) × (List (ByteArray × Int))) (R := Bool × (List (List Int)) × (List (ByteArray × Int))) (fun k665 s663 =>
  ((idx s663.1 k665).bind fun x881 =>
  (app args ([x881])).bind fun y889 =>
  (bif fresh then (s_impl_span__applyNew fu_ (f.1, f.2) y889 old many true (b0.1, b0.2.1, b0.2.2.1, s663.1, s663.2)).bind fun r893 =>
  some ((!r893.1), r893.2.1, r893.2.2) else (s_impl_span__applyNew fu_ (f.1, f.2) y889 old many (decide (old ≤ k665)) (b0.1, b0.2.1, b0.2.2.1, s663.1, s663.2)).bind fun r897 =>
  some ((!r897.1), r897.2.1, r897.2.2))).bind fun s871 =>
  (bif s871.1 then some (.rt (false, s871.2.1, s871.2.2)) else some (.nx (s871.2.1, s871.2.2)))) 0 many (b0.2.2.2.1, b0.2.2.2.2)).bind fun o667 => after o667 (fun r_ => some r_) (fun s663 =>
  some (true, s663.1, s663.2)))
set_option maxHeartbeats 4000000 in
theorem c_impl_span__applyNew : ∀ (fu_ : Nat) {M : Nat → Prop} {w : World} {vg0 : Nat} {pa0 : Option Addr} {pn0 pc0 : Nat} {pa1 : Option Addr} {pn1 pc1 : Nat} {pf1 : List Nat} {va0x1 : Option Addr} {vn0x1 vc0x1 : Nat} {va0x3 : Option Addr} {vn0x3 vc0x3 : Nat} {vf0x3 : List Nat} {vn0x4 : Nat} {vf0x4 : List Nat} (f : Int × (List Int)) (args : List (List Int)) (old : Int) (many : Int) (fresh : Bool) (b0 : Int × (List (Int × (List Int))) × Int × (List (List Int)) × (List (ByteArray × Int))) (h0 : (RT.rs ri).val M w (.slice pa0 pn0 pc0) f.2 ([])) (h1 : (RT.os 43 (RT.rs ri)).val M w (.slice pa1 pn1 pc1) args pf1) (hb0 : BoxV w vg0 81 [(.int .i64 b0.1), (.slice va0x1 vn0x1 vc0x1), (.int .i64 b0.2.2.1), (.slice va0x3 vn0x3 vc0x3), (.map (some vn0x4))]) (hl0x1 : (RT.rs (RT.pr ri (RT.rs ri))).val M w (.slice va0x1 vn0x1 vc0x1) b0.2.1 ([])) (hl0x3 : (RT.os 43 (RT.rs ri)).val M w (.slice va0x3 vn0x3 vc0x3) b0.2.2.2.1 vf0x3) (hl0x4 : (RT.mo (Value.int .i64)).val M w (.map (some vn0x4)) b0.2.2.2.2 vf0x4) (hI : Own (Nw w (pf1 ++ ([vg0] ++ (vf0x3 ++ (vf0x4 ++ ([])))))) M w (pf1 ++ ([vg0] ++ (vf0x3 ++ (vf0x4 ++ ([])))))) (hM : ∀ g, w.heap.size ≤ g → M g) {r : Bool × (List (List Int)) × (List (ByteArray × Int))} (hs : s_impl_span__applyNew fu_ f args old many fresh b0 = some r), Gives Try.prog 101 [(pq vg0 0), (.agg #[(.int .i64 f.1), (.slice pa0 pn0 pc0)]), (.slice pa1 pn1 pc1), (.int .i64 old), (.int .i64 many), (.bool fresh)] w (fun v w' => ∃ (rfi0 : List Nat) (oa0x3 : Option Addr) (on0x3 : Nat) (oc0x3 : Nat) (of0x3 : List Nat) (on0x4 : Nat) (of0x4 : List Nat), v = (.bool r.1) ∧ Chg (pf1 ++ ([vg0] ++ (vf0x3 ++ (vf0x4 ++ ([]))))) w w' ∧ (RT.os 43 (RT.rs ri)).val (PastL M (pf1 ++ ([vg0] ++ (vf0x3 ++ (vf0x4 ++ ([]))))) w w' (rfi0 ++ ([vg0] ++ (of0x3 ++ (of0x4 ++ ([])))))) w' (.slice pa1 pn1 pc1) args rfi0 ∧ BoxV w' vg0 81 [(.int .i64 b0.1), (.slice va0x1 vn0x1 vc0x1), (.int .i64 b0.2.2.1), (.slice oa0x3 on0x3 oc0x3), (.map (some on0x4))] ∧ (RT.os 43 (RT.rs ri)).val (PastL M (pf1 ++ ([vg0] ++ (vf0x3 ++ (vf0x4 ++ ([]))))) w w' (rfi0 ++ ([vg0] ++ (of0x3 ++ (of0x4 ++ ([])))))) w' (.slice oa0x3 on0x3 oc0x3) r.2.1 of0x3 ∧ (RT.mo (Value.int .i64)).val (PastL M (pf1 ++ ([vg0] ++ (vf0x3 ++ (vf0x4 ++ ([]))))) w w' (rfi0 ++ ([vg0] ++ (of0x3 ++ (of0x4 ++ ([])))))) w' (.map (some on0x4)) r.2.2 of0x4 ∧ Own (Nw w (pf1 ++ ([vg0] ++ (vf0x3 ++ (vf0x4 ++ ([])))))) (fun _ => True) w' (rfi0 ++ ([vg0] ++ (of0x3 ++ (of0x4 ++ ([])))))) := by
 intro fu_
 induction fu_ with
 | zero => intro M w vg0 pa0 pn0 pc0 pa1 pn1 pc1 pf1 va0x1 vn0x1 vc0x1 va0x3 vn0x3 vc0x3 vf0x3 vn0x4 vf0x4 f args old many fresh b0 h0 h1 hb0 hl0x1 hl0x3 hl0x4 hI hM r hs; exact (nomatch hs)
 | succ fu_ c_ih =>
 intro M w vg0 pa0 pn0 pc0 pa1 pn1 pc1 pf1 va0x1 vn0x1 vc0x1 va0x3 vn0x3 vc0x3 vf0x3 vn0x4 vf0x4 f args old many fresh b0 h0 h1 hb0 hl0x1 hl0x3 hl0x4 hI hM r hs
 refine calls_fr Try.func101 rfl Try.ntmps101 (Nat.le_of_ble_eq_true rfl) ?_
 have hO := hI
 have hC := Chg.refl (pf1 ++ ([vg0] ++ (vf0x3 ++ (vf0x4 ++ ([]))))) w
 rw [s_impl_span__applyNew] at hs
 refine wp_mono (Q := KPost (k_impl_span__applyNew M w vg0 pa0 pn0 pc0 pa1 pn1 pc1 pf1 va0x1 vn0x1 vc0x1 va0x3 vn0x3 vc0x3 vf0x3 vn0x4 vf0x4 f args old many fresh b0 r)) ?_ (fun e a F4 h => ?_)
 rotate_left
 ·cases e
  case ret =>
   obtain ⟨σ, rfi0, oa0x3, on0x3, oc0x3, of0x3, on0x4, of0x4, rfl, hrest⟩ := h
   exact ret1x Try.results101 (res_tmp rfl) ⟨rfi0, oa0x3, on0x3, oc0x3, of0x3, on0x4, of0x4, rfl, hrest⟩
  all_goals exact (h : False).elim
 refine c_sr ?_
 obtain ⟨t0, a3, F5, w4, i4, a2⟩ := new_block w [(.int .i64 f.1), (.slice pa0 pn0 pc0)] 89
 refine pl_val (w' := t0) (pq a3 0) (y_box rfl (by rw [F5, w4]; kernel_rfl)) ?_
 have h0 := h0.ext i4
 have h1 := h1.ext i4
 have hl0x1 := hl0x1.ext i4
 have hl0x3 := hl0x3.ext i4
 have hl0x4 := hl0x4.ext i4
 have hb0 := hb0.cn i4
 have hC := hC.ext i4
 have hO := hO.new1 i4 w4 a2.lt
 refine ab rfl (c_nil (c_seq (c_sr (ms rfl (pl_val _ (y_len' Sl25 (os_len h1) rfl) (pl_val (pq a3 0) (y_faddr rfl Fa89x0) (pl_val (.int .i64 f.1) (y_load rfl ((box_load Ag3 Sz3 a2 [] [(.int .i64 f.1)] [(.slice pa0 pn0 pc0)] rfl rfl (fun _ => rfl)) _ (Chg.refl _ _))) (pl_val (.bool ((args.length : Int) == f.1)) (y_eql rfl rfl) (c_nil ?_)))))))))
 rcases bif_some hs with ⟨t1, hs⟩ | ⟨t1, hs⟩
 ·refine c_condT (cb t1) (c_seq (c_seq (c_mid (I := fun a q4 => ∃ (σ : Nat → Value), a = fr 80 (ovl σ [(0, (pq vg0 0)), (2, (.slice pa1 pn1 pc1)), (3, (.int .i64 old)), (4, (.int .i64 many)), (5, (.bool fresh)), (7, (pq a3 0)), (12, (.bool false)), (28, (.bool (fresh || ((f.1 == 0) && (old == 0)))))]) ∧ Chg [] t0 q4) ?_ ?_)))
  ·have hMid := Chg.refl [] t0
   refine c_region (mb rfl (mb rfl ?_))
   rcases Bool.eq_false_or_eq_true (fresh) with c0 | c0
   ·skip
    refine pl_not (tg := 20) (by kernel_rfl) (cb c0) (pl_not (tg := 20) (by kernel_rfl) (cb c0) (pl_not (tg := 20) (by kernel_rfl) (cb c0) (pl_not (tg := 20) (by kernel_rfl) (cb c0) (pl_nou (tg := 24) (by kernel_rfl) rfl (pl_nou (tg := 24) (by kernel_rfl) rfl (pl_not (tg := 20) (by kernel_rfl) (cb c0) (pl_val (.bool (fresh || ((f.1 == 0) && (old == 0)))) (y_pick_t (cb c0) (cb (by rw [c0]; rfl))) (c_nil ?_))))))))
    exact ⟨_, fr_ovl 80 ⟨rfl, rfl, rfl, rfl, rfl, rfl, rfl, rfl, trivial⟩, hMid⟩
   refine pl_yes (pq a3 0) (tg := 20) (by kernel_rfl) (cb c0) (y_faddr rfl Fa89x0) (pl_yes (.int .i64 f.1) (tg := 20) (by kernel_rfl) (cb c0) (y_load rfl ((box_load Ag3 Sz3 a2 [] [(.int .i64 f.1)] [(.slice pa0 pn0 pc0)] rfl rfl (fun _ => rfl)) _ (Chg.refl _ _))) (pl_yes (.bool (f.1 == 0)) (tg := 20) (by kernel_rfl) (cb c0) (y_eql rfl rfl) (pl_yes (.bool (f.1 == 0)) (tg := 20) (by kernel_rfl) (cb c0) (y_move rfl) ?_)))
   rcases Bool.eq_false_or_eq_true ((f.1 == 0)) with f7 | f7
   ·skip
    refine pl_yes (.int .i64 old) (tg := 24) (by kernel_rfl) (cb f7) (y_move rfl) (pl_yes (.bool (old == 0)) (tg := 24) (by kernel_rfl) (cb f7) (y_eql rfl rfl) (pl_yes (.bool ((f.1 == 0) && (old == 0))) (tg := 20) (by kernel_rfl) (cb c0) (y_pick_t (cb f7) (cb (by rw [f7]; rfl))) (pl_val (.bool (fresh || ((f.1 == 0) && (old == 0)))) (y_pick_f (cb c0) (cb (by rw [c0]; rfl))) (c_nil ?_))))
    exact ⟨_, fr_ovl 80 ⟨rfl, rfl, rfl, rfl, rfl, rfl, rfl, rfl, trivial⟩, hMid⟩
   refine pl_not (tg := 24) (by kernel_rfl) (cb f7) (pl_not (tg := 24) (by kernel_rfl) (cb f7) (pl_yes (.bool ((f.1 == 0) && (old == 0))) (tg := 20) (by kernel_rfl) (cb c0) (y_pick_f (cb f7) (cb (by rw [f7]; rfl))) (pl_val (.bool (fresh || ((f.1 == 0) && (old == 0)))) (y_pick_f (cb c0) (cb (by rw [c0]; rfl))) (c_nil ?_))))
   exact ⟨_, fr_ovl 80 ⟨rfl, rfl, rfl, rfl, rfl, rfl, rfl, rfl, trivial⟩, hMid⟩
  rintro q5 q4 ⟨σ, rfl, f8⟩
  have h0 := h0.ext f8
  have h1 := h1.ext f8
  have hl0x1 := hl0x1.ext f8
  have hl0x3 := hl0x3.ext f8
  have hl0x4 := hl0x4.ext f8
  have hb0 := hb0.cn f8
  have a2 := a2.cn f8
  have hC := hC.ext f8
  have hO := hO.ext f8
  obtain ⟨s34, F6, hs⟩ := bind_some hs
  refine c_mid (I := fun a d1 => ∃ (σ : Nat → Value) (f9 : Nat → Prop) (l7 : Option Addr) (l8 : Nat) (l9 : Nat) (q6 : List Nat) (n5 : Nat) (q7 : List Nat), a = fr 80 (ovl σ [(0, (pq vg0 0)), (2, (.slice pa1 pn1 pc1)), (3, (.int .i64 old)), (4, (.int .i64 many)), (5, (.bool fresh)), (7, (pq a3 0))]) ∧ Chg (pf1 ++ ([vg0] ++ (vf0x3 ++ (vf0x4 ++ ([]))))) w d1 ∧ Own (Nw w (pf1 ++ ([vg0] ++ (vf0x3 ++ (vf0x4 ++ ([])))))) f9 d1 (q6 ++ (q7 ++ (([a3]) ++ (pf1 ++ (([vg0]) ++ []))))) ∧ KeepsF w (pf1 ++ ([vg0] ++ (vf0x3 ++ (vf0x4 ++ ([]))))) M f9 ∧ (RT.rs ri).val f9 d1 (.slice pa0 pn0 pc0) f.2 ([]) ∧ (RT.os 43 (RT.rs ri)).val f9 d1 (.slice pa1 pn1 pc1) args pf1 ∧ (RT.rs (RT.pr ri (RT.rs ri))).val f9 d1 (.slice va0x1 vn0x1 vc0x1) b0.2.1 ([]) ∧ BoxV d1 vg0 81 [(.int .i64 b0.1), (.slice va0x1 vn0x1 vc0x1), (.int .i64 b0.2.2.1), (.slice l7 l8 l9), (.map (some n5))] ∧ BoxV d1 a3 89 [(.int .i64 f.1), (.slice pa0 pn0 pc0)] ∧ (RT.os 43 (RT.rs ri)).val f9 d1 (.slice l7 l8 l9) s34.1 q6 ∧ (RT.mo (Value.int .i64)).val f9 d1 (.map (some n5)) s34.2 q7) ?_ ?_
  ·replace hs := F6
   rcases bif_some hs with ⟨t2, hs⟩ | ⟨t2, hs⟩
   ·refine c_condT (cb t2) (x_start [12] Mx rfl ?_)
    have e9 := Chg.drew q4
    generalize World.drew q4 = F7 at e9 ⊢
    have h0 := h0.ext e9
    have h1 := h1.ext e9
    have hl0x1 := hl0x1.ext e9
    have hl0x3 := hl0x3.ext e9
    have hl0x4 := hl0x4.ext e9
    have hb0 := hb0.cn e9
    have a2 := a2.cn e9
    have hC := hC.ext e9
    have hO := hO.ext e9
    have hS := Chg.refl [] F7
    refine x_p 0 (pq vg0 0) rfl (by kernel_rfl)  (fun _ => y_move rfl) (fun _ => hS) (x_p 1 (pq vg0 0) rfl (by kernel_rfl)  (fun _ => y_move rfl) (fun _ => hS) (x_p 2 (pq vg0 0) rfl (by kernel_rfl)  (fun _ => y_nilc rfl) (fun _ => hS) (x_p 3 (pq vg0 0) rfl (by kernel_rfl)  (fun _ => y_faddr rfl Fa81x0) (fun _ => hS) (x_l 4 (.agg #[(.int .i64 b0.1), (.slice va0x1 vn0x1 vc0x1)]) rfl (by kernel_rfl)  (fun w' hw' => y_load rfl ((box_load Ag35 Sz35 hb0 [] [(.int .i64 b0.1), (.slice va0x1 vn0x1 vc0x1)] [(.int .i64 b0.2.2.1), (.slice va0x3 vn0x3 vc0x3), (.map (some vn0x4))] rfl rfl (fun h => nomatch h)) w' hw')) hS (x_l 5 (.agg #[(.int .i64 f.1), (.slice pa0 pn0 pc0)]) rfl (by kernel_rfl)  (fun w' hw' => y_load rfl ((box_load Ag89 Sz89 a2 [] [(.int .i64 f.1), (.slice pa0 pn0 pc0)] [] rfl rfl (fun h => nomatch h)) w' hw')) hS (x_p 6 (pq vg0 0) rfl (by kernel_rfl)  (fun _ => y_move rfl) (fun _ => hS) (x_p 7 (pq vg0 0) rfl (by kernel_rfl)  (fun _ => y_nilc rfl) (fun _ => hS) (x_p 8 (pq vg0 2) rfl (by kernel_rfl)  (fun _ => y_faddr rfl Fa81x1) (fun _ => hS) (x_l 9 (.int .i64 b0.2.2.1) rfl (by kernel_rfl)  (fun w' hw' => y_load rfl ((box_load Ag3 Sz3 hb0 [(.int .i64 b0.1), (.slice va0x1 vn0x1 vc0x1)] [(.int .i64 b0.2.2.1)] [(.slice va0x3 vn0x3 vc0x3), (.map (some vn0x4))] rfl rfl (fun _ => rfl)) w' hw')) hS (x_p 10 (.slice pa1 pn1 pc1) rfl (by kernel_rfl)  (fun _ => y_move rfl) (fun _ => hS) (x_one (i := 11) (by kernel_rfl) ?_)))))))))))
    have hO := hO.fr1
    obtain ⟨r45, F8, hs⟩ := bind_some hs
    refine xk_call (b := false) rfl  Bd112 rfl (c_impl_applyTuples (M := (Less M pf1)) (b0.1, b0.2.1) (f.1, f.2) b0.2.2.1 args (hl0x1.sub Less.sub) (h0.sub Less.sub) (((Frz.os (Frz.rs Frz.int))).val h1 Less.sub Less.not) hO.less.fut F8) rfl (by rintro _ _ _ ⟨F9, G0, G1, w5, rfl, d2, q8, w6⟩; exact hS.ext d2) ?_
    rintro _ T7 ⟨F9, G0, G1, w5, rfl, d2, q8, w6⟩
    have h0 := h0.ext d2
    have h1 := h1.ext d2
    have hl0x1 := hl0x1.ext d2
    have hl0x3 := hl0x3.ext d2
    have hl0x4 := hl0x4.ext d2
    have hb0 := hb0.cn d2
    have a2 := a2.cn d2
    have hC := hC.ext d2
    have hO := Own.join0 hO d2 w6
    have hO := hO.perm (R := w5 ++ (pf1 ++ (([a3]) ++ (([vg0]) ++ (vf0x3 ++ (vf0x4 ++ ([]))))))) (by simp)
    have q8 := q8.free (M' := M) (Free.os Free.int)
    have hS := hS.ext d2
    refine x_one (i := 12) (by kernel_rfl) ?_
    obtain ⟨m0, T8, o9, G2, hO, t3⟩ := frzF_own (Frz.os Frz.int) q8 hO
    have h0 := h0.sub (M' := m0) o9
    have h1 := h1.sub (M' := m0) o9
    have hl0x1 := hl0x1.sub (M' := m0) o9
    have hl0x3 := hl0x3.sub (M' := m0) o9
    have hl0x4 := hl0x4.sub (M' := m0) o9
    have hK := G2
    have hO := hO.fr4
    have hO := hO.fr4
    have hO := hO.fr4
    have G3 := hO
    have w7 := Own.lend (F := (([vg0]) ++ (vf0x3 ++ (vf0x4 ++ ([]))))) (R := pf1 ++ (([a3]) ++ ([]))) (Own.perm (G3) (by simp))
    obtain ⟨r50, G4, hs⟩ := bind_some hs
    refine xk_call (b := true) rfl  Bd98 rfl (c_impl_span__add (M := m0) r45 (b0.1, b0.2.1, b0.2.2.1, b0.2.2.2.1, b0.2.2.2.2) t3 (show BoxV _ vg0 81 [(.int .i64 b0.1), (.slice va0x1 vn0x1 vc0x1), (.int .i64 b0.2.2.1), (.slice va0x3 vn0x3 vc0x3), (.map (some vn0x4))] from hb0) hl0x1 hl0x3 hl0x4 w7 w7.fut G4) rfl (fun h => nomatch h) ?_
    rintro _ G5 ⟨w8, w9, x0, x1, x2, x3, rfl, m1, t4, G6, G7, G8⟩
    have hO := hO.fr2
    have hO := hO.fr2
    have hO := hO.fr2
    have hO := hO.perm (R := (([vg0]) ++ (vf0x3 ++ (vf0x4 ++ ([])))) ++ (pf1 ++ (([a3]) ++ ([])))) (by simp)
    have h0 := h0.mt m1 hO same_
    have h1 := h1.ma m1 hO same_ (fun _ e => (mem_l (e)))
    have hl0x1 := hl0x1.mt m1 hO same_
    have a2 := a2.ap m1 hO same_ (mem_r (mem_l (List.mem_singleton.2 rfl)))
    have t3 := t3.mt m1 hO same_
    have hC := hC.st m1 hO same_
    have hO := Own.join hO m1 G8
    have hO := hO.perm (R := [vg0] ++ (x1 ++ (x3 ++ (pf1 ++ (([a3]) ++ ([])))))) (by simp)
    have t4 : BoxV G5 vg0 81 [(.int .i64 b0.1), (.slice va0x1 vn0x1 vc0x1), (.int .i64 b0.2.2.1), (.slice w8 w9 x0), (.map (some x2))] := t4
    refine x_end (by kernel_rfl) ?_
    clear hS
    cases hs
    have hO := hO.fr3
    have hO := hO.fr4
    have hO := hO.fr4
    have hO := hO.fr4
    exact ⟨_, m0, w8, w9, x0, x1, x2, x3, fr_ovl 80 ⟨rfl, rfl, rfl, rfl, rfl, rfl, trivial⟩, hC, hO, hK, h0, h1, hl0x1, t4, a2, G6, G7⟩
   refine c_condF (cb t2) (wp_skip ?_)
   cases hs
   have hO := hO.fr2
   have hO := hO.fr2
   have hO := hO.fr2
   have hO := hO.fr4
   have hO := hO.fr4
   exact ⟨_, M, va0x3, vn0x3, vc0x3, vf0x3, vn0x4, vf0x4, fr_ovl 80 ⟨rfl, rfl, rfl, rfl, rfl, rfl, trivial⟩, hC, hO, KeepsF.refl, h0, h1, hl0x1, hb0, a2, hl0x3, hl0x4⟩
  rintro q5 d1 ⟨σ, f9, l7, l8, l9, q6, n5, q7, rfl, hC, hO, hK, h0, h1, hl0x1, hb0, a2, n6, p0⟩
  refine c_seq (x_start [] Mx rfl ?_)
  have f0 := Chg.drew d1
  generalize World.drew d1 = G9 at f0 ⊢
  have h0 := h0.ext f0
  have h1 := h1.ext f0
  have hl0x1 := hl0x1.ext f0
  have hb0 := hb0.cn f0
  have a2 := a2.cn f0
  have n6 := n6.ext f0
  have p0 := p0.ext f0
  have hC := hC.ext f0
  have hO := hO.ext f0
  have hS := Chg.refl [] G9
  refine x_p 0 (pq vg0 0) rfl (by kernel_rfl)  (fun _ => y_move rfl) (fun _ => hS) (x_p 1 (pq vg0 0) rfl (by kernel_rfl)  (fun _ => y_nilc rfl) (fun _ => hS) (x_p 2 (pq vg0 3) rfl (by kernel_rfl)  (fun _ => y_faddr rfl Fa81x2) (fun _ => hS) (x_l 3 (.slice l7 l8 l9) rfl (by kernel_rfl)  (fun w' hw' => y_load rfl ((box_load Ag25 Sz25 hb0 [(.int .i64 b0.1), (.slice va0x1 vn0x1 vc0x1), (.int .i64 b0.2.2.1)] [(.slice l7 l8 l9)] [(.map (some n5))] rfl rfl (fun _ => rfl)) w' hw')) hS (x_p 4 (.int .i64 (s34.1.length : Int)) rfl (by kernel_rfl)  (fun _ => y_len' Sl25 (os_len n6) rfl) (fun _ => hS) (x_p 5 (pq vg0 0) rfl (by kernel_rfl)  (fun _ => y_move rfl) (fun _ => hS) (x_p 6 (pq vg0 0) rfl (by kernel_rfl)  (fun _ => y_nilc rfl) (fun _ => hS) (x_p 7 (pq vg0 0) rfl (by kernel_rfl)  (fun _ => y_faddr rfl Fa81x0) (fun _ => hS) (x_l 8 (.agg #[(.int .i64 b0.1), (.slice va0x1 vn0x1 vc0x1)]) rfl (by kernel_rfl)  (fun w' hw' => y_load rfl ((box_load Ag35 Sz35 hb0 [] [(.int .i64 b0.1), (.slice va0x1 vn0x1 vc0x1)] [(.int .i64 b0.2.2.1), (.slice l7 l8 l9), (.map (some n5))] rfl rfl (fun h => nomatch h)) w' hw')) hS (x_one (i := 9) (by kernel_rfl) ?_)))))))))
  obtain ⟨r58, H0, hs⟩ := bind_some hs
  refine xk_call (b := false) rfl  Bd100 rfl (c_impl_mostTuples (M := f9) (b0.1, b0.2.1) hl0x1 hO.fut H0) rfl (by rintro _ _ _ ⟨rfl, d3⟩; exact hS.ext d3) ?_
  rintro _ T9 ⟨rfl, d3⟩
  have h0 := h0.ext d3
  have h1 := h1.ext d3
  have hl0x1 := hl0x1.ext d3
  have hb0 := hb0.cn d3
  have a2 := a2.cn d3
  have n6 := n6.ext d3
  have p0 := p0.ext d3
  have hC := hC.ext d3
  have hO := hO.ext d3
  have hS := hS.ext d3
  refine x_p 10 (.bool (decide ((s34.1.length : Int) ≤ r58))) rfl (by kernel_rfl)  (fun _ => y_leq rfl rfl) (fun _ => hS) (x_p 11 (.bool (decide ((s34.1.length : Int) ≤ r58))) rfl (by kernel_rfl)  (fun _ => y_assign rfl) (fun _ => hS) (x_end (by kernel_rfl) ?_))
  clear hS
  refine wp_ret ?_
  cases hs
  have hO := hO.fr2
  have hO := hO.drop
  have hO := hO.fr1
  have hO := hO.fr1
  have hO := hO.fr3
  have hO := hO.fr3
  exact ⟨_, pf1, l7, l8, l9, q6, n5, q7, fr_ovl 80 ⟨rfl, trivial⟩, hC, (KeepsF.out hK hO.allM h1), hb0, (KeepsF.out hK hO.allM n6), (KeepsF.out hK hO.allM p0), hO.top⟩
 refine c_condF (cb t1) (wp_skip (c_seq (c_sr (ai rfl (c_nil ?_)))))
 obtain ⟨o667, H1, hs⟩ := bind_some hs
 refine wp_block (wp_forC (id := 0) many (I := fun k665 s663 a a8 => ∃ (σ : Nat → Value) (c1 : Nat → Prop) (b6 : Option Addr) (b7 : Nat) (b8 : Nat) (a0 : List Nat) (b9 : Nat) (a1 : List Nat), a = fr 80 (ovl σ [(0, (pq vg0 0)), (2, (.slice pa1 pn1 pc1)), (3, (.int .i64 old)), (4, (.int .i64 many)), (5, (.bool fresh)), (7, (pq a3 0)), (13, (.int .i64 k665))]) ∧ Chg (pf1 ++ ([vg0] ++ (vf0x3 ++ (vf0x4 ++ ([]))))) w a8 ∧ Own (Nw w (pf1 ++ ([vg0] ++ (vf0x3 ++ (vf0x4 ++ ([])))))) c1 a8 (a0 ++ (a1 ++ (([a3]) ++ (pf1 ++ (([vg0]) ++ []))))) ∧ KeepsF w (pf1 ++ ([vg0] ++ (vf0x3 ++ (vf0x4 ++ ([]))))) M c1 ∧ (RT.rs ri).val c1 a8 (.slice pa0 pn0 pc0) f.2 ([]) ∧ (RT.os 43 (RT.rs ri)).val c1 a8 (.slice pa1 pn1 pc1) args pf1 ∧ (RT.rs (RT.pr ri (RT.rs ri))).val c1 a8 (.slice va0x1 vn0x1 vc0x1) b0.2.1 ([]) ∧ BoxV a8 vg0 81 [(.int .i64 b0.1), (.slice va0x1 vn0x1 vc0x1), (.int .i64 b0.2.2.1), (.slice b6 b7 b8), (.map (some b9))] ∧ BoxV a8 a3 89 [(.int .i64 f.1), (.slice pa0 pn0 pc0)] ∧ (RT.os 43 (RT.rs ri)).val c1 a8 (.slice b6 b7 b8) s663.1 a0 ∧ (RT.mo (Value.int .i64)).val c1 a8 (.map (some b9)) s663.2 a1) (J := fun s663 a a8 => ∃ (σ : Nat → Value) (i5 : Nat → Prop) (q9 : Option Addr) (r0 : Nat) (r1 : Nat) (r2 : List Nat) (r3 : Nat) (r4 : List Nat), a = fr 80 (ovl σ []) ∧ Chg (pf1 ++ ([vg0] ++ (vf0x3 ++ (vf0x4 ++ ([]))))) w a8 ∧ Own (Nw w (pf1 ++ ([vg0] ++ (vf0x3 ++ (vf0x4 ++ ([])))))) i5 a8 (r2 ++ (r4 ++ (([a3]) ++ (pf1 ++ (([vg0]) ++ []))))) ∧ KeepsF w (pf1 ++ ([vg0] ++ (vf0x3 ++ (vf0x4 ++ ([]))))) M i5 ∧ (RT.rs ri).val i5 a8 (.slice pa0 pn0 pc0) f.2 ([]) ∧ (RT.os 43 (RT.rs ri)).val i5 a8 (.slice pa1 pn1 pc1) args pf1 ∧ (RT.rs (RT.pr ri (RT.rs ri))).val i5 a8 (.slice va0x1 vn0x1 vc0x1) b0.2.1 ([]) ∧ BoxV a8 vg0 81 [(.int .i64 b0.1), (.slice va0x1 vn0x1 vc0x1), (.int .i64 b0.2.2.1), (.slice q9 r0 r1), (.map (some r3))] ∧ BoxV a8 a3 89 [(.int .i64 f.1), (.slice pa0 pn0 pc0)] ∧ (RT.os 43 (RT.rs ri)).val i5 a8 (.slice q9 r0 r1) s663.1 r2 ∧ (RT.mo (Value.int .i64)).val i5 a8 (.map (some r3)) s663.2 r4) (K := (k_impl_span__applyNew M w vg0 pa0 pn0 pc0 pa1 pn1 pc1 pf1 va0x1 vn0x1 vc0x1 va0x3 vn0x3 vc0x3 vf0x3 vn0x4 vf0x4 f args old many fresh b0)) ?_ ?_ 0 (b0.2.2.2.1, b0.2.2.2.2) o667 _ _ ?_ H1 ?_)
 ·rintro k665 s663 a a8 ⟨σ, c1, b6, b7, b8, a0, b9, a1, rfl, hC, hO, hK, h0, h1, hl0x1, hb0, a2, a4, a5⟩ hlt
  refine c_seq (c_sr (mi rfl (mi rfl (pl_val _ (y_lss rfl rfl) (c_nil (c_condF (cb (decide_eq_false hlt)) (wp_exit ?_)))))))
  have hO := hO.fr4
  have hO := hO.fr4
  have hO := hO.fr4
  have hO := hO.fr4
  have hO := hO.fr4
  exact ⟨rfl, _, c1, b6, b7, b8, a0, b9, a1, fr_ovl 80 trivial, hC, hO, hK, h0, h1, hl0x1, hb0, a2, a4, a5⟩
 ·rintro k665 s663 o667 a a8 ⟨σ, c1, b6, b7, b8, a0, b9, a1, rfl, hC, hO, hK, h0, h1, hl0x1, hb0, a2, a4, a5⟩ hlt hw hs
  refine c_seq (c_sr (mi rfl (mi rfl (pl_val _ (y_lss rfl rfl) (c_nil (c_condT (cb (decide_eq_true hlt)) (wp_skip (c_seq (wp_block (c_seq ?_))))))))))
  obtain ⟨s871, H2, hs⟩ := bind_some hs
  refine c_mid (I := fun a f1 => ∃ (σ : Nat → Value) (g0 : Nat → Prop) (p1 : Option Addr) (p2 : Nat) (p3 : Nat) (p4 : List Nat) (p5 : Nat) (p6 : List Nat), a = fr 80 (ovl σ [(0, (pq vg0 0)), (2, (.slice pa1 pn1 pc1)), (3, (.int .i64 old)), (4, (.int .i64 many)), (5, (.bool fresh)), (7, (pq a3 0)), (13, (.int .i64 k665)), (79, (.bool s871.1))]) ∧ Chg (pf1 ++ ([vg0] ++ (vf0x3 ++ (vf0x4 ++ ([]))))) w f1 ∧ Own (Nw w (pf1 ++ ([vg0] ++ (vf0x3 ++ (vf0x4 ++ ([])))))) g0 f1 (p4 ++ (p6 ++ (([a3]) ++ (pf1 ++ (([vg0]) ++ []))))) ∧ KeepsF w (pf1 ++ ([vg0] ++ (vf0x3 ++ (vf0x4 ++ ([]))))) M g0 ∧ (RT.rs ri).val g0 f1 (.slice pa0 pn0 pc0) f.2 ([]) ∧ (RT.os 43 (RT.rs ri)).val g0 f1 (.slice pa1 pn1 pc1) args pf1 ∧ (RT.rs (RT.pr ri (RT.rs ri))).val g0 f1 (.slice va0x1 vn0x1 vc0x1) b0.2.1 ([]) ∧ BoxV f1 vg0 81 [(.int .i64 b0.1), (.slice va0x1 vn0x1 vc0x1), (.int .i64 b0.2.2.1), (.slice p1 p2 p3), (.map (some p5))] ∧ BoxV f1 a3 89 [(.int .i64 f.1), (.slice pa0 pn0 pc0)] ∧ (RT.os 43 (RT.rs ri)).val g0 f1 (.slice p1 p2 p3) s871.2.1 p4 ∧ (RT.mo (Value.int .i64)).val g0 f1 (.map (some p5)) s871.2.2 p6) ?_ ?_
  ·replace hs := H2
   rcases Nat.lt_or_ge pc1 (pn1 + 1) with m2 | m2
   ·skip
    refine x_start [11, 20] Mx rfl ?_
    have f2 := Chg.drew a8
    generalize World.drew a8 = t5 at f2 ⊢
    have h0 := h0.ext f2
    have h1 := h1.ext f2
    have hl0x1 := hl0x1.ext f2
    have hb0 := hb0.cn f2
    have a2 := a2.cn f2
    have a4 := a4.ext f2
    have a5 := a5.ext f2
    have hC := hC.ext f2
    have hO := hO.ext f2
    have hS := Chg.refl [] t5
    refine x_p 0 (pq vg0 0) rfl (by kernel_rfl)  (fun _ => y_move rfl) (fun _ => hS) (x_p 2 (.slice pa1 pn1 pc1) rfl (by kernel_rfl)  (fun _ => y_move rfl) (fun _ => hS) (x_p 3 (pq vg0 0) rfl (by kernel_rfl)  (fun _ => y_move rfl) (fun _ => hS) (x_p 4 (pq vg0 0) rfl (by kernel_rfl)  (fun _ => y_nilc rfl) (fun _ => hS) (x_p 5 (pq vg0 3) rfl (by kernel_rfl)  (fun _ => y_faddr rfl Fa81x2) (fun _ => hS) (x_l 6 (.slice b6 b7 b8) rfl (by kernel_rfl)  (fun w' hw' => y_load rfl ((box_load Ag25 Sz25 hb0 [(.int .i64 b0.1), (.slice va0x1 vn0x1 vc0x1), (.int .i64 b0.2.2.1)] [(.slice b6 b7 b8)] [(.map (some b9))] rfl rfl (fun _ => rfl)) w' hw')) hS (x_p 7 (.int .i64 k665) rfl (by kernel_rfl)  (fun _ => y_move rfl) (fun _ => hS) ?_))))))
    obtain ⟨x881, H3, hs⟩ := bind_some hs
    obtain ⟨H4, U0, U1, U2, H5, H6, U3⟩ := os_idx Sl25 Sz43 a4 H3
    have H7 := rd_row Rd.rs H6
    refine x_p 8 (.pointer (some ⟨H4, 0 + Int.toNat k665 * 1, none⟩)) rfl (by kernel_rfl)  (fun _ => H5 _ _ _ _ _ _ _ _ _ rfl rfl) (fun _ => hS) ?_
    obtain ⟨U4, H8, a6⟩ := at_load Ag43 Sz43 (fun _ => rfl) H7
    obtain ⟨p7, p8, p9, rfl⟩ := rs_sl a6
    refine x_l 9 (.slice p7 p8 p9) rfl (by kernel_rfl)  (fun w' hw' => y_load rfl (H8 w' hw')) hS (x_p 12 (.int .i64 old) rfl (by kernel_rfl)  (fun _ => y_move rfl) (fun _ => hS) (x_p 13 (.int .i64 many) rfl (by kernel_rfl)  (fun _ => y_move rfl) (fun _ => hS) (x_p 14 (.bool fresh) rfl (by kernel_rfl)  (fun _ => y_move rfl) (fun _ => hS) (x_two (i := 1) (j := 10) (by kernel_rfl) ?_ ?_))))
    ·skip
     refine xk_val (b := false) (.agg #[(.int .i64 f.1), (.slice pa0 pn0 pc0)]) rfl  (y_load rfl ((box_load Ag89 Sz89 a2 [] [(.int .i64 f.1), (.slice pa0 pn0 pc0)] [] rfl rfl (fun h => nomatch h)) _ (Chg.refl _ _))) rfl (fun _ => hS) (x_one (i := 10) (by kernel_rfl) ?_)
     obtain ⟨x4, t6, H9, x5, d4, x6⟩ := new_block t5 [(.slice p7 p8 p9)] 43
     refine xk_val (w' := x4) (b := false) (.slice (some ⟨t6, 0, none⟩) 1 1) rfl  (y_bslice rfl (by rw [H9, x5]; kernel_rfl)) rfl (fun _ => hS.ext d4) ?_
     have h0 := h0.ext d4
     have h1 := h1.ext d4
     have hl0x1 := hl0x1.ext d4
     have hb0 := hb0.cn d4
     have a2 := a2.cn d4
     have a4 := a4.ext d4
     have a5 := a5.ext d4
     have a6 := a6.ext d4
     have hC := hC.ext d4
     have hO := hO.new1 d4 x5 x6.lt
     have t7 := os_of_box (r := (RT.rs ri)) (M := c1) (css := [[(.slice p7 p8 p9)]]) (fps := [([] : List Nat)]) (xs := ([x881] : List (List Int))) x6 ⟨(rs_unval a6), trivial⟩ (Nat.le_of_ble_eq_true rfl) (List.nodup_cons.2 ⟨(fun h => nomatch h), List.nodup_nil⟩)
     have t7 : (RT.os 43 (RT.rs ri)).val c1 x4 (.slice (some ⟨t6, 0, none⟩) 1 1) [x881] [t6] := t7
     have hS := hS.ext d4
     refine x_one (i := 11) (by kernel_rfl) ?_
     obtain ⟨a9, U5, n7, I0, hO, d8⟩ := frzF_own (Frz.os (Frz.rs Frz.int)) t7 hO
     have h0 := h0.sub (M' := a9) n7
     have h1 := h1.sub (M' := a9) n7
     have hl0x1 := hl0x1.sub (M' := a9) n7
     have a4 := a4.sub (M' := a9) n7
     have a5 := a5.sub (M' := a9) n7
     have a6 := a6.sub (M' := a9) n7
     have hK := hK.trans I0
     obtain ⟨y889, q0, hs⟩ := bind_some hs
     have hO := hO.fr3
     obtain ⟨I1, I2, I3, c5, c2, I4, d9, I5, r5⟩ := app_new Nf.rs Rw25 q0 h1 d8 hO.inM (by simp) m2
     refine xk_val (w' := c5) (b := true) (.slice I1 I2 I3) rfl  (y_append rfl rfl (I4 _)) rfl (fun h => nomatch h) ?_
     have h0 := h0.ext d9
     have h1 := h1.ext d9
     have hl0x1 := hl0x1.ext d9
     have hb0 := hb0.cn d9
     have a2 := a2.cn d9
     have a4 := a4.ext d9
     have a5 := a5.ext d9
     have a6 := a6.ext d9
     have d8 := d8.ext d9
     have hC := hC.ext d9
     have hO := hO.new d9 I5 (os_nodup r5) r5.fpl
     refine x_p 15 (.bool fresh) rfl (by kernel_rfl)  (fun _ => y_move rfl) (fun h => nomatch h) ?_
     rcases bif_some hs with ⟨g1, hs⟩ | ⟨g1, hs⟩
     ·skip
      refine x_pn 16 rfl (by kernel_rfl) (tg := 73) (by kernel_rfl) (cb g1) (fun h => nomatch h) (x_pn 17 rfl (by kernel_rfl) (tg := 73) (by kernel_rfl) (cb g1) (fun h => nomatch h) (x_pn 18 rfl (by kernel_rfl) (tg := 73) (by kernel_rfl) (cb g1) (fun h => nomatch h) (x_p 19 (.bool true) rfl (by kernel_rfl)  (fun _ => y_pick_t (cb g1) rfl) (fun h => nomatch h) (x_one (i := 20) (by kernel_rfl) ?_))))
      have hO := hO.fr3
      have hO := hO.fr3
      have hO := hO.fr5
      have hO := hO.fr3
      have I6 := hO
      have x7 := Own.lend (F := (c2 ++ (([vg0]) ++ (a0 ++ (a1 ++ ([])))))) (R := pf1 ++ (([a3]) ++ ([]))) (Own.perm (I6) (by simp))
      obtain ⟨r893, I7, hs⟩ := bind_some hs
      refine xk_call (b := true) rfl  Bd101 rfl (c_ih (M := a9) (f.1, f.2) y889 old many true (b0.1, b0.2.1, b0.2.2.1, s663.1, s663.2) h0 r5 (show BoxV _ vg0 81 [(.int .i64 b0.1), (.slice va0x1 vn0x1 vc0x1), (.int .i64 b0.2.2.1), (.slice b6 b7 b8), (.map (some b9))] from hb0) hl0x1 a4 a5 x7 x7.fut I7) rfl (fun h => nomatch h) ?_
      rintro _ i6 ⟨i7, x8, x9, y0, g2, y1, g3, rfl, i9, U6, t8, I8, I9, J0⟩
      have hO := hO.fr3
      have hO := hO.fr3
      have hO := hO.fr3
      have hO := hO.fr3
      have hO := hO.perm (R := (c2 ++ (([vg0]) ++ (a0 ++ (a1 ++ ([]))))) ++ (pf1 ++ (([a3]) ++ ([])))) (by simp)
      have J1 := Own.pastL hO i9 J0
      have hK := hK.trans (show KeepsF w (pf1 ++ ([vg0] ++ (vf0x3 ++ (vf0x4 ++ ([]))))) a9 (PastL a9 (c2 ++ (([vg0]) ++ (a0 ++ (a1 ++ ([]))))) c5 i6 (i7 ++ ([vg0] ++ (g2 ++ (g3 ++ ([])))))) from KeepsF.pastL hC.size (fun g hg => (hO.inN g hg)))
      have h0 := h0.mt i9 hO same_
      have h1 := h1.ma i9 hO same_ (fun _ e => (mem_l (e)))
      have hl0x1 := hl0x1.mt i9 hO same_
      have a2 := a2.ap i9 hO same_ (mem_r (mem_l (List.mem_singleton.2 rfl)))
      have a6 := a6.mt i9 hO same_
      have d8 := d8.mt i9 hO same_
      have hC := hC.st i9 hO same_
      have hO := J1
      have h0 := h0.sub (M' := (PastL a9 (c2 ++ (([vg0]) ++ (a0 ++ (a1 ++ ([]))))) c5 i6 (i7 ++ ([vg0] ++ (g2 ++ (g3 ++ ([]))))))) (fun g hg => .inl hg.1)
      have h1 := h1.sub (M' := (PastL a9 (c2 ++ (([vg0]) ++ (a0 ++ (a1 ++ ([]))))) c5 i6 (i7 ++ ([vg0] ++ (g2 ++ (g3 ++ ([]))))))) (fun g hg => .inl hg.1)
      have hl0x1 := hl0x1.sub (M' := (PastL a9 (c2 ++ (([vg0]) ++ (a0 ++ (a1 ++ ([]))))) c5 i6 (i7 ++ ([vg0] ++ (g2 ++ (g3 ++ ([]))))))) (fun g hg => .inl hg.1)
      have a6 := a6.sub (M' := (PastL a9 (c2 ++ (([vg0]) ++ (a0 ++ (a1 ++ ([]))))) c5 i6 (i7 ++ ([vg0] ++ (g2 ++ (g3 ++ ([]))))))) (fun g hg => .inl hg.1)
      have d8 := d8.sub (M' := (PastL a9 (c2 ++ (([vg0]) ++ (a0 ++ (a1 ++ ([]))))) c5 i6 (i7 ++ ([vg0] ++ (g2 ++ (g3 ++ ([]))))))) (fun g hg => .inl hg.1)
      have hO := hO.perm (R := i7 ++ ([vg0] ++ (g2 ++ (g3 ++ (pf1 ++ (([a3]) ++ ([]))))))) (by simp)
      have t8 : BoxV i6 vg0 81 [(.int .i64 b0.1), (.slice va0x1 vn0x1 vc0x1), (.int .i64 b0.2.2.1), (.slice x8 x9 y0), (.map (some y1))] := t8
      refine x_p 21 (.bool (!r893.1)) rfl (by kernel_rfl)  (fun _ => y_not rfl) (fun h => nomatch h) (x_end (by kernel_rfl) ?_)
      clear hS
      cases hs
      have hO := hO.drop
      have hO := hO.fr3
      have hO := hO.fr4
      have hO := hO.fr4
      have hO := hO.fr4
      exact ⟨_, (PastL a9 (c2 ++ (([vg0]) ++ (a0 ++ (a1 ++ ([]))))) c5 i6 (i7 ++ ([vg0] ++ (g2 ++ (g3 ++ ([])))))), x8, x9, y0, g2, y1, g3, fr_ovl 80 ⟨rfl, rfl, rfl, rfl, rfl, rfl, rfl, rfl, trivial⟩, hC, hO, hK, h0, h1, hl0x1, t8, a2, I8, I9⟩
     refine x_py 16 (.int .i64 k665) rfl (by kernel_rfl) (tg := 73) (by kernel_rfl) (cb g1) (fun _ => y_move rfl) (fun h => nomatch h) (x_py 17 (.int .i64 old) rfl (by kernel_rfl) (tg := 73) (by kernel_rfl) (cb g1) (fun _ => y_move rfl) (fun h => nomatch h) (x_py 18 (.bool (decide (old ≤ k665))) rfl (by kernel_rfl) (tg := 73) (by kernel_rfl) (cb g1) (fun _ => y_geq rfl rfl) (fun h => nomatch h) (x_p 19 (.bool (decide (old ≤ k665))) rfl (by kernel_rfl)  (fun _ => y_pick_f (cb g1) rfl) (fun h => nomatch h) (x_one (i := 20) (by kernel_rfl) ?_))))
     have hO := hO.fr3
     have hO := hO.fr3
     have hO := hO.fr5
     have hO := hO.fr3
     have J2 := hO
     have y2 := Own.lend (F := (c2 ++ (([vg0]) ++ (a0 ++ (a1 ++ ([])))))) (R := pf1 ++ (([a3]) ++ ([]))) (Own.perm (J2) (by simp))
     obtain ⟨r897, J3, hs⟩ := bind_some hs
     refine xk_call (b := true) rfl  Bd101 rfl (c_ih (M := a9) (f.1, f.2) y889 old many (decide (old ≤ k665)) (b0.1, b0.2.1, b0.2.2.1, s663.1, s663.2) h0 r5 (show BoxV _ vg0 81 [(.int .i64 b0.1), (.slice va0x1 vn0x1 vc0x1), (.int .i64 b0.2.2.1), (.slice b6 b7 b8), (.map (some b9))] from hb0) hl0x1 a4 a5 y2 y2.fut J3) rfl (fun h => nomatch h) ?_
     rintro _ j0 ⟨j1, y3, y4, y5, g4, y6, g5, rfl, j2, U7, t9, J4, J5, J6⟩
     have hO := hO.fr3
     have hO := hO.fr3
     have hO := hO.fr3
     have hO := hO.fr3
     have hO := hO.perm (R := (c2 ++ (([vg0]) ++ (a0 ++ (a1 ++ ([]))))) ++ (pf1 ++ (([a3]) ++ ([])))) (by simp)
     have J7 := Own.pastL hO j2 J6
     have hK := hK.trans (show KeepsF w (pf1 ++ ([vg0] ++ (vf0x3 ++ (vf0x4 ++ ([]))))) a9 (PastL a9 (c2 ++ (([vg0]) ++ (a0 ++ (a1 ++ ([]))))) c5 j0 (j1 ++ ([vg0] ++ (g4 ++ (g5 ++ ([])))))) from KeepsF.pastL hC.size (fun g hg => (hO.inN g hg)))
     have h0 := h0.mt j2 hO same_
     have h1 := h1.ma j2 hO same_ (fun _ e => (mem_l (e)))
     have hl0x1 := hl0x1.mt j2 hO same_
     have a2 := a2.ap j2 hO same_ (mem_r (mem_l (List.mem_singleton.2 rfl)))
     have a6 := a6.mt j2 hO same_
     have d8 := d8.mt j2 hO same_
     have hC := hC.st j2 hO same_
     have hO := J7
     have h0 := h0.sub (M' := (PastL a9 (c2 ++ (([vg0]) ++ (a0 ++ (a1 ++ ([]))))) c5 j0 (j1 ++ ([vg0] ++ (g4 ++ (g5 ++ ([]))))))) (fun g hg => .inl hg.1)
     have h1 := h1.sub (M' := (PastL a9 (c2 ++ (([vg0]) ++ (a0 ++ (a1 ++ ([]))))) c5 j0 (j1 ++ ([vg0] ++ (g4 ++ (g5 ++ ([]))))))) (fun g hg => .inl hg.1)
     have hl0x1 := hl0x1.sub (M' := (PastL a9 (c2 ++ (([vg0]) ++ (a0 ++ (a1 ++ ([]))))) c5 j0 (j1 ++ ([vg0] ++ (g4 ++ (g5 ++ ([]))))))) (fun g hg => .inl hg.1)
     have a6 := a6.sub (M' := (PastL a9 (c2 ++ (([vg0]) ++ (a0 ++ (a1 ++ ([]))))) c5 j0 (j1 ++ ([vg0] ++ (g4 ++ (g5 ++ ([]))))))) (fun g hg => .inl hg.1)
     have d8 := d8.sub (M' := (PastL a9 (c2 ++ (([vg0]) ++ (a0 ++ (a1 ++ ([]))))) c5 j0 (j1 ++ ([vg0] ++ (g4 ++ (g5 ++ ([]))))))) (fun g hg => .inl hg.1)
     have hO := hO.perm (R := j1 ++ ([vg0] ++ (g4 ++ (g5 ++ (pf1 ++ (([a3]) ++ ([]))))))) (by simp)
     have t9 : BoxV j0 vg0 81 [(.int .i64 b0.1), (.slice va0x1 vn0x1 vc0x1), (.int .i64 b0.2.2.1), (.slice y3 y4 y5), (.map (some y6))] := t9
     refine x_p 21 (.bool (!r897.1)) rfl (by kernel_rfl)  (fun _ => y_not rfl) (fun h => nomatch h) (x_end (by kernel_rfl) ?_)
     clear hS
     cases hs
     have hO := hO.drop
     have hO := hO.fr3
     have hO := hO.fr4
     have hO := hO.fr4
     have hO := hO.fr4
     exact ⟨_, (PastL a9 (c2 ++ (([vg0]) ++ (a0 ++ (a1 ++ ([]))))) c5 j0 (j1 ++ ([vg0] ++ (g4 ++ (g5 ++ ([])))))), y3, y4, y5, g4, y6, g5, fr_ovl 80 ⟨rfl, rfl, rfl, rfl, rfl, rfl, rfl, rfl, trivial⟩, hC, hO, hK, h0, h1, hl0x1, t9, a2, J4, J5⟩
    ·skip
     obtain ⟨y7, u0, J8, y8, d5, y9⟩ := new_block t5 [(.slice p7 p8 p9)] 43
     refine xk_val (w' := y7) (b := false) (.slice (some ⟨u0, 0, none⟩) 1 1) rfl  (y_bslice rfl (by rw [J8, y8]; kernel_rfl)) rfl (fun _ => hS.ext d5) ?_
     have h0 := h0.ext d5
     have h1 := h1.ext d5
     have hl0x1 := hl0x1.ext d5
     have hb0 := hb0.cn d5
     have a2 := a2.cn d5
     have a4 := a4.ext d5
     have a5 := a5.ext d5
     have a6 := a6.ext d5
     have hC := hC.ext d5
     have hO := hO.new1 d5 y8 y9.lt
     have r6 := os_of_box (r := (RT.rs ri)) (M := c1) (css := [[(.slice p7 p8 p9)]]) (fps := [([] : List Nat)]) (xs := ([x881] : List (List Int))) y9 ⟨(rs_unval a6), trivial⟩ (Nat.le_of_ble_eq_true rfl) (List.nodup_cons.2 ⟨(fun h => nomatch h), List.nodup_nil⟩)
     have r6 : (RT.os 43 (RT.rs ri)).val c1 y7 (.slice (some ⟨u0, 0, none⟩) 1 1) [x881] [u0] := r6
     have hS := hS.ext d5
     refine x_two (i := 1) (j := 11) (by kernel_rfl) ?_ ?_
     ·skip
      refine xk_val (b := false) (.agg #[(.int .i64 f.1), (.slice pa0 pn0 pc0)]) rfl  (y_load rfl ((box_load Ag89 Sz89 a2 [] [(.int .i64 f.1), (.slice pa0 pn0 pc0)] [] rfl rfl (fun h => nomatch h)) _ (Chg.refl _ _))) rfl (fun _ => hS) (x_one (i := 11) (by kernel_rfl) ?_)
      obtain ⟨b1, U8, n8, J9, hO, e0⟩ := frzF_own (Frz.os (Frz.rs Frz.int)) r6 hO
      have h0 := h0.sub (M' := b1) n8
      have h1 := h1.sub (M' := b1) n8
      have hl0x1 := hl0x1.sub (M' := b1) n8
      have a4 := a4.sub (M' := b1) n8
      have a5 := a5.sub (M' := b1) n8
      have a6 := a6.sub (M' := b1) n8
      have hK := hK.trans J9
      obtain ⟨y889, q0, hs⟩ := bind_some hs
      have hO := hO.fr3
      obtain ⟨K0, K1, K2, c6, c3, K3, e1, K4, r7⟩ := app_new Nf.rs Rw25 q0 h1 e0 hO.inM (by simp) m2
      refine xk_val (w' := c6) (b := true) (.slice K0 K1 K2) rfl  (y_append rfl rfl (K3 _)) rfl (fun h => nomatch h) ?_
      have h0 := h0.ext e1
      have h1 := h1.ext e1
      have hl0x1 := hl0x1.ext e1
      have hb0 := hb0.cn e1
      have a2 := a2.cn e1
      have a4 := a4.ext e1
      have a5 := a5.ext e1
      have a6 := a6.ext e1
      have e0 := e0.ext e1
      have hC := hC.ext e1
      have hO := hO.new e1 K4 (os_nodup r7) r7.fpl
      refine x_p 15 (.bool fresh) rfl (by kernel_rfl)  (fun _ => y_move rfl) (fun h => nomatch h) ?_
      rcases bif_some hs with ⟨g6, hs⟩ | ⟨g6, hs⟩
      ·skip
       refine x_pn 16 rfl (by kernel_rfl) (tg := 73) (by kernel_rfl) (cb g6) (fun h => nomatch h) (x_pn 17 rfl (by kernel_rfl) (tg := 73) (by kernel_rfl) (cb g6) (fun h => nomatch h) (x_pn 18 rfl (by kernel_rfl) (tg := 73) (by kernel_rfl) (cb g6) (fun h => nomatch h) (x_p 19 (.bool true) rfl (by kernel_rfl)  (fun _ => y_pick_t (cb g6) rfl) (fun h => nomatch h) (x_one (i := 20) (by kernel_rfl) ?_))))
       have hO := hO.fr3
       have hO := hO.fr3
       have hO := hO.fr5
       have hO := hO.fr3
       have K5 := hO
       have z0 := Own.lend (F := (c3 ++ (([vg0]) ++ (a0 ++ (a1 ++ ([])))))) (R := pf1 ++ (([a3]) ++ ([]))) (Own.perm (K5) (by simp))
       obtain ⟨K6, K7, hs⟩ := bind_some hs
       refine xk_call (b := true) rfl  Bd101 rfl (c_ih (M := b1) (f.1, f.2) y889 old many true (b0.1, b0.2.1, b0.2.2.1, s663.1, s663.2) h0 r7 (show BoxV _ vg0 81 [(.int .i64 b0.1), (.slice va0x1 vn0x1 vc0x1), (.int .i64 b0.2.2.1), (.slice b6 b7 b8), (.map (some b9))] from hb0) hl0x1 a4 a5 z0 z0.fut K7) rfl (fun h => nomatch h) ?_
       rintro _ j3 ⟨j4, z1, z2, z3, g7, z4, g8, rfl, j5, U9, u1, K8, K9, L0⟩
       have hO := hO.fr3
       have hO := hO.fr3
       have hO := hO.fr3
       have hO := hO.fr3
       have hO := hO.perm (R := (c3 ++ (([vg0]) ++ (a0 ++ (a1 ++ ([]))))) ++ (pf1 ++ (([a3]) ++ ([])))) (by simp)
       have L1 := Own.pastL hO j5 L0
       have hK := hK.trans (show KeepsF w (pf1 ++ ([vg0] ++ (vf0x3 ++ (vf0x4 ++ ([]))))) b1 (PastL b1 (c3 ++ (([vg0]) ++ (a0 ++ (a1 ++ ([]))))) c6 j3 (j4 ++ ([vg0] ++ (g7 ++ (g8 ++ ([])))))) from KeepsF.pastL hC.size (fun g hg => (hO.inN g hg)))
       have h0 := h0.mt j5 hO same_
       have h1 := h1.ma j5 hO same_ (fun _ e => (mem_l (e)))
       have hl0x1 := hl0x1.mt j5 hO same_
       have a2 := a2.ap j5 hO same_ (mem_r (mem_l (List.mem_singleton.2 rfl)))
       have a6 := a6.mt j5 hO same_
       have e0 := e0.mt j5 hO same_
       have hC := hC.st j5 hO same_
       have hO := L1
       have h0 := h0.sub (M' := (PastL b1 (c3 ++ (([vg0]) ++ (a0 ++ (a1 ++ ([]))))) c6 j3 (j4 ++ ([vg0] ++ (g7 ++ (g8 ++ ([]))))))) (fun g hg => .inl hg.1)
       have h1 := h1.sub (M' := (PastL b1 (c3 ++ (([vg0]) ++ (a0 ++ (a1 ++ ([]))))) c6 j3 (j4 ++ ([vg0] ++ (g7 ++ (g8 ++ ([]))))))) (fun g hg => .inl hg.1)
       have hl0x1 := hl0x1.sub (M' := (PastL b1 (c3 ++ (([vg0]) ++ (a0 ++ (a1 ++ ([]))))) c6 j3 (j4 ++ ([vg0] ++ (g7 ++ (g8 ++ ([]))))))) (fun g hg => .inl hg.1)
       have a6 := a6.sub (M' := (PastL b1 (c3 ++ (([vg0]) ++ (a0 ++ (a1 ++ ([]))))) c6 j3 (j4 ++ ([vg0] ++ (g7 ++ (g8 ++ ([]))))))) (fun g hg => .inl hg.1)
       have e0 := e0.sub (M' := (PastL b1 (c3 ++ (([vg0]) ++ (a0 ++ (a1 ++ ([]))))) c6 j3 (j4 ++ ([vg0] ++ (g7 ++ (g8 ++ ([]))))))) (fun g hg => .inl hg.1)
       have hO := hO.perm (R := j4 ++ ([vg0] ++ (g7 ++ (g8 ++ (pf1 ++ (([a3]) ++ ([]))))))) (by simp)
       have u1 : BoxV j3 vg0 81 [(.int .i64 b0.1), (.slice va0x1 vn0x1 vc0x1), (.int .i64 b0.2.2.1), (.slice z1 z2 z3), (.map (some z4))] := u1
       refine x_p 21 (.bool (!K6.1)) rfl (by kernel_rfl)  (fun _ => y_not rfl) (fun h => nomatch h) (x_end (by kernel_rfl) ?_)
       clear hS
       cases hs
       have hO := hO.drop
       have hO := hO.fr3
       have hO := hO.fr4
       have hO := hO.fr4
       have hO := hO.fr4
       exact ⟨_, (PastL b1 (c3 ++ (([vg0]) ++ (a0 ++ (a1 ++ ([]))))) c6 j3 (j4 ++ ([vg0] ++ (g7 ++ (g8 ++ ([])))))), z1, z2, z3, g7, z4, g8, fr_ovl 80 ⟨rfl, rfl, rfl, rfl, rfl, rfl, rfl, rfl, trivial⟩, hC, hO, hK, h0, h1, hl0x1, u1, a2, K8, K9⟩
      refine x_py 16 (.int .i64 k665) rfl (by kernel_rfl) (tg := 73) (by kernel_rfl) (cb g6) (fun _ => y_move rfl) (fun h => nomatch h) (x_py 17 (.int .i64 old) rfl (by kernel_rfl) (tg := 73) (by kernel_rfl) (cb g6) (fun _ => y_move rfl) (fun h => nomatch h) (x_py 18 (.bool (decide (old ≤ k665))) rfl (by kernel_rfl) (tg := 73) (by kernel_rfl) (cb g6) (fun _ => y_geq rfl rfl) (fun h => nomatch h) (x_p 19 (.bool (decide (old ≤ k665))) rfl (by kernel_rfl)  (fun _ => y_pick_f (cb g6) rfl) (fun h => nomatch h) (x_one (i := 20) (by kernel_rfl) ?_))))
      have hO := hO.fr3
      have hO := hO.fr3
      have hO := hO.fr5
      have hO := hO.fr3
      have L2 := hO
      have z5 := Own.lend (F := (c3 ++ (([vg0]) ++ (a0 ++ (a1 ++ ([])))))) (R := pf1 ++ (([a3]) ++ ([]))) (Own.perm (L2) (by simp))
      obtain ⟨L3, L4, hs⟩ := bind_some hs
      refine xk_call (b := true) rfl  Bd101 rfl (c_ih (M := b1) (f.1, f.2) y889 old many (decide (old ≤ k665)) (b0.1, b0.2.1, b0.2.2.1, s663.1, s663.2) h0 r7 (show BoxV _ vg0 81 [(.int .i64 b0.1), (.slice va0x1 vn0x1 vc0x1), (.int .i64 b0.2.2.1), (.slice b6 b7 b8), (.map (some b9))] from hb0) hl0x1 a4 a5 z5 z5.fut L4) rfl (fun h => nomatch h) ?_
      rintro _ j6 ⟨j7, z6, z7, z8, g9, z9, h2, rfl, j8, V0, u2, L5, L6, L7⟩
      have hO := hO.fr3
      have hO := hO.fr3
      have hO := hO.fr3
      have hO := hO.fr3
      have hO := hO.perm (R := (c3 ++ (([vg0]) ++ (a0 ++ (a1 ++ ([]))))) ++ (pf1 ++ (([a3]) ++ ([])))) (by simp)
      have L8 := Own.pastL hO j8 L7
      have hK := hK.trans (show KeepsF w (pf1 ++ ([vg0] ++ (vf0x3 ++ (vf0x4 ++ ([]))))) b1 (PastL b1 (c3 ++ (([vg0]) ++ (a0 ++ (a1 ++ ([]))))) c6 j6 (j7 ++ ([vg0] ++ (g9 ++ (h2 ++ ([])))))) from KeepsF.pastL hC.size (fun g hg => (hO.inN g hg)))
      have h0 := h0.mt j8 hO same_
      have h1 := h1.ma j8 hO same_ (fun _ e => (mem_l (e)))
      have hl0x1 := hl0x1.mt j8 hO same_
      have a2 := a2.ap j8 hO same_ (mem_r (mem_l (List.mem_singleton.2 rfl)))
      have a6 := a6.mt j8 hO same_
      have e0 := e0.mt j8 hO same_
      have hC := hC.st j8 hO same_
      have hO := L8
      have h0 := h0.sub (M' := (PastL b1 (c3 ++ (([vg0]) ++ (a0 ++ (a1 ++ ([]))))) c6 j6 (j7 ++ ([vg0] ++ (g9 ++ (h2 ++ ([]))))))) (fun g hg => .inl hg.1)
      have h1 := h1.sub (M' := (PastL b1 (c3 ++ (([vg0]) ++ (a0 ++ (a1 ++ ([]))))) c6 j6 (j7 ++ ([vg0] ++ (g9 ++ (h2 ++ ([]))))))) (fun g hg => .inl hg.1)
      have hl0x1 := hl0x1.sub (M' := (PastL b1 (c3 ++ (([vg0]) ++ (a0 ++ (a1 ++ ([]))))) c6 j6 (j7 ++ ([vg0] ++ (g9 ++ (h2 ++ ([]))))))) (fun g hg => .inl hg.1)
      have a6 := a6.sub (M' := (PastL b1 (c3 ++ (([vg0]) ++ (a0 ++ (a1 ++ ([]))))) c6 j6 (j7 ++ ([vg0] ++ (g9 ++ (h2 ++ ([]))))))) (fun g hg => .inl hg.1)
      have e0 := e0.sub (M' := (PastL b1 (c3 ++ (([vg0]) ++ (a0 ++ (a1 ++ ([]))))) c6 j6 (j7 ++ ([vg0] ++ (g9 ++ (h2 ++ ([]))))))) (fun g hg => .inl hg.1)
      have hO := hO.perm (R := j7 ++ ([vg0] ++ (g9 ++ (h2 ++ (pf1 ++ (([a3]) ++ ([]))))))) (by simp)
      have u2 : BoxV j6 vg0 81 [(.int .i64 b0.1), (.slice va0x1 vn0x1 vc0x1), (.int .i64 b0.2.2.1), (.slice z6 z7 z8), (.map (some z9))] := u2
      refine x_p 21 (.bool (!L3.1)) rfl (by kernel_rfl)  (fun _ => y_not rfl) (fun h => nomatch h) (x_end (by kernel_rfl) ?_)
      clear hS
      cases hs
      have hO := hO.drop
      have hO := hO.fr3
      have hO := hO.fr4
      have hO := hO.fr4
      have hO := hO.fr4
      exact ⟨_, (PastL b1 (c3 ++ (([vg0]) ++ (a0 ++ (a1 ++ ([]))))) c6 j6 (j7 ++ ([vg0] ++ (g9 ++ (h2 ++ ([])))))), z6, z7, z8, g9, z9, h2, fr_ovl 80 ⟨rfl, rfl, rfl, rfl, rfl, rfl, rfl, rfl, trivial⟩, hC, hO, hK, h0, h1, hl0x1, u2, a2, L5, L6⟩
     ·skip
      obtain ⟨b2, V1, n9, L9, hO, e2⟩ := frzF_own (Frz.os (Frz.rs Frz.int)) r6 hO
      have h0 := h0.sub (M' := b2) n9
      have h1 := h1.sub (M' := b2) n9
      have hl0x1 := hl0x1.sub (M' := b2) n9
      have a4 := a4.sub (M' := b2) n9
      have a5 := a5.sub (M' := b2) n9
      have a6 := a6.sub (M' := b2) n9
      have hK := hK.trans L9
      obtain ⟨y889, q0, hs⟩ := bind_some hs
      have hO := hO.fr3
      obtain ⟨M0, M1, M2, c7, c4, M3, e3, M4, r8⟩ := app_new Nf.rs Rw25 q0 h1 e2 hO.inM (by simp) m2
      refine xk_val (w' := c7) (b := true) (.slice M0 M1 M2) rfl  (y_append rfl rfl (M3 _)) rfl (fun h => nomatch h) ?_
      have h0 := h0.ext e3
      have h1 := h1.ext e3
      have hl0x1 := hl0x1.ext e3
      have hb0 := hb0.cn e3
      have a2 := a2.cn e3
      have a4 := a4.ext e3
      have a5 := a5.ext e3
      have a6 := a6.ext e3
      have e2 := e2.ext e3
      have hC := hC.ext e3
      have hO := hO.new e3 M4 (os_nodup r8) r8.fpl
      refine x_p 15 (.bool fresh) rfl (by kernel_rfl)  (fun _ => y_move rfl) (fun h => nomatch h) ?_
      rcases bif_some hs with ⟨h3, hs⟩ | ⟨h3, hs⟩
      ·skip
       refine x_pn 16 rfl (by kernel_rfl) (tg := 73) (by kernel_rfl) (cb h3) (fun h => nomatch h) (x_pn 17 rfl (by kernel_rfl) (tg := 73) (by kernel_rfl) (cb h3) (fun h => nomatch h) (x_pn 18 rfl (by kernel_rfl) (tg := 73) (by kernel_rfl) (cb h3) (fun h => nomatch h) (x_p 19 (.bool true) rfl (by kernel_rfl)  (fun _ => y_pick_t (cb h3) rfl) (fun h => nomatch h) (x_one (i := 1) (by kernel_rfl) (xk_val (b := true) (.agg #[(.int .i64 f.1), (.slice pa0 pn0 pc0)]) rfl  (y_load rfl ((box_load Ag89 Sz89 a2 [] [(.int .i64 f.1), (.slice pa0 pn0 pc0)] [] rfl rfl (fun h => nomatch h)) _ (Chg.refl _ _))) rfl (fun h => nomatch h) (x_one (i := 20) (by kernel_rfl) ?_))))))
       have hO := hO.fr3
       have hO := hO.fr3
       have hO := hO.fr5
       have hO := hO.fr3
       have M5 := hO
       have A0 := Own.lend (F := (c4 ++ (([vg0]) ++ (a0 ++ (a1 ++ ([])))))) (R := pf1 ++ (([a3]) ++ ([]))) (Own.perm (M5) (by simp))
       obtain ⟨M6, M7, hs⟩ := bind_some hs
       refine xk_call (b := true) rfl  Bd101 rfl (c_ih (M := b2) (f.1, f.2) y889 old many true (b0.1, b0.2.1, b0.2.2.1, s663.1, s663.2) h0 r8 (show BoxV _ vg0 81 [(.int .i64 b0.1), (.slice va0x1 vn0x1 vc0x1), (.int .i64 b0.2.2.1), (.slice b6 b7 b8), (.map (some b9))] from hb0) hl0x1 a4 a5 A0 A0.fut M7) rfl (fun h => nomatch h) ?_
       rintro _ j9 ⟨k0, A1, A2, A3, h4, A4, h5, rfl, k1, V2, u3, M8, M9, N0⟩
       have hO := hO.fr3
       have hO := hO.fr3
       have hO := hO.fr3
       have hO := hO.fr3
       have hO := hO.perm (R := (c4 ++ (([vg0]) ++ (a0 ++ (a1 ++ ([]))))) ++ (pf1 ++ (([a3]) ++ ([])))) (by simp)
       have N1 := Own.pastL hO k1 N0
       have hK := hK.trans (show KeepsF w (pf1 ++ ([vg0] ++ (vf0x3 ++ (vf0x4 ++ ([]))))) b2 (PastL b2 (c4 ++ (([vg0]) ++ (a0 ++ (a1 ++ ([]))))) c7 j9 (k0 ++ ([vg0] ++ (h4 ++ (h5 ++ ([])))))) from KeepsF.pastL hC.size (fun g hg => (hO.inN g hg)))
       have h0 := h0.mt k1 hO same_
       have h1 := h1.ma k1 hO same_ (fun _ e => (mem_l (e)))
       have hl0x1 := hl0x1.mt k1 hO same_
       have a2 := a2.ap k1 hO same_ (mem_r (mem_l (List.mem_singleton.2 rfl)))
       have a6 := a6.mt k1 hO same_
       have e2 := e2.mt k1 hO same_
       have hC := hC.st k1 hO same_
       have hO := N1
       have h0 := h0.sub (M' := (PastL b2 (c4 ++ (([vg0]) ++ (a0 ++ (a1 ++ ([]))))) c7 j9 (k0 ++ ([vg0] ++ (h4 ++ (h5 ++ ([]))))))) (fun g hg => .inl hg.1)
       have h1 := h1.sub (M' := (PastL b2 (c4 ++ (([vg0]) ++ (a0 ++ (a1 ++ ([]))))) c7 j9 (k0 ++ ([vg0] ++ (h4 ++ (h5 ++ ([]))))))) (fun g hg => .inl hg.1)
       have hl0x1 := hl0x1.sub (M' := (PastL b2 (c4 ++ (([vg0]) ++ (a0 ++ (a1 ++ ([]))))) c7 j9 (k0 ++ ([vg0] ++ (h4 ++ (h5 ++ ([]))))))) (fun g hg => .inl hg.1)
       have a6 := a6.sub (M' := (PastL b2 (c4 ++ (([vg0]) ++ (a0 ++ (a1 ++ ([]))))) c7 j9 (k0 ++ ([vg0] ++ (h4 ++ (h5 ++ ([]))))))) (fun g hg => .inl hg.1)
       have e2 := e2.sub (M' := (PastL b2 (c4 ++ (([vg0]) ++ (a0 ++ (a1 ++ ([]))))) c7 j9 (k0 ++ ([vg0] ++ (h4 ++ (h5 ++ ([]))))))) (fun g hg => .inl hg.1)
       have hO := hO.perm (R := k0 ++ ([vg0] ++ (h4 ++ (h5 ++ (pf1 ++ (([a3]) ++ ([]))))))) (by simp)
       have u3 : BoxV j9 vg0 81 [(.int .i64 b0.1), (.slice va0x1 vn0x1 vc0x1), (.int .i64 b0.2.2.1), (.slice A1 A2 A3), (.map (some A4))] := u3
       refine x_p 21 (.bool (!M6.1)) rfl (by kernel_rfl)  (fun _ => y_not rfl) (fun h => nomatch h) (x_end (by kernel_rfl) ?_)
       clear hS
       cases hs
       have hO := hO.drop
       have hO := hO.fr3
       have hO := hO.fr4
       have hO := hO.fr4
       have hO := hO.fr4
       exact ⟨_, (PastL b2 (c4 ++ (([vg0]) ++ (a0 ++ (a1 ++ ([]))))) c7 j9 (k0 ++ ([vg0] ++ (h4 ++ (h5 ++ ([])))))), A1, A2, A3, h4, A4, h5, fr_ovl 80 ⟨rfl, rfl, rfl, rfl, rfl, rfl, rfl, rfl, trivial⟩, hC, hO, hK, h0, h1, hl0x1, u3, a2, M8, M9⟩
      refine x_py 16 (.int .i64 k665) rfl (by kernel_rfl) (tg := 73) (by kernel_rfl) (cb h3) (fun _ => y_move rfl) (fun h => nomatch h) (x_py 17 (.int .i64 old) rfl (by kernel_rfl) (tg := 73) (by kernel_rfl) (cb h3) (fun _ => y_move rfl) (fun h => nomatch h) (x_py 18 (.bool (decide (old ≤ k665))) rfl (by kernel_rfl) (tg := 73) (by kernel_rfl) (cb h3) (fun _ => y_geq rfl rfl) (fun h => nomatch h) (x_p 19 (.bool (decide (old ≤ k665))) rfl (by kernel_rfl)  (fun _ => y_pick_f (cb h3) rfl) (fun h => nomatch h) (x_one (i := 1) (by kernel_rfl) (xk_val (b := true) (.agg #[(.int .i64 f.1), (.slice pa0 pn0 pc0)]) rfl  (y_load rfl ((box_load Ag89 Sz89 a2 [] [(.int .i64 f.1), (.slice pa0 pn0 pc0)] [] rfl rfl (fun h => nomatch h)) _ (Chg.refl _ _))) rfl (fun h => nomatch h) (x_one (i := 20) (by kernel_rfl) ?_))))))
      have hO := hO.fr3
      have hO := hO.fr3
      have hO := hO.fr5
      have hO := hO.fr3
      have N2 := hO
      have A5 := Own.lend (F := (c4 ++ (([vg0]) ++ (a0 ++ (a1 ++ ([])))))) (R := pf1 ++ (([a3]) ++ ([]))) (Own.perm (N2) (by simp))
      obtain ⟨N3, N4, hs⟩ := bind_some hs
      refine xk_call (b := true) rfl  Bd101 rfl (c_ih (M := b2) (f.1, f.2) y889 old many (decide (old ≤ k665)) (b0.1, b0.2.1, b0.2.2.1, s663.1, s663.2) h0 r8 (show BoxV _ vg0 81 [(.int .i64 b0.1), (.slice va0x1 vn0x1 vc0x1), (.int .i64 b0.2.2.1), (.slice b6 b7 b8), (.map (some b9))] from hb0) hl0x1 a4 a5 A5 A5.fut N4) rfl (fun h => nomatch h) ?_
      rintro _ k2 ⟨k3, A6, A7, A8, h6, A9, h7, rfl, k4, V3, u4, N5, N6, N7⟩
      have hO := hO.fr3
      have hO := hO.fr3
      have hO := hO.fr3
      have hO := hO.fr3
      have hO := hO.perm (R := (c4 ++ (([vg0]) ++ (a0 ++ (a1 ++ ([]))))) ++ (pf1 ++ (([a3]) ++ ([])))) (by simp)
      have N8 := Own.pastL hO k4 N7
      have hK := hK.trans (show KeepsF w (pf1 ++ ([vg0] ++ (vf0x3 ++ (vf0x4 ++ ([]))))) b2 (PastL b2 (c4 ++ (([vg0]) ++ (a0 ++ (a1 ++ ([]))))) c7 k2 (k3 ++ ([vg0] ++ (h6 ++ (h7 ++ ([])))))) from KeepsF.pastL hC.size (fun g hg => (hO.inN g hg)))
      have h0 := h0.mt k4 hO same_
      have h1 := h1.ma k4 hO same_ (fun _ e => (mem_l (e)))
      have hl0x1 := hl0x1.mt k4 hO same_
      have a2 := a2.ap k4 hO same_ (mem_r (mem_l (List.mem_singleton.2 rfl)))
      have a6 := a6.mt k4 hO same_
      have e2 := e2.mt k4 hO same_
      have hC := hC.st k4 hO same_
      have hO := N8
      have h0 := h0.sub (M' := (PastL b2 (c4 ++ (([vg0]) ++ (a0 ++ (a1 ++ ([]))))) c7 k2 (k3 ++ ([vg0] ++ (h6 ++ (h7 ++ ([]))))))) (fun g hg => .inl hg.1)
      have h1 := h1.sub (M' := (PastL b2 (c4 ++ (([vg0]) ++ (a0 ++ (a1 ++ ([]))))) c7 k2 (k3 ++ ([vg0] ++ (h6 ++ (h7 ++ ([]))))))) (fun g hg => .inl hg.1)
      have hl0x1 := hl0x1.sub (M' := (PastL b2 (c4 ++ (([vg0]) ++ (a0 ++ (a1 ++ ([]))))) c7 k2 (k3 ++ ([vg0] ++ (h6 ++ (h7 ++ ([]))))))) (fun g hg => .inl hg.1)
      have a6 := a6.sub (M' := (PastL b2 (c4 ++ (([vg0]) ++ (a0 ++ (a1 ++ ([]))))) c7 k2 (k3 ++ ([vg0] ++ (h6 ++ (h7 ++ ([]))))))) (fun g hg => .inl hg.1)
      have e2 := e2.sub (M' := (PastL b2 (c4 ++ (([vg0]) ++ (a0 ++ (a1 ++ ([]))))) c7 k2 (k3 ++ ([vg0] ++ (h6 ++ (h7 ++ ([]))))))) (fun g hg => .inl hg.1)
      have hO := hO.perm (R := k3 ++ ([vg0] ++ (h6 ++ (h7 ++ (pf1 ++ (([a3]) ++ ([]))))))) (by simp)
      have u4 : BoxV k2 vg0 81 [(.int .i64 b0.1), (.slice va0x1 vn0x1 vc0x1), (.int .i64 b0.2.2.1), (.slice A6 A7 A8), (.map (some A9))] := u4
      refine x_p 21 (.bool (!N3.1)) rfl (by kernel_rfl)  (fun _ => y_not rfl) (fun h => nomatch h) (x_end (by kernel_rfl) ?_)
      clear hS
      cases hs
      have hO := hO.drop
      have hO := hO.fr3
      have hO := hO.fr4
      have hO := hO.fr4
      have hO := hO.fr4
      exact ⟨_, (PastL b2 (c4 ++ (([vg0]) ++ (a0 ++ (a1 ++ ([]))))) c7 k2 (k3 ++ ([vg0] ++ (h6 ++ (h7 ++ ([])))))), A6, A7, A8, h6, A9, h7, fr_ovl 80 ⟨rfl, rfl, rfl, rfl, rfl, rfl, rfl, rfl, trivial⟩, hC, hO, hK, h0, h1, hl0x1, u4, a2, N5, N6⟩
   refine x_start [11, 20] Mx rfl ?_
   have f3 := Chg.drew a8
   generalize World.drew a8 = u5 at f3 ⊢
   have h0 := h0.ext f3
   have h1 := h1.ext f3
   have hl0x1 := hl0x1.ext f3
   have hb0 := hb0.cn f3
   have a2 := a2.cn f3
   have a4 := a4.ext f3
   have a5 := a5.ext f3
   have hC := hC.ext f3
   have hO := hO.ext f3
   have hS := Chg.refl [] u5
   refine x_p 0 (pq vg0 0) rfl (by kernel_rfl)  (fun _ => y_move rfl) (fun _ => hS) (x_p 2 (.slice pa1 pn1 pc1) rfl (by kernel_rfl)  (fun _ => y_move rfl) (fun _ => hS) (x_p 3 (pq vg0 0) rfl (by kernel_rfl)  (fun _ => y_move rfl) (fun _ => hS) (x_p 4 (pq vg0 0) rfl (by kernel_rfl)  (fun _ => y_nilc rfl) (fun _ => hS) (x_p 5 (pq vg0 3) rfl (by kernel_rfl)  (fun _ => y_faddr rfl Fa81x2) (fun _ => hS) (x_l 6 (.slice b6 b7 b8) rfl (by kernel_rfl)  (fun w' hw' => y_load rfl ((box_load Ag25 Sz25 hb0 [(.int .i64 b0.1), (.slice va0x1 vn0x1 vc0x1), (.int .i64 b0.2.2.1)] [(.slice b6 b7 b8)] [(.map (some b9))] rfl rfl (fun _ => rfl)) w' hw')) hS (x_p 7 (.int .i64 k665) rfl (by kernel_rfl)  (fun _ => y_move rfl) (fun _ => hS) ?_))))))
   obtain ⟨r9, N9, hs⟩ := bind_some hs
   obtain ⟨O0, V4, V5, V6, O1, O2, V7⟩ := os_idx Sl25 Sz43 a4 N9
   have O3 := rd_row Rd.rs O2
   refine x_p 8 (.pointer (some ⟨O0, 0 + Int.toNat k665 * 1, none⟩)) rfl (by kernel_rfl)  (fun _ => O1 _ _ _ _ _ _ _ _ _ rfl rfl) (fun _ => hS) ?_
   obtain ⟨V8, O4, a7⟩ := at_load Ag43 Sz43 (fun _ => rfl) O3
   obtain ⟨q1, q2, q3, rfl⟩ := rs_sl a7
   refine x_l 9 (.slice q1 q2 q3) rfl (by kernel_rfl)  (fun w' hw' => y_load rfl (O4 w' hw')) hS (x_p 12 (.int .i64 old) rfl (by kernel_rfl)  (fun _ => y_move rfl) (fun _ => hS) (x_p 13 (.int .i64 many) rfl (by kernel_rfl)  (fun _ => y_move rfl) (fun _ => hS) (x_p 14 (.bool fresh) rfl (by kernel_rfl)  (fun _ => y_move rfl) (fun _ => hS) (x_two (i := 1) (j := 10) (by kernel_rfl) ?_ ?_))))
   ·skip
    refine xk_val (b := false) (.agg #[(.int .i64 f.1), (.slice pa0 pn0 pc0)]) rfl  (y_load rfl ((box_load Ag89 Sz89 a2 [] [(.int .i64 f.1), (.slice pa0 pn0 pc0)] [] rfl rfl (fun h => nomatch h)) _ (Chg.refl _ _))) rfl (fun _ => hS) (x_one (i := 10) (by kernel_rfl) ?_)
    obtain ⟨B0, u6, O5, B1, d6, B2⟩ := new_block u5 [(.slice q1 q2 q3)] 43
    refine xk_val (w' := B0) (b := false) (.slice (some ⟨u6, 0, none⟩) 1 1) rfl  (y_bslice rfl (by rw [O5, B1]; kernel_rfl)) rfl (fun _ => hS.ext d6) ?_
    have h0 := h0.ext d6
    have h1 := h1.ext d6
    have hl0x1 := hl0x1.ext d6
    have hb0 := hb0.cn d6
    have a2 := a2.cn d6
    have a4 := a4.ext d6
    have a5 := a5.ext d6
    have a7 := a7.ext d6
    have hC := hC.ext d6
    have hO := hO.new1 d6 B1 B2.lt
    have u7 := os_of_box (r := (RT.rs ri)) (M := c1) (css := [[(.slice q1 q2 q3)]]) (fps := [([] : List Nat)]) (xs := ([r9] : List (List Int))) B2 ⟨(rs_unval a7), trivial⟩ (Nat.le_of_ble_eq_true rfl) (List.nodup_cons.2 ⟨(fun h => nomatch h), List.nodup_nil⟩)
    have u7 : (RT.os 43 (RT.rs ri)).val c1 B0 (.slice (some ⟨u6, 0, none⟩) 1 1) [r9] [u6] := u7
    have hS := hS.ext d6
    refine x_one (i := 11) (by kernel_rfl) ?_
    obtain ⟨b3, V9, o0, O6, hO, e4⟩ := frzF_own (Frz.os (Frz.rs Frz.int)) u7 hO
    have h0 := h0.sub (M' := b3) o0
    have h1 := h1.sub (M' := b3) o0
    have hl0x1 := hl0x1.sub (M' := b3) o0
    have a4 := a4.sub (M' := b3) o0
    have a5 := a5.sub (M' := b3) o0
    have a7 := a7.sub (M' := b3) o0
    have hK := hK.trans O6
    obtain ⟨e5, e6, hs⟩ := bind_some hs
    have hO := hO.fr3
    have B3 := os_fpN Nf.rs h1
    have B4 := os_len' h1
    obtain ⟨c8, O7, f4, s0⟩ := app_in Nf.rs Rw25 e6 h1 e4 hO.inM (by simp) m2
    have h8 := os_block h1
    refine xk_val (w' := c8) (b := true) (.slice pa1 (pn1 + 1) pc1) rfl  (y_append rfl rfl (O7 _)) rfl (fun h => nomatch h) ?_
    have h0 := h0.mt f4 hO h8
    have hl0x1 := hl0x1.mt f4 hO h8
    have hb0 := hb0.ap f4 hO h8 (mem_r (mem_r (mem_r (mem_l (List.mem_singleton.2 rfl)))))
    have a2 := a2.ap f4 hO h8 (mem_r (mem_r (mem_l (List.mem_singleton.2 rfl))))
    have a4 := a4.ma f4 hO h8 (fun _ e => (mem_l (e)))
    have a5 := a5.ma f4 hO h8 (fun _ e => (mem_r (mem_l (e))))
    have a7 := a7.mt f4 hO h8
    have e4 := e4.mt f4 hO h8
    have hC := hC.st f4 hO h8
    have hO := hO.ext f4
    have s0 : (RT.os 43 (RT.rs ri)).val b3 c8 (.slice pa1 (pn1 + 1) pc1) e5 pf1 := s0
    refine x_p 15 (.bool fresh) rfl (by kernel_rfl)  (fun _ => y_move rfl) (fun h => nomatch h) ?_
    rcases bif_some hs with ⟨h9, hs⟩ | ⟨h9, hs⟩
    ·skip
     refine x_pn 16 rfl (by kernel_rfl) (tg := 73) (by kernel_rfl) (cb h9) (fun h => nomatch h) (x_pn 17 rfl (by kernel_rfl) (tg := 73) (by kernel_rfl) (cb h9) (fun h => nomatch h) (x_pn 18 rfl (by kernel_rfl) (tg := 73) (by kernel_rfl) (cb h9) (fun h => nomatch h) (x_p 19 (.bool true) rfl (by kernel_rfl)  (fun _ => y_pick_t (cb h9) rfl) (fun h => nomatch h) (x_one (i := 20) (by kernel_rfl) ?_))))
     have hO := hO.fr2
     have hO := hO.fr2
     have hO := hO.fr4
     have hO := hO.fr3
     have O8 := hO
     have B5 := Own.lend (F := (pf1 ++ (([vg0]) ++ (a0 ++ (a1 ++ ([])))))) (R := ([a3]) ++ ([])) (Own.perm (O8) (by simp))
     obtain ⟨O9, P0, hs⟩ := bind_some hs
     refine xk_call (b := true) rfl  Bd101 rfl (c_ih (M := b3) (f.1, f.2) e5 old many true (b0.1, b0.2.1, b0.2.2.1, s663.1, s663.2) h0 s0 (show BoxV _ vg0 81 [(.int .i64 b0.1), (.slice va0x1 vn0x1 vc0x1), (.int .i64 b0.2.2.1), (.slice b6 b7 b8), (.map (some b9))] from hb0) hl0x1 a4 a5 B5 B5.fut P0) rfl (fun h => nomatch h) ?_
     rintro _ m3 ⟨o1, B6, B7, B8, k5, B9, k6, rfl, m4, s1, u9, P1, P2, P3⟩
     have hO := hO.fr3
     have hO := hO.fr3
     have hO := hO.fr3
     have hO := hO.fr3
     have hO := hO.perm (R := (pf1 ++ (([vg0]) ++ (a0 ++ (a1 ++ ([]))))) ++ (([a3]) ++ ([]))) (by simp)
     have P4 := Own.pastL hO m4 P3
     have hK := hK.trans (show KeepsF w (pf1 ++ ([vg0] ++ (vf0x3 ++ (vf0x4 ++ ([]))))) b3 (PastL b3 (pf1 ++ (([vg0]) ++ (a0 ++ (a1 ++ ([]))))) c8 m3 (o1 ++ ([vg0] ++ (k5 ++ (k6 ++ ([])))))) from KeepsF.pastL hC.size (fun g hg => (hO.inN g hg)))
     have h0 := h0.mt m4 hO same_
     have hl0x1 := hl0x1.mt m4 hO same_
     have a2 := a2.ap m4 hO same_ (mem_l (List.mem_singleton.2 rfl))
     have a7 := a7.mt m4 hO same_
     have e4 := e4.mt m4 hO same_
     have hC := hC.st m4 hO same_
     have hO := P4
     have h0 := h0.sub (M' := (PastL b3 (pf1 ++ (([vg0]) ++ (a0 ++ (a1 ++ ([]))))) c8 m3 (o1 ++ ([vg0] ++ (k5 ++ (k6 ++ ([]))))))) (fun g hg => .inl hg.1)
     have hl0x1 := hl0x1.sub (M' := (PastL b3 (pf1 ++ (([vg0]) ++ (a0 ++ (a1 ++ ([]))))) c8 m3 (o1 ++ ([vg0] ++ (k5 ++ (k6 ++ ([]))))))) (fun g hg => .inl hg.1)
     have a7 := a7.sub (M' := (PastL b3 (pf1 ++ (([vg0]) ++ (a0 ++ (a1 ++ ([]))))) c8 m3 (o1 ++ ([vg0] ++ (k5 ++ (k6 ++ ([]))))))) (fun g hg => .inl hg.1)
     have e4 := e4.sub (M' := (PastL b3 (pf1 ++ (([vg0]) ++ (a0 ++ (a1 ++ ([]))))) c8 m3 (o1 ++ ([vg0] ++ (k5 ++ (k6 ++ ([]))))))) (fun g hg => .inl hg.1)
     have hO := hO.perm (R := o1 ++ ([vg0] ++ (k5 ++ (k6 ++ (([a3]) ++ ([])))))) (by simp)
     have u9 : BoxV m3 vg0 81 [(.int .i64 b0.1), (.slice va0x1 vn0x1 vc0x1), (.int .i64 b0.2.2.1), (.slice B6 B7 B8), (.map (some B9))] := u9
     rw [(app_some e6).2] at s1
     obtain ⟨v0, s1⟩ := os_back Nf.rs B4 B3 s1
     have v0 := v0.symm
     subst v0
     refine x_p 21 (.bool (!O9.1)) rfl (by kernel_rfl)  (fun _ => y_not rfl) (fun h => nomatch h) (x_end (by kernel_rfl) ?_)
     clear hS
     cases hs
     have hO := hO.fr1
     have hO := hO.fr1
     have hO := hO.fr4
     have hO := hO.fr4
     have hO := hO.fr4
     exact ⟨_, (PastL b3 (pf1 ++ (([vg0]) ++ (a0 ++ (a1 ++ ([]))))) c8 m3 (pf1 ++ ([vg0] ++ (k5 ++ (k6 ++ ([])))))), B6, B7, B8, k5, B9, k6, fr_ovl 80 ⟨rfl, rfl, rfl, rfl, rfl, rfl, rfl, rfl, trivial⟩, hC, hO, hK, h0, s1, hl0x1, u9, a2, P1, P2⟩
    refine x_py 16 (.int .i64 k665) rfl (by kernel_rfl) (tg := 73) (by kernel_rfl) (cb h9) (fun _ => y_move rfl) (fun h => nomatch h) (x_py 17 (.int .i64 old) rfl (by kernel_rfl) (tg := 73) (by kernel_rfl) (cb h9) (fun _ => y_move rfl) (fun h => nomatch h) (x_py 18 (.bool (decide (old ≤ k665))) rfl (by kernel_rfl) (tg := 73) (by kernel_rfl) (cb h9) (fun _ => y_geq rfl rfl) (fun h => nomatch h) (x_p 19 (.bool (decide (old ≤ k665))) rfl (by kernel_rfl)  (fun _ => y_pick_f (cb h9) rfl) (fun h => nomatch h) (x_one (i := 20) (by kernel_rfl) ?_))))
    have hO := hO.fr2
    have hO := hO.fr2
    have hO := hO.fr4
    have hO := hO.fr3
    have P5 := hO
    have C0 := Own.lend (F := (pf1 ++ (([vg0]) ++ (a0 ++ (a1 ++ ([])))))) (R := ([a3]) ++ ([])) (Own.perm (P5) (by simp))
    obtain ⟨P6, P7, hs⟩ := bind_some hs
    refine xk_call (b := true) rfl  Bd101 rfl (c_ih (M := b3) (f.1, f.2) e5 old many (decide (old ≤ k665)) (b0.1, b0.2.1, b0.2.2.1, s663.1, s663.2) h0 s0 (show BoxV _ vg0 81 [(.int .i64 b0.1), (.slice va0x1 vn0x1 vc0x1), (.int .i64 b0.2.2.1), (.slice b6 b7 b8), (.map (some b9))] from hb0) hl0x1 a4 a5 C0 C0.fut P7) rfl (fun h => nomatch h) ?_
    rintro _ m5 ⟨o2, C1, C2, C3, k7, C4, k8, rfl, m6, s2, v1, P8, P9, Q0⟩
    have hO := hO.fr3
    have hO := hO.fr3
    have hO := hO.fr3
    have hO := hO.fr3
    have hO := hO.perm (R := (pf1 ++ (([vg0]) ++ (a0 ++ (a1 ++ ([]))))) ++ (([a3]) ++ ([]))) (by simp)
    have Q1 := Own.pastL hO m6 Q0
    have hK := hK.trans (show KeepsF w (pf1 ++ ([vg0] ++ (vf0x3 ++ (vf0x4 ++ ([]))))) b3 (PastL b3 (pf1 ++ (([vg0]) ++ (a0 ++ (a1 ++ ([]))))) c8 m5 (o2 ++ ([vg0] ++ (k7 ++ (k8 ++ ([])))))) from KeepsF.pastL hC.size (fun g hg => (hO.inN g hg)))
    have h0 := h0.mt m6 hO same_
    have hl0x1 := hl0x1.mt m6 hO same_
    have a2 := a2.ap m6 hO same_ (mem_l (List.mem_singleton.2 rfl))
    have a7 := a7.mt m6 hO same_
    have e4 := e4.mt m6 hO same_
    have hC := hC.st m6 hO same_
    have hO := Q1
    have h0 := h0.sub (M' := (PastL b3 (pf1 ++ (([vg0]) ++ (a0 ++ (a1 ++ ([]))))) c8 m5 (o2 ++ ([vg0] ++ (k7 ++ (k8 ++ ([]))))))) (fun g hg => .inl hg.1)
    have hl0x1 := hl0x1.sub (M' := (PastL b3 (pf1 ++ (([vg0]) ++ (a0 ++ (a1 ++ ([]))))) c8 m5 (o2 ++ ([vg0] ++ (k7 ++ (k8 ++ ([]))))))) (fun g hg => .inl hg.1)
    have a7 := a7.sub (M' := (PastL b3 (pf1 ++ (([vg0]) ++ (a0 ++ (a1 ++ ([]))))) c8 m5 (o2 ++ ([vg0] ++ (k7 ++ (k8 ++ ([]))))))) (fun g hg => .inl hg.1)
    have e4 := e4.sub (M' := (PastL b3 (pf1 ++ (([vg0]) ++ (a0 ++ (a1 ++ ([]))))) c8 m5 (o2 ++ ([vg0] ++ (k7 ++ (k8 ++ ([]))))))) (fun g hg => .inl hg.1)
    have hO := hO.perm (R := o2 ++ ([vg0] ++ (k7 ++ (k8 ++ (([a3]) ++ ([])))))) (by simp)
    have v1 : BoxV m5 vg0 81 [(.int .i64 b0.1), (.slice va0x1 vn0x1 vc0x1), (.int .i64 b0.2.2.1), (.slice C1 C2 C3), (.map (some C4))] := v1
    rw [(app_some e6).2] at s2
    obtain ⟨v2, s2⟩ := os_back Nf.rs B4 B3 s2
    have v2 := v2.symm
    subst v2
    refine x_p 21 (.bool (!P6.1)) rfl (by kernel_rfl)  (fun _ => y_not rfl) (fun h => nomatch h) (x_end (by kernel_rfl) ?_)
    clear hS
    cases hs
    have hO := hO.fr1
    have hO := hO.fr1
    have hO := hO.fr4
    have hO := hO.fr4
    have hO := hO.fr4
    exact ⟨_, (PastL b3 (pf1 ++ (([vg0]) ++ (a0 ++ (a1 ++ ([]))))) c8 m5 (pf1 ++ ([vg0] ++ (k7 ++ (k8 ++ ([])))))), C1, C2, C3, k7, C4, k8, fr_ovl 80 ⟨rfl, rfl, rfl, rfl, rfl, rfl, rfl, rfl, trivial⟩, hC, hO, hK, h0, s2, hl0x1, v1, a2, P8, P9⟩
   ·skip
    obtain ⟨C5, v3, Q2, C6, d7, C7⟩ := new_block u5 [(.slice q1 q2 q3)] 43
    refine xk_val (w' := C5) (b := false) (.slice (some ⟨v3, 0, none⟩) 1 1) rfl  (y_bslice rfl (by rw [Q2, C6]; kernel_rfl)) rfl (fun _ => hS.ext d7) ?_
    have h0 := h0.ext d7
    have h1 := h1.ext d7
    have hl0x1 := hl0x1.ext d7
    have hb0 := hb0.cn d7
    have a2 := a2.cn d7
    have a4 := a4.ext d7
    have a5 := a5.ext d7
    have a7 := a7.ext d7
    have hC := hC.ext d7
    have hO := hO.new1 d7 C6 C7.lt
    have s3 := os_of_box (r := (RT.rs ri)) (M := c1) (css := [[(.slice q1 q2 q3)]]) (fps := [([] : List Nat)]) (xs := ([r9] : List (List Int))) C7 ⟨(rs_unval a7), trivial⟩ (Nat.le_of_ble_eq_true rfl) (List.nodup_cons.2 ⟨(fun h => nomatch h), List.nodup_nil⟩)
    have s3 : (RT.os 43 (RT.rs ri)).val c1 C5 (.slice (some ⟨v3, 0, none⟩) 1 1) [r9] [v3] := s3
    have hS := hS.ext d7
    refine x_two (i := 1) (j := 11) (by kernel_rfl) ?_ ?_
    ·skip
     refine xk_val (b := false) (.agg #[(.int .i64 f.1), (.slice pa0 pn0 pc0)]) rfl  (y_load rfl ((box_load Ag89 Sz89 a2 [] [(.int .i64 f.1), (.slice pa0 pn0 pc0)] [] rfl rfl (fun h => nomatch h)) _ (Chg.refl _ _))) rfl (fun _ => hS) (x_one (i := 11) (by kernel_rfl) ?_)
     obtain ⟨b4, W0, o3, Q3, hO, e7⟩ := frzF_own (Frz.os (Frz.rs Frz.int)) s3 hO
     have h0 := h0.sub (M' := b4) o3
     have h1 := h1.sub (M' := b4) o3
     have hl0x1 := hl0x1.sub (M' := b4) o3
     have a4 := a4.sub (M' := b4) o3
     have a5 := a5.sub (M' := b4) o3
     have a7 := a7.sub (M' := b4) o3
     have hK := hK.trans Q3
     obtain ⟨e5, e6, hs⟩ := bind_some hs
     have hO := hO.fr3
     have C8 := os_fpN Nf.rs h1
     have C9 := os_len' h1
     obtain ⟨c9, Q4, f5, s4⟩ := app_in Nf.rs Rw25 e6 h1 e7 hO.inM (by simp) m2
     have i0 := os_block h1
     refine xk_val (w' := c9) (b := true) (.slice pa1 (pn1 + 1) pc1) rfl  (y_append rfl rfl (Q4 _)) rfl (fun h => nomatch h) ?_
     have h0 := h0.mt f5 hO i0
     have hl0x1 := hl0x1.mt f5 hO i0
     have hb0 := hb0.ap f5 hO i0 (mem_r (mem_r (mem_r (mem_l (List.mem_singleton.2 rfl)))))
     have a2 := a2.ap f5 hO i0 (mem_r (mem_r (mem_l (List.mem_singleton.2 rfl))))
     have a4 := a4.ma f5 hO i0 (fun _ e => (mem_l (e)))
     have a5 := a5.ma f5 hO i0 (fun _ e => (mem_r (mem_l (e))))
     have a7 := a7.mt f5 hO i0
     have e7 := e7.mt f5 hO i0
     have hC := hC.st f5 hO i0
     have hO := hO.ext f5
     have s4 : (RT.os 43 (RT.rs ri)).val b4 c9 (.slice pa1 (pn1 + 1) pc1) e5 pf1 := s4
     refine x_p 15 (.bool fresh) rfl (by kernel_rfl)  (fun _ => y_move rfl) (fun h => nomatch h) ?_
     rcases bif_some hs with ⟨i1, hs⟩ | ⟨i1, hs⟩
     ·skip
      refine x_pn 16 rfl (by kernel_rfl) (tg := 73) (by kernel_rfl) (cb i1) (fun h => nomatch h) (x_pn 17 rfl (by kernel_rfl) (tg := 73) (by kernel_rfl) (cb i1) (fun h => nomatch h) (x_pn 18 rfl (by kernel_rfl) (tg := 73) (by kernel_rfl) (cb i1) (fun h => nomatch h) (x_p 19 (.bool true) rfl (by kernel_rfl)  (fun _ => y_pick_t (cb i1) rfl) (fun h => nomatch h) (x_one (i := 20) (by kernel_rfl) ?_))))
      have hO := hO.fr2
      have hO := hO.fr2
      have hO := hO.fr4
      have hO := hO.fr3
      have Q5 := hO
      have D0 := Own.lend (F := (pf1 ++ (([vg0]) ++ (a0 ++ (a1 ++ ([])))))) (R := ([a3]) ++ ([])) (Own.perm (Q5) (by simp))
      obtain ⟨Q6, Q7, hs⟩ := bind_some hs
      refine xk_call (b := true) rfl  Bd101 rfl (c_ih (M := b4) (f.1, f.2) e5 old many true (b0.1, b0.2.1, b0.2.2.1, s663.1, s663.2) h0 s4 (show BoxV _ vg0 81 [(.int .i64 b0.1), (.slice va0x1 vn0x1 vc0x1), (.int .i64 b0.2.2.1), (.slice b6 b7 b8), (.map (some b9))] from hb0) hl0x1 a4 a5 D0 D0.fut Q7) rfl (fun h => nomatch h) ?_
      rintro _ m7 ⟨o4, D1, D2, D3, k9, D4, l0, rfl, m8, s5, v4, Q8, Q9, R0⟩
      have hO := hO.fr3
      have hO := hO.fr3
      have hO := hO.fr3
      have hO := hO.fr3
      have hO := hO.perm (R := (pf1 ++ (([vg0]) ++ (a0 ++ (a1 ++ ([]))))) ++ (([a3]) ++ ([]))) (by simp)
      have R1 := Own.pastL hO m8 R0
      have hK := hK.trans (show KeepsF w (pf1 ++ ([vg0] ++ (vf0x3 ++ (vf0x4 ++ ([]))))) b4 (PastL b4 (pf1 ++ (([vg0]) ++ (a0 ++ (a1 ++ ([]))))) c9 m7 (o4 ++ ([vg0] ++ (k9 ++ (l0 ++ ([])))))) from KeepsF.pastL hC.size (fun g hg => (hO.inN g hg)))
      have h0 := h0.mt m8 hO same_
      have hl0x1 := hl0x1.mt m8 hO same_
      have a2 := a2.ap m8 hO same_ (mem_l (List.mem_singleton.2 rfl))
      have a7 := a7.mt m8 hO same_
      have e7 := e7.mt m8 hO same_
      have hC := hC.st m8 hO same_
      have hO := R1
      have h0 := h0.sub (M' := (PastL b4 (pf1 ++ (([vg0]) ++ (a0 ++ (a1 ++ ([]))))) c9 m7 (o4 ++ ([vg0] ++ (k9 ++ (l0 ++ ([]))))))) (fun g hg => .inl hg.1)
      have hl0x1 := hl0x1.sub (M' := (PastL b4 (pf1 ++ (([vg0]) ++ (a0 ++ (a1 ++ ([]))))) c9 m7 (o4 ++ ([vg0] ++ (k9 ++ (l0 ++ ([]))))))) (fun g hg => .inl hg.1)
      have a7 := a7.sub (M' := (PastL b4 (pf1 ++ (([vg0]) ++ (a0 ++ (a1 ++ ([]))))) c9 m7 (o4 ++ ([vg0] ++ (k9 ++ (l0 ++ ([]))))))) (fun g hg => .inl hg.1)
      have e7 := e7.sub (M' := (PastL b4 (pf1 ++ (([vg0]) ++ (a0 ++ (a1 ++ ([]))))) c9 m7 (o4 ++ ([vg0] ++ (k9 ++ (l0 ++ ([]))))))) (fun g hg => .inl hg.1)
      have hO := hO.perm (R := o4 ++ ([vg0] ++ (k9 ++ (l0 ++ (([a3]) ++ ([])))))) (by simp)
      have v4 : BoxV m7 vg0 81 [(.int .i64 b0.1), (.slice va0x1 vn0x1 vc0x1), (.int .i64 b0.2.2.1), (.slice D1 D2 D3), (.map (some D4))] := v4
      rw [(app_some e6).2] at s5
      obtain ⟨v5, s5⟩ := os_back Nf.rs C9 C8 s5
      have v5 := v5.symm
      subst v5
      refine x_p 21 (.bool (!Q6.1)) rfl (by kernel_rfl)  (fun _ => y_not rfl) (fun h => nomatch h) (x_end (by kernel_rfl) ?_)
      clear hS
      cases hs
      have hO := hO.fr1
      have hO := hO.fr1
      have hO := hO.fr4
      have hO := hO.fr4
      have hO := hO.fr4
      exact ⟨_, (PastL b4 (pf1 ++ (([vg0]) ++ (a0 ++ (a1 ++ ([]))))) c9 m7 (pf1 ++ ([vg0] ++ (k9 ++ (l0 ++ ([])))))), D1, D2, D3, k9, D4, l0, fr_ovl 80 ⟨rfl, rfl, rfl, rfl, rfl, rfl, rfl, rfl, trivial⟩, hC, hO, hK, h0, s5, hl0x1, v4, a2, Q8, Q9⟩
     refine x_py 16 (.int .i64 k665) rfl (by kernel_rfl) (tg := 73) (by kernel_rfl) (cb i1) (fun _ => y_move rfl) (fun h => nomatch h) (x_py 17 (.int .i64 old) rfl (by kernel_rfl) (tg := 73) (by kernel_rfl) (cb i1) (fun _ => y_move rfl) (fun h => nomatch h) (x_py 18 (.bool (decide (old ≤ k665))) rfl (by kernel_rfl) (tg := 73) (by kernel_rfl) (cb i1) (fun _ => y_geq rfl rfl) (fun h => nomatch h) (x_p 19 (.bool (decide (old ≤ k665))) rfl (by kernel_rfl)  (fun _ => y_pick_f (cb i1) rfl) (fun h => nomatch h) (x_one (i := 20) (by kernel_rfl) ?_))))
     have hO := hO.fr2
     have hO := hO.fr2
     have hO := hO.fr4
     have hO := hO.fr3
     have R2 := hO
     have D5 := Own.lend (F := (pf1 ++ (([vg0]) ++ (a0 ++ (a1 ++ ([])))))) (R := ([a3]) ++ ([])) (Own.perm (R2) (by simp))
     obtain ⟨R3, R4, hs⟩ := bind_some hs
     refine xk_call (b := true) rfl  Bd101 rfl (c_ih (M := b4) (f.1, f.2) e5 old many (decide (old ≤ k665)) (b0.1, b0.2.1, b0.2.2.1, s663.1, s663.2) h0 s4 (show BoxV _ vg0 81 [(.int .i64 b0.1), (.slice va0x1 vn0x1 vc0x1), (.int .i64 b0.2.2.1), (.slice b6 b7 b8), (.map (some b9))] from hb0) hl0x1 a4 a5 D5 D5.fut R4) rfl (fun h => nomatch h) ?_
     rintro _ m9 ⟨o5, D6, D7, D8, l1, D9, l2, rfl, n0, s6, v6, R5, R6, R7⟩
     have hO := hO.fr3
     have hO := hO.fr3
     have hO := hO.fr3
     have hO := hO.fr3
     have hO := hO.perm (R := (pf1 ++ (([vg0]) ++ (a0 ++ (a1 ++ ([]))))) ++ (([a3]) ++ ([]))) (by simp)
     have R8 := Own.pastL hO n0 R7
     have hK := hK.trans (show KeepsF w (pf1 ++ ([vg0] ++ (vf0x3 ++ (vf0x4 ++ ([]))))) b4 (PastL b4 (pf1 ++ (([vg0]) ++ (a0 ++ (a1 ++ ([]))))) c9 m9 (o5 ++ ([vg0] ++ (l1 ++ (l2 ++ ([])))))) from KeepsF.pastL hC.size (fun g hg => (hO.inN g hg)))
     have h0 := h0.mt n0 hO same_
     have hl0x1 := hl0x1.mt n0 hO same_
     have a2 := a2.ap n0 hO same_ (mem_l (List.mem_singleton.2 rfl))
     have a7 := a7.mt n0 hO same_
     have e7 := e7.mt n0 hO same_
     have hC := hC.st n0 hO same_
     have hO := R8
     have h0 := h0.sub (M' := (PastL b4 (pf1 ++ (([vg0]) ++ (a0 ++ (a1 ++ ([]))))) c9 m9 (o5 ++ ([vg0] ++ (l1 ++ (l2 ++ ([]))))))) (fun g hg => .inl hg.1)
     have hl0x1 := hl0x1.sub (M' := (PastL b4 (pf1 ++ (([vg0]) ++ (a0 ++ (a1 ++ ([]))))) c9 m9 (o5 ++ ([vg0] ++ (l1 ++ (l2 ++ ([]))))))) (fun g hg => .inl hg.1)
     have a7 := a7.sub (M' := (PastL b4 (pf1 ++ (([vg0]) ++ (a0 ++ (a1 ++ ([]))))) c9 m9 (o5 ++ ([vg0] ++ (l1 ++ (l2 ++ ([]))))))) (fun g hg => .inl hg.1)
     have e7 := e7.sub (M' := (PastL b4 (pf1 ++ (([vg0]) ++ (a0 ++ (a1 ++ ([]))))) c9 m9 (o5 ++ ([vg0] ++ (l1 ++ (l2 ++ ([]))))))) (fun g hg => .inl hg.1)
     have hO := hO.perm (R := o5 ++ ([vg0] ++ (l1 ++ (l2 ++ (([a3]) ++ ([])))))) (by simp)
     have v6 : BoxV m9 vg0 81 [(.int .i64 b0.1), (.slice va0x1 vn0x1 vc0x1), (.int .i64 b0.2.2.1), (.slice D6 D7 D8), (.map (some D9))] := v6
     rw [(app_some e6).2] at s6
     obtain ⟨v7, s6⟩ := os_back Nf.rs C9 C8 s6
     have v7 := v7.symm
     subst v7
     refine x_p 21 (.bool (!R3.1)) rfl (by kernel_rfl)  (fun _ => y_not rfl) (fun h => nomatch h) (x_end (by kernel_rfl) ?_)
     clear hS
     cases hs
     have hO := hO.fr1
     have hO := hO.fr1
     have hO := hO.fr4
     have hO := hO.fr4
     have hO := hO.fr4
     exact ⟨_, (PastL b4 (pf1 ++ (([vg0]) ++ (a0 ++ (a1 ++ ([]))))) c9 m9 (pf1 ++ ([vg0] ++ (l1 ++ (l2 ++ ([])))))), D6, D7, D8, l1, D9, l2, fr_ovl 80 ⟨rfl, rfl, rfl, rfl, rfl, rfl, rfl, rfl, trivial⟩, hC, hO, hK, h0, s6, hl0x1, v6, a2, R5, R6⟩
    ·skip
     obtain ⟨b5, W1, o6, R9, hO, e8⟩ := frzF_own (Frz.os (Frz.rs Frz.int)) s3 hO
     have h0 := h0.sub (M' := b5) o6
     have h1 := h1.sub (M' := b5) o6
     have hl0x1 := hl0x1.sub (M' := b5) o6
     have a4 := a4.sub (M' := b5) o6
     have a5 := a5.sub (M' := b5) o6
     have a7 := a7.sub (M' := b5) o6
     have hK := hK.trans R9
     obtain ⟨e5, e6, hs⟩ := bind_some hs
     have hO := hO.fr3
     have E0 := os_fpN Nf.rs h1
     have E1 := os_len' h1
     obtain ⟨d0, S0, f6, s7⟩ := app_in Nf.rs Rw25 e6 h1 e8 hO.inM (by simp) m2
     have i2 := os_block h1
     refine xk_val (w' := d0) (b := true) (.slice pa1 (pn1 + 1) pc1) rfl  (y_append rfl rfl (S0 _)) rfl (fun h => nomatch h) ?_
     have h0 := h0.mt f6 hO i2
     have hl0x1 := hl0x1.mt f6 hO i2
     have hb0 := hb0.ap f6 hO i2 (mem_r (mem_r (mem_r (mem_l (List.mem_singleton.2 rfl)))))
     have a2 := a2.ap f6 hO i2 (mem_r (mem_r (mem_l (List.mem_singleton.2 rfl))))
     have a4 := a4.ma f6 hO i2 (fun _ e => (mem_l (e)))
     have a5 := a5.ma f6 hO i2 (fun _ e => (mem_r (mem_l (e))))
     have a7 := a7.mt f6 hO i2
     have e8 := e8.mt f6 hO i2
     have hC := hC.st f6 hO i2
     have hO := hO.ext f6
     have s7 : (RT.os 43 (RT.rs ri)).val b5 d0 (.slice pa1 (pn1 + 1) pc1) e5 pf1 := s7
     refine x_p 15 (.bool fresh) rfl (by kernel_rfl)  (fun _ => y_move rfl) (fun h => nomatch h) ?_
     rcases bif_some hs with ⟨i3, hs⟩ | ⟨i3, hs⟩
     ·skip
      refine x_pn 16 rfl (by kernel_rfl) (tg := 73) (by kernel_rfl) (cb i3) (fun h => nomatch h) (x_pn 17 rfl (by kernel_rfl) (tg := 73) (by kernel_rfl) (cb i3) (fun h => nomatch h) (x_pn 18 rfl (by kernel_rfl) (tg := 73) (by kernel_rfl) (cb i3) (fun h => nomatch h) (x_p 19 (.bool true) rfl (by kernel_rfl)  (fun _ => y_pick_t (cb i3) rfl) (fun h => nomatch h) (x_one (i := 1) (by kernel_rfl) (xk_val (b := true) (.agg #[(.int .i64 f.1), (.slice pa0 pn0 pc0)]) rfl  (y_load rfl ((box_load Ag89 Sz89 a2 [] [(.int .i64 f.1), (.slice pa0 pn0 pc0)] [] rfl rfl (fun h => nomatch h)) _ (Chg.refl _ _))) rfl (fun h => nomatch h) (x_one (i := 20) (by kernel_rfl) ?_))))))
      have hO := hO.fr2
      have hO := hO.fr2
      have hO := hO.fr4
      have hO := hO.fr3
      have S1 := hO
      have E2 := Own.lend (F := (pf1 ++ (([vg0]) ++ (a0 ++ (a1 ++ ([])))))) (R := ([a3]) ++ ([])) (Own.perm (S1) (by simp))
      obtain ⟨S2, S3, hs⟩ := bind_some hs
      refine xk_call (b := true) rfl  Bd101 rfl (c_ih (M := b5) (f.1, f.2) e5 old many true (b0.1, b0.2.1, b0.2.2.1, s663.1, s663.2) h0 s7 (show BoxV _ vg0 81 [(.int .i64 b0.1), (.slice va0x1 vn0x1 vc0x1), (.int .i64 b0.2.2.1), (.slice b6 b7 b8), (.map (some b9))] from hb0) hl0x1 a4 a5 E2 E2.fut S3) rfl (fun h => nomatch h) ?_
      rintro _ n1 ⟨o7, E3, E4, E5, l3, E6, l4, rfl, n2, s8, v8, S4, S5, S6⟩
      have hO := hO.fr3
      have hO := hO.fr3
      have hO := hO.fr3
      have hO := hO.fr3
      have hO := hO.perm (R := (pf1 ++ (([vg0]) ++ (a0 ++ (a1 ++ ([]))))) ++ (([a3]) ++ ([]))) (by simp)
      have S7 := Own.pastL hO n2 S6
      have hK := hK.trans (show KeepsF w (pf1 ++ ([vg0] ++ (vf0x3 ++ (vf0x4 ++ ([]))))) b5 (PastL b5 (pf1 ++ (([vg0]) ++ (a0 ++ (a1 ++ ([]))))) d0 n1 (o7 ++ ([vg0] ++ (l3 ++ (l4 ++ ([])))))) from KeepsF.pastL hC.size (fun g hg => (hO.inN g hg)))
      have h0 := h0.mt n2 hO same_
      have hl0x1 := hl0x1.mt n2 hO same_
      have a2 := a2.ap n2 hO same_ (mem_l (List.mem_singleton.2 rfl))
      have a7 := a7.mt n2 hO same_
      have e8 := e8.mt n2 hO same_
      have hC := hC.st n2 hO same_
      have hO := S7
      have h0 := h0.sub (M' := (PastL b5 (pf1 ++ (([vg0]) ++ (a0 ++ (a1 ++ ([]))))) d0 n1 (o7 ++ ([vg0] ++ (l3 ++ (l4 ++ ([]))))))) (fun g hg => .inl hg.1)
      have hl0x1 := hl0x1.sub (M' := (PastL b5 (pf1 ++ (([vg0]) ++ (a0 ++ (a1 ++ ([]))))) d0 n1 (o7 ++ ([vg0] ++ (l3 ++ (l4 ++ ([]))))))) (fun g hg => .inl hg.1)
      have a7 := a7.sub (M' := (PastL b5 (pf1 ++ (([vg0]) ++ (a0 ++ (a1 ++ ([]))))) d0 n1 (o7 ++ ([vg0] ++ (l3 ++ (l4 ++ ([]))))))) (fun g hg => .inl hg.1)
      have e8 := e8.sub (M' := (PastL b5 (pf1 ++ (([vg0]) ++ (a0 ++ (a1 ++ ([]))))) d0 n1 (o7 ++ ([vg0] ++ (l3 ++ (l4 ++ ([]))))))) (fun g hg => .inl hg.1)
      have hO := hO.perm (R := o7 ++ ([vg0] ++ (l3 ++ (l4 ++ (([a3]) ++ ([])))))) (by simp)
      have v8 : BoxV n1 vg0 81 [(.int .i64 b0.1), (.slice va0x1 vn0x1 vc0x1), (.int .i64 b0.2.2.1), (.slice E3 E4 E5), (.map (some E6))] := v8
      rw [(app_some e6).2] at s8
      obtain ⟨v9, s8⟩ := os_back Nf.rs E1 E0 s8
      have v9 := v9.symm
      subst v9
      refine x_p 21 (.bool (!S2.1)) rfl (by kernel_rfl)  (fun _ => y_not rfl) (fun h => nomatch h) (x_end (by kernel_rfl) ?_)
      clear hS
      cases hs
      have hO := hO.fr1
      have hO := hO.fr1
      have hO := hO.fr4
      have hO := hO.fr4
      have hO := hO.fr4
      exact ⟨_, (PastL b5 (pf1 ++ (([vg0]) ++ (a0 ++ (a1 ++ ([]))))) d0 n1 (pf1 ++ ([vg0] ++ (l3 ++ (l4 ++ ([])))))), E3, E4, E5, l3, E6, l4, fr_ovl 80 ⟨rfl, rfl, rfl, rfl, rfl, rfl, rfl, rfl, trivial⟩, hC, hO, hK, h0, s8, hl0x1, v8, a2, S4, S5⟩
     refine x_py 16 (.int .i64 k665) rfl (by kernel_rfl) (tg := 73) (by kernel_rfl) (cb i3) (fun _ => y_move rfl) (fun h => nomatch h) (x_py 17 (.int .i64 old) rfl (by kernel_rfl) (tg := 73) (by kernel_rfl) (cb i3) (fun _ => y_move rfl) (fun h => nomatch h) (x_py 18 (.bool (decide (old ≤ k665))) rfl (by kernel_rfl) (tg := 73) (by kernel_rfl) (cb i3) (fun _ => y_geq rfl rfl) (fun h => nomatch h) (x_p 19 (.bool (decide (old ≤ k665))) rfl (by kernel_rfl)  (fun _ => y_pick_f (cb i3) rfl) (fun h => nomatch h) (x_one (i := 1) (by kernel_rfl) (xk_val (b := true) (.agg #[(.int .i64 f.1), (.slice pa0 pn0 pc0)]) rfl  (y_load rfl ((box_load Ag89 Sz89 a2 [] [(.int .i64 f.1), (.slice pa0 pn0 pc0)] [] rfl rfl (fun h => nomatch h)) _ (Chg.refl _ _))) rfl (fun h => nomatch h) (x_one (i := 20) (by kernel_rfl) ?_))))))
     have hO := hO.fr2
     have hO := hO.fr2
     have hO := hO.fr4
     have hO := hO.fr3
     have S8 := hO
     have E7 := Own.lend (F := (pf1 ++ (([vg0]) ++ (a0 ++ (a1 ++ ([])))))) (R := ([a3]) ++ ([])) (Own.perm (S8) (by simp))
     obtain ⟨S9, T0, hs⟩ := bind_some hs
     refine xk_call (b := true) rfl  Bd101 rfl (c_ih (M := b5) (f.1, f.2) e5 old many (decide (old ≤ k665)) (b0.1, b0.2.1, b0.2.2.1, s663.1, s663.2) h0 s7 (show BoxV _ vg0 81 [(.int .i64 b0.1), (.slice va0x1 vn0x1 vc0x1), (.int .i64 b0.2.2.1), (.slice b6 b7 b8), (.map (some b9))] from hb0) hl0x1 a4 a5 E7 E7.fut T0) rfl (fun h => nomatch h) ?_
     rintro _ n3 ⟨o8, E8, E9, F0, l5, F1, l6, rfl, n4, s9, w1, T1, T2, T3⟩
     have hO := hO.fr3
     have hO := hO.fr3
     have hO := hO.fr3
     have hO := hO.fr3
     have hO := hO.perm (R := (pf1 ++ (([vg0]) ++ (a0 ++ (a1 ++ ([]))))) ++ (([a3]) ++ ([]))) (by simp)
     have T4 := Own.pastL hO n4 T3
     have hK := hK.trans (show KeepsF w (pf1 ++ ([vg0] ++ (vf0x3 ++ (vf0x4 ++ ([]))))) b5 (PastL b5 (pf1 ++ (([vg0]) ++ (a0 ++ (a1 ++ ([]))))) d0 n3 (o8 ++ ([vg0] ++ (l5 ++ (l6 ++ ([])))))) from KeepsF.pastL hC.size (fun g hg => (hO.inN g hg)))
     have h0 := h0.mt n4 hO same_
     have hl0x1 := hl0x1.mt n4 hO same_
     have a2 := a2.ap n4 hO same_ (mem_l (List.mem_singleton.2 rfl))
     have a7 := a7.mt n4 hO same_
     have e8 := e8.mt n4 hO same_
     have hC := hC.st n4 hO same_
     have hO := T4
     have h0 := h0.sub (M' := (PastL b5 (pf1 ++ (([vg0]) ++ (a0 ++ (a1 ++ ([]))))) d0 n3 (o8 ++ ([vg0] ++ (l5 ++ (l6 ++ ([]))))))) (fun g hg => .inl hg.1)
     have hl0x1 := hl0x1.sub (M' := (PastL b5 (pf1 ++ (([vg0]) ++ (a0 ++ (a1 ++ ([]))))) d0 n3 (o8 ++ ([vg0] ++ (l5 ++ (l6 ++ ([]))))))) (fun g hg => .inl hg.1)
     have a7 := a7.sub (M' := (PastL b5 (pf1 ++ (([vg0]) ++ (a0 ++ (a1 ++ ([]))))) d0 n3 (o8 ++ ([vg0] ++ (l5 ++ (l6 ++ ([]))))))) (fun g hg => .inl hg.1)
     have e8 := e8.sub (M' := (PastL b5 (pf1 ++ (([vg0]) ++ (a0 ++ (a1 ++ ([]))))) d0 n3 (o8 ++ ([vg0] ++ (l5 ++ (l6 ++ ([]))))))) (fun g hg => .inl hg.1)
     have hO := hO.perm (R := o8 ++ ([vg0] ++ (l5 ++ (l6 ++ (([a3]) ++ ([])))))) (by simp)
     have w1 : BoxV n3 vg0 81 [(.int .i64 b0.1), (.slice va0x1 vn0x1 vc0x1), (.int .i64 b0.2.2.1), (.slice E8 E9 F0), (.map (some F1))] := w1
     rw [(app_some e6).2] at s9
     obtain ⟨w2, s9⟩ := os_back Nf.rs E1 E0 s9
     have w2 := w2.symm
     subst w2
     refine x_p 21 (.bool (!S9.1)) rfl (by kernel_rfl)  (fun _ => y_not rfl) (fun h => nomatch h) (x_end (by kernel_rfl) ?_)
     clear hS
     cases hs
     have hO := hO.fr1
     have hO := hO.fr1
     have hO := hO.fr4
     have hO := hO.fr4
     have hO := hO.fr4
     exact ⟨_, (PastL b5 (pf1 ++ (([vg0]) ++ (a0 ++ (a1 ++ ([]))))) d0 n3 (pf1 ++ ([vg0] ++ (l5 ++ (l6 ++ ([])))))), E8, E9, F0, l5, F1, l6, fr_ovl 80 ⟨rfl, rfl, rfl, rfl, rfl, rfl, rfl, rfl, trivial⟩, hC, hO, hK, h0, s9, hl0x1, w1, a2, T1, T2⟩
  rintro q5 f1 ⟨σ, g0, p1, p2, p3, p4, p5, p6, rfl, hC, hO, hK, h0, h1, hl0x1, hb0, a2, F2, F3⟩
  rcases bif_some hs with ⟨w3, hs⟩ | ⟨w3, hs⟩
  ·refine c_condT (cb w3) (c_sr (ab rfl (c_nil (wp_ret ?_))))
   cases hs
   have hO := hO.fr2
   have hO := hO.drop
   have hO := hO.fr1
   have hO := hO.fr1
   have hO := hO.fr3
   have hO := hO.fr3
   exact ⟨_, pf1, p1, p2, p3, p4, p5, p6, fr_ovl 80 ⟨rfl, trivial⟩, hC, (KeepsF.out hK hO.allM h1), hb0, (KeepsF.out hK hO.allM F2), (KeepsF.out hK hO.allM F3), hO.top⟩
  refine c_condF (cb w3) (wp_skip (c_region (mi rfl (pl_val (.int .i64 (w64 (k665 + 1))) (y_add rfl rfl) (ai rfl (c_nil ?_))))))
  cases hs
  have hO := hO.fr4
  have hO := hO.fr4
  have hO := hO.fr4
  have hO := hO.fr4
  have hO := hO.fr4
  exact ⟨_, g0, p1, p2, p3, p4, p5, p6, fr_ovl 80 ⟨rfl, rfl, rfl, rfl, rfl, rfl, congrArg (Value.int .i64) hw, trivial⟩, hC, hO, hK, h0, h1, hl0x1, hb0, a2, F2, F3⟩
 ·skip
  have hO := hO.fr2
  have hO := hO.fr2
  have hO := hO.fr2
  have hO := hO.fr4
  have hO := hO.fr4
  exact ⟨_, M, va0x3, vn0x3, vc0x3, vf0x3, vn0x4, vf0x4, fr_ovl 80 ⟨rfl, rfl, rfl, rfl, rfl, rfl, rfl, trivial⟩, hC, hO, KeepsF.refl, h0, h1, hl0x1, hb0, a2, hl0x3, hl0x4⟩
 cases o667 with
 | nx _ => exact True.intro
 | rt r_ =>
  have hs := after_rt hs
  intro q5 F4 hK
  cases hs
  exact hK
 | br s663 =>
  have hs := after_br hs
  rintro q5 a8 ⟨σ, i5, q9, r0, r1, r2, r3, r4, rfl, hC, hO, hK, h0, h1, hl0x1, hb0, a2, T5, T6⟩
  refine c_sr (ab rfl (c_nil (wp_ret ?_)))
  cases hs
  have hO := hO.fr2
  have hO := hO.drop
  have hO := hO.fr1
  have hO := hO.fr1
  have hO := hO.fr3
  have hO := hO.fr3
  exact ⟨_, pf1, q9, r0, r1, r2, r3, r4, fr_ovl 80 ⟨rfl, trivial⟩, hC, (KeepsF.out hK hO.allM h1), hb0, (KeepsF.out hK hO.allM T5), (KeepsF.out hK hO.allM T6), hO.top⟩

theorem Bd99 : Bodied Try.prog 99 := bodied Try.func99 (by kernel_rfl) rfl

def k_impl_spanOf (M : Nat → Prop) (w0 : World) (r : (Option ((Int × (List (Int × (List Int)))) × Int × (List (List Int)) × (List (ByteArray × Int)))) × Bool) (a : Act) (w : World) : Prop :=
  ∃ (σ : Nat → Value) (rn0 : Value) (rf0 : List Nat), a = fr 72 (ovl σ [(6, rn0), (7, (.bool r.2))]) ∧ Chg [] w0 w ∧ (RT.op 81 (RT.pr (RT.pr (RT.int .i64) (RT.rs (RT.pr (RT.int .i64) (RT.rs (RT.int .i64))))) (RT.pr (RT.int .i64) (RT.pr (RT.os 43 (RT.rs (RT.int .i64))) (RT.mo (Value.int .i64)))))).val (PastL M [] w0 w (rf0 ++ ([]))) w rn0 r.1 rf0 ∧ Own (Nw w0 []) (fun _ => True) w (rf0 ++ ([]))
def s_impl_spanOf (a_ : Int × (List (Int × (List Int)))) (k : Int) (gens : List (List Int)) : Option ((Option ((Int × (List (Int × (List Int)))) × Int × (List (List Int)) × (List (ByteArray × Int)))) × Bool) :=
  (forR (S := (List (List Int)) × (List (ByteArray × Int))) (R := (Option ((Int × (List (Int × (List Int)))) × Int × (List (List Int)) × (List (ByteArray × Int)))) × Bool) (fun _ x59 s56 =>
  (s_impl_clone x59).bind fun r76 =>
  (s_impl_span__add r76 (a_.1, a_.2, k, s56.1, s56.2)).bind fun r81 =>
  some (.nx (r81.1, r81.2))) 0 gens ([], [])).bind fun o60 => after o60 (fun r_ => some r_) (fun s56 =>
  (s_impl_mostTuples (a_.1, a_.2)).bind fun r89 =>
  (bif (decide (r89 < (s56.1.length : Int))) then some (none, false) else (iter (S := Int × Bool × (List (List Int)) × (List (ByteArray × Int))) (R := (Option ((Int × (List (Int × (List Int)))) × Int × (List (List Int)) × (List (ByteArray × Int)))) × Bool) (fun s238 =>
  (bif (s238.2.1 || (decide (s238.1 < (s238.2.2.1.length : Int)))) then (forR (S := (List (List Int)) × (List (ByteArray × Int))) (R := (Option ((Int × (List (Int × (List Int)))) × Int × (List (List Int)) × (List (ByteArray × Int)))) × Bool) (fun _ x297 s294 =>
  (mkc 0 3).bind fun u317 =>
  (s_impl_span__applyNew FU (x297.1, x297.2) (List.replicate (Int.toNat 0) ([] : List Int)) s238.1 (s238.2.2.1.length : Int) false (a_.1, a_.2, k, s294.1, s294.2)).bind fun r321 =>
  (bif (!r321.1) then some (.rt (none, false)) else some (.nx (r321.2.1, r321.2.2)))) 0 a_.2 (s238.2.2.1, s238.2.2.2)).bind fun o298 => after o298 (fun r_ => some (.rt r_)) (fun s294 =>
  some (.nx ((s238.2.2.1.length : Int), false, s294.1, s294.2))) else some (.br (s238.1, s238.2.1, s238.2.2.1, s238.2.2.2)))) FU (0, true, s56.1, s56.2)).bind fun o242 => after o242 (fun r_ => some r_) (fun s238 =>
  some ((some ((a_.1, a_.2), k, s238.2.2.1, s238.2.2.2)), true))))
set_option maxHeartbeats 4000000 in
theorem c_impl_spanOf {M : Nat → Prop} {w : World} {pa0 : Option Addr} {pn0 pc0 : Nat} {pa1 : Option Addr} {pn1 pc1 : Nat} (a_ : Int × (List (Int × (List Int)))) (k : Int) (gens : List (List Int)) (h0 : (RT.rs (RT.pr ri (RT.rs ri))).val M w (.slice pa0 pn0 pc0) a_.2 ([])) (h1 : (RT.rs (RT.rs ri)).val M w (.slice pa1 pn1 pc1) gens ([])) (hM : ∀ g, w.heap.size ≤ g → M g) {r : (Option ((Int × (List (Int × (List Int)))) × Int × (List (List Int)) × (List (ByteArray × Int)))) × Bool} (hs : s_impl_spanOf a_ k gens = some r) :
    Gives Try.prog 56 [(.agg #[(.int .i64 a_.1), (.slice pa0 pn0 pc0)]), (.int .i64 k), (.slice pa1 pn1 pc1)] w (fun v w' => ∃ (rn0 : Value) (rf0 : List Nat), v = (.tuple #[rn0, (.bool r.2)]) ∧ Chg [] w w' ∧ (RT.op 81 (RT.pr (RT.pr ri (RT.rs (RT.pr ri (RT.rs ri)))) (RT.pr ri (RT.pr (RT.os 43 (RT.rs ri)) (RT.mo (Value.int .i64)))))).val (PastL M [] w w' (rf0 ++ ([]))) w' rn0 r.1 rf0 ∧ Own (Nw w []) (fun _ => True) w' (rf0 ++ ([]))) := by
 refine calls_fr Try.func56 rfl Try.ntmps56 (Nat.le_of_ble_eq_true rfl) ?_
 have hO := Own.start (N := Nw w []) hM Nw.fut
 have hC := Chg.refl [] w
 unfold s_impl_spanOf at hs
 refine wp_mono (Q := KPost (k_impl_spanOf M w r)) ?_ (fun e a j3 h => ?_)
 rotate_left
 ·cases e
  case ret =>
   obtain ⟨σ, rn0, rf0, rfl, hrest⟩ := h
   exact ret2x Try.results56 (res_tmp rfl) (res_tmp rfl) ⟨rn0, rf0, rfl, hrest⟩
  all_goals exact (h : False).elim
 refine c_sr ?_
 obtain ⟨k9, a3, n0, l0, h9, a1⟩ := new_block w [(.int .i64 a_.1), (.slice pa0 pn0 pc0)] 35
 refine pl_val (w' := k9) (pq a3 0) (y_box rfl (by rw [n0, l0]; kernel_rfl)) ?_
 have h0 := h0.ext h9
 have h1 := h1.ext h9
 have hC := hC.ext h9
 have hO := hO.new1 h9 l0 a1.lt
 refine pl_val (.pointer none) (y_assign rfl) (ab rfl (c_nil (c_sr (pl_val (.agg #[(.int .i64 a_.1), (.slice pa0 pn0 pc0)]) (y_load rfl ((box_load Ag35 Sz35 a1 [] [(.int .i64 a_.1), (.slice pa0 pn0 pc0)] [] rfl rfl (fun h => nomatch h)) _ (Chg.refl _ _))) (mi rfl ?_)))))
 obtain ⟨l1, e2, n1, l2, g4, i0⟩ := mo_make (enc := (Value.int .i64)) (M := M) k9
 refine pl_val (w' := l1) (.map (some e2)) (by rw [n1, l2]; exact y_mmap) ?_
 have h0 := h0.ext g4
 have h1 := h1.ext g4
 have a1 := a1.cn g4
 have hC := hC.ext g4
 have hO := hO.new (X' := [e2]) g4 (fun q hq => by rw [List.mem_singleton.1 hq, l2]; exact Nat.le_refl _) (List.nodup_cons.2 ⟨(fun h => nomatch h), List.nodup_nil⟩) i0.fpl
 refine pl_val (.agg #[(.int .i64 a_.1), (.slice pa0 pn0 pc0), (.int .i64 k), (.slice none 0 0), (.map (some e2))]) (y_build rfl (by kernel_rfl)) ?_
 obtain ⟨n2, a0, n3, l3, e3, a2⟩ := new_block l1 [(.int .i64 a_.1), (.slice pa0 pn0 pc0), (.int .i64 k), (.slice none 0 0), (.map (some e2))] 81
 refine pl_val (w' := n2) (pq a0 0) (y_box rfl (by rw [n3, l3]; kernel_rfl)) ?_
 have h0 := h0.ext e3
 have h1 := h1.ext e3
 have a1 := a1.cn e3
 have i0 := i0.ext e3
 have hC := hC.ext e3
 have hO := hO.new1 e3 l3 a2.lt
 refine ap rfl (c_nil (c_seq (c_sr (ms rfl (pl_val _ (y_len' Sl25 (rs_len h1) rfl) (mi rfl (c_nil ?_)))))))
 obtain ⟨o60, n4, hs⟩ := bind_some hs
 refine wp_block (wp_forR (id := 0) (I := fun i_ xs_ s56 a a4 => ∃ b8 : Nat, i_ = (b8 : Int) ∧ List.drop b8 gens = xs_ ∧ (∃ (σ : Nat → Value) (b5 : Nat → Prop) (e4 : Option Addr) (e5 : Nat) (e6 : Nat) (c9 : List Nat) (e7 : Nat) (d0 : List Nat), a = fr 72 (ovl σ [(3, (pq a3 0)), (8, (pq a0 0)), (21, (.slice pa1 pn1 pc1)), (22, (.int .i64 (gens.length : Int))), (23, (.int .i64 (b8 : Int)))]) ∧ Chg [] w a4 ∧ Own (Nw w []) b5 a4 (c9 ++ (d0 ++ (([a0]) ++ (([a3]) ++ [])))) ∧ KeepsF w [] M b5 ∧ (RT.rs (RT.pr ri (RT.rs ri))).val b5 a4 (.slice pa0 pn0 pc0) a_.2 ([]) ∧ (RT.rs (RT.rs ri)).val b5 a4 (.slice pa1 pn1 pc1) gens ([]) ∧ BoxV a4 a3 35 [(.int .i64 a_.1), (.slice pa0 pn0 pc0)] ∧ BoxV a4 a0 81 [(.int .i64 a_.1), (.slice pa0 pn0 pc0), (.int .i64 k), (.slice e4 e5 e6), (.map (some e7))] ∧ (RT.os 43 (RT.rs ri)).val b5 a4 (.slice e4 e5 e6) s56.1 c9 ∧ (RT.mo (Value.int .i64)).val b5 a4 (.map (some e7)) s56.2 d0)) (J := fun s56 a a4 => ∃ (σ : Nat → Value) (b9 : Nat → Prop) (e8 : Option Addr) (e9 : Nat) (f0 : Nat) (i1 : List Nat) (g5 : Nat) (i2 : List Nat), a = fr 72 (ovl σ [(3, (pq a3 0)), (8, (pq a0 0))]) ∧ Chg [] w a4 ∧ Own (Nw w []) b9 a4 (i1 ++ (i2 ++ (([a0]) ++ (([a3]) ++ [])))) ∧ KeepsF w [] M b9 ∧ (RT.rs (RT.pr ri (RT.rs ri))).val b9 a4 (.slice pa0 pn0 pc0) a_.2 ([]) ∧ (RT.rs (RT.rs ri)).val b9 a4 (.slice pa1 pn1 pc1) gens ([]) ∧ BoxV a4 a3 35 [(.int .i64 a_.1), (.slice pa0 pn0 pc0)] ∧ BoxV a4 a0 81 [(.int .i64 a_.1), (.slice pa0 pn0 pc0), (.int .i64 k), (.slice e8 e9 f0), (.map (some g5))] ∧ (RT.os 43 (RT.rs ri)).val b9 a4 (.slice e8 e9 f0) s56.1 i1 ∧ (RT.mo (Value.int .i64)).val b9 a4 (.map (some g5)) s56.2 i2) (K := (k_impl_spanOf M w)) ?_ ?_ gens 0 ([], []) o60 _ _ ?_ n4 ?_)
 ·rintro _ s56 a a4 ⟨b8, rfl, hd, σ, b5, e4, e5, e6, c9, e7, d0, rfl, hC, hO, hK, h0, h1, a1, a2, d4, d5⟩
  have hlt := drop_nil_ge hd
  refine c_sr (pl_val _ (y_lss rfl rfl) (c_nil (c_seq (c_condF (cb (decide_eq_false hlt)) (wp_exit ?_)))))
  have hO := hO.fr3
  have hO := hO.fr3
  have hO := hO.fr3
  have hO := hO.fr3
  exact ⟨rfl, _, b5, e4, e5, e6, c9, e7, d0, fr_ovl 72 ⟨rfl, rfl, trivial⟩, hC, hO, hK, h0, h1, a1, a2, d4, d5⟩
 ·rintro _ x59 xs_ s56 o60 a a4 ⟨b8, rfl, hd, σ, b5, e4, e5, e6, c9, e7, d0, rfl, hC, hO, hK, h0, h1, a1, a2, d4, d5⟩ hs
  have hlt := drop_cons_lt hd
  have n5 := drop_cons_idx hd
  refine c_sr (pl_val _ (y_lss rfl rfl) (c_nil (c_seq (c_condT (cb (decide_eq_true hlt)) (wp_skip (c_seq (wp_block (c_sr ?_))))))))
  obtain ⟨n6, n7, n8, n9⟩ := rs_idx Sl25 Sz43 h1 n5
  refine pl_val _ (n8 _ _ _ _ _ _ _ _ _ rfl rfl) ?_
  obtain ⟨s7, o0, d1⟩ := at_load Ag43 Sz43 (fun _ => rfl) n9
  obtain ⟨j4, j5, j6, rfl⟩ := rs_sl d1
  refine pl_val (.slice j4 j5 j6) (y_load rfl (o0 _ (Chg.refl _ _))) (ax rfl (c_nil (c_region (mp rfl (ms rfl ?_)))))
  obtain ⟨r76, o1, hs⟩ := bind_some hs
  refine pl_call Bd99 rfl (c_impl_clone (M := b5) x59 d1 hO.fut o1) ?_
  rintro _ s8 ⟨s9, t0, t1, o2, rfl, c0, o3, t2, o4⟩
  have h0 := h0.ext c0
  have h1 := h1.ext c0
  have a1 := a1.cn c0
  have a2 := a2.cn c0
  have d4 := d4.ext c0
  have d5 := d5.ext c0
  have d1 := d1.ext c0
  have hC := hC.ext c0
  have hO := Own.join0 hO c0 o4
  have hO := hO.perm (R := o2 ++ (c9 ++ (d0 ++ (([a0]) ++ (([a3]) ++ ([])))))) (by simp)
  obtain ⟨d6, t3, g6, o5, hO, j7⟩ := frzF_own (Frz.os Frz.int) o3 hO
  have h0 := h0.sub (M' := d6) g6
  have h1 := h1.sub (M' := d6) g6
  have d4 := d4.sub (M' := d6) g6
  have d5 := d5.sub (M' := d6) g6
  have d1 := d1.sub (M' := d6) g6
  have hK := hK.trans o5
  have hO := hO.fr1
  have hO := hO.fr1
  have hO := hO.fr2
  have o6 := hO
  have l4 := Own.lend (F := (([a0]) ++ (c9 ++ (d0 ++ ([]))))) (R := ([a3]) ++ ([])) (Own.perm (o6) (by simp))
  obtain ⟨r81, o7, hs⟩ := bind_some hs
  refine pl_call Bd98 rfl (c_impl_span__add (M := d6) r76 (a_.1, a_.2, k, s56.1, s56.2) j7 (show BoxV _ a0 81 [(.int .i64 a_.1), (.slice pa0 pn0 pc0), (.int .i64 k), (.slice e4 e5 e6), (.map (some e7))] from a2) h0 d4 d5 l4 l4.fut o7) ?_
  rintro _ o8 ⟨l5, l6, l7, l8, l9, m0, rfl, d7, j8, o9, p0, p1⟩
  have hO := hO.fr2
  have hO := hO.fr2
  have hO := hO.fr2
  have hO := hO.perm (R := (([a0]) ++ (c9 ++ (d0 ++ ([])))) ++ (([a3]) ++ ([]))) (by simp)
  have h0 := h0.mt d7 hO same_
  have h1 := h1.mt d7 hO same_
  have a1 := a1.ap d7 hO same_ (mem_l (List.mem_singleton.2 rfl))
  have d1 := d1.mt d7 hO same_
  have j7 := j7.mt d7 hO same_
  have hC := hC.st d7 hO same_
  have hO := Own.join hO d7 p1
  have hO := hO.perm (R := [a0] ++ (l8 ++ (m0 ++ (([a3]) ++ ([]))))) (by simp)
  have j8 : BoxV o8 a0 81 [(.int .i64 a_.1), (.slice pa0 pn0 pc0), (.int .i64 k), (.slice l5 l6 l7), (.map (some l9))] := j8
  refine c_nil (c_region (pl_val (.int .i64 (w64 ((b8 : Int) + 1))) (y_add rfl rfl) (mi rfl (c_nil ?_))))
  cases hs
  have hO := hO.fr3
  have hO := hO.fr1
  have hO := hO.fr3
  have hO := hO.fr3
  exact ⟨_, rfl, drop_cons_next hd, _, d6, l5, l6, l7, l8, l9, m0, fr_ovl 72 ⟨rfl, rfl, rfl, rfl, congrArg (Value.int .i64) (w64_succ hlt (Int.natCast_nonneg _) (rs_max h1)), trivial⟩, hC, hO, hK, h0, h1, a1, j8, o9, p0⟩
 ·skip
  have hO := hO.fr2
  have hO := hO.fr1
  have hO := hO.fr2
  have hO := hO.nil
  exact ⟨0, rfl, rfl, _, M, none, 0, 0, [], e2, ([e2]), fr_ovl 72 ⟨rfl, rfl, rfl, rfl, rfl, trivial⟩, hC, hO, KeepsF.refl, h0, h1, a1, a2, os_nil, i0⟩
 cases o60 with
 | nx _ => exact True.intro
 | rt r_ =>
  have hs := after_rt hs
  intro f1 j3 hK
  cases hs
  exact hK
 | br s56 =>
  have hs := after_br hs
  rintro f1 a4 ⟨σ, b9, e8, e9, f0, i1, g5, i2, rfl, hC, hO, hK, h0, h1, a1, a2, f2, g7⟩
  refine c_seq (c_seq (x_start [] Mx rfl ?_))
  have c1 := Chg.drew a4
  generalize World.drew a4 = p2 at c1 ⊢
  have h0 := h0.ext c1
  have h1 := h1.ext c1
  have a1 := a1.cn c1
  have a2 := a2.cn c1
  have f2 := f2.ext c1
  have g7 := g7.ext c1
  have hC := hC.ext c1
  have hO := hO.ext c1
  have hS := Chg.refl [] p2
  refine x_p 0 (pq a0 0) rfl (by kernel_rfl)  (fun _ => y_move rfl) (fun _ => hS) (x_p 1 (pq a0 0) rfl (by kernel_rfl)  (fun _ => y_nilc rfl) (fun _ => hS) (x_p 2 (pq a0 3) rfl (by kernel_rfl)  (fun _ => y_faddr rfl Fa81x2) (fun _ => hS) (x_l 3 (.slice e8 e9 f0) rfl (by kernel_rfl)  (fun w' hw' => y_load rfl ((box_load Ag25 Sz25 a2 [(.int .i64 a_.1), (.slice pa0 pn0 pc0), (.int .i64 k)] [(.slice e8 e9 f0)] [(.map (some g5))] rfl rfl (fun _ => rfl)) w' hw')) hS (x_p 4 (.int .i64 (s56.1.length : Int)) rfl (by kernel_rfl)  (fun _ => y_len' Sl25 (os_len f2) rfl) (fun _ => hS) (x_l 5 (.agg #[(.int .i64 a_.1), (.slice pa0 pn0 pc0)]) rfl (by kernel_rfl)  (fun w' hw' => y_load rfl ((box_load Ag35 Sz35 a1 [] [(.int .i64 a_.1), (.slice pa0 pn0 pc0)] [] rfl rfl (fun h => nomatch h)) w' hw')) hS (x_one (i := 6) (by kernel_rfl) ?_))))))
  obtain ⟨r89, p3, hs⟩ := bind_some hs
  refine xk_call (b := false) rfl  Bd100 rfl (c_impl_mostTuples (M := b9) (a_.1, a_.2) h0 hO.fut p3) rfl (by rintro _ _ _ ⟨rfl, b1⟩; exact hS.ext b1) ?_
  rintro _ t4 ⟨rfl, b1⟩
  have h0 := h0.ext b1
  have h1 := h1.ext b1
  have a1 := a1.cn b1
  have a2 := a2.cn b1
  have f2 := f2.ext b1
  have g7 := g7.ext b1
  have hC := hC.ext b1
  have hO := hO.ext b1
  have hS := hS.ext b1
  refine x_p 7 (.bool (decide (r89 < (s56.1.length : Int)))) rfl (by kernel_rfl)  (fun _ => y_gtr rfl rfl) (fun _ => hS) (x_end (by kernel_rfl) ?_)
  clear hS
  rcases bif_some hs with ⟨j9, hs⟩ | ⟨j9, hs⟩
  ·refine c_condT (cb j9) (c_sr (pl_val (.pointer none) (y_assign rfl) (ab rfl (c_nil (wp_ret ?_)))))
   cases hs
   have hO := hO.drop
   have hO := hO.drop
   have hO := hO.drop
   have hO := hO.drop
   have hO := hO.nil
   exact ⟨_, (.pointer none), [], fr_ovl 72 ⟨rfl, rfl, trivial⟩, hC, op_none, hO.top⟩
  refine c_condF (cb j9) (wp_skip (c_seq (c_sr (ai rfl (ab rfl (c_nil ?_))))))
  obtain ⟨o242, p4, hs⟩ := bind_some hs
  refine wp_block (wp_iter (id := 2) (I := fun s238 a a5 => ∃ (σ : Nat → Value) (d2 : Nat → Prop) (c2 : Option Addr) (c3 : Nat) (c4 : Nat) (g8 : List Nat) (d8 : Nat) (g9 : List Nat), a = fr 72 (ovl σ [(3, (pq a3 0)), (8, (pq a0 0)), (11, (.int .i64 s238.1)), (12, (.bool s238.2.1))]) ∧ Chg [] w a5 ∧ Own (Nw w []) d2 a5 (g8 ++ (g9 ++ (([a0]) ++ (([a3]) ++ [])))) ∧ KeepsF w [] M d2 ∧ (RT.rs (RT.pr ri (RT.rs ri))).val d2 a5 (.slice pa0 pn0 pc0) a_.2 ([]) ∧ BoxV a5 a3 35 [(.int .i64 a_.1), (.slice pa0 pn0 pc0)] ∧ BoxV a5 a0 81 [(.int .i64 a_.1), (.slice pa0 pn0 pc0), (.int .i64 k), (.slice c2 c3 c4), (.map (some d8))] ∧ (RT.os 43 (RT.rs ri)).val d2 a5 (.slice c2 c3 c4) s238.2.2.1 g8 ∧ (RT.mo (Value.int .i64)).val d2 a5 (.map (some d8)) s238.2.2.2 g9) (J := fun s238 a a5 => ∃ (σ : Nat → Value) (d9 : Nat → Prop) (k0 : Option Addr) (k1 : Nat) (k2 : Nat) (f3 : List Nat) (k3 : Nat) (f4 : List Nat), a = fr 72 (ovl σ [(8, (pq a0 0))]) ∧ Chg [] w a5 ∧ Own (Nw w []) d9 a5 (f3 ++ (f4 ++ (([a0]) ++ (([a3]) ++ [])))) ∧ KeepsF w [] M d9 ∧ (RT.rs (RT.pr ri (RT.rs ri))).val d9 a5 (.slice pa0 pn0 pc0) a_.2 ([]) ∧ BoxV a5 a3 35 [(.int .i64 a_.1), (.slice pa0 pn0 pc0)] ∧ BoxV a5 a0 81 [(.int .i64 a_.1), (.slice pa0 pn0 pc0), (.int .i64 k), (.slice k0 k1 k2), (.map (some k3))] ∧ (RT.os 43 (RT.rs ri)).val d9 a5 (.slice k0 k1 k2) s238.2.2.1 f3 ∧ (RT.mo (Value.int .i64)).val d9 a5 (.map (some k3)) s238.2.2.2 f4) (K := (k_impl_spanOf M w)) ?_ FU (0, true, s56.1, s56.2) o242 _ _ ?_ p4 ?_)
  ·rintro s238 o242 a a5 ⟨σ, d2, c2, c3, c4, g8, d8, g9, rfl, hC, hO, hK, h0, a1, a2, f5, i3⟩ hs
   refine c_seq (c_seq (c_mid (I := fun a m1 => ∃ (σ : Nat → Value), a = fr 72 (ovl σ [(3, (pq a3 0)), (8, (pq a0 0)), (11, (.int .i64 s238.1)), (12, (.bool s238.2.1)), (49, (.bool (s238.2.1 || (decide (s238.1 < (s238.2.2.1.length : Int))))))]) ∧ Chg [] a5 m1) ?_ ?_))
   ·have hMid := Chg.refl [] a5
    refine c_region (mb rfl (mb rfl ?_))
    rcases Bool.eq_false_or_eq_true (s238.2.1) with a6 | a6
    ·skip
     refine pl_not (tg := 41) (by kernel_rfl) (cb a6) (pl_not (tg := 41) (by kernel_rfl) (cb a6) (pl_not (tg := 41) (by kernel_rfl) (cb a6) (pl_not (tg := 41) (by kernel_rfl) (cb a6) (pl_not (tg := 41) (by kernel_rfl) (cb a6) (pl_not (tg := 41) (by kernel_rfl) (cb a6) (pl_not (tg := 41) (by kernel_rfl) (cb a6) (pl_val (.bool (s238.2.1 || (decide (s238.1 < (s238.2.2.1.length : Int))))) (y_pick_t (cb a6) (cb (by rw [a6]; rfl))) (c_nil ?_))))))))
     exact ⟨_, fr_ovl 72 ⟨rfl, rfl, rfl, rfl, rfl, trivial⟩, hMid⟩
    refine pl_yes (.int .i64 s238.1) (tg := 41) (by kernel_rfl) (cb a6) (y_move rfl) (pl_yes (pq a0 0) (tg := 41) (by kernel_rfl) (cb a6) (y_move rfl) (pl_yes (pq a0 0) (tg := 41) (by kernel_rfl) (cb a6) (y_nilc rfl) (pl_yes (pq a0 3) (tg := 41) (by kernel_rfl) (cb a6) (y_faddr rfl Fa81x2) (pl_yes (.slice c2 c3 c4) (tg := 41) (by kernel_rfl) (cb a6) (y_load rfl ((box_load Ag25 Sz25 a2 [(.int .i64 a_.1), (.slice pa0 pn0 pc0), (.int .i64 k)] [(.slice c2 c3 c4)] [(.map (some d8))] rfl rfl (fun _ => rfl)) _ (Chg.refl _ _))) (pl_yes (.int .i64 (s238.2.2.1.length : Int)) (tg := 41) (by kernel_rfl) (cb a6) (y_len' Sl25 (os_len f5) rfl) (pl_yes (.bool (decide (s238.1 < (s238.2.2.1.length : Int)))) (tg := 41) (by kernel_rfl) (cb a6) (y_lss rfl rfl) (pl_val (.bool (s238.2.1 || (decide (s238.1 < (s238.2.2.1.length : Int))))) (y_pick_f (cb a6) (cb (by rw [a6]; rfl))) (c_nil ?_))))))))
    exact ⟨_, fr_ovl 72 ⟨rfl, rfl, rfl, rfl, rfl, trivial⟩, hMid⟩
   rintro f1 m1 ⟨σ, rfl, e0⟩
   have h0 := h0.ext e0
   have a1 := a1.cn e0
   have a2 := a2.cn e0
   have f5 := f5.ext e0
   have i3 := i3.ext e0
   have hC := hC.ext e0
   have hO := hO.ext e0
   rcases bif_some hs with ⟨k4, hs⟩ | ⟨k4, hs⟩
   ·refine c_condT (cb k4) (wp_skip (c_seq (wp_block (c_sr (mp rfl (pl_val _ (y_nilc rfl) (pl_val (pq a0 3) (y_faddr rfl Fa81x2) (pl_val (.slice c2 c3 c4) (y_load rfl ((box_load Ag25 Sz25 a2 [(.int .i64 a_.1), (.slice pa0 pn0 pc0), (.int .i64 k)] [(.slice c2 c3 c4)] [(.map (some d8))] rfl rfl (fun _ => rfl)) _ (Chg.refl _ _))) (pl_val _ (y_len' Sl25 (os_len f5) rfl) (ai rfl (c_nil (c_seq (c_sr (pl_val (pq a3 1) (y_faddr rfl Fa35x1) (pl_val (.slice pa0 pn0 pc0) (y_load rfl ((box_load Ag33 Sz33 a1 [(.int .i64 a_.1)] [(.slice pa0 pn0 pc0)] [] rfl rfl (fun _ => rfl)) _ (Chg.refl _ _))) (pl_val _ (y_len' Sl33 (rs_len h0) rfl) (mi rfl (c_nil ?_))))))))))))))))))
    obtain ⟨o298, p5, hs⟩ := bind_some hs
    refine wp_block (wp_forR (id := 4) (I := fun i_ xs_ s294 a a7 => ∃ c5 : Nat, i_ = (c5 : Int) ∧ List.drop c5 a_.2 = xs_ ∧ (∃ (σ : Nat → Value) (c6 : Nat → Prop) (f6 : Option Addr) (f7 : Nat) (f8 : Nat) (b2 : List Nat) (f9 : Nat) (b3 : List Nat), a = fr 72 (ovl σ [(3, (pq a3 0)), (8, (pq a0 0)), (11, (.int .i64 s238.1)), (12, (.bool s238.2.1)), (13, (.int .i64 (s238.2.2.1.length : Int))), (56, (.slice pa0 pn0 pc0)), (57, (.int .i64 (a_.2.length : Int))), (58, (.int .i64 (c5 : Int)))]) ∧ Chg [] w a7 ∧ Own (Nw w []) c6 a7 (b2 ++ (b3 ++ (([a0]) ++ (([a3]) ++ [])))) ∧ KeepsF w [] M c6 ∧ (RT.rs (RT.pr ri (RT.rs ri))).val c6 a7 (.slice pa0 pn0 pc0) a_.2 ([]) ∧ BoxV a7 a3 35 [(.int .i64 a_.1), (.slice pa0 pn0 pc0)] ∧ BoxV a7 a0 81 [(.int .i64 a_.1), (.slice pa0 pn0 pc0), (.int .i64 k), (.slice f6 f7 f8), (.map (some f9))] ∧ (RT.os 43 (RT.rs ri)).val c6 a7 (.slice f6 f7 f8) s294.1 b2 ∧ (RT.mo (Value.int .i64)).val c6 a7 (.map (some f9)) s294.2 b3)) (J := fun s294 a a7 => ∃ (σ : Nat → Value) (e1 : Nat → Prop) (i4 : Option Addr) (i5 : Nat) (i6 : Nat) (i7 : List Nat) (i9 : Nat) (j0 : List Nat), a = fr 72 (ovl σ [(3, (pq a3 0)), (8, (pq a0 0)), (11, (.int .i64 s238.1)), (12, (.bool s238.2.1)), (13, (.int .i64 (s238.2.2.1.length : Int)))]) ∧ Chg [] w a7 ∧ Own (Nw w []) e1 a7 (i7 ++ (j0 ++ (([a0]) ++ (([a3]) ++ [])))) ∧ KeepsF w [] M e1 ∧ (RT.rs (RT.pr ri (RT.rs ri))).val e1 a7 (.slice pa0 pn0 pc0) a_.2 ([]) ∧ BoxV a7 a3 35 [(.int .i64 a_.1), (.slice pa0 pn0 pc0)] ∧ BoxV a7 a0 81 [(.int .i64 a_.1), (.slice pa0 pn0 pc0), (.int .i64 k), (.slice i4 i5 i6), (.map (some i9))] ∧ (RT.os 43 (RT.rs ri)).val e1 a7 (.slice i4 i5 i6) s294.1 i7 ∧ (RT.mo (Value.int .i64)).val e1 a7 (.map (some i9)) s294.2 j0) (K := (k_impl_spanOf M w)) ?_ ?_ a_.2 0 (s238.2.2.1, s238.2.2.2) o298 _ _ ?_ p5 ?_)
    ·rintro _ s294 a a7 ⟨c5, rfl, hd, σ, c6, f6, f7, f8, b2, f9, b3, rfl, hC, hO, hK, h0, a1, a2, a9, b0⟩
     have hlt := drop_nil_ge hd
     refine c_sr (pl_val _ (y_lss rfl rfl) (c_nil (c_seq (c_condF (cb (decide_eq_false hlt)) (wp_exit ?_)))))
     have hO := hO.fr3
     have hO := hO.fr3
     have hO := hO.fr3
     have hO := hO.fr3
     exact ⟨rfl, _, c6, f6, f7, f8, b2, f9, b3, fr_ovl 72 ⟨rfl, rfl, rfl, rfl, rfl, trivial⟩, hC, hO, hK, h0, a1, a2, a9, b0⟩
    ·rintro _ x297 xs_ s294 o298 a a7 ⟨c5, rfl, hd, σ, c6, f6, f7, f8, b2, f9, b3, rfl, hC, hO, hK, h0, a1, a2, a9, b0⟩ hs
     have hlt := drop_cons_lt hd
     have p6 := drop_cons_idx hd
     refine c_sr (pl_val _ (y_lss rfl rfl) (c_nil (c_seq (c_condT (cb (decide_eq_true hlt)) (wp_skip (c_seq (wp_block (c_sr ?_))))))))
     obtain ⟨p7, p8, p9, k5⟩ := rs_idx Sl33 Sz89 h0 p6
     refine pl_val _ (p9 _ _ _ _ _ _ _ _ _ rfl rfl) ?_
     obtain ⟨t5, q0, q1⟩ := at_load Ag89 Sz89 (by intro h; cases h) k5
     obtain ⟨t6, rfl, q2⟩ := q1
     obtain ⟨t7, t8, rfl, q3, q4⟩ := pr_open q2
     obtain rfl := int_rel q3
     obtain ⟨h2, h3, h4, rfl, a8⟩ := rs_rel q4
     refine pl_val (.agg #[(.int .i64 x297.1), (.slice h2 h3 h4)]) (y_load rfl (q0 _ (Chg.refl _ _))) ?_
     obtain ⟨q5, h5, q6, m2, c7, m3⟩ := new_block a7 [(.int .i64 0), (.slice none 0 0)] 89
     refine pl_val (w' := q5) (pq h5 0) (y_alloc (by rw [q6, m2]; kernel_rfl)) ?_
     have h0 := h0.ext c7
     have a1 := a1.cn c7
     have a2 := a2.cn c7
     have a9 := a9.ext c7
     have b0 := b0.ext c7
     have a8 := a8.ext c7
     have k5 := at_ext k5 c7
     have hC := hC.ext c7
     have hO := hO.new1 c7 m2 m3.lt
     obtain ⟨j1, q7, d3, c8⟩ := box_store (P := Try.prog) m3 [] [(.int .i64 0), (.slice none 0 0)] [] [(.int .i64 x297.1), (.slice h2 h3 h4)] rfl rfl (by intro u hu; simp only [List.mem_cons, List.not_mem_nil, or_false] at hu; rcases hu with rfl | rfl <;> rfl)
     refine pl_skip (w' := j1) (ys_store rfl rfl (q7 _ _ rfl Sz89)) ?_
     have h0 := h0.mt d3 hO same_
     have a1 := a1.ap d3 hO same_ (mem_r (mem_r (mem_r (mem_l (List.mem_singleton.2 rfl)))))
     have a2 := a2.ap d3 hO same_ (mem_r (mem_r (mem_l (List.mem_singleton.2 rfl))))
     have a9 := a9.ma d3 hO same_ (fun _ e => (mem_l (e)))
     have b0 := b0.ma d3 hO same_ (fun _ e => (mem_r (mem_l (e))))
     have a8 := a8.mt d3 hO same_
     have hC := hC.st d3 hO same_
     have hO := hO.ext d3
     have c8 : BoxV j1 h5 89 [(.int .i64 x297.1), (.slice h2 h3 h4)] := c8
     refine c_nil (c_seq (x_start [5] Mx rfl ?_))
     have b6 := Chg.drew j1
     generalize World.drew j1 = m4 at b6 ⊢
     have h0 := h0.ext b6
     have a1 := a1.cn b6
     have a2 := a2.cn b6
     have a9 := a9.ext b6
     have b0 := b0.ext b6
     have a8 := a8.ext b6
     have c8 := c8.cn b6
     have hC := hC.ext b6
     have hO := hO.ext b6
     have hS := Chg.refl [] m4
     refine x_p 0 (pq a0 0) rfl (by kernel_rfl)  (fun _ => y_move rfl) (fun _ => hS) (x_l 1 (.agg #[(.int .i64 x297.1), (.slice h2 h3 h4)]) rfl (by kernel_rfl)  (fun w' hw' => y_load rfl ((box_load Ag89 Sz89 c8 [] [(.int .i64 x297.1), (.slice h2 h3 h4)] [] rfl rfl (fun h => nomatch h)) w' hw')) hS (x_p 3 (.int .i64 s238.1) rfl (by kernel_rfl)  (fun _ => y_move rfl) (fun _ => hS) (x_p 4 (.int .i64 (s238.2.2.1.length : Int)) rfl (by kernel_rfl)  (fun _ => y_move rfl) (fun _ => hS) (x_one (i := 2) (by kernel_rfl) ?_))))
     obtain ⟨u317, q8, hs⟩ := bind_some hs
     obtain ⟨q9, r0, r1, h6, t9, r2, b4, r3, k6⟩ := mk_cap (M := c6) (w := m4) (r := (RT.os 3 ri)) (x := ([] : List Int)) Rw25 q8 (fun _ _ => (os_unval os_nil))
     refine xk_val (w' := h6) (b := false) (.slice q9 r0 r1) rfl  (y_make rfl rfl r2) rfl (fun _ => hS.ext b4) ?_
     have h0 := h0.ext b4
     have a1 := a1.cn b4
     have a2 := a2.cn b4
     have a9 := a9.ext b4
     have b0 := b0.ext b4
     have a8 := a8.ext b4
     have c8 := c8.cn b4
     have hC := hC.ext b4
     have hO := hO.new b4 r3 (os_nodup k6) k6.fpl
     have hS := hS.ext b4
     refine x_one (i := 5) (by kernel_rfl) ?_
     obtain ⟨b7, g0, j2, r4, hO, r5⟩ := osF_inner (Frz.os Frz.int) k6 hO
     have h0 := h0.sub (M' := b7) j2
     have a9 := a9.sub (M' := b7) j2
     have b0 := b0.sub (M' := b7) j2
     have a8 := a8.sub (M' := b7) j2
     have hK := hK.trans r4
     have hO := hO.fr3
     have hO := hO.fr3
     have hO := hO.fr4
     have hO := hO.fr3
     have r6 := hO
     have m5 := Own.lend (F := (g0 ++ (([a0]) ++ (b2 ++ (b3 ++ ([])))))) (R := ([h5]) ++ (([a3]) ++ ([]))) (Own.perm (r6) (by simp))
     obtain ⟨r321, r7, hs⟩ := bind_some hs
     refine xk_call (b := true) rfl  Bd101 rfl (c_impl_span__applyNew FU (M := b7) (x297.1, x297.2) (List.replicate (Int.toNat 0) ([] : List Int)) s238.1 (s238.2.2.1.length : Int) false (a_.1, a_.2, k, s294.1, s294.2) a8 r5 (show BoxV _ a0 81 [(.int .i64 a_.1), (.slice pa0 pn0 pc0), (.int .i64 k), (.slice f6 f7 f8), (.map (some f9))] from a2) h0 a9 b0 m5 m5.fut r7) rfl (fun h => nomatch h) ?_
     rintro _ h7 ⟨h8, m6, m7, m8, g1, m9, g2, rfl, g3, u0, k7, r8, r9, s0⟩
     have hO := hO.fr3
     have hO := hO.fr3
     have hO := hO.fr3
     have hO := hO.fr3
     have hO := hO.perm (R := (g0 ++ (([a0]) ++ (b2 ++ (b3 ++ ([]))))) ++ (([h5]) ++ (([a3]) ++ ([])))) (by simp)
     have s1 := Own.pastL hO g3 s0
     have hK := hK.trans (show KeepsF w [] b7 (PastL b7 (g0 ++ (([a0]) ++ (b2 ++ (b3 ++ ([]))))) h6 h7 (h8 ++ ([a0] ++ (g1 ++ (g2 ++ ([])))))) from KeepsF.pastL hC.size (fun g hg => (hO.inN g hg)))
     have h0 := h0.mt g3 hO same_
     have a1 := a1.ap g3 hO same_ (mem_r (mem_l (List.mem_singleton.2 rfl)))
     have a8 := a8.mt g3 hO same_
     have c8 := c8.ap g3 hO same_ (mem_l (List.mem_singleton.2 rfl))
     have hC := hC.st g3 hO same_
     have hO := s1
     have h0 := h0.sub (M' := (PastL b7 (g0 ++ (([a0]) ++ (b2 ++ (b3 ++ ([]))))) h6 h7 (h8 ++ ([a0] ++ (g1 ++ (g2 ++ ([]))))))) (fun g hg => .inl hg.1)
     have a8 := a8.sub (M' := (PastL b7 (g0 ++ (([a0]) ++ (b2 ++ (b3 ++ ([]))))) h6 h7 (h8 ++ ([a0] ++ (g1 ++ (g2 ++ ([]))))))) (fun g hg => .inl hg.1)
     have hO := hO.perm (R := h8 ++ ([a0] ++ (g1 ++ (g2 ++ (([h5]) ++ (([a3]) ++ ([]))))))) (by simp)
     have k7 : BoxV h7 a0 81 [(.int .i64 a_.1), (.slice pa0 pn0 pc0), (.int .i64 k), (.slice m6 m7 m8), (.map (some m9))] := k7
     refine x_p 6 (.bool (!r321.1)) rfl (by kernel_rfl)  (fun _ => y_not rfl) (fun h => nomatch h) (x_end (by kernel_rfl) ?_)
     clear hS
     rcases bif_some hs with ⟨k8, hs⟩ | ⟨k8, hs⟩
     ·refine c_condT (cb k8) (c_sr (pl_val (.pointer none) (y_assign rfl) (ab rfl (c_nil (wp_ret ?_)))))
      cases hs
      have hO := hO.drop
      have hO := hO.drop
      have hO := hO.drop
      have hO := hO.drop
      have hO := hO.drop
      have hO := hO.drop
      have hO := hO.nil
      exact ⟨_, (.pointer none), [], fr_ovl 72 ⟨rfl, rfl, trivial⟩, hC, op_none, hO.top⟩
     refine c_condF (cb k8) (wp_skip (c_region (pl_val (.int .i64 (w64 ((c5 : Int) + 1))) (y_add rfl rfl) (mi rfl (c_nil ?_)))))
     cases hs
     have hO := hO.drop
     have hO := hO.fr3
     have hO := hO.drop
     have hO := hO.fr3
     have hO := hO.fr1
     have hO := hO.fr3
     have hO := hO.fr3
     exact ⟨_, rfl, drop_cons_next hd, _, (PastL b7 (g0 ++ (([a0]) ++ (b2 ++ (b3 ++ ([]))))) h6 h7 (h8 ++ ([a0] ++ (g1 ++ (g2 ++ ([])))))), m6, m7, m8, g1, m9, g2, fr_ovl 72 ⟨rfl, rfl, rfl, rfl, rfl, rfl, rfl, congrArg (Value.int .i64) (w64_succ hlt (Int.natCast_nonneg _) (rs_max h0)), trivial⟩, hC, hO, hK, h0, a1, k7, r8, r9⟩
    ·skip
     have hO := hO.fr3
     have hO := hO.fr3
     have hO := hO.fr3
     have hO := hO.fr3
     exact ⟨0, rfl, rfl, _, d2, c2, c3, c4, g8, d8, g9, fr_ovl 72 ⟨rfl, rfl, rfl, rfl, rfl, rfl, rfl, rfl, trivial⟩, hC, hO, hK, h0, a1, a2, f5, i3⟩
    cases o298 with
    | nx _ => exact True.intro
    | rt r_ =>
     have hs := after_rt hs
     intro f1 j3 hK
     cases hs
     exact hK
    | br s294 =>
     have hs := after_br hs
     rintro f1 a7 ⟨σ, e1, i4, i5, i6, i7, i9, j0, rfl, hC, hO, hK, h0, a1, a2, s2, s3⟩
     refine c_region (mi rfl (ai rfl (c_nil (c_region (ab rfl (c_nil ?_))))))
     cases hs
     have hO := hO.fr3
     have hO := hO.fr3
     have hO := hO.fr3
     have hO := hO.fr3
     exact ⟨_, e1, i4, i5, i6, i7, i9, j0, fr_ovl 72 ⟨rfl, rfl, rfl, rfl, trivial⟩, hC, hO, hK, h0, a1, a2, s2, s3⟩
   refine c_condF (cb k4) (wp_exit ?_)
   cases hs
   have hO := hO.fr3
   have hO := hO.fr3
   have hO := hO.fr3
   have hO := hO.fr3
   exact ⟨rfl, _, d2, c2, c3, c4, g8, d8, g9, fr_ovl 72 ⟨rfl, trivial⟩, hC, hO, hK, h0, a1, a2, f5, i3⟩
  ·skip
   have hO := hO.fr3
   have hO := hO.fr3
   have hO := hO.fr3
   have hO := hO.fr3
   exact ⟨_, b9, e8, e9, f0, i1, g5, i2, fr_ovl 72 ⟨rfl, rfl, rfl, rfl, trivial⟩, hC, hO, hK, h0, a1, a2, f2, g7⟩
  cases o242 with
  | nx _ => exact True.intro
  | rt r_ =>
   have hs := after_rt hs
   intro f1 j3 hK
   cases hs
   exact hK
  | br s238 =>
   have hs := after_br hs
   rintro f1 a5 ⟨σ, d9, k0, k1, k2, f3, k3, f4, rfl, hC, hO, hK, h0, a1, a2, s4, s5⟩
   refine c_sr (mp rfl (ap rfl (ab rfl (c_nil (wp_ret ?_)))))
   have hO := hO.fr1
   have hO := hO.fr1
   have hO := hO.fr2
   have hO := hO.perm (R := (a0 :: ((([] : List Nat) ++ ([] : List Nat)) ++ (([] : List Nat) ++ (f3 ++ f4)))) ++ (([a3]) ++ ([]))) (by simp)
   have s6 : (RT.po 81 (RT.pr (RT.pr ri (RT.rs (RT.pr ri (RT.rs ri)))) (RT.pr ri (RT.pr (RT.os 43 (RT.rs ri)) (RT.mo (Value.int .i64)))))).val d9 a5 (pq a0 0) ((a_.1, a_.2), k, s238.2.2.1, s238.2.2.2) (a0 :: ((([] : List Nat) ++ ([] : List Nat)) ++ (([] : List Nat) ++ (f3 ++ f4)))) := po_shut a2 ⟨_, _, _, _, rfl, rfl, ⟨_, _, _, _, rfl, rfl, ⟨rfl, rfl⟩, (rs_unval h0)⟩, ⟨_, _, _, _, rfl, rfl, ⟨rfl, rfl⟩, ⟨_, _, _, _, rfl, rfl, (os_unval s4), (mo_unval s5)⟩⟩⟩ hO.nd
   cases hs
   have hO := hO.fr1
   have hO := hO.drop
   exact ⟨_, (pq a0 0), (a0 :: ((([] : List Nat) ++ ([] : List Nat)) ++ (([] : List Nat) ++ (f3 ++ f4)))), fr_ovl 72 ⟨rfl, rfl, trivial⟩, hC, (KeepsF.out hK hO.allM (op_some s6)), hO.top⟩

def k_impl_argsAt (M : Nat → Prop) (w0 : World) (r : (List Int)) (a : Act) (w : World) : Prop :=
  ∃ (σ : Nat → Value) (ra0 : Option Addr) (rn0 rc0 : Nat) (rf0 : List Nat), a = fr 27 (ovl σ [(6, (.slice ra0 rn0 rc0))]) ∧ Chg [] w0 w ∧ (RT.os 3 (RT.int .i64)).val M w (.slice ra0 rn0 rc0) r rf0 ∧ Own (Nw w0 []) (fun _ => True) w (rf0 ++ ([]))
def s_impl_argsAt (i : Int) (k : Int) (n : Int) : Option ((List Int)) :=
  (mks k (0 : Int)).bind fun y2 =>
  (iter (S := Int × Int × (List Int)) (R := (List Int)) (fun s17 =>
  (bif (decide (0 ≤ s17.2.1)) then (nz n).bind fun u26 =>
  (idx s17.2.2 s17.2.1).bind fun x27 =>
  (nz n).bind fun u30 =>
  some (.nx (w64 (Int.tdiv s17.1 n), w64 (s17.2.1 - 1), List.set s17.2.2 (Int.toNat s17.2.1) (Int.tmod s17.1 n))) else some (.br (s17.1, s17.2.1, s17.2.2)))) FU (i, w64 (k - 1), y2)).bind fun o21 => after o21 (fun r_ => some r_) (fun s17 =>
  some s17.2.2)
set_option maxHeartbeats 4000000 in
theorem c_impl_argsAt {M : Nat → Prop} {w : World}  (i : Int) (k : Int) (n : Int)  (hM : ∀ g, w.heap.size ≤ g → M g) {r : (List Int)} (hs : s_impl_argsAt i k n = some r) :
    Gives Try.prog 89 [(.int .i64 i), (.int .i64 k), (.int .i64 n)] w (fun v w' => ∃ (ra0 : Option Addr) (rn0 rc0 : Nat) (rf0 : List Nat), v = (.slice ra0 rn0 rc0) ∧ Chg [] w w' ∧ (RT.os 3 ri).val M w' (.slice ra0 rn0 rc0) r rf0 ∧ Own (Nw w []) (fun _ => True) w' (rf0 ++ ([]))) := by
 refine calls_fr Try.func89 rfl Try.ntmps89 (Nat.le_of_ble_eq_true rfl) ?_
 have hO := Own.start (N := Nw w []) hM Nw.fut
 have hC := Chg.refl [] w
 unfold s_impl_argsAt at hs
 refine wp_mono (Q := KPost (k_impl_argsAt M w r)) ?_ (fun e a a7 h => ?_)
 rotate_left
 ·cases e
  case ret =>
   obtain ⟨σ, ra0, rn0, rc0, rf0, rfl, hrest⟩ := h
   exact ret1x Try.results89 (res_tmp rfl) ⟨ra0, rn0, rc0, rf0, rfl, hrest⟩
  all_goals exact (h : False).elim
 refine c_sr (ax rfl (c_nil (c_sr (mi rfl ?_))))
 obtain ⟨y2, b5, hs⟩ := bind_some hs
 obtain ⟨a0, a1, a2, a7, b6, b7, b1, b8, a8⟩ := mk_os (M := M) (w := w) (r := ri) Rw43 b5 (fun _ _ => ⟨rfl, rfl⟩)
 refine pl_val (w' := a7) (.slice a0 a1 a2) (y_make rfl rfl b7) ?_
 have hC := hC.ext b1
 have hO := hO.new b1 b8 (os_nodup a8) a8.fpl
 refine ax rfl (c_nil (c_seq (c_sr (mi rfl (pl_val (.int .i64 (w64 (k - 1))) (y_sub rfl rfl) (ai rfl (c_nil ?_)))))))
 obtain ⟨o21, b9, hs⟩ := bind_some hs
 refine wp_block (wp_iter (id := 0) (I := fun s17 a a3 => ∃ (σ : Nat → Value) (a4 : List Nat), a = fr 27 (ovl σ [(0, (.int .i64 s17.1)), (2, (.int .i64 n)), (7, (.slice a0 a1 a2)), (8, (.int .i64 s17.2.1))]) ∧ Chg [] w a3 ∧ Own (Nw w []) M a3 (a4 ++ []) ∧ (RT.os 3 ri).val M a3 (.slice a0 a1 a2) s17.2.2 a4) (J := fun s17 a a3 => ∃ (σ : Nat → Value) (a6 : List Nat), a = fr 27 (ovl σ [(7, (.slice a0 a1 a2))]) ∧ Chg [] w a3 ∧ Own (Nw w []) M a3 (a6 ++ []) ∧ (RT.os 3 ri).val M a3 (.slice a0 a1 a2) s17.2.2 a6) (K := (k_impl_argsAt M w)) ?_ FU (i, w64 (k - 1), y2) o21 _ _ ?_ b9 ?_)
 ·rintro s17 o21 a a3 ⟨σ, a4, rfl, hC, hO, a5⟩ hs
  refine c_seq (c_sr (mi rfl (pl_val _ (y_geq rfl rfl) (c_nil ?_))))
  rcases bif_some hs with ⟨a9, hs⟩ | ⟨a9, hs⟩
  ·refine c_condT (cb a9) (wp_skip (c_seq (wp_block (c_sr (ms rfl (mi rfl (mi rfl (mi rfl ?_))))))))
   obtain ⟨u26, c0, hs⟩ := bind_some hs
   refine pl_val (.int .i64 (Int.tmod s17.1 n)) (y_rem rfl rfl (nz_ne c0)) ?_
   obtain ⟨x27, c1, hs⟩ := bind_some hs
   obtain ⟨b2, d1, b3, c2, c3, d2, d3⟩ := os_idx Sl43 Sz3 a5 c1
   refine pl_val _ (c3 _ _ _ _ _ _ _ _ _ rfl rfl) ?_
   obtain ⟨c4, c5, c6, b4, c7, b0⟩ := os_store (P := Try.prog) (c' := [(.int .i64 (Int.tmod s17.1 n))]) b3 a5 c2 (fun g hg => hO.inM g (os_block a5 g (by simpa using hg))) ⟨rfl, rfl⟩ List.nodup_nil (fun _ h => nomatch h) (fun _ h => .inl h)
   have c8 : ∀ q ∈ [b2], q ∈ a4 := fun q hq => os_block a5 q (by rw [b3]; exact hq)
   refine pl_skip (w' := c4) (ys_store rfl rfl (c6 _ _ rfl Sz3)) ?_
   have hC := hC.st b4 hO c8
   have hO := hO.grow b4 (fun q hq => .inl ((c7 q hq).resolve_right (fun h => nomatch h))) (os_nodup b0) b0.fpl
   refine c_nil (c_region (mi rfl (mi rfl ?_)))
   obtain ⟨u30, c9, hs⟩ := bind_some hs
   refine pl_val (.int .i64 (w64 (Int.tdiv s17.1 n))) (y_quo rfl rfl (nz_ne c9)) (ai rfl (c_nil (c_region (mi rfl (pl_val (.int .i64 (w64 (s17.2.1 - 1))) (y_sub rfl rfl) (ai rfl (c_nil ?_)))))))
   cases hs
   exact ⟨_, c5, fr_ovl 27 ⟨rfl, rfl, rfl, rfl, trivial⟩, hC, hO, b0⟩
  refine c_condF (cb a9) (wp_exit ?_)
  cases hs
  exact ⟨rfl, _, a4, fr_ovl 27 ⟨rfl, trivial⟩, hC, hO, a5⟩
 ·skip
  exact ⟨_, b6, fr_ovl 27 ⟨rfl, rfl, rfl, rfl, trivial⟩, hC, hO, a8⟩
 cases o21 with
 | nx _ => exact True.intro
 | rt r_ =>
  have hs := after_rt hs
  intro a0 a7 hK
  cases hs
  exact hK
 | br s17 =>
  have hs := after_br hs
  rintro a0 a3 ⟨σ, a6, rfl, hC, hO, d0⟩
  refine c_sr (ms rfl (ax rfl (c_nil (wp_ret ?_))))
  cases hs
  exact ⟨_, a0, a1, a2, a6, fr_ovl 27 ⟨rfl, trivial⟩, hC, d0, hO.top⟩

theorem Bd89 : Bodied Try.prog 89 := bodied Try.func89 (by kernel_rfl) rfl

end Go.Proofs
