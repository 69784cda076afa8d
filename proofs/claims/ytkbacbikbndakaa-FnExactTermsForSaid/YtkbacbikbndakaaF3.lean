/- What functions of the program compute, as plain functions, and that a call gives just that. Conditions: those named in each theorem. -/
import Derived.Test.YtkbacbikbndakaaF2
set_option linter.unusedVariables false
namespace Go.Proofs
open Go.G Go.RowKit
set_option maxRecDepth 100000

def k_impl_span__valueTables (M : Nat → Prop) (w0 : World) (r : (List (List Int))) (a : Act) (w : World) : Prop :=
  ∃ (σ : Nat → Value) (ra0 : Option Addr) (rn0 rc0 : Nat) (rf0 : List Nat), a = fr 92 (ovl σ [(2, (.slice ra0 rn0 rc0))]) ∧ Chg [] w0 w ∧ (RT.os 43 (RT.os 3 (RT.int .i64))).val M w (.slice ra0 rn0 rc0) r rf0 ∧ Own (Nw w0 []) (fun _ => True) w (rf0 ++ ([]))
def s_impl_span__valueTables (b0 : Int × (List (Int × (List Int))) × Int × (List (List Int)) × (List (ByteArray × Int))) : Option ((List (List Int))) :=
  (forR (S := (List (List Int))) (R := (List (List Int))) (fun _ x596 s593 =>
  (s_impl_power (b0.2.2.2.1.length : Int) x596.1).bind fun r618 =>
  (mks r618 (0 : Int)).bind fun y620 =>
  (mks x596.1 ([] : List Int)).bind fun y623 =>
  (forC (S := (List Int) × (List (List Int))) (R := (List (List Int))) (fun k827 s825 =>
  (s_impl_argsAt k827 x596.1 (b0.2.2.2.1.length : Int)).bind fun r843 =>
  (forC (S := (List (List Int))) (R := (List (List Int))) (fun k866 s864 =>
  (idx r843 k866).bind fun x872 =>
  (idx b0.2.2.2.1 x872).bind fun x874 =>
  (idx s864 k866).bind fun x878 =>
  some (.nx (List.set s864 (Int.toNat k866) x874))) 0 (r843.length : Int) s825.2).bind fun o868 => after o868 (fun r_ => some (.rt r_)) (fun s864 =>
  (s_impl_applyTuples (b0.1, b0.2.1) (x596.1, x596.2) b0.2.2.1 s864).bind fun r883 =>
  (s_impl_keyOf r883).bind fun r886 =>
  (idx s825.1 k827).bind fun x887 =>
  some (.nx (List.set s825.1 (Int.toNat k827) ((mget b0.2.2.2.2 r886).getD 0), s864)))) 0 (y620.length : Int) (y620, y623)).bind fun o829 => after o829 (fun r_ => some (.rt r_)) (fun s825 =>
  (app s593 ([s825.1])).bind fun y893 =>
  some (.nx y893))) 0 b0.2.1 ([])).bind fun o597 => after o597 (fun r_ => some r_) (fun s593 =>
  some s593)
set_option maxHeartbeats 4000000 in
theorem c_impl_span__valueTables {M : Nat → Prop} {w : World} {vg0 : Nat} {va0x1 : Option Addr} {vn0x1 vc0x1 : Nat} {va0x3 : Option Addr} {vn0x3 vc0x3 : Nat} {vn0x4 : Nat} (b0 : Int × (List (Int × (List Int))) × Int × (List (List Int)) × (List (ByteArray × Int))) (hb0 : RBox M w vg0 81 [(.int .i64 b0.1), (.slice va0x1 vn0x1 vc0x1), (.int .i64 b0.2.2.1), (.slice va0x3 vn0x3 vc0x3), (.map (some vn0x4))]) (hl0x1 : (RT.rs (RT.pr ri (RT.rs ri))).val M w (.slice va0x1 vn0x1 vc0x1) b0.2.1 ([])) (hl0x3 : (RT.rs (RT.rs ri)).val M w (.slice va0x3 vn0x3 vc0x3) b0.2.2.2.1 ([])) (hl0x4 : (RT.mr (Value.int .i64)).val M w (.map (some vn0x4)) b0.2.2.2.2 ([])) (hM : ∀ g, w.heap.size ≤ g → M g) {r : (List (List Int))} (hs : s_impl_span__valueTables b0 = some r) :
    Gives Try.prog 102 [(pq vg0 0)] w (fun v w' => ∃ (ra0 : Option Addr) (rn0 rc0 : Nat) (rf0 : List Nat), v = (.slice ra0 rn0 rc0) ∧ Chg [] w w' ∧ (RT.os 43 (RT.os 3 ri)).val M w' (.slice ra0 rn0 rc0) r rf0 ∧ Own (Nw w []) (fun _ => True) w' (rf0 ++ ([]))) := by
 refine calls_fr Try.func102 rfl Try.ntmps102 (Nat.le_of_ble_eq_true rfl) ?_
 have hO := Own.start (N := Nw w []) hM Nw.fut
 have hC := Chg.refl [] w
 unfold s_impl_span__valueTables at hs
 refine wp_mono (Q := KPost (k_impl_span__valueTables M w r)) ?_ (fun e a h4 h => ?_)
 rotate_left
 ·cases e
  case ret =>
   obtain ⟨σ, ra0, rn0, rc0, rf0, rfl, hrest⟩ := h
   exact ret1x Try.results102 (res_tmp rfl) ⟨ra0, rn0, rc0, rf0, rfl, hrest⟩
  all_goals exact (h : False).elim
 refine c_sr (ax rfl (c_nil (c_sr ?_)))
 obtain ⟨i7, f5, k6, i9, f6, j0⟩ := new_block w [] 43
 refine pl_val (w' := i7) (.slice (some ⟨f5, 0, none⟩) 0 0) (y_bslice rfl (by rw [k6, i9]; kernel_rfl)) ?_
 have hl0x1 := hl0x1.ext f6
 have hl0x3 := hl0x3.ext f6
 have hl0x4 := hl0x4.ext f6
 have hb0 := hb0.ext f6
 have hC := hC.ext f6
 have hO := hO.new1 f6 i9 j0.lt
 have h5 := os_of_box (r := (RT.os 3 ri)) (M := M) (css := []) (fps := []) (xs := ([] : List (List Int))) j0 trivial (Nat.zero_le _) (List.nodup_cons.2 ⟨(fun h => nomatch h), List.nodup_nil⟩)
 have h5 : (RT.os 43 (RT.os 3 ri)).val M i7 (.slice (some ⟨f5, 0, none⟩) 0 0) [] [f5] := h5
 refine ax rfl (c_nil (c_seq (c_sr (mp rfl (pl_val _ (y_nilc rfl) (pl_val (pq vg0 0) (y_faddr rfl Fa81x0) (pl_val (pq vg0 1) (y_faddr rfl Fa35x1) (pl_val (.slice va0x1 vn0x1 vc0x1) (y_load rfl ((box_load Ag33 Sz33 hb0.1 [(.int .i64 b0.1)] [(.slice va0x1 vn0x1 vc0x1)] [(.int .i64 b0.2.2.1), (.slice va0x3 vn0x3 vc0x3), (.map (some vn0x4))] rfl rfl (fun _ => rfl)) _ (Chg.refl _ _))) (pl_val _ (y_len' Sl33 (rs_len hl0x1) rfl) (mi rfl (c_nil ?_)))))))))))
 obtain ⟨o597, k7, hs⟩ := bind_some hs
 refine wp_block (wp_forR (id := 0) (I := fun i_ xs_ s593 a a7 => ∃ c5 : Nat, i_ = (c5 : Int) ∧ List.drop c5 b0.2.1 = xs_ ∧ (∃ (σ : Nat → Value) (c6 : Nat → Prop) (c0 : Option Addr) (c1 : Nat) (c2 : Nat) (b1 : List Nat), a = fr 92 (ovl σ [(0, (pq vg0 0)), (3, (.slice c0 c1 c2)), (16, (.slice va0x1 vn0x1 vc0x1)), (17, (.int .i64 (b0.2.1.length : Int))), (18, (.int .i64 (c5 : Int)))]) ∧ Chg [] w a7 ∧ Own (Nw w []) c6 a7 (b1 ++ []) ∧ Keeps w M c6 ∧ (RT.rs (RT.pr ri (RT.rs ri))).val c6 a7 (.slice va0x1 vn0x1 vc0x1) b0.2.1 ([]) ∧ (RT.rs (RT.rs ri)).val c6 a7 (.slice va0x3 vn0x3 vc0x3) b0.2.2.2.1 ([]) ∧ (RT.mr (Value.int .i64)).val c6 a7 (.map (some vn0x4)) b0.2.2.2.2 ([]) ∧ RBox c6 a7 vg0 81 [(.int .i64 b0.1), (.slice va0x1 vn0x1 vc0x1), (.int .i64 b0.2.2.1), (.slice va0x3 vn0x3 vc0x3), (.map (some vn0x4))] ∧ (RT.os 43 (RT.os 3 ri)).val c6 a7 (.slice c0 c1 c2) s593 b1)) (J := fun s593 a a7 => ∃ (σ : Nat → Value) (e5 : Nat → Prop) (f7 : Option Addr) (f8 : Nat) (f9 : Nat) (g5 : List Nat), a = fr 92 (ovl σ [(3, (.slice f7 f8 f9))]) ∧ Chg [] w a7 ∧ Own (Nw w []) e5 a7 (g5 ++ []) ∧ Keeps w M e5 ∧ (RT.rs (RT.pr ri (RT.rs ri))).val e5 a7 (.slice va0x1 vn0x1 vc0x1) b0.2.1 ([]) ∧ (RT.rs (RT.rs ri)).val e5 a7 (.slice va0x3 vn0x3 vc0x3) b0.2.2.2.1 ([]) ∧ (RT.mr (Value.int .i64)).val e5 a7 (.map (some vn0x4)) b0.2.2.2.2 ([]) ∧ RBox e5 a7 vg0 81 [(.int .i64 b0.1), (.slice va0x1 vn0x1 vc0x1), (.int .i64 b0.2.2.1), (.slice va0x3 vn0x3 vc0x3), (.map (some vn0x4))] ∧ (RT.os 43 (RT.os 3 ri)).val e5 a7 (.slice f7 f8 f9) s593 g5) (K := (k_impl_span__valueTables M w)) ?_ ?_ b0.2.1 0 ([]) o597 _ _ ?_ k7 ?_)
 ·rintro _ s593 a a7 ⟨c5, rfl, hd, σ, c6, c0, c1, c2, b1, rfl, hC, hO, hK, hl0x1, hl0x3, hl0x4, hb0, a0⟩
  have hlt := drop_nil_ge hd
  refine c_sr (pl_val _ (y_lss rfl rfl) (c_nil (c_seq (c_condF (cb (decide_eq_false hlt)) (wp_exit ?_)))))
  exact ⟨rfl, _, c6, c0, c1, c2, b1, fr_ovl 92 ⟨rfl, trivial⟩, hC, hO, hK, hl0x1, hl0x3, hl0x4, hb0, a0⟩
 ·rintro _ x596 xs_ s593 o597 a a7 ⟨c5, rfl, hd, σ, c6, c0, c1, c2, b1, rfl, hC, hO, hK, hl0x1, hl0x3, hl0x4, hb0, a0⟩ hs
  have hlt := drop_cons_lt hd
  have k8 := drop_cons_idx hd
  refine c_sr (pl_val _ (y_lss rfl rfl) (c_nil (c_seq (c_condT (cb (decide_eq_true hlt)) (wp_skip (c_seq (wp_block (c_sr ?_))))))))
  obtain ⟨k9, l0, l1, h6⟩ := rs_idx Sl33 Sz89 hl0x1 k8
  refine pl_val _ (l1 _ _ _ _ _ _ _ _ _ rfl rfl) ?_
  obtain ⟨r7, l2, l3⟩ := at_load Ag89 Sz89 (by intro h; cases h) h6
  obtain ⟨r8, rfl, l4⟩ := l3
  obtain ⟨r9, s0, rfl, l5, l6⟩ := pr_open l4
  obtain rfl := int_rel l5
  obtain ⟨b2, b3, b4, rfl, a1⟩ := rs_rel l6
  refine pl_val (.agg #[(.int .i64 x596.1), (.slice b2 b3 b4)]) (y_load rfl (l2 _ (Chg.refl _ _))) ?_
  obtain ⟨l7, a8, l8, j1, e3, j2⟩ := new_block a7 [(.int .i64 0), (.slice none 0 0)] 89
  refine pl_val (w' := l7) (pq a8 0) (y_alloc (by rw [l8, j1]; kernel_rfl)) ?_
  have hl0x1 := hl0x1.ext e3
  have hl0x3 := hl0x3.ext e3
  have hl0x4 := hl0x4.ext e3
  have hb0 := hb0.ext e3
  have a0 := a0.ext e3
  have a1 := a1.ext e3
  have h6 := at_ext h6 e3
  have hC := hC.ext e3
  have hO := hO.new1 e3 j1 j2.lt
  obtain ⟨g6, l9, e6, a2⟩ := box_store (P := Try.prog) j2 [] [(.int .i64 0), (.slice none 0 0)] [] [(.int .i64 x596.1), (.slice b2 b3 b4)] rfl rfl (by intro u hu; simp only [List.mem_cons, List.not_mem_nil, or_false] at hu; rcases hu with rfl | rfl <;> rfl)
  refine pl_skip (w' := g6) (ys_store rfl rfl (l9 _ _ rfl Sz89)) ?_
  have hl0x1 := hl0x1.mt e6 hO same_
  have hl0x3 := hl0x3.mt e6 hO same_
  have hl0x4 := hl0x4.mt e6 hO same_
  have hb0 := hb0.mut e6 (fun q hq => hO.inM q ((fun _ h => h) q hq))
  have a0 := a0.ma e6 hO same_ (fun _ e => (mem_l (e)))
  have a1 := a1.mt e6 hO same_
  have hC := hC.st e6 hO same_
  have hO := hO.ext e6
  have a2 : BoxV g6 a8 89 [(.int .i64 x596.1), (.slice b2 b3 b4)] := a2
  refine c_nil (c_seq (x_start [] Mx rfl ?_))
  have e0 := Chg.drew g6
  generalize World.drew g6 = m0 at e0 ⊢
  have hl0x1 := hl0x1.ext e0
  have hl0x3 := hl0x3.ext e0
  have hl0x4 := hl0x4.ext e0
  have hb0 := hb0.ext e0
  have a0 := a0.ext e0
  have a1 := a1.ext e0
  have a2 := a2.cn e0
  have hC := hC.ext e0
  have hO := hO.ext e0
  have hS := Chg.refl [] m0
  refine x_p 0 (pq vg0 0) rfl (by kernel_rfl)  (fun _ => y_move rfl) (fun _ => hS) (x_p 1 (pq vg0 0) rfl (by kernel_rfl)  (fun _ => y_nilc rfl) (fun _ => hS) (x_p 2 (pq vg0 3) rfl (by kernel_rfl)  (fun _ => y_faddr rfl Fa81x2) (fun _ => hS) (x_l 3 (.slice va0x3 vn0x3 vc0x3) rfl (by kernel_rfl)  (fun w' hw' => y_load rfl ((box_load Ag25 Sz25 hb0.1 [(.int .i64 b0.1), (.slice va0x1 vn0x1 vc0x1), (.int .i64 b0.2.2.1)] [(.slice va0x3 vn0x3 vc0x3)] [(.map (some vn0x4))] rfl rfl (fun _ => rfl)) w' hw')) hS (x_p 4 (.int .i64 (b0.2.2.2.1.length : Int)) rfl (by kernel_rfl)  (fun _ => y_len' Sl25 (rs_len hl0x3) rfl) (fun _ => hS) (x_p 5 (pq a8 0) rfl (by kernel_rfl)  (fun _ => y_faddr rfl Fa89x0) (fun _ => hS) (x_l 6 (.int .i64 x596.1) rfl (by kernel_rfl)  (fun w' hw' => y_load rfl ((box_load Ag3 Sz3 a2 [] [(.int .i64 x596.1)] [(.slice b2 b3 b4)] rfl rfl (fun _ => rfl)) w' hw')) hS (x_one (i := 7) (by kernel_rfl) ?_)))))))
  obtain ⟨r618, m1, hs⟩ := bind_some hs
  refine xk_call (b := false) rfl  Bd88 rfl (c_impl_power (M := c6) (b0.2.2.2.1.length : Int) x596.1  hO.fut m1) rfl (by rintro _ _ _ ⟨rfl, c8⟩; exact hS.ext c8) ?_
  rintro _ m2 ⟨rfl, c8⟩
  have hl0x1 := hl0x1.ext c8
  have hl0x3 := hl0x3.ext c8
  have hl0x4 := hl0x4.ext c8
  have hb0 := hb0.ext c8
  have a0 := a0.ext c8
  have a1 := a1.ext c8
  have a2 := a2.cn c8
  have hC := hC.ext c8
  have hO := hO.ext c8
  have hS := hS.ext c8
  refine x_one (i := 8) (by kernel_rfl) ?_
  obtain ⟨y620, m3, hs⟩ := bind_some hs
  obtain ⟨b6, b7, b8, j3, m4, m5, d3, m6, e7⟩ := mk_os (M := c6) (w := m2) (r := ri) Rw43 m3 (fun _ _ => ⟨rfl, rfl⟩)
  refine xk_val (w' := j3) (b := false) (.slice b6 b7 b8) rfl  (y_make rfl rfl m5) rfl (fun _ => hS.ext d3) ?_
  have hl0x1 := hl0x1.ext d3
  have hl0x3 := hl0x3.ext d3
  have hl0x4 := hl0x4.ext d3
  have hb0 := hb0.ext d3
  have a0 := a0.ext d3
  have a1 := a1.ext d3
  have a2 := a2.cn d3
  have hC := hC.ext d3
  have hO := hO.new d3 m6 (os_nodup e7) e7.fpl
  have hS := hS.ext d3
  refine x_p 9 (.slice b6 b7 b8) rfl (by kernel_rfl)  (fun _ => y_assign rfl) (fun _ => hS) (x_end (by kernel_rfl) ?_)
  clear hS
  refine c_sr (pl_val (pq a8 0) (y_faddr rfl Fa89x0) (pl_val (.int .i64 x596.1) (y_load rfl ((box_load Ag3 Sz3 a2 [] [(.int .i64 x596.1)] [(.slice b2 b3 b4)] rfl rfl (fun _ => rfl)) _ (Chg.refl _ _))) ?_))
  obtain ⟨y623, m7, hs⟩ := bind_some hs
  obtain ⟨d4, d5, d6, m8, s1, m9, e1, n0, h7⟩ := mk_os (M := c6) (w := j3) (r := (RT.os 3 ri)) Rw25 m7 (fun _ _ => (os_unval os_nil))
  refine pl_val (w' := m8) (.slice d4 d5 d6) (y_make rfl rfl m9) ?_
  have hl0x1 := hl0x1.ext e1
  have hl0x3 := hl0x3.ext e1
  have hl0x4 := hl0x4.ext e1
  have hb0 := hb0.ext e1
  have a0 := a0.ext e1
  have a1 := a1.ext e1
  have a2 := a2.cn e1
  have e7 := e7.ext e1
  have hC := hC.ext e1
  have hO := hO.new e1 n0 (os_nodup h7) h7.fpl
  refine ax rfl (c_nil (c_seq (c_sr (ms rfl (pl_val _ (y_len' Sl43 (os_len e7) rfl) (mi rfl (c_nil ?_)))))))
  obtain ⟨e8, n1, f1, n2, hO, n3⟩ := os_inner (Frz.os Frz.int) h7 hO
  have hl0x1 := hl0x1.sub (M' := e8) f1
  have hl0x3 := hl0x3.sub (M' := e8) f1
  have hl0x4 := hl0x4.sub (M' := e8) f1
  have hb0 := hb0.sub (M' := e8) f1
  have a0 := a0.sub (M' := e8) f1
  have a1 := a1.sub (M' := e8) f1
  have e7 := e7.sub (M' := e8) f1
  have hK := hK.trans n2
  obtain ⟨o829, n4, hs⟩ := bind_some hs
  refine wp_block (wp_forC (id := 2) (y620.length : Int) (I := fun k827 s825 a a5 => ∃ (σ : Nat → Value) (a3 : Nat → Prop) (c9 : List Nat) (f2 : List Nat), a = fr 92 (ovl σ [(0, (pq vg0 0)), (3, (.slice c0 c1 c2)), (5, (pq a8 0)), (6, (.slice b6 b7 b8)), (7, (.slice d4 d5 d6)), (16, (.slice va0x1 vn0x1 vc0x1)), (17, (.int .i64 (b0.2.1.length : Int))), (18, (.int .i64 (c5 : Int))), (35, (.int .i64 (y620.length : Int))), (36, (.int .i64 k827))]) ∧ Chg [] w a5 ∧ Own (Nw w []) a3 a5 (f2 ++ (c9 ++ (([a8]) ++ (b1 ++ [])))) ∧ Keeps w M a3 ∧ (RT.rs (RT.pr ri (RT.rs ri))).val a3 a5 (.slice va0x1 vn0x1 vc0x1) b0.2.1 ([]) ∧ (RT.rs (RT.rs ri)).val a3 a5 (.slice va0x3 vn0x3 vc0x3) b0.2.2.2.1 ([]) ∧ (RT.mr (Value.int .i64)).val a3 a5 (.map (some vn0x4)) b0.2.2.2.2 ([]) ∧ RBox a3 a5 vg0 81 [(.int .i64 b0.1), (.slice va0x1 vn0x1 vc0x1), (.int .i64 b0.2.2.1), (.slice va0x3 vn0x3 vc0x3), (.map (some vn0x4))] ∧ (RT.os 43 (RT.os 3 ri)).val a3 a5 (.slice c0 c1 c2) s593 b1 ∧ (RT.rs ri).val a3 a5 (.slice b2 b3 b4) x596.2 ([]) ∧ BoxV a5 a8 89 [(.int .i64 x596.1), (.slice b2 b3 b4)] ∧ (RT.os 3 ri).val a3 a5 (.slice b6 b7 b8) s825.1 c9 ∧ (RT.os 43 (RT.rs ri)).val a3 a5 (.slice d4 d5 d6) s825.2 f2) (J := fun s825 a a5 => ∃ (σ : Nat → Value) (c3 : Nat → Prop) (g0 : List Nat) (g7 : List Nat), a = fr 92 (ovl σ [(0, (pq vg0 0)), (3, (.slice c0 c1 c2)), (6, (.slice b6 b7 b8)), (16, (.slice va0x1 vn0x1 vc0x1)), (17, (.int .i64 (b0.2.1.length : Int))), (18, (.int .i64 (c5 : Int)))]) ∧ Chg [] w a5 ∧ Own (Nw w []) c3 a5 (g7 ++ (g0 ++ (([a8]) ++ (b1 ++ [])))) ∧ Keeps w M c3 ∧ (RT.rs (RT.pr ri (RT.rs ri))).val c3 a5 (.slice va0x1 vn0x1 vc0x1) b0.2.1 ([]) ∧ (RT.rs (RT.rs ri)).val c3 a5 (.slice va0x3 vn0x3 vc0x3) b0.2.2.2.1 ([]) ∧ (RT.mr (Value.int .i64)).val c3 a5 (.map (some vn0x4)) b0.2.2.2.2 ([]) ∧ RBox c3 a5 vg0 81 [(.int .i64 b0.1), (.slice va0x1 vn0x1 vc0x1), (.int .i64 b0.2.2.1), (.slice va0x3 vn0x3 vc0x3), (.map (some vn0x4))] ∧ (RT.os 43 (RT.os 3 ri)).val c3 a5 (.slice c0 c1 c2) s593 b1 ∧ (RT.rs ri).val c3 a5 (.slice b2 b3 b4) x596.2 ([]) ∧ BoxV a5 a8 89 [(.int .i64 x596.1), (.slice b2 b3 b4)] ∧ (RT.os 3 ri).val c3 a5 (.slice b6 b7 b8) s825.1 g0 ∧ (RT.os 43 (RT.rs ri)).val c3 a5 (.slice d4 d5 d6) s825.2 g7) (K := (k_impl_span__valueTables M w)) ?_ ?_ 0 (y620, y623) o829 _ _ ?_ n4 ?_)
  ·rintro k827 s825 a a5 ⟨σ, a3, c9, f2, rfl, hC, hO, hK, hl0x1, hl0x3, hl0x4, hb0, a0, a1, a2, a6, f3⟩ hlt
   refine c_sr (pl_val _ (y_lss rfl rfl) (c_nil (c_seq (c_condF (cb (decide_eq_false hlt)) (wp_exit ?_)))))
   have hO := hO.fr3
   have hO := hO.fr3
   have hO := hO.fr3
   have hO := hO.fr3
   exact ⟨rfl, _, a3, c9, f2, fr_ovl 92 ⟨rfl, rfl, rfl, rfl, rfl, rfl, trivial⟩, hC, hO, hK, hl0x1, hl0x3, hl0x4, hb0, a0, a1, a2, a6, f3⟩
  ·rintro k827 s825 o829 a a5 ⟨σ, a3, c9, f2, rfl, hC, hO, hK, hl0x1, hl0x3, hl0x4, hb0, a0, a1, a2, a6, f3⟩ hlt hw hs
   refine c_sr (pl_val _ (y_lss rfl rfl) (c_nil (c_seq (c_condT (cb (decide_eq_true hlt)) (wp_skip (c_seq (wp_block (c_sr (mi rfl (ai rfl (c_nil (c_seq (c_seq (x_start [] Mx rfl ?_))))))))))))))
   have d0 := Chg.drew a5
   generalize World.drew a5 = n5 at d0 ⊢
   have hl0x1 := hl0x1.ext d0
   have hl0x3 := hl0x3.ext d0
   have hl0x4 := hl0x4.ext d0
   have hb0 := hb0.ext d0
   have a0 := a0.ext d0
   have a1 := a1.ext d0
   have a2 := a2.cn d0
   have a6 := a6.ext d0
   have f3 := f3.ext d0
   have hC := hC.ext d0
   have hO := hO.ext d0
   have hS := Chg.refl [] n5
   refine x_p 0 (.int .i64 k827) rfl (by kernel_rfl)  (fun _ => y_move rfl) (fun _ => hS) (x_p 1 (pq a8 0) rfl (by kernel_rfl)  (fun _ => y_faddr rfl Fa89x0) (fun _ => hS) (x_l 2 (.int .i64 x596.1) rfl (by kernel_rfl)  (fun w' hw' => y_load rfl ((box_load Ag3 Sz3 a2 [] [(.int .i64 x596.1)] [(.slice b2 b3 b4)] rfl rfl (fun _ => rfl)) w' hw')) hS (x_p 3 (pq vg0 0) rfl (by kernel_rfl)  (fun _ => y_move rfl) (fun _ => hS) (x_p 4 (pq vg0 0) rfl (by kernel_rfl)  (fun _ => y_nilc rfl) (fun _ => hS) (x_p 5 (pq vg0 3) rfl (by kernel_rfl)  (fun _ => y_faddr rfl Fa81x2) (fun _ => hS) (x_l 6 (.slice va0x3 vn0x3 vc0x3) rfl (by kernel_rfl)  (fun w' hw' => y_load rfl ((box_load Ag25 Sz25 hb0.1 [(.int .i64 b0.1), (.slice va0x1 vn0x1 vc0x1), (.int .i64 b0.2.2.1)] [(.slice va0x3 vn0x3 vc0x3)] [(.map (some vn0x4))] rfl rfl (fun _ => rfl)) w' hw')) hS (x_p 7 (.int .i64 (b0.2.2.2.1.length : Int)) rfl (by kernel_rfl)  (fun _ => y_len' Sl25 (rs_len hl0x3) rfl) (fun _ => hS) (x_p 10 (.int .i64 0) rfl (by kernel_rfl)  (fun _ => y_move rfl) (fun _ => hS) (x_one (i := 8) (by kernel_rfl) ?_)))))))))
   obtain ⟨r843, n6, hs⟩ := bind_some hs
   refine xk_call (b := false) rfl  Bd89 rfl (c_impl_argsAt (M := a3) k827 x596.1 (b0.2.2.2.1.length : Int)  hO.fut n6) rfl (by rintro _ _ _ ⟨g8, g9, h0, f4, rfl, c4, a9, j4⟩; exact hS.ext c4) ?_
   rintro _ s2 ⟨g8, g9, h0, f4, rfl, c4, a9, j4⟩
   have hl0x1 := hl0x1.ext c4
   have hl0x3 := hl0x3.ext c4
   have hl0x4 := hl0x4.ext c4
   have hb0 := hb0.ext c4
   have a0 := a0.ext c4
   have a1 := a1.ext c4
   have a2 := a2.cn c4
   have a6 := a6.ext c4
   have f3 := f3.ext c4
   have hC := hC.ext c4
   have hO := Own.join0 hO c4 j4
   have hO := hO.perm (R := f4 ++ (f2 ++ (c9 ++ (([a8]) ++ (b1 ++ ([])))))) (by simp)
   have hS := hS.ext c4
   refine x_p 9 (.int .i64 (r843.length : Int)) rfl (by kernel_rfl)  (fun _ => y_len' Sl43 (os_len a9) rfl) (fun _ => hS) (x_end (by kernel_rfl) ?_)
   clear hS
   obtain ⟨o868, n7, hs⟩ := bind_some hs
   refine wp_block (wp_forC (id := 4) (r843.length : Int) (I := fun k866 s864 a a4 => ∃ (σ : Nat → Value) (g1 : List Nat), a = fr 92 (ovl σ [(0, (pq vg0 0)), (3, (.slice c0 c1 c2)), (5, (pq a8 0)), (6, (.slice b6 b7 b8)), (7, (.slice d4 d5 d6)), (8, (.int .i64 k827)), (16, (.slice va0x1 vn0x1 vc0x1)), (17, (.int .i64 (b0.2.1.length : Int))), (18, (.int .i64 (c5 : Int))), (35, (.int .i64 (y620.length : Int))), (36, (.int .i64 k827)), (47, (.slice g8 g9 h0)), (48, (.int .i64 (r843.length : Int))), (49, (.int .i64 k866))]) ∧ Chg [] w a4 ∧ Own (Nw w []) a3 a4 (f4 ++ (g1 ++ (c9 ++ (([a8]) ++ (b1 ++ []))))) ∧ (RT.rs (RT.pr ri (RT.rs ri))).val a3 a4 (.slice va0x1 vn0x1 vc0x1) b0.2.1 ([]) ∧ (RT.rs (RT.rs ri)).val a3 a4 (.slice va0x3 vn0x3 vc0x3) b0.2.2.2.1 ([]) ∧ (RT.mr (Value.int .i64)).val a3 a4 (.map (some vn0x4)) b0.2.2.2.2 ([]) ∧ RBox a3 a4 vg0 81 [(.int .i64 b0.1), (.slice va0x1 vn0x1 vc0x1), (.int .i64 b0.2.2.1), (.slice va0x3 vn0x3 vc0x3), (.map (some vn0x4))] ∧ (RT.os 43 (RT.os 3 ri)).val a3 a4 (.slice c0 c1 c2) s593 b1 ∧ (RT.rs ri).val a3 a4 (.slice b2 b3 b4) x596.2 ([]) ∧ BoxV a4 a8 89 [(.int .i64 x596.1), (.slice b2 b3 b4)] ∧ (RT.os 3 ri).val a3 a4 (.slice b6 b7 b8) s825.1 c9 ∧ (RT.os 43 (RT.rs ri)).val a3 a4 (.slice d4 d5 d6) s864 g1 ∧ (RT.os 3 ri).val a3 a4 (.slice g8 g9 h0) r843 f4) (J := fun s864 a a4 => ∃ (σ : Nat → Value) (g2 : List Nat), a = fr 92 (ovl σ [(0, (pq vg0 0)), (3, (.slice c0 c1 c2)), (5, (pq a8 0)), (6, (.slice b6 b7 b8)), (7, (.slice d4 d5 d6)), (8, (.int .i64 k827)), (16, (.slice va0x1 vn0x1 vc0x1)), (17, (.int .i64 (b0.2.1.length : Int))), (18, (.int .i64 (c5 : Int))), (35, (.int .i64 (y620.length : Int))), (36, (.int .i64 k827))]) ∧ Chg [] w a4 ∧ Own (Nw w []) a3 a4 (f4 ++ (g2 ++ (c9 ++ (([a8]) ++ (b1 ++ []))))) ∧ (RT.rs (RT.pr ri (RT.rs ri))).val a3 a4 (.slice va0x1 vn0x1 vc0x1) b0.2.1 ([]) ∧ (RT.rs (RT.rs ri)).val a3 a4 (.slice va0x3 vn0x3 vc0x3) b0.2.2.2.1 ([]) ∧ (RT.mr (Value.int .i64)).val a3 a4 (.map (some vn0x4)) b0.2.2.2.2 ([]) ∧ RBox a3 a4 vg0 81 [(.int .i64 b0.1), (.slice va0x1 vn0x1 vc0x1), (.int .i64 b0.2.2.1), (.slice va0x3 vn0x3 vc0x3), (.map (some vn0x4))] ∧ (RT.os 43 (RT.os 3 ri)).val a3 a4 (.slice c0 c1 c2) s593 b1 ∧ (RT.rs ri).val a3 a4 (.slice b2 b3 b4) x596.2 ([]) ∧ BoxV a4 a8 89 [(.int .i64 x596.1), (.slice b2 b3 b4)] ∧ (RT.os 3 ri).val a3 a4 (.slice b6 b7 b8) s825.1 c9 ∧ (RT.os 43 (RT.rs ri)).val a3 a4 (.slice d4 d5 d6) s864 g2 ∧ (RT.os 3 ri).val a3 a4 (.slice g8 g9 h0) r843 f4) (K := (k_impl_span__valueTables M w)) ?_ ?_ 0 s825.2 o868 _ _ ?_ n7 ?_)
   ·rintro k866 s864 a a4 ⟨σ, g1, rfl, hC, hO, hl0x1, hl0x3, hl0x4, hb0, a0, a1, a2, a6, g3, a9⟩ hlt
    refine c_sr (pl_val _ (y_lss rfl rfl) (c_nil (c_seq (c_condF (cb (decide_eq_false hlt)) (wp_exit ?_)))))
    have hO := hO.fr4
    have hO := hO.fr4
    have hO := hO.fr4
    have hO := hO.fr4
    have hO := hO.fr4
    exact ⟨rfl, _, g1, fr_ovl 92 ⟨rfl, rfl, rfl, rfl, rfl, rfl, rfl, rfl, rfl, rfl, rfl, trivial⟩, hC, hO, hl0x1, hl0x3, hl0x4, hb0, a0, a1, a2, a6, g3, a9⟩
   ·rintro k866 s864 o868 a a4 ⟨σ, g1, rfl, hC, hO, hl0x1, hl0x3, hl0x4, hb0, a0, a1, a2, a6, g3, a9⟩ hlt hw hs
    refine c_sr (pl_val _ (y_lss rfl rfl) (c_nil (c_seq (c_condT (cb (decide_eq_true hlt)) (wp_skip (c_seq (wp_block (c_sr (mi rfl ?_)))))))))
    obtain ⟨x872, n8, hs⟩ := bind_some hs
    obtain ⟨n9, s3, s4, s5, o0, o1, s6⟩ := os_idx Sl43 Sz3 a9 n8
    refine pl_val _ (o0 _ _ _ _ _ _ _ _ _ rfl rfl) (pl_val (.int .i64 x872) (y_load rfl ((at_load_int Ag3 Sz3 o1) _ (Chg.refl _ _))) (ai rfl (ai rfl (c_nil (c_region (ms rfl (mi rfl (mp rfl (pl_val _ (y_nilc rfl) (pl_val (pq vg0 3) (y_faddr rfl Fa81x2) (pl_val (.slice va0x3 vn0x3 vc0x3) (y_load rfl ((box_load Ag25 Sz25 hb0.1 [(.int .i64 b0.1), (.slice va0x1 vn0x1 vc0x1), (.int .i64 b0.2.2.1)] [(.slice va0x3 vn0x3 vc0x3)] [(.map (some vn0x4))] rfl rfl (fun _ => rfl)) _ (Chg.refl _ _))) (mi rfl ?_))))))))))))
    obtain ⟨x874, o2, hs⟩ := bind_some hs
    obtain ⟨o3, o4, o5, o6⟩ := rs_idx Sl25 Sz43 hl0x3 o2
    refine pl_val _ (o5 _ _ _ _ _ _ _ _ _ rfl rfl) ?_
    obtain ⟨s7, o7, h1⟩ := at_load Ag43 Sz43 (fun _ => rfl) o6
    obtain ⟨j5, j6, j7, rfl⟩ := rs_sl h1
    refine pl_val (.slice j5 j6 j7) (y_load rfl (o7 _ (Chg.refl _ _))) ?_
    obtain ⟨x878, o8, hs⟩ := bind_some hs
    obtain ⟨j8, s8, j9, o9, p0, p1, s9⟩ := os_idx Sl25 Sz43 g3 o8
    have t0 := rd_row Rd.rs p1
    refine pl_val _ (p0 _ _ _ _ _ _ _ _ _ rfl rfl) ?_
    have hO := hO.fr1
    obtain ⟨p2, p3, p4, d1, p5, h8⟩ := os_store (P := Try.prog) (c' := [(.slice j5 j6 j7)]) j9 g3 o9 (fun g hg => hO.inM g (os_block g3 g (by simpa using hg))) (rs_unval h1) List.nodup_nil (fun _ h => nomatch h) (fun _ h => .inl h)
    have d7 : ∀ q ∈ [j8], q ∈ g1 := fun q hq => os_block g3 q (by rw [j9]; exact hq)
    refine pl_skip (w' := p2) (ys_store rfl rfl (p4 _ _ rfl Sz43)) ?_
    have hl0x1 := hl0x1.mt d1 hO d7
    have hl0x3 := hl0x3.mt d1 hO d7
    have hl0x4 := hl0x4.mt d1 hO d7
    have hb0 := hb0.mut d1 (fun q hq => hO.inM q (d7 q hq))
    have a0 := a0.ma d1 hO d7 (fun _ e => (mem_r (mem_r (mem_r (mem_l (e))))))
    have a1 := a1.mt d1 hO d7
    have a2 := a2.ap d1 hO d7 (mem_r (mem_r (mem_l (List.mem_singleton.2 rfl))))
    have a6 := a6.ma d1 hO d7 (fun _ e => (mem_r (mem_l (e))))
    have a9 := a9.ma d1 hO d7 (fun _ e => (mem_l (e)))
    have h1 := h1.mt d1 hO d7
    have hC := hC.st d1 hO d7
    have hO := hO.grow d1 (fun q hq => .inl ((p5 q hq).resolve_right (fun h => nomatch h))) (os_nodup h8) h8.fpl
    refine c_nil (c_region (pl_val (.int .i64 (w64 (k866 + 1))) (y_add rfl rfl) (mi rfl (c_nil ?_))))
    cases hs
    have hO := hO.fr4
    have hO := hO.fr4
    have hO := hO.fr4
    have hO := hO.fr3
    have hO := hO.fr4
    exact ⟨_, p3, fr_ovl 92 ⟨rfl, rfl, rfl, rfl, rfl, rfl, rfl, rfl, rfl, rfl, rfl, rfl, rfl, congrArg (Value.int .i64) hw, trivial⟩, hC, hO, hl0x1, hl0x3, hl0x4, hb0, a0, a1, a2, a6, h8, a9⟩
   ·skip
    have hO := hO.fr4
    have hO := hO.fr4
    have hO := hO.fr4
    have hO := hO.fr4
    have hO := hO.fr4
    exact ⟨_, f2, fr_ovl 92 ⟨rfl, rfl, rfl, rfl, rfl, rfl, rfl, rfl, rfl, rfl, rfl, rfl, rfl, rfl, trivial⟩, hC, hO, hl0x1, hl0x3, hl0x4, hb0, a0, a1, a2, a6, f3, a9⟩
   cases o868 with
   | nx _ => exact True.intro
   | rt r_ =>
    have hs := after_rt hs
    intro g4 h4 hK
    cases hs
    exact hK
   | br s864 =>
    have hs := after_br hs
    rintro g4 a4 ⟨σ, g2, rfl, hC, hO, hl0x1, hl0x3, hl0x4, hb0, a0, a1, a2, a6, e2, a9⟩
    refine x_start [20] Mx rfl ?_
    have c7 := Chg.drew a4
    generalize World.drew a4 = p6 at c7 ⊢
    have hl0x1 := hl0x1.ext c7
    have hl0x3 := hl0x3.ext c7
    have hl0x4 := hl0x4.ext c7
    have hb0 := hb0.ext c7
    have a0 := a0.ext c7
    have a1 := a1.ext c7
    have a2 := a2.cn c7
    have a6 := a6.ext c7
    have e2 := e2.ext c7
    have a9 := a9.ext c7
    have hC := hC.ext c7
    have hO := hO.ext c7
    have hS := Chg.refl [] p6
    refine x_p 0 (.slice b6 b7 b8) rfl (by kernel_rfl)  (fun _ => y_move rfl) (fun _ => hS) (x_p 1 (.int .i64 k827) rfl (by kernel_rfl)  (fun _ => y_move rfl) (fun _ => hS) (x_p 2 (pq vg0 0) rfl (by kernel_rfl)  (fun _ => y_move rfl) (fun _ => hS) (x_p 3 (pq vg0 0) rfl (by kernel_rfl)  (fun _ => y_nilc rfl) (fun _ => hS) (x_p 4 (pq vg0 4) rfl (by kernel_rfl)  (fun _ => y_faddr rfl Fa81x3) (fun _ => hS) (x_l 5 (.map (some vn0x4)) rfl (by kernel_rfl)  (fun w' hw' => y_load rfl ((box_load Ag79 Sz79 hb0.1 [(.int .i64 b0.1), (.slice va0x1 vn0x1 vc0x1), (.int .i64 b0.2.2.1), (.slice va0x3 vn0x3 vc0x3)] [(.map (some vn0x4))] [] rfl rfl (fun _ => rfl)) w' hw')) hS (x_p 6 (pq vg0 0) rfl (by kernel_rfl)  (fun _ => y_move rfl) (fun _ => hS) (x_p 7 (pq vg0 0) rfl (by kernel_rfl)  (fun _ => y_nilc rfl) (fun _ => hS) (x_p 8 (pq vg0 0) rfl (by kernel_rfl)  (fun _ => y_faddr rfl Fa81x0) (fun _ => hS) (x_l 9 (.agg #[(.int .i64 b0.1), (.slice va0x1 vn0x1 vc0x1)]) rfl (by kernel_rfl)  (fun w' hw' => y_load rfl ((box_load Ag35 Sz35 hb0.1 [] [(.int .i64 b0.1), (.slice va0x1 vn0x1 vc0x1)] [(.int .i64 b0.2.2.1), (.slice va0x3 vn0x3 vc0x3), (.map (some vn0x4))] rfl rfl (fun h => nomatch h)) w' hw')) hS (x_l 10 (.agg #[(.int .i64 x596.1), (.slice b2 b3 b4)]) rfl (by kernel_rfl)  (fun w' hw' => y_load rfl ((box_load Ag89 Sz89 a2 [] [(.int .i64 x596.1), (.slice b2 b3 b4)] [] rfl rfl (fun h => nomatch h)) w' hw')) hS (x_p 11 (pq vg0 0) rfl (by kernel_rfl)  (fun _ => y_move rfl) (fun _ => hS) (x_p 12 (pq vg0 0) rfl (by kernel_rfl)  (fun _ => y_nilc rfl) (fun _ => hS) (x_p 13 (pq vg0 2) rfl (by kernel_rfl)  (fun _ => y_faddr rfl Fa81x1) (fun _ => hS) (x_l 14 (.int .i64 b0.2.2.1) rfl (by kernel_rfl)  (fun w' hw' => y_load rfl ((box_load Ag3 Sz3 hb0.1 [(.int .i64 b0.1), (.slice va0x1 vn0x1 vc0x1)] [(.int .i64 b0.2.2.1)] [(.slice va0x3 vn0x3 vc0x3), (.map (some vn0x4))] rfl rfl (fun _ => rfl)) w' hw')) hS (x_p 15 (.slice d4 d5 d6) rfl (by kernel_rfl)  (fun _ => y_move rfl) (fun _ => hS) (x_one (i := 16) (by kernel_rfl) ?_))))))))))))))))
    have hO := hO.fr1
    obtain ⟨r883, p7, hs⟩ := bind_some hs
    refine xk_call (b := false) rfl  Bd112 rfl (c_impl_applyTuples (M := (Less a3 g2)) (b0.1, b0.2.1) (x596.1, x596.2) b0.2.2.1 s864 (hl0x1.sub Less.sub) (a1.sub Less.sub) (((Frz.os (Frz.rs Frz.int))).val e2 Less.sub Less.not) hO.less.fut p7) rfl (by rintro _ _ _ ⟨p8, p9, q0, h9, rfl, b9, e9, k0⟩; exact hS.ext b9) ?_
    rintro _ t1 ⟨p8, p9, q0, h9, rfl, b9, e9, k0⟩
    have hl0x1 := hl0x1.ext b9
    have hl0x3 := hl0x3.ext b9
    have hl0x4 := hl0x4.ext b9
    have hb0 := hb0.ext b9
    have a0 := a0.ext b9
    have a1 := a1.ext b9
    have a2 := a2.cn b9
    have a6 := a6.ext b9
    have e2 := e2.ext b9
    have a9 := a9.ext b9
    have hC := hC.ext b9
    have hO := Own.join0 hO b9 k0
    have hO := hO.perm (R := h9 ++ (g2 ++ (f4 ++ (c9 ++ (([a8]) ++ (b1 ++ ([]))))))) (by simp)
    have e9 := e9.free (M' := a3) (Free.os Free.int)
    have hS := hS.ext b9
    refine x_one (i := 17) (by kernel_rfl) ?_
    obtain ⟨r886, q1, hs⟩ := bind_some hs
    refine xk_call (b := false) rfl  Bd59 rfl (c_impl_keyOf (M := (Less a3 h9)) r883 (((Frz.os Frz.int)).val e9 Less.sub Less.not) hO.less.fut q1) rfl (by rintro _ _ _ ⟨rfl, b5⟩; exact hS.ext b5) ?_
    rintro _ t2 ⟨rfl, b5⟩
    have hl0x1 := hl0x1.ext b5
    have hl0x3 := hl0x3.ext b5
    have hl0x4 := hl0x4.ext b5
    have hb0 := hb0.ext b5
    have a0 := a0.ext b5
    have a1 := a1.ext b5
    have a2 := a2.cn b5
    have a6 := a6.ext b5
    have e2 := e2.ext b5
    have a9 := a9.ext b5
    have e9 := e9.ext b5
    have hC := hC.ext b5
    have hO := hO.ext b5
    have hS := hS.ext b5
    refine x_one (i := 18) (by kernel_rfl) (xk_val (b := false) (.int .i64 ((mget b0.2.2.2.2 r886).getD 0)) rfl  (y_look (enc := (Value.int .i64)) Try.underlying79 Try.underlying9 Zv3 (mr_at hl0x4) rfl rfl) rfl (fun _ => hS) ?_)
    obtain ⟨x887, q2, hs⟩ := bind_some hs
    obtain ⟨k1, t3, k2, q3, q4, t4, t5⟩ := os_idx Sl43 Sz3 a6 q2
    refine x_p 19 (.pointer (some ⟨k1, 0 + Int.toNat k827 * 1, none⟩)) rfl (by kernel_rfl)  (fun _ => q4 _ _ _ _ _ _ _ _ _ rfl rfl) (fun _ => hS) (x_one (i := 20) (by kernel_rfl) ?_)
    have hO := hO.fr3
    obtain ⟨q5, q6, q7, d2, q8, i0⟩ := os_store (P := Try.prog) (c' := [(.int .i64 ((mget b0.2.2.2.2 r886).getD 0))]) k2 a6 q3 (fun g hg => hO.inM g (os_block a6 g (by simpa using hg))) ⟨rfl, rfl⟩ List.nodup_nil (fun _ h => nomatch h) (fun _ h => .inl h)
    have d8 : ∀ q ∈ [k1], q ∈ c9 := fun q hq => os_block a6 q (by rw [k2]; exact hq)
    refine xk_skip (w' := q5) (b := true) rfl (ys_store rfl rfl (q7 _ _ rfl Sz3)) rfl (fun h => nomatch h) ?_
    have hl0x1 := hl0x1.mt d2 hO d8
    have hl0x3 := hl0x3.mt d2 hO d8
    have hl0x4 := hl0x4.mt d2 hO d8
    have hb0 := hb0.mut d2 (fun q hq => hO.inM q (d8 q hq))
    have a0 := a0.ma d2 hO d8 (fun _ e => (mem_r (mem_r (mem_r (mem_r (mem_l (e)))))))
    have a1 := a1.mt d2 hO d8
    have a2 := a2.ap d2 hO d8 (mem_r (mem_r (mem_r (mem_l (List.mem_singleton.2 rfl)))))
    have e2 := e2.ma d2 hO d8 (fun _ e => (mem_r (mem_l (e))))
    have a9 := a9.ma d2 hO d8 (fun _ e => (mem_r (mem_r (mem_l (e)))))
    have e9 := e9.ma d2 hO d8 (fun _ e => (mem_l (e)))
    have hC := hC.st d2 hO d8
    have hO := hO.grow d2 (fun q hq => .inl ((q8 q hq).resolve_right (fun h => nomatch h))) (os_nodup i0) i0.fpl
    refine x_end (by kernel_rfl) ?_
    clear hS
    refine c_region (pl_val (.int .i64 (w64 (k827 + 1))) (y_add rfl rfl) (mi rfl (c_nil ?_)))
    cases hs
    have hO := hO.fr1
    have hO := hO.drop
    have hO := hO.fr2
    have hO := hO.drop
    have hO := hO.fr3
    have hO := hO.fr3
    have hO := hO.fr2
    have hO := hO.fr3
    exact ⟨_, a3, q6, g2, fr_ovl 92 ⟨rfl, rfl, rfl, rfl, rfl, rfl, rfl, rfl, rfl, congrArg (Value.int .i64) hw, trivial⟩, hC, hO, hK, hl0x1, hl0x3, hl0x4, hb0, a0, a1, a2, i0, e2⟩
  ·skip
   have hO := hO.fr3
   have hO := hO.fr3
   have hO := hO.fr3
   have hO := hO.fr3
   exact ⟨_, e8, m4, n1, fr_ovl 92 ⟨rfl, rfl, rfl, rfl, rfl, rfl, rfl, rfl, rfl, rfl, trivial⟩, hC, hO, hK, hl0x1, hl0x3, hl0x4, hb0, a0, a1, a2, e7, n3⟩
  cases o829 with
  | nx _ => exact True.intro
  | rt r_ =>
   have hs := after_rt hs
   intro g4 h4 hK
   cases hs
   exact hK
  | br s825 =>
   have hs := after_br hs
   rintro g4 a5 ⟨σ, c3, g0, g7, rfl, hC, hO, hK, hl0x1, hl0x3, hl0x4, hb0, a0, a1, a2, i1, h2⟩
   refine c_region (ms rfl (ms rfl ?_))
   obtain ⟨k3, h3, q9, k4, d9, k5⟩ := new_block a5 [(.slice b6 b7 b8)] 43
   refine pl_val (w' := k3) (.slice (some ⟨h3, 0, none⟩) 1 1) (y_bslice rfl (by rw [q9, k4]; kernel_rfl)) ?_
   have hl0x1 := hl0x1.ext d9
   have hl0x3 := hl0x3.ext d9
   have hl0x4 := hl0x4.ext d9
   have hb0 := hb0.ext d9
   have a0 := a0.ext d9
   have a1 := a1.ext d9
   have a2 := a2.cn d9
   have i1 := i1.ext d9
   have h2 := h2.ext d9
   have hC := hC.ext d9
   have hO := hO.fr1
   have hO := hO.new1 d9 k4 k5.lt
   have hO := hO.perm (R := (h3 :: ((g0) ++ ([]))) ++ (g7 ++ (([a8]) ++ (b1 ++ ([]))))) (by simp)
   have r0 := hO.nd
   have i2 := os_of_box (r := (RT.os 3 ri)) (M := c3) (css := [[(.slice b6 b7 b8)]]) (fps := [(g0 : List Nat)]) (xs := ([s825.1] : List (List Int))) k5 ⟨(os_unval i1), trivial⟩ (Nat.le_of_ble_eq_true rfl) r0
   have i2 : (RT.os 43 (RT.os 3 ri)).val c3 k3 (.slice (some ⟨h3, 0, none⟩) 1 1) [s825.1] (h3 :: ((g0) ++ ([]))) := i2
   obtain ⟨y893, r1, hs⟩ := bind_some hs
   have hO := hO.fr3
   obtain ⟨i3, i4, i5, r2, r3, r4, e4, r5, i6⟩ := app_os Rw25 r1 a0 i2 hO.inM (fun g hg hq => hO.apart g hq (mem_l hg))
   have f0 := os_block a0
   refine pl_val (w' := r2) (.slice i3 i4 i5) (y_append rfl rfl (r4 _)) ?_
   have hO := hO.fr1
   have hO := hO.fr1
   have hl0x1 := hl0x1.mt e4 hO f0
   have hl0x3 := hl0x3.mt e4 hO f0
   have hl0x4 := hl0x4.mt e4 hO f0
   have hb0 := hb0.mut e4 (fun q hq => hO.inM q (f0 q hq))
   have a1 := a1.mt e4 hO f0
   have a2 := a2.ap e4 hO f0 (mem_r (mem_r (mem_l (List.mem_singleton.2 rfl))))
   have h2 := h2.ma e4 hO f0 (fun _ e => (mem_r (mem_l (e))))
   have hC := hC.st e4 hO f0
   have hO := hO.eat e4 r5 (os_nodup i6) i6.fpl
   refine ax rfl (c_nil (c_region (pl_val (.int .i64 (w64 ((c5 : Int) + 1))) (y_add rfl rfl) (mi rfl (c_nil ?_)))))
   cases hs
   have hO := hO.fr1
   have hO := hO.drop
   have hO := hO.fr1
   have hO := hO.drop
   exact ⟨_, rfl, drop_cons_next hd, _, c3, i3, i4, i5, r3, fr_ovl 92 ⟨rfl, rfl, rfl, rfl, congrArg (Value.int .i64) (w64_succ hlt (Int.natCast_nonneg _) (rs_max hl0x1)), trivial⟩, hC, hO, hK, hl0x1, hl0x3, hl0x4, hb0, i6⟩
 ·skip
  exact ⟨0, rfl, rfl, _, M, (some ⟨f5, 0, none⟩), 0, 0, ([f5]), fr_ovl 92 ⟨rfl, rfl, rfl, rfl, rfl, trivial⟩, hC, hO, Keeps.refl, hl0x1, hl0x3, hl0x4, hb0, h5⟩
 cases o597 with
 | nx _ => exact True.intro
 | rt r_ =>
  have hs := after_rt hs
  intro g4 h4 hK
  cases hs
  exact hK
 | br s593 =>
  have hs := after_br hs
  rintro g4 a7 ⟨σ, e5, f7, f8, f9, g5, rfl, hC, hO, hK, hl0x1, hl0x3, hl0x4, hb0, r6⟩
  refine c_sr (ms rfl (ax rfl (c_nil (wp_ret ?_))))
  cases hs
  exact ⟨_, f7, f8, f9, g5, fr_ovl 92 ⟨rfl, trivial⟩, hC, (r6.free (Free.os (Free.os Free.int))), hO.top⟩

def k_impl_compareLists (M : Nat → Prop) (w0 : World) (r : Int) (a : Act) (w : World) : Prop :=
  ∃ (σ : Nat → Value) , a = fr 48 (ovl σ [(4, (.int .i64 r))]) ∧ Chg [] w0 w
def s_impl_compareLists (s_ : List Int) (t : List Int) : Option (Int) :=
  (iter (S := Int) (R := Int) (fun s25 =>
  (bif ((decide (s25 < (s_.length : Int))) && (decide (s25 < (t.length : Int)))) then (idx s_ s25).bind fun x42 =>
  (idx t s25).bind fun x44 =>
  (bif (x42 != x44) then (idx s_ s25).bind fun x48 =>
  (idx t s25).bind fun x50 =>
  (bif (decide (x48 < x50)) then some (.rt (-1)) else some (.rt 1)) else some (.nx (w64 (s25 + 1)))) else some (.br s25))) FU 0).bind fun o29 => after o29 (fun r_ => some r_) (fun s25 =>
  (bif (decide ((s_.length : Int) < (t.length : Int))) then some (-1) else (bif (decide ((t.length : Int) < (s_.length : Int))) then some 1 else some 0)))
set_option maxHeartbeats 4000000 in
theorem c_impl_compareLists {M : Nat → Prop} {w : World} {pa0 : Option Addr} {pn0 pc0 : Nat} {pa1 : Option Addr} {pn1 pc1 : Nat} (s_ : List Int) (t : List Int) (h0 : (RT.rs ri).val M w (.slice pa0 pn0 pc0) s_ ([])) (h1 : (RT.rs ri).val M w (.slice pa1 pn1 pc1) t ([])) (hM : ∀ g, w.heap.size ≤ g → M g) {r : Int} (hs : s_impl_compareLists s_ t = some r) :
    Gives Try.prog 78 [(.slice pa0 pn0 pc0), (.slice pa1 pn1 pc1)] w (fun v w' => v = (.int .i64 r) ∧ Chg [] w w') := by
 refine calls_fr Try.func78 rfl Try.ntmps78 (Nat.le_of_ble_eq_true rfl) ?_
 have hO := Own.start (N := Nw w []) hM Nw.fut
 have hC := Chg.refl [] w
 unfold s_impl_compareLists at hs
 refine wp_mono (Q := KPost (k_impl_compareLists M w r)) ?_ (fun e a b5 h => ?_)
 rotate_left
 ·cases e
  case ret =>
   obtain ⟨σ, rfl, hrest⟩ := h
   exact ret1x Try.results78 (res_tmp rfl) ⟨rfl, hrest⟩
  all_goals exact (h : False).elim
 refine c_sr (ai rfl (c_nil (c_seq (c_sr (ai rfl (c_nil ?_))))))
 obtain ⟨o29, b6, hs⟩ := bind_some hs
 refine wp_block (wp_iter (id := 0) (I := fun s25 a a0 => ∃ (σ : Nat → Value), a = fr 48 (ovl σ [(0, (.slice pa0 pn0 pc0)), (1, (.slice pa1 pn1 pc1)), (5, (.int .i64 s25))]) ∧ Chg [] w a0 ∧ Own (Nw w []) M a0 ([]) ∧ (RT.rs ri).val M a0 (.slice pa0 pn0 pc0) s_ ([]) ∧ (RT.rs ri).val M a0 (.slice pa1 pn1 pc1) t ([])) (J := fun s25 a a0 => ∃ (σ : Nat → Value), a = fr 48 (ovl σ [(0, (.slice pa0 pn0 pc0)), (1, (.slice pa1 pn1 pc1))]) ∧ Chg [] w a0 ∧ Own (Nw w []) M a0 ([]) ∧ (RT.rs ri).val M a0 (.slice pa0 pn0 pc0) s_ ([]) ∧ (RT.rs ri).val M a0 (.slice pa1 pn1 pc1) t ([])) (K := (k_impl_compareLists M w)) ?_ FU 0 o29 _ _ ?_ b6 ?_)
 ·rintro s25 o29 a a0 ⟨σ, rfl, hC, hO, h0, h1⟩ hs
  refine c_seq (c_seq (c_mid (I := fun a a4 => ∃ (σ : Nat → Value), a = fr 48 (ovl σ [(0, (.slice pa0 pn0 pc0)), (1, (.slice pa1 pn1 pc1)), (5, (.int .i64 s25)), (15, (.bool ((decide (s25 < (s_.length : Int))) && (decide (s25 < (t.length : Int))))))]) ∧ Chg [] a0 a4) ?_ ?_))
  ·have hMid := Chg.refl [] a0
   refine c_region (mi rfl (ms rfl (pl_val _ (y_len' Sl43 (rs_len h0) rfl) (pl_val _ (y_lss rfl rfl) (mb rfl ?_)))))
   rcases Bool.eq_false_or_eq_true ((decide (s25 < (s_.length : Int)))) with a1 | a1
   ·skip
    refine pl_yes (.int .i64 s25) (tg := 10) (by kernel_rfl) (cb a1) (y_move rfl) (pl_yes (.slice pa1 pn1 pc1) (tg := 10) (by kernel_rfl) (cb a1) (y_move rfl) (pl_yes (.int .i64 (t.length : Int)) (tg := 10) (by kernel_rfl) (cb a1) (y_len' Sl43 (rs_len h1) rfl) (pl_yes (.bool (decide (s25 < (t.length : Int)))) (tg := 10) (by kernel_rfl) (cb a1) (y_lss rfl rfl) (pl_val (.bool ((decide (s25 < (s_.length : Int))) && (decide (s25 < (t.length : Int))))) (y_pick_t (cb a1) (cb (by rw [a1]; rfl))) (c_nil ?_)))))
    exact ⟨_, fr_ovl 48 ⟨rfl, rfl, rfl, rfl, trivial⟩, hMid⟩
   refine pl_not (tg := 10) (by kernel_rfl) (cb a1) (pl_not (tg := 10) (by kernel_rfl) (cb a1) (pl_not (tg := 10) (by kernel_rfl) (cb a1) (pl_not (tg := 10) (by kernel_rfl) (cb a1) (pl_val (.bool ((decide (s25 < (s_.length : Int))) && (decide (s25 < (t.length : Int))))) (y_pick_f (cb a1) (cb (by rw [a1]; rfl))) (c_nil ?_)))))
   exact ⟨_, fr_ovl 48 ⟨rfl, rfl, rfl, rfl, trivial⟩, hMid⟩
  rintro b4 a4 ⟨σ, rfl, a5⟩
  have h0 := h0.ext a5
  have h1 := h1.ext a5
  have hC := hC.ext a5
  have hO := hO.ext a5
  rcases bif_some hs with ⟨a6, hs⟩ | ⟨a6, hs⟩
  ·refine c_condT (cb a6) (wp_skip (c_seq (wp_block (c_seq (x_start [] Mx rfl ?_)))))
   have a3 := Chg.drew a4
   generalize World.drew a4 = a7 at a3 ⊢
   have h0 := h0.ext a3
   have h1 := h1.ext a3
   have hC := hC.ext a3
   have hO := hO.ext a3
   have hS := Chg.refl [] a7
   refine x_p 0 (.slice pa0 pn0 pc0) rfl (by kernel_rfl)  (fun _ => y_move rfl) (fun _ => hS) (x_p 1 (.int .i64 s25) rfl (by kernel_rfl)  (fun _ => y_move rfl) (fun _ => hS) ?_)
   obtain ⟨x42, b7, hs⟩ := bind_some hs
   obtain ⟨b8, b9, c0, a8⟩ := rs_idx Sl43 Sz3 h0 b7
   refine x_p 2 (pq b8 b9) rfl (by kernel_rfl)  (fun _ => c0 _ _ _ _ _ _ _ _ _ rfl rfl) (fun _ => hS) (x_l 3 (.int .i64 x42) rfl (by kernel_rfl)  (fun w' hw' => y_load rfl ((at_load_int Ag3 Sz3 a8) w' hw')) hS (x_p 4 (.slice pa1 pn1 pc1) rfl (by kernel_rfl)  (fun _ => y_move rfl) (fun _ => hS) (x_p 5 (.int .i64 s25) rfl (by kernel_rfl)  (fun _ => y_move rfl) (fun _ => hS) ?_)))
   obtain ⟨x44, c1, hs⟩ := bind_some hs
   obtain ⟨c2, c3, c4, a9⟩ := rs_idx Sl43 Sz3 h1 c1
   refine x_p 6 (pq c2 c3) rfl (by kernel_rfl)  (fun _ => c4 _ _ _ _ _ _ _ _ _ rfl rfl) (fun _ => hS) (x_l 7 (.int .i64 x44) rfl (by kernel_rfl)  (fun w' hw' => y_load rfl ((at_load_int Ag3 Sz3 a9) w' hw')) hS (x_p 8 (.bool (x42 != x44)) rfl (by kernel_rfl)  (fun _ => y_neq rfl rfl) (fun _ => hS) (x_end (by kernel_rfl) ?_)))
   clear hS
   rcases bif_some hs with ⟨b0, hs⟩ | ⟨b0, hs⟩
   ·refine c_condT (cb b0) (c_seq (c_seq (x_start [] Mx rfl ?_)))
    have a2 := Chg.drew a7
    generalize World.drew a7 = c5 at a2 ⊢
    have h0 := h0.ext a2
    have h1 := h1.ext a2
    have a8 := at_ext a8 a2
    have a9 := at_ext a9 a2
    have hC := hC.ext a2
    have hO := hO.ext a2
    have hS := Chg.refl [] c5
    refine x_p 0 (.slice pa0 pn0 pc0) rfl (by kernel_rfl)  (fun _ => y_move rfl) (fun _ => hS) (x_p 1 (.int .i64 s25) rfl (by kernel_rfl)  (fun _ => y_move rfl) (fun _ => hS) ?_)
    obtain ⟨x48, c6, hs⟩ := bind_some hs
    obtain ⟨c7, c8, c9, d0⟩ := rs_idx Sl43 Sz3 h0 c6
    refine x_p 2 (pq c7 c8) rfl (by kernel_rfl)  (fun _ => c9 _ _ _ _ _ _ _ _ _ rfl rfl) (fun _ => hS) (x_l 3 (.int .i64 x48) rfl (by kernel_rfl)  (fun w' hw' => y_load rfl ((at_load_int Ag3 Sz3 d0) w' hw')) hS (x_p 4 (.slice pa1 pn1 pc1) rfl (by kernel_rfl)  (fun _ => y_move rfl) (fun _ => hS) (x_p 5 (.int .i64 s25) rfl (by kernel_rfl)  (fun _ => y_move rfl) (fun _ => hS) ?_)))
    obtain ⟨x50, d1, hs⟩ := bind_some hs
    obtain ⟨d2, d3, d4, d5⟩ := rs_idx Sl43 Sz3 h1 d1
    refine x_p 6 (pq d2 d3) rfl (by kernel_rfl)  (fun _ => d4 _ _ _ _ _ _ _ _ _ rfl rfl) (fun _ => hS) (x_l 7 (.int .i64 x50) rfl (by kernel_rfl)  (fun w' hw' => y_load rfl ((at_load_int Ag3 Sz3 d5) w' hw')) hS (x_p 8 (.bool (decide (x48 < x50))) rfl (by kernel_rfl)  (fun _ => y_lss rfl rfl) (fun _ => hS) (x_end (by kernel_rfl) ?_)))
    clear hS
    rcases bif_some hs with ⟨b1, hs⟩ | ⟨b1, hs⟩
    ·refine c_condT (cb b1) (c_sr (ai rfl (c_nil (wp_ret ?_))))
     cases hs
     exact ⟨_, fr_ovl 48 ⟨rfl, trivial⟩, hC⟩
    refine c_condF (cb b1) (wp_skip (c_sr (ai rfl (c_nil (wp_ret ?_)))))
    cases hs
    exact ⟨_, fr_ovl 48 ⟨rfl, trivial⟩, hC⟩
   refine c_condF (cb b0) (wp_skip (c_region (mi rfl (pl_val (.int .i64 (w64 (s25 + 1))) (y_add rfl rfl) (ai rfl (c_nil ?_))))))
   cases hs
   exact ⟨_, fr_ovl 48 ⟨rfl, rfl, rfl, trivial⟩, hC, hO, h0, h1⟩
  refine c_condF (cb a6) (wp_exit ?_)
  cases hs
  exact ⟨rfl, _, fr_ovl 48 ⟨rfl, rfl, trivial⟩, hC, hO, h0, h1⟩
 ·skip
  exact ⟨_, fr_ovl 48 ⟨rfl, rfl, rfl, trivial⟩, hC, hO, h0, h1⟩
 cases o29 with
 | nx _ => exact True.intro
 | rt r_ =>
  have hs := after_rt hs
  intro b4 b5 hK
  cases hs
  exact hK
 | br s25 =>
  have hs := after_br hs
  rintro b4 a0 ⟨σ, rfl, hC, hO, h0, h1⟩
  refine c_seq (wp_block (c_sr (ms rfl (pl_val _ (y_len' Sl43 (rs_len h0) rfl) (ms rfl (pl_val _ (y_len' Sl43 (rs_len h1) rfl) (pl_val _ (y_lss rfl rfl) (ab rfl (c_nil ?_)))))))))
  rcases bif_some hs with ⟨b2, hs⟩ | ⟨b2, hs⟩
  ·refine c_condT (cb b2) (c_sr (ai rfl (c_nil (wp_ret ?_))))
   cases hs
   exact ⟨_, fr_ovl 48 ⟨rfl, trivial⟩, hC⟩
  refine c_condF (cb b2) (c_sr (ms rfl (pl_val _ (y_len' Sl43 (rs_len h0) rfl) (ms rfl (pl_val _ (y_len' Sl43 (rs_len h1) rfl) (pl_val _ (y_gtr rfl rfl) (ab rfl (c_nil ?_))))))))
  rcases bif_some hs with ⟨b3, hs⟩ | ⟨b3, hs⟩
  ·refine c_condT (cb b3) (c_sr (ai rfl (c_nil (wp_ret ?_))))
   cases hs
   exact ⟨_, fr_ovl 48 ⟨rfl, trivial⟩, hC⟩
  refine c_condF (cb b3) (wp_skip (c_sr (ai rfl (c_nil (wp_ret ?_)))))
  cases hs
  exact ⟨_, fr_ovl 48 ⟨rfl, trivial⟩, hC⟩

theorem Bd78 : Bodied Try.prog 78 := bodied Try.func78 (by kernel_rfl) rfl

def k_impl_compareTerms (M : Nat → Prop) (w0 : World) (r : Int) (a : Act) (w : World) : Prop :=
  ∃ (σ : Nat → Value) , a = fr 20 (ovl σ [(4, (.int .i64 r))]) ∧ Chg [] w0 w
def s_impl_compareTerms (s_ : List Int) (t : List Int) : Option (Int) :=
  (bif (decide ((s_.length : Int) < (t.length : Int))) then some (-1) else (bif (decide ((t.length : Int) < (s_.length : Int))) then some 1 else (s_impl_compareLists s_ t).bind fun r6 =>
  some r6))
set_option maxHeartbeats 4000000 in
theorem c_impl_compareTerms {M : Nat → Prop} {w : World} {pa0 : Option Addr} {pn0 pc0 : Nat} {pa1 : Option Addr} {pn1 pc1 : Nat} (s_ : List Int) (t : List Int) (h0 : (RT.rs ri).val M w (.slice pa0 pn0 pc0) s_ ([])) (h1 : (RT.rs ri).val M w (.slice pa1 pn1 pc1) t ([])) (hM : ∀ g, w.heap.size ≤ g → M g) {r : Int} (hs : s_impl_compareTerms s_ t = some r) :
    Gives Try.prog 113 [(.slice pa0 pn0 pc0), (.slice pa1 pn1 pc1)] w (fun v w' => v = (.int .i64 r) ∧ Chg [] w w') := by
 refine calls_fr Try.func113 rfl Try.ntmps113 (Nat.le_of_ble_eq_true rfl) ?_
 have hO := Own.start (N := Nw w []) hM Nw.fut
 have hC := Chg.refl [] w
 unfold s_impl_compareTerms at hs
 refine wp_mono (Q := KPost (k_impl_compareTerms M w r)) ?_ (fun e a a4 h => ?_)
 rotate_left
 ·cases e
  case ret =>
   obtain ⟨σ, rfl, hrest⟩ := h
   exact ret1x Try.results113 (res_tmp rfl) ⟨rfl, hrest⟩
  all_goals exact (h : False).elim
 refine c_sr (ai rfl (c_nil (c_seq (wp_block (c_sr (ms rfl (pl_val _ (y_len' Sl43 (rs_len h0) rfl) (ms rfl (pl_val _ (y_len' Sl43 (rs_len h1) rfl) (pl_val _ (y_lss rfl rfl) (ab rfl (c_nil ?_))))))))))))
 rcases bif_some hs with ⟨a1, hs⟩ | ⟨a1, hs⟩
 ·refine c_condT (cb a1) (c_sr (ai rfl (c_nil (wp_ret ?_))))
  cases hs
  exact ⟨_, fr_ovl 20 ⟨rfl, trivial⟩, hC⟩
 refine c_condF (cb a1) (c_sr (ms rfl (pl_val _ (y_len' Sl43 (rs_len h0) rfl) (ms rfl (pl_val _ (y_len' Sl43 (rs_len h1) rfl) (pl_val _ (y_gtr rfl rfl) (ab rfl (c_nil ?_))))))))
 rcases bif_some hs with ⟨a2, hs⟩ | ⟨a2, hs⟩
 ·refine c_condT (cb a2) (c_sr (ai rfl (c_nil (wp_ret ?_))))
  cases hs
  exact ⟨_, fr_ovl 20 ⟨rfl, trivial⟩, hC⟩
 refine c_condF (cb a2) (wp_skip (c_sr (ms rfl (ms rfl ?_))))
 obtain ⟨r6, a3, hs⟩ := bind_some hs
 refine pl_call Bd78 rfl (c_impl_compareLists (M := M) s_ t h0 h1 hO.fut a3) ?_
 rintro _ a5 ⟨rfl, a0⟩
 have h0 := h0.ext a0
 have h1 := h1.ext a0
 have hC := hC.ext a0
 have hO := hO.ext a0
 refine ai rfl (c_nil (wp_ret ?_))
 cases hs
 exact ⟨_, fr_ovl 20 ⟨rfl, trivial⟩, hC⟩

theorem Bd113 : Bodied Try.prog 113 := bodied Try.func113 (by kernel_rfl) rfl

def k_impl_span__relax (M : Nat → Prop) (w0 : World) (qa0 : Option Addr) (qn0 qc0 : Nat) (qf0 : List Nat) (r : Bool × (List (List Int))) (a : Act) (w : World) : Prop :=
  ∃ (σ : Nat → Value) (rfi0 : List Nat), a = fr 99 (ovl σ [(12, (.bool r.1))]) ∧ Chg (qf0 ++ ([])) w0 w ∧ (RT.os 43 (RT.on 3 (RT.int .i64))).val M w (.slice qa0 qn0 qc0) r.2 rfi0 ∧ Own (Nw w0 (qf0 ++ ([]))) (fun _ => True) w (rfi0 ++ ([]))
def s_impl_span__relax (best : List (List Int)) (op : Int) (arity : Int) (i : Int) (v_ : Int) (b0 : Int × (List (Int × (List Int))) × Int × (List (List Int)) × (List (ByteArray × Int))) : Option (Bool × (List (List Int))) :=
  (s_impl_argsAt i arity (b0.2.2.2.1.length : Int)).bind fun r7 =>
  (forR (S := Int) (R := Bool × (List (List Int))) (fun _ x22 s19 =>
  (idx best x22).bind fun x26 =>
  (bif (List.isEmpty x26) then some (.rt (false, best)) else (idx best x22).bind fun x31 =>
  some (.nx (w64 (s19 + (x31.length : Int)))))) 0 r7 1).bind fun o23 => after o23 (fun r_ => some r_) (fun s19 =>
  ((bif (decide (60 < s19)) then some true else (idx best v_).bind fun x39 =>
  (bif (!(List.isEmpty x39)) then (idx best v_).bind fun x44 =>
  some (decide ((x44.length : Int) < s19)) else some false))).bind fun s35 =>
  (bif s35 then some (false, best) else (forR (S := (List Int)) (R := Bool × (List (List Int))) (fun _ x64 s61 =>
  (idx best x64).bind fun x72 =>
  (app s61 x72).bind fun y77 =>
  some (.nx y77)) 0 r7 ([w64 ((-1) - op)])).bind fun o65 => after o65 (fun r_ => some r_) (fun s61 =>
  ((idx best v_).bind fun x82 =>
  (bif (!(List.isEmpty x82)) then (idx best v_).bind fun x87 =>
  (s_impl_compareTerms x87 s61).bind fun r92 =>
  some (decide (r92 ≤ 0)) else some false)).bind fun s79 =>
  (bif s79 then some (false, best) else (idx best v_).bind fun x94 =>
  (nne s61).bind fun u97 =>
  some (true, List.set best (Int.toNat v_) s61)))))
set_option maxHeartbeats 4000000 in
theorem c_impl_span__relax {M : Nat → Prop} {w : World} {vg0 : Nat} {pa0 : Option Addr} {pn0 pc0 : Nat} {pf0 : List Nat} {va0x1 : Option Addr} {vn0x1 vc0x1 : Nat} {va0x3 : Option Addr} {vn0x3 vc0x3 : Nat} {vn0x4 : Nat} (best : List (List Int)) (op : Int) (arity : Int) (i : Int) (v_ : Int) (b0 : Int × (List (Int × (List Int))) × Int × (List (List Int)) × (List (ByteArray × Int))) (h0 : (RT.os 43 (RT.on 3 ri)).val M w (.slice pa0 pn0 pc0) best pf0) (hb0 : RBox M w vg0 81 [(.int .i64 b0.1), (.slice va0x1 vn0x1 vc0x1), (.int .i64 b0.2.2.1), (.slice va0x3 vn0x3 vc0x3), (.map (some vn0x4))]) (hl0x1 : (RT.rs (RT.pr ri (RT.rs ri))).val M w (.slice va0x1 vn0x1 vc0x1) b0.2.1 ([])) (hl0x3 : (RT.rs (RT.rs ri)).val M w (.slice va0x3 vn0x3 vc0x3) b0.2.2.2.1 ([])) (hl0x4 : (RT.mr (Value.int .i64)).val M w (.map (some vn0x4)) b0.2.2.2.2 ([])) (hI : Own (Nw w (pf0 ++ ([]))) M w (pf0 ++ ([]))) (hM : ∀ g, w.heap.size ≤ g → M g) {r : Bool × (List (List Int))} (hs : s_impl_span__relax best op arity i v_ b0 = some r) :
    Gives Try.prog 103 [(pq vg0 0), (.slice pa0 pn0 pc0), (.int .i64 op), (.int .i64 arity), (.int .i64 i), (.int .i64 v_)] w (fun v w' => ∃ (rfi0 : List Nat), v = (.bool r.1) ∧ Chg (pf0 ++ ([])) w w' ∧ (RT.os 43 (RT.on 3 ri)).val M w' (.slice pa0 pn0 pc0) r.2 rfi0 ∧ Own (Nw w (pf0 ++ ([]))) (fun _ => True) w' (rfi0 ++ ([]))) := by
 refine calls_fr Try.func103 rfl Try.ntmps103 (Nat.le_of_ble_eq_true rfl) ?_
 have hO := hI
 have hC := Chg.refl (pf0 ++ ([])) w
 unfold s_impl_span__relax at hs
 refine wp_mono (Q := KPost (k_impl_span__relax M w pa0 pn0 pc0 pf0 r)) ?_ (fun e a f2 h => ?_)
 rotate_left
 ·cases e
  case ret =>
   obtain ⟨σ, rfi0, rfl, hrest⟩ := h
   exact ret1x Try.results103 (res_tmp rfl) ⟨rfi0, rfl, hrest⟩
  all_goals exact (h : False).elim
 refine c_sr (ab rfl (c_nil (c_sr (mi rfl (mi rfl (mp rfl (pl_val _ (y_nilc rfl) (pl_val (pq vg0 3) (y_faddr rfl Fa81x2) (pl_val (.slice va0x3 vn0x3 vc0x3) (y_load rfl ((box_load Ag25 Sz25 hb0.1 [(.int .i64 b0.1), (.slice va0x1 vn0x1 vc0x1), (.int .i64 b0.2.2.1)] [(.slice va0x3 vn0x3 vc0x3)] [(.map (some vn0x4))] rfl rfl (fun _ => rfl)) _ (Chg.refl _ _))) (pl_val _ (y_len' Sl25 (rs_len hl0x3) rfl) ?_))))))))))
 obtain ⟨r7, g2, hs⟩ := bind_some hs
 refine pl_call Bd89 rfl (c_impl_argsAt (M := M) i arity (b0.2.2.2.1.length : Int)  hO.fut g2) ?_
 rintro _ q4 ⟨a7, a8, a9, b1, rfl, b4, a0, g3⟩
 have h0 := h0.ext b4
 have hl0x1 := hl0x1.ext b4
 have hl0x3 := hl0x3.ext b4
 have hl0x4 := hl0x4.ext b4
 have hb0 := hb0.ext b4
 have hC := hC.ext b4
 have hO := Own.join0 hO b4 g3
 have hO := hO.perm (R := b1 ++ (pf0 ++ ([]))) (by simp)
 refine ax rfl (c_nil (c_sr (ai rfl (c_nil (c_seq (c_sr (ms rfl (pl_val _ (y_len' Sl43 (os_len a0) rfl) (mi rfl (c_nil ?_))))))))))
 obtain ⟨o23, g4, hs⟩ := bind_some hs
 refine wp_block (wp_forR (id := 0) (I := fun i_ xs_ s19 a a5 => ∃ b2 : Nat, i_ = (b2 : Int) ∧ List.drop b2 r7 = xs_ ∧ (∃ (σ : Nat → Value), a = fr 99 (ovl σ [(1, (.slice pa0 pn0 pc0)), (2, (.int .i64 op)), (5, (.int .i64 v_)), (13, (.slice a7 a8 a9)), (14, (.int .i64 s19)), (28, (.slice a7 a8 a9)), (29, (.int .i64 (r7.length : Int))), (30, (.int .i64 (b2 : Int)))]) ∧ Chg (pf0 ++ ([])) w a5 ∧ Own (Nw w (pf0 ++ ([]))) M a5 (b1 ++ (pf0 ++ [])) ∧ (RT.os 43 (RT.on 3 ri)).val M a5 (.slice pa0 pn0 pc0) best pf0 ∧ (RT.os 3 ri).val M a5 (.slice a7 a8 a9) r7 b1)) (J := fun s19 a a5 => ∃ (σ : Nat → Value), a = fr 99 (ovl σ [(1, (.slice pa0 pn0 pc0)), (2, (.int .i64 op)), (5, (.int .i64 v_)), (13, (.slice a7 a8 a9)), (14, (.int .i64 s19))]) ∧ Chg (pf0 ++ ([])) w a5 ∧ Own (Nw w (pf0 ++ ([]))) M a5 (b1 ++ (pf0 ++ [])) ∧ (RT.os 43 (RT.on 3 ri)).val M a5 (.slice pa0 pn0 pc0) best pf0 ∧ (RT.os 3 ri).val M a5 (.slice a7 a8 a9) r7 b1) (K := (k_impl_span__relax M w pa0 pn0 pc0 pf0)) ?_ ?_ r7 0 1 o23 _ _ ?_ g4 ?_)
 ·rintro _ s19 a a5 ⟨b2, rfl, hd, σ, rfl, hC, hO, h0, a0⟩
  have hlt := drop_nil_ge hd
  refine c_sr (pl_val _ (y_lss rfl rfl) (c_nil (c_seq (c_condF (cb (decide_eq_false hlt)) (wp_exit ?_)))))
  have hO := hO.fr1
  have hO := hO.fr1
  exact ⟨rfl, _, fr_ovl 99 ⟨rfl, rfl, rfl, rfl, rfl, trivial⟩, hC, hO, h0, a0⟩
 ·rintro _ x22 xs_ s19 o23 a a5 ⟨b2, rfl, hd, σ, rfl, hC, hO, h0, a0⟩ hs
  have hlt := drop_cons_lt hd
  have g5 := drop_cons_idx hd
  refine c_sr (pl_val _ (y_lss rfl rfl) (c_nil (c_seq (c_condT (cb (decide_eq_true hlt)) (wp_skip (c_seq (wp_block (c_sr ?_))))))))
  obtain ⟨g6, q5, q6, q7, g7, g8, q8⟩ := os_idx Sl43 Sz3 a0 g5
  refine pl_val _ (g7 _ _ _ _ _ _ _ _ _ rfl rfl) (pl_val (.int .i64 x22) (y_load rfl ((at_load_int Ag3 Sz3 g8) _ (Chg.refl _ _))) (ai rfl (c_nil (c_seq (c_sr (ms rfl (mi rfl ?_)))))))
  obtain ⟨x26, g9, hs⟩ := bind_some hs
  obtain ⟨h1, q9, r0, r1, h2, h3, h4⟩ := os_idx Sl25 Sz43 h0 g9
  have h5 := own_row (Frz.onn Frz.int) h3 h4
  refine pl_val _ (h2 _ _ _ _ _ _ _ _ _ rfl rfl) ?_
  obtain ⟨r2, h6, hrow28, f3⟩ := at_load1 Ag43 Sz43 rfl rfl h5
  obtain ⟨h7, h8, h9, rfl, f3, i0⟩ := rn_sl f3
  refine pl_val (.slice h7 h8 h9) (y_load rfl (h6 _ (Chg.refl _ _))) (pl_val (.bool (List.isEmpty x26)) (y_nil Try.underlying43 rfl rfl i0) (c_nil ?_))
  rcases bif_some hs with ⟨d6, hs⟩ | ⟨d6, hs⟩
  ·refine c_condT (cb d6) (c_sr (ab rfl (c_nil (wp_ret ?_))))
   cases hs
   have hO := hO.drop
   exact ⟨_, pf0, fr_ovl 99 ⟨rfl, trivial⟩, hC, h0, hO.top⟩
  refine c_condF (cb d6) (wp_skip (c_region (mi rfl (ms rfl (mi rfl ?_)))))
  obtain ⟨x31, i1, hs⟩ := bind_some hs
  obtain ⟨i2, r3, r4, r5, i3, i4, i5⟩ := os_idx Sl25 Sz43 h0 i1
  have i6 := own_row (Frz.onn Frz.int) i4 i5
  refine pl_val _ (i3 _ _ _ _ _ _ _ _ _ rfl rfl) ?_
  obtain ⟨r6, i7, hrow33, d7⟩ := at_load1 Ag43 Sz43 rfl rfl i6
  obtain ⟨i9, j0, j1, rfl, d7, r8⟩ := rn_sl d7
  refine pl_val (.slice i9 j0 j1) (y_load rfl (i7 _ (Chg.refl _ _))) (pl_val _ (y_len' Sl43 (rs_len d7) rfl) (pl_val (.int .i64 (w64 (s19 + (x31.length : Int)))) (y_add rfl rfl) (ai rfl (c_nil (c_region (pl_val (.int .i64 (w64 ((b2 : Int) + 1))) (y_add rfl rfl) (mi rfl (c_nil ?_))))))))
  cases hs
  have hO := hO.fr1
  have hO := hO.fr1
  exact ⟨_, rfl, drop_cons_next hd, _, fr_ovl 99 ⟨rfl, rfl, rfl, rfl, rfl, rfl, rfl, congrArg (Value.int .i64) (w64_succ hlt (Int.natCast_nonneg _) (os_max a0)), trivial⟩, hC, hO, h0, a0⟩
 ·skip
  have hO := hO.fr1
  have hO := hO.fr1
  exact ⟨0, rfl, rfl, _, fr_ovl 99 ⟨rfl, rfl, rfl, rfl, rfl, rfl, rfl, rfl, trivial⟩, hC, hO, h0, a0⟩
 cases o23 with
 | nx _ => exact True.intro
 | rt r_ =>
  have hs := after_rt hs
  intro c4 f2 hK
  cases hs
  exact hK
 | br s19 =>
  have hs := after_br hs
  rintro c4 a5 ⟨σ, rfl, hC, hO, h0, a0⟩
  refine c_seq (c_seq ?_)
  obtain ⟨s35, j2, hs⟩ := bind_some hs
  refine c_mid (I := fun a d8 => ∃ (σ : Nat → Value), a = fr 99 (ovl σ [(1, (.slice pa0 pn0 pc0)), (2, (.int .i64 op)), (5, (.int .i64 v_)), (13, (.slice a7 a8 a9)), (64, (.bool s35))]) ∧ Chg [] a5 d8) ?_ ?_
  ·replace hs := j2
   have hMid := Chg.refl [] a5
   refine c_region (mi rfl (pl_val _ (y_gtr rfl rfl) (mb rfl ?_)))
   rcases bif_some hs with ⟨a1, hs⟩ | ⟨a1, hs⟩
   ·skip
    refine pl_not (tg := 49) (by kernel_rfl) (cb a1) (pl_not (tg := 49) (by kernel_rfl) (cb a1) (pl_not (tg := 49) (by kernel_rfl) (cb a1) (pl_not (tg := 49) (by kernel_rfl) (cb a1) (pl_not (tg := 49) (by kernel_rfl) (cb a1) (pl_not (tg := 49) (by kernel_rfl) (cb a1) (pl_nou (tg := 55) (by kernel_rfl) rfl (pl_nou (tg := 55) (by kernel_rfl) rfl (pl_nou (tg := 55) (by kernel_rfl) rfl (pl_nou (tg := 55) (by kernel_rfl) rfl (pl_nou (tg := 55) (by kernel_rfl) rfl (pl_nou (tg := 55) (by kernel_rfl) rfl (pl_nou (tg := 55) (by kernel_rfl) rfl (pl_not (tg := 49) (by kernel_rfl) (cb a1) (pl_val (.bool true) (y_pick_t (cb a1) rfl) (c_nil ?_)))))))))))))))
    cases hs
    exact ⟨_, fr_ovl 99 ⟨rfl, rfl, rfl, rfl, rfl, trivial⟩, hMid⟩
   refine pl_yes (.slice pa0 pn0 pc0) (tg := 49) (by kernel_rfl) (cb a1) (y_move rfl) (pl_yes (.int .i64 v_) (tg := 49) (by kernel_rfl) (cb a1) (y_move rfl) ?_)
   obtain ⟨x39, j3, hs⟩ := bind_some hs
   obtain ⟨j4, r9, s0, s1, j5, j6, j7⟩ := os_idx Sl25 Sz43 h0 j3
   have j8 := own_row (Frz.onn Frz.int) j6 j7
   refine pl_yes (.pointer (some ⟨j4, 0 + Int.toNat v_ * 1, none⟩)) (tg := 49) (by kernel_rfl) (cb a1) (j5 _ _ _ _ _ _ _ _ _ rfl rfl) ?_
   obtain ⟨s2, j9, hrow41, f4⟩ := at_load1 Ag43 Sz43 rfl rfl j8
   obtain ⟨k0, k1, k2, rfl, f4, k3⟩ := rn_sl f4
   refine pl_yes (.slice k0 k1 k2) (tg := 49) (by kernel_rfl) (cb a1) (y_load rfl (j9 _ (Chg.refl _ _))) (pl_yes (.bool (!(List.isEmpty x39))) (tg := 49) (by kernel_rfl) (cb a1) (y_nnil Try.underlying43 rfl rfl k3) (pl_yes (.bool (!(List.isEmpty x39))) (tg := 49) (by kernel_rfl) (cb a1) (y_move rfl) ?_))
   rcases bif_some hs with ⟨a2, hs⟩ | ⟨a2, hs⟩
   ·skip
    refine pl_yes (.slice pa0 pn0 pc0) (tg := 55) (by kernel_rfl) (cb a2) (y_move rfl) (pl_yes (.int .i64 v_) (tg := 55) (by kernel_rfl) (cb a2) (y_move rfl) ?_)
    obtain ⟨x44, k4, hs⟩ := bind_some hs
    obtain ⟨k5, s3, s4, s5, k6, k7, k8⟩ := os_idx Sl25 Sz43 h0 k4
    have k9 := own_row (Frz.onn Frz.int) k7 k8
    refine pl_yes (.pointer (some ⟨k5, 0 + Int.toNat v_ * 1, none⟩)) (tg := 55) (by kernel_rfl) (cb a2) (k6 _ _ _ _ _ _ _ _ _ rfl rfl) ?_
    obtain ⟨s6, l0, hrow46, d9⟩ := at_load1 Ag43 Sz43 rfl rfl k9
    obtain ⟨l1, l2, l3, rfl, d9, s7⟩ := rn_sl d9
    refine pl_yes (.slice l1 l2 l3) (tg := 55) (by kernel_rfl) (cb a2) (y_load rfl (l0 _ (Chg.refl _ _))) (pl_yes (.int .i64 (x44.length : Int)) (tg := 55) (by kernel_rfl) (cb a2) (y_len' Sl43 (rs_len d9) rfl) (pl_yes (.int .i64 s19) (tg := 55) (by kernel_rfl) (cb a2) (y_move rfl) (pl_yes (.bool (decide ((x44.length : Int) < s19))) (tg := 55) (by kernel_rfl) (cb a2) (y_lss rfl rfl) (pl_yes (.bool (decide ((x44.length : Int) < s19))) (tg := 49) (by kernel_rfl) (cb a1) (y_pick_t (cb a2) rfl) (pl_val (.bool (decide ((x44.length : Int) < s19))) (y_pick_f (cb a1) rfl) (c_nil ?_))))))
    cases hs
    exact ⟨_, fr_ovl 99 ⟨rfl, rfl, rfl, rfl, rfl, trivial⟩, hMid⟩
   refine pl_not (tg := 55) (by kernel_rfl) (cb a2) (pl_not (tg := 55) (by kernel_rfl) (cb a2) (pl_not (tg := 55) (by kernel_rfl) (cb a2) (pl_not (tg := 55) (by kernel_rfl) (cb a2) (pl_not (tg := 55) (by kernel_rfl) (cb a2) (pl_not (tg := 55) (by kernel_rfl) (cb a2) (pl_not (tg := 55) (by kernel_rfl) (cb a2) (pl_yes (.bool false) (tg := 49) (by kernel_rfl) (cb a1) (y_pick_f (cb a2) rfl) (pl_val (.bool false) (y_pick_f (cb a1) rfl) (c_nil ?_)))))))))
   cases hs
   exact ⟨_, fr_ovl 99 ⟨rfl, rfl, rfl, rfl, rfl, trivial⟩, hMid⟩
  rintro c4 d8 ⟨σ, rfl, d2⟩
  have h0 := h0.ext d2
  have a0 := a0.ext d2
  have hC := hC.ext d2
  have hO := hO.ext d2
  rcases bif_some hs with ⟨e0, hs⟩ | ⟨e0, hs⟩
  ·refine c_condT (cb e0) (c_sr (ab rfl (c_nil (wp_ret ?_))))
   cases hs
   have hO := hO.drop
   exact ⟨_, pf0, fr_ovl 99 ⟨rfl, trivial⟩, hC, h0, hO.top⟩
  refine c_condF (cb e0) (wp_skip (c_sr (mi rfl (pl_val (.int .i64 (w64 ((-1) - op))) (y_sub rfl rfl) ?_))))
  obtain ⟨f5, c0, l4, f6, d3, f7⟩ := new_block d8 [(.int .i64 (w64 ((-1) - op)))] 3
  refine pl_val (w' := f5) (.slice (some ⟨c0, 0, none⟩) 1 1) (y_bslice rfl (by rw [l4, f6]; kernel_rfl)) ?_
  have h0 := h0.ext d3
  have a0 := a0.ext d3
  have hC := hC.ext d3
  have hO := hO.new1 d3 f6 f7.lt
  have e1 := os_of_box (r := ri) (M := M) (css := [[(.int .i64 (w64 ((-1) - op)))]]) (fps := [([] : List Nat)]) (xs := ([w64 ((-1) - op)] : List Int)) f7 ⟨⟨rfl, rfl⟩, trivial⟩ (Nat.le_of_ble_eq_true rfl) (List.nodup_cons.2 ⟨(fun h => nomatch h), List.nodup_nil⟩)
  have e1 : (RT.os 3 ri).val M f5 (.slice (some ⟨c0, 0, none⟩) 1 1) [w64 ((-1) - op)] [c0] := e1
  refine ax rfl (c_nil (c_seq (c_sr (ms rfl (pl_val _ (y_len' Sl43 (os_len a0) rfl) (mi rfl (c_nil ?_)))))))
  obtain ⟨o65, l5, hs⟩ := bind_some hs
  refine wp_block (wp_forR (id := 2) (I := fun i_ xs_ s61 a a4 => ∃ b3 : Nat, i_ = (b3 : Int) ∧ List.drop b3 r7 = xs_ ∧ (∃ (σ : Nat → Value) (c1 : Option Addr) (c2 : Nat) (c3 : Nat) (c5 : List Nat), a = fr 99 (ovl σ [(1, (.slice pa0 pn0 pc0)), (5, (.int .i64 v_)), (17, (.slice c1 c2 c3)), (68, (.slice a7 a8 a9)), (69, (.int .i64 (r7.length : Int))), (70, (.int .i64 (b3 : Int)))]) ∧ Chg (pf0 ++ ([])) w a4 ∧ Own (Nw w (pf0 ++ ([]))) M a4 (c5 ++ (b1 ++ (pf0 ++ []))) ∧ (RT.os 43 (RT.on 3 ri)).val M a4 (.slice pa0 pn0 pc0) best pf0 ∧ (RT.os 3 ri).val M a4 (.slice a7 a8 a9) r7 b1 ∧ (RT.os 3 ri).val M a4 (.slice c1 c2 c3) s61 c5)) (J := fun s61 a a4 => ∃ (σ : Nat → Value) (b5 : Option Addr) (b6 : Nat) (b7 : Nat) (b8 : List Nat), a = fr 99 (ovl σ [(1, (.slice pa0 pn0 pc0)), (5, (.int .i64 v_)), (17, (.slice b5 b6 b7))]) ∧ Chg (pf0 ++ ([])) w a4 ∧ Own (Nw w (pf0 ++ ([]))) M a4 (b8 ++ (b1 ++ (pf0 ++ []))) ∧ (RT.os 43 (RT.on 3 ri)).val M a4 (.slice pa0 pn0 pc0) best pf0 ∧ (RT.os 3 ri).val M a4 (.slice a7 a8 a9) r7 b1 ∧ (RT.os 3 ri).val M a4 (.slice b5 b6 b7) s61 b8) (K := (k_impl_span__relax M w pa0 pn0 pc0 pf0)) ?_ ?_ r7 0 ([w64 ((-1) - op)]) o65 _ _ ?_ l5 ?_)
  ·rintro _ s61 a a4 ⟨b3, rfl, hd, σ, c1, c2, c3, c5, rfl, hC, hO, h0, a0, d4⟩
   have hlt := drop_nil_ge hd
   refine c_sr (pl_val _ (y_lss rfl rfl) (c_nil (c_seq (c_condF (cb (decide_eq_false hlt)) (wp_exit ?_)))))
   have hO := hO.fr2
   have hO := hO.fr2
   have hO := hO.fr2
   exact ⟨rfl, _, c1, c2, c3, c5, fr_ovl 99 ⟨rfl, rfl, rfl, trivial⟩, hC, hO, h0, a0, d4⟩
  ·rintro _ x64 xs_ s61 o65 a a4 ⟨b3, rfl, hd, σ, c1, c2, c3, c5, rfl, hC, hO, h0, a0, d4⟩ hs
   have hlt := drop_cons_lt hd
   have l6 := drop_cons_idx hd
   refine c_sr (pl_val _ (y_lss rfl rfl) (c_nil (c_seq (c_condT (cb (decide_eq_true hlt)) (wp_skip (c_seq (wp_block (c_sr ?_))))))))
   obtain ⟨l7, s8, s9, t0, l8, l9, t1⟩ := os_idx Sl43 Sz3 a0 l6
   refine pl_val _ (l8 _ _ _ _ _ _ _ _ _ rfl rfl) (pl_val (.int .i64 x64) (y_load rfl ((at_load_int Ag3 Sz3 l9) _ (Chg.refl _ _))) (ai rfl (c_nil (c_region (ms rfl (ms rfl (mi rfl ?_)))))))
   obtain ⟨x72, m0, hs⟩ := bind_some hs
   obtain ⟨m1, t2, t3, t4, m2, m3, m4⟩ := os_idx Sl25 Sz43 h0 m0
   have m5 := own_row (Frz.onn Frz.int) m3 m4
   refine pl_val _ (m2 _ _ _ _ _ _ _ _ _ rfl rfl) ?_
   obtain ⟨t5, m6, hrow74, c6⟩ := at_load1 Ag43 Sz43 rfl rfl m5
   obtain ⟨m7, m8, m9, rfl, c6, t6⟩ := rn_sl c6
   refine pl_val (.slice m7 m8 m9) (y_load rfl (m6 _ (Chg.refl _ _))) ?_
   obtain ⟨y77, n0, hs⟩ := bind_some hs
   have hO := hO.fr2
   have hO := hO.fr1
   obtain ⟨e2, e3, e4, n1, n2, n3, c7, n4, c8⟩ := app_rs Rw43 n0 (d4.sub (M' := (Less M pf0)) Less.sub) c6 (fun g hg => ⟨hO.inM g hg, fun hq => hO.apart g hg (mem_l hq)⟩)
   have c8 := c8.free (M' := M) (Free.os Free.int)
   have c9 := os_block d4
   refine pl_val (w' := n1) (.slice e2 e3 e4) (y_append rfl rfl (n3 _)) ?_
   have h0 := h0.ma c7 hO c9 (fun _ e => (mem_l (e)))
   have a0 := a0.ma c7 hO c9 (fun _ e => (mem_r (mem_l (e))))
   have c6 := c6.mut c7 (fun g hg => ⟨hO.inM g (c9 g hg), fun e => hO.apart g (c9 g hg) (mem_l (e))⟩) (fun _ _ h => nomatch h)
   have hC := hC.st c7 hO c9
   have hO := hO.grow c7 n4 (os_nodup c8) c8.fpl
   refine ax rfl (c_nil (c_region (pl_val (.int .i64 (w64 ((b3 : Int) + 1))) (y_add rfl rfl) (mi rfl (c_nil ?_)))))
   cases hs
   have hO := hO.fr1
   have hO := hO.fr2
   have hO := hO.fr2
   exact ⟨_, rfl, drop_cons_next hd, _, e2, e3, e4, n2, fr_ovl 99 ⟨rfl, rfl, rfl, rfl, rfl, congrArg (Value.int .i64) (w64_succ hlt (Int.natCast_nonneg _) (os_max a0)), trivial⟩, hC, hO, h0, a0, c8⟩
  ·skip
   have hO := hO.fr2
   have hO := hO.fr2
   have hO := hO.fr2
   exact ⟨0, rfl, rfl, _, (some ⟨c0, 0, none⟩), 1, 1, ([c0]), fr_ovl 99 ⟨rfl, rfl, rfl, rfl, rfl, rfl, trivial⟩, hC, hO, h0, a0, e1⟩
  cases o65 with
  | nx _ => exact True.intro
  | rt r_ =>
   have hs := after_rt hs
   intro c4 f2 hK
   cases hs
   exact hK
  | br s61 =>
   have hs := after_br hs
   rintro c4 a4 ⟨σ, b5, b6, b7, b8, rfl, hC, hO, h0, a0, b9⟩
   refine c_seq (c_seq ?_)
   obtain ⟨s79, n5, hs⟩ := bind_some hs
   refine c_mid (I := fun a f8 => ∃ (σ : Nat → Value), a = fr 99 (ovl σ [(1, (.slice pa0 pn0 pc0)), (5, (.int .i64 v_)), (17, (.slice b5 b6 b7)), (94, (.bool s79))]) ∧ Chg [] a4 f8) ?_ ?_
   ·replace hs := n5
    have hMid := Chg.refl [] a4
    refine c_region (ms rfl (mi rfl ?_))
    obtain ⟨x82, n6, hs⟩ := bind_some hs
    obtain ⟨n7, t7, t8, t9, n8, e5, n9⟩ := os_idx Sl25 Sz43 h0 n6
    have e6 := own_row (Frz.onn Frz.int) e5 n9
    refine pl_val _ (n8 _ _ _ _ _ _ _ _ _ rfl rfl) ?_
    obtain ⟨u0, o0, hrow84, d5⟩ := at_load1 Ag43 Sz43 rfl rfl e6
    obtain ⟨o1, o2, o3, rfl, d5, o4⟩ := rn_sl d5
    refine pl_val (.slice o1 o2 o3) (y_load rfl (o0 _ (Chg.refl _ _))) (pl_val (.bool (!(List.isEmpty x82))) (y_nnil Try.underlying43 rfl rfl o4) (mb rfl ?_))
    rcases bif_some hs with ⟨a3, hs⟩ | ⟨a3, hs⟩
    ·skip
     refine pl_yes (.slice pa0 pn0 pc0) (tg := 86) (by kernel_rfl) (cb a3) (y_move rfl) (pl_yes (.int .i64 v_) (tg := 86) (by kernel_rfl) (cb a3) (y_move rfl) ?_)
     obtain ⟨x87, o5, hs⟩ := bind_some hs
     obtain ⟨o6, u1, u2, u3, o7, e7, o8⟩ := os_idx Sl25 Sz43 h0 o5
     have e8 := own_row (Frz.onn Frz.int) e7 o8
     refine pl_yes (.pointer (some ⟨o6, 0 + Int.toNat v_ * 1, none⟩)) (tg := 86) (by kernel_rfl) (cb a3) (o7 _ _ _ _ _ _ _ _ _ rfl rfl) ?_
     obtain ⟨u4, o9, hrow89, d0⟩ := at_load1 Ag43 Sz43 rfl rfl e8
     obtain ⟨p0, p1, p2, rfl, d0, u5⟩ := rn_sl d0
     refine pl_yes (.slice p0 p1 p2) (tg := 86) (by kernel_rfl) (cb a3) (y_load rfl (o9 _ (Chg.refl _ _))) (pl_yes (.slice b5 b6 b7) (tg := 86) (by kernel_rfl) (cb a3) (y_move rfl) ?_)
     have hO := hO.fr2
     obtain ⟨r92, p3, hs⟩ := bind_some hs
     refine pl_cally (tg := 86) (by kernel_rfl) (cb a3) Bd113 rfl (c_impl_compareTerms (M := (Less (Less M pf0) b8)) x87 s61 (d0.sub (M' := (Less (Less M pf0) b8)) (fun g h => .inl (by simp only [Less] at h ⊢; simp [h]))) (((Frz.os Frz.int)).val (b9.sub Less.sub) Less.sub Less.not) (hO.less).less.fut p3) ?_
     rintro _ u6 ⟨rfl, a6⟩
     have h0 := h0.ext a6
     have a0 := a0.ext a6
     have b9 := b9.ext a6
     have d5 := d5.ext a6
     have hrow84 := hrow84.cn a6
     have d0 := d0.ext a6
     have hrow89 := hrow89.cn a6
     have hMid := hMid.ext a6
     have e5 := at_ext e5 a6
     have e6 := at_ext e6 a6
     have e7 := at_ext e7 a6
     have e8 := at_ext e8 a6
     have hC := hC.ext a6
     have hO := hO.ext a6
     refine pl_yes (.bool (decide (r92 ≤ 0))) (tg := 86) (by kernel_rfl) (cb a3) (y_leq rfl rfl) (pl_val (.bool (decide (r92 ≤ 0))) (y_pick_t (cb a3) rfl) (c_nil ?_))
     cases hs
     exact ⟨_, fr_ovl 99 ⟨rfl, rfl, rfl, rfl, trivial⟩, hMid⟩
    refine pl_not (tg := 86) (by kernel_rfl) (cb a3) (pl_not (tg := 86) (by kernel_rfl) (cb a3) (pl_not (tg := 86) (by kernel_rfl) (cb a3) (pl_not (tg := 86) (by kernel_rfl) (cb a3) (pl_not (tg := 86) (by kernel_rfl) (cb a3) (pl_not (tg := 86) (by kernel_rfl) (cb a3) (pl_not (tg := 86) (by kernel_rfl) (cb a3) (pl_val (.bool false) (y_pick_f (cb a3) rfl) (c_nil ?_))))))))
    cases hs
    exact ⟨_, fr_ovl 99 ⟨rfl, rfl, rfl, rfl, trivial⟩, hMid⟩
   rintro c4 f8 ⟨σ, rfl, d1⟩
   have h0 := h0.ext d1
   have a0 := a0.ext d1
   have b9 := b9.ext d1
   have hC := hC.ext d1
   have hO := hO.ext d1
   rcases bif_some hs with ⟨e9, hs⟩ | ⟨e9, hs⟩
   ·refine c_condT (cb e9) (c_sr (ab rfl (c_nil (wp_ret ?_))))
    cases hs
    have hO := hO.drop
    have hO := hO.drop
    exact ⟨_, pf0, fr_ovl 99 ⟨rfl, trivial⟩, hC, h0, hO.top⟩
   refine c_condF (cb e9) (wp_skip (c_sr (ms rfl (mi rfl (ms rfl ?_)))))
   obtain ⟨x94, p4, hs⟩ := bind_some hs
   obtain ⟨f9, u7, g0, p5, p6, p7, p8⟩ := os_idx Sl25 Sz43 h0 p4
   have u9 := own_row (Frz.onn Frz.int) p7 p8
   refine pl_val _ (p6 _ _ _ _ _ _ _ _ _ rfl rfl) ?_
   obtain ⟨u97, p9, hs⟩ := bind_some hs
   have hO := hO.fr2
   obtain ⟨q0, q1, q2, f0, q3, f1⟩ := os_store (P := Try.prog) (c' := [(.slice b5 b6 b7)]) g0 h0 p5 (fun g hg => hO.inM g (os_block h0 g (by simpa using hg))) (on_unval b9 (os_nn b9 p9)) (hO.drop.perm (R := b8 ++ (b1 ++ ([]))) (by simp)).nd (fun g hg hq => hO.apart g hq (by simp only [List.mem_append, List.not_mem_nil, false_or, or_false] at hg ⊢; simp [hg])) (fun _ h => .inl h)
   have g1 : ∀ q ∈ [f9], q ∈ pf0 := fun q hq => os_block h0 q (by rw [g0]; exact hq)
   refine pl_skip (w' := q0) (ys_store rfl rfl (q2 _ _ rfl Sz43)) ?_
   have hO := hO.fr1
   have hO := hO.fr1
   have a0 := a0.ma f0 hO g1 (fun _ e => (mem_r (mem_l (e))))
   have hC := hC.st f0 hO g1
   have hO := hO.perm (R := pf0 ++ (b8 ++ (b1 ++ ([])))) (by simp)
   have hO := hO.eat f0 (fun q hq => (q3 q hq).elim .inl (fun h => .inr (.inl h))) (os_nodup f1) f1.fpl
   refine c_nil (c_sr (ab rfl (c_nil (wp_ret ?_))))
   cases hs
   have hO := hO.fr1
   have hO := hO.drop
   exact ⟨_, q1, fr_ovl 99 ⟨rfl, trivial⟩, hC, f1, hO.top⟩

theorem Bd102 : Bodied Try.prog 102 := bodied Try.func102 (by kernel_rfl) rfl

theorem Bd103 : Bodied Try.prog 103 := bodied Try.func103 (by kernel_rfl) rfl

def k_impl_span__firstTerms (M : Nat → Prop) (w0 : World) (r : (List (List Int))) (a : Act) (w : World) : Prop :=
  ∃ (σ : Nat → Value) (ra0 : Option Addr) (rn0 rc0 : Nat) (rf0 : List Nat), a = fr 81 (ovl σ [(4, (.slice ra0 rn0 rc0))]) ∧ Chg [] w0 w ∧ (RT.os 43 (RT.on 3 (RT.int .i64))).val M w (.slice ra0 rn0 rc0) r rf0 ∧ Own (Nw w0 []) (fun _ => True) w (rf0 ++ ([]))
def s_impl_span__firstTerms (gens : List (List Int)) (b0 : Int × (List (Int × (List Int))) × Int × (List (List Int)) × (List (ByteArray × Int))) : Option ((List (List Int))) :=
  (mks (b0.2.2.2.1.length : Int) ([] : List Int)).bind fun y7 =>
  (forC (S := (List (List Int))) (R := (List (List Int))) (fun k54 s52 =>
  (idx gens k54).bind fun x60 =>
  (s_impl_keyOf x60).bind fun r70 =>
  (idx s52 ((mget b0.2.2.2.2 r70).getD 0)).bind fun x71 =>
  (bif (List.isEmpty x71) then (idx s52 ((mget b0.2.2.2.2 r70).getD 0)).bind fun x78 =>
  (nne ([k54])).bind fun u81 =>
  some (.nx (List.set s52 (Int.toNat ((mget b0.2.2.2.2 r70).getD 0)) ([k54]))) else some (.nx s52))) 0 (gens.length : Int) y7).bind fun o56 => after o56 (fun r_ => some r_) (fun s52 =>
  (s_impl_span__valueTables (b0.1, b0.2.1, b0.2.2.1, b0.2.2.2.1, b0.2.2.2.2)).bind fun r83 =>
  (iter (S := Bool × (List (List Int))) (R := (List (List Int))) (fun s310 =>
  (bif s310.1 then (forC (S := Bool × (List (List Int))) (R := (List (List Int))) (fun k390 s388 =>
  (idx b0.2.1 k390).bind fun x396 =>
  (idx r83 k390).bind fun x402 =>
  (forC (S := Bool × (List (List Int))) (R := (List (List Int))) (fun k419 s417 =>
  (idx x402 k419).bind fun x425 =>
  (s_impl_span__relax s417.2 k390 x396.1 k419 x425 (b0.1, b0.2.1, b0.2.2.1, b0.2.2.2.1, b0.2.2.2.2)).bind fun r428 =>
  (bif r428.1 then some (.nx (true, r428.2)) else some (.nx (s417.1, r428.2)))) 0 (x402.length : Int) (s388.1, s388.2)).bind fun o421 => after o421 (fun r_ => some (.rt r_)) (fun s417 =>
  some (.nx (s417.1, s417.2)))) 0 (b0.2.1.length : Int) (false, s310.2)).bind fun o392 => after o392 (fun r_ => some (.rt r_)) (fun s388 =>
  some (.nx (s388.1, s388.2))) else some (.br (s310.1, s310.2)))) FU (true, s52)).bind fun o314 => after o314 (fun r_ => some r_) (fun s310 =>
  some s310.2))
set_option maxHeartbeats 4000000 in
theorem c_impl_span__firstTerms {M : Nat → Prop} {w : World} {vg0 : Nat} {pa0 : Option Addr} {pn0 pc0 : Nat} {va0x1 : Option Addr} {vn0x1 vc0x1 : Nat} {va0x3 : Option Addr} {vn0x3 vc0x3 : Nat} {vn0x4 : Nat} (gens : List (List Int)) (b0 : Int × (List (Int × (List Int))) × Int × (List (List Int)) × (List (ByteArray × Int))) (h0 : (RT.rs (RT.rs ri)).val M w (.slice pa0 pn0 pc0) gens ([])) (hb0 : RBox M w vg0 81 [(.int .i64 b0.1), (.slice va0x1 vn0x1 vc0x1), (.int .i64 b0.2.2.1), (.slice va0x3 vn0x3 vc0x3), (.map (some vn0x4))]) (hl0x1 : (RT.rs (RT.pr ri (RT.rs ri))).val M w (.slice va0x1 vn0x1 vc0x1) b0.2.1 ([])) (hl0x3 : (RT.rs (RT.rs ri)).val M w (.slice va0x3 vn0x3 vc0x3) b0.2.2.2.1 ([])) (hl0x4 : (RT.mr (Value.int .i64)).val M w (.map (some vn0x4)) b0.2.2.2.2 ([])) (hM : ∀ g, w.heap.size ≤ g → M g) {r : (List (List Int))} (hs : s_impl_span__firstTerms gens b0 = some r) :
    Gives Try.prog 57 [(pq vg0 0), (.slice pa0 pn0 pc0)] w (fun v w' => ∃ (ra0 : Option Addr) (rn0 rc0 : Nat) (rf0 : List Nat), v = (.slice ra0 rn0 rc0) ∧ Chg [] w w' ∧ (RT.os 43 (RT.on 3 ri)).val M w' (.slice ra0 rn0 rc0) r rf0 ∧ Own (Nw w []) (fun _ => True) w' (rf0 ++ ([]))) := by
 refine calls_fr Try.func57 rfl Try.ntmps57 (Nat.le_of_ble_eq_true rfl) ?_
 have hO := Own.start (N := Nw w []) hM Nw.fut
 have hC := Chg.refl [] w
 unfold s_impl_span__firstTerms at hs
 refine wp_mono (Q := KPost (k_impl_span__firstTerms M w r)) ?_ (fun e a e0 h => ?_)
 rotate_left
 ·cases e
  case ret =>
   obtain ⟨σ, ra0, rn0, rc0, rf0, rfl, hrest⟩ := h
   exact ret1x Try.results57 (res_tmp rfl) ⟨ra0, rn0, rc0, rf0, rfl, hrest⟩
  all_goals exact (h : False).elim
 refine c_sr (ax rfl (c_nil (c_sr (mp rfl (pl_val _ (y_nilc rfl) (pl_val (pq vg0 3) (y_faddr rfl Fa81x2) (pl_val (.slice va0x3 vn0x3 vc0x3) (y_load rfl ((box_load Ag25 Sz25 hb0.1 [(.int .i64 b0.1), (.slice va0x1 vn0x1 vc0x1), (.int .i64 b0.2.2.1)] [(.slice va0x3 vn0x3 vc0x3)] [(.map (some vn0x4))] rfl rfl (fun _ => rfl)) _ (Chg.refl _ _))) (pl_val _ (y_len' Sl25 (rs_len hl0x3) rfl) ?_))))))))
 obtain ⟨y7, h3, hs⟩ := bind_some hs
 obtain ⟨a2, a3, a4, h4, h5, h6, c9, h7, e8⟩ := mk_os (M := M) (w := w) (r := (RT.on 3 ri)) Rw25 h3 (fun _ _ => on_nil)
 refine pl_val (w' := h4) (.slice a2 a3 a4) (y_make rfl rfl h6) ?_
 have h0 := h0.ext c9
 have hl0x1 := hl0x1.ext c9
 have hl0x3 := hl0x3.ext c9
 have hl0x4 := hl0x4.ext c9
 have hb0 := hb0.ext c9
 have hC := hC.ext c9
 have hO := hO.new c9 h7 (os_nodup e8) e8.fpl
 refine ax rfl (c_nil (c_seq (c_sr (ms rfl (pl_val _ (y_len' Sl25 (rs_len h0) rfl) (mi rfl (c_nil ?_)))))))
 obtain ⟨o56, h8, hs⟩ := bind_some hs
 refine wp_block (wp_forC (id := 0) (gens.length : Int) (I := fun k54 s52 a a5 => ∃ (σ : Nat → Value) (c3 : List Nat), a = fr 81 (ovl σ [(0, (pq vg0 0)), (5, (.slice a2 a3 a4)), (21, (.slice pa0 pn0 pc0)), (22, (.int .i64 (gens.length : Int))), (23, (.int .i64 k54))]) ∧ Chg [] w a5 ∧ Own (Nw w []) M a5 (c3 ++ []) ∧ (RT.rs (RT.rs ri)).val M a5 (.slice pa0 pn0 pc0) gens ([]) ∧ (RT.rs (RT.pr ri (RT.rs ri))).val M a5 (.slice va0x1 vn0x1 vc0x1) b0.2.1 ([]) ∧ (RT.rs (RT.rs ri)).val M a5 (.slice va0x3 vn0x3 vc0x3) b0.2.2.2.1 ([]) ∧ (RT.mr (Value.int .i64)).val M a5 (.map (some vn0x4)) b0.2.2.2.2 ([]) ∧ RBox M a5 vg0 81 [(.int .i64 b0.1), (.slice va0x1 vn0x1 vc0x1), (.int .i64 b0.2.2.1), (.slice va0x3 vn0x3 vc0x3), (.map (some vn0x4))] ∧ (RT.os 43 (RT.on 3 ri)).val M a5 (.slice a2 a3 a4) s52 c3) (J := fun s52 a a5 => ∃ (σ : Nat → Value) (d4 : List Nat), a = fr 81 (ovl σ [(0, (pq vg0 0)), (5, (.slice a2 a3 a4))]) ∧ Chg [] w a5 ∧ Own (Nw w []) M a5 (d4 ++ []) ∧ (RT.rs (RT.rs ri)).val M a5 (.slice pa0 pn0 pc0) gens ([]) ∧ (RT.rs (RT.pr ri (RT.rs ri))).val M a5 (.slice va0x1 vn0x1 vc0x1) b0.2.1 ([]) ∧ (RT.rs (RT.rs ri)).val M a5 (.slice va0x3 vn0x3 vc0x3) b0.2.2.2.1 ([]) ∧ (RT.mr (Value.int .i64)).val M a5 (.map (some vn0x4)) b0.2.2.2.2 ([]) ∧ RBox M a5 vg0 81 [(.int .i64 b0.1), (.slice va0x1 vn0x1 vc0x1), (.int .i64 b0.2.2.1), (.slice va0x3 vn0x3 vc0x3), (.map (some vn0x4))] ∧ (RT.os 43 (RT.on 3 ri)).val M a5 (.slice a2 a3 a4) s52 d4) (K := (k_impl_span__firstTerms M w)) ?_ ?_ 0 y7 o56 _ _ ?_ h8 ?_)
 ·rintro k54 s52 a a5 ⟨σ, c3, rfl, hC, hO, h0, hl0x1, hl0x3, hl0x4, hb0, a9⟩ hlt
  refine c_sr (pl_val _ (y_lss rfl rfl) (c_nil (c_seq (c_condF (cb (decide_eq_false hlt)) (wp_exit ?_)))))
  exact ⟨rfl, _, c3, fr_ovl 81 ⟨rfl, rfl, trivial⟩, hC, hO, h0, hl0x1, hl0x3, hl0x4, hb0, a9⟩
 ·rintro k54 s52 o56 a a5 ⟨σ, c3, rfl, hC, hO, h0, hl0x1, hl0x3, hl0x4, hb0, a9⟩ hlt hw hs
  refine c_sr (pl_val _ (y_lss rfl rfl) (c_nil (c_seq (c_condT (cb (decide_eq_true hlt)) (wp_skip (c_seq (wp_block (c_sr (mi rfl ?_)))))))))
  obtain ⟨x60, h9, hs⟩ := bind_some hs
  obtain ⟨i0, i1, i2, i3⟩ := rs_idx Sl25 Sz43 h0 h9
  refine pl_val _ (i2 _ _ _ _ _ _ _ _ _ rfl rfl) ?_
  obtain ⟨o6, i4, d5⟩ := at_load Ag43 Sz43 (fun _ => rfl) i3
  obtain ⟨e9, f0, f1, rfl⟩ := rs_sl d5
  refine pl_val (.slice e9 f0 f1) (y_load rfl (i4 _ (Chg.refl _ _))) (ai rfl (ax rfl (c_nil (c_seq (x_start [] Mx rfl ?_)))))
  have b9 := Chg.drew a5
  generalize World.drew a5 = i5 at b9 ⊢
  have h0 := h0.ext b9
  have hl0x1 := hl0x1.ext b9
  have hl0x3 := hl0x3.ext b9
  have hl0x4 := hl0x4.ext b9
  have hb0 := hb0.ext b9
  have a9 := a9.ext b9
  have d5 := d5.ext b9
  have hC := hC.ext b9
  have hO := hO.ext b9
  have hS := Chg.refl [] i5
  refine x_p 0 (pq vg0 0) rfl (by kernel_rfl)  (fun _ => y_move rfl) (fun _ => hS) (x_p 1 (pq vg0 0) rfl (by kernel_rfl)  (fun _ => y_nilc rfl) (fun _ => hS) (x_p 2 (pq vg0 4) rfl (by kernel_rfl)  (fun _ => y_faddr rfl Fa81x3) (fun _ => hS) (x_l 3 (.map (some vn0x4)) rfl (by kernel_rfl)  (fun w' hw' => y_load rfl ((box_load Ag79 Sz79 hb0.1 [(.int .i64 b0.1), (.slice va0x1 vn0x1 vc0x1), (.int .i64 b0.2.2.1), (.slice va0x3 vn0x3 vc0x3)] [(.map (some vn0x4))] [] rfl rfl (fun _ => rfl)) w' hw')) hS (x_p 4 (.slice e9 f0 f1) rfl (by kernel_rfl)  (fun _ => y_move rfl) (fun _ => hS) (x_one (i := 5) (by kernel_rfl) ?_)))))
  obtain ⟨r70, i6, hs⟩ := bind_some hs
  refine xk_call (b := false) rfl  Bd59 rfl (c_impl_keyOf (M := M) x60 d5 hO.fut i6) rfl (by rintro _ _ _ ⟨rfl, b5⟩; exact hS.ext b5) ?_
  rintro _ i7 ⟨rfl, b5⟩
  have h0 := h0.ext b5
  have hl0x1 := hl0x1.ext b5
  have hl0x3 := hl0x3.ext b5
  have hl0x4 := hl0x4.ext b5
  have hb0 := hb0.ext b5
  have a9 := a9.ext b5
  have d5 := d5.ext b5
  have hC := hC.ext b5
  have hO := hO.ext b5
  have hS := hS.ext b5
  refine x_one (i := 6) (by kernel_rfl) (xk_val (b := false) (.int .i64 ((mget b0.2.2.2.2 r70).getD 0)) rfl  (y_look (enc := (Value.int .i64)) Try.underlying79 Try.underlying9 Zv3 (mr_at hl0x4) rfl rfl) rfl (fun _ => hS) (x_p 7 (.int .i64 ((mget b0.2.2.2.2 r70).getD 0)) rfl (by kernel_rfl)  (fun _ => y_assign rfl) (fun _ => hS) (x_end (by kernel_rfl) ?_)))
  clear hS
  refine c_sr (ms rfl (mi rfl ?_))
  obtain ⟨x71, i9, hs⟩ := bind_some hs
  obtain ⟨j0, o7, o8, o9, j1, j2, j3⟩ := os_idx Sl25 Sz43 a9 i9
  have j4 := own_row (Frz.onn Frz.int) j2 j3
  refine pl_val _ (j1 _ _ _ _ _ _ _ _ _ rfl rfl) ?_
  obtain ⟨p0, j5, hrow73, g0⟩ := at_load1 Ag43 Sz43 rfl rfl j4
  obtain ⟨j6, j7, j8, rfl, g0, j9⟩ := rn_sl g0
  refine pl_val (.slice j6 j7 j8) (y_load rfl (j5 _ (Chg.refl _ _))) (pl_val (.bool (List.isEmpty x71)) (y_nil Try.underlying43 rfl rfl j9) (c_nil ?_))
  rcases bif_some hs with ⟨f2, hs⟩ | ⟨f2, hs⟩
  ·refine c_condT (cb f2) (c_region (ms rfl (mi rfl (mi rfl ?_))))
   obtain ⟨g1, d6, k0, g2, c4, g3⟩ := new_block i7 [(.int .i64 k54)] 3
   refine pl_val (w' := g1) (.slice (some ⟨d6, 0, none⟩) 1 1) (y_bslice rfl (by rw [k0, g2]; kernel_rfl)) ?_
   have h0 := h0.ext c4
   have hl0x1 := hl0x1.ext c4
   have hl0x3 := hl0x3.ext c4
   have hl0x4 := hl0x4.ext c4
   have hb0 := hb0.ext c4
   have a9 := a9.ext c4
   have hC := hC.ext c4
   have hO := hO.new1 c4 g2 g3.lt
   have e1 := os_of_box (r := ri) (M := M) (css := [[(.int .i64 k54)]]) (fps := [([] : List Nat)]) (xs := ([k54] : List Int)) g3 ⟨⟨rfl, rfl⟩, trivial⟩ (Nat.le_of_ble_eq_true rfl) (List.nodup_cons.2 ⟨(fun h => nomatch h), List.nodup_nil⟩)
   have e1 : (RT.os 3 ri).val M g1 (.slice (some ⟨d6, 0, none⟩) 1 1) [k54] [d6] := e1
   obtain ⟨x78, k1, hs⟩ := bind_some hs
   obtain ⟨g4, p1, g5, k2, k3, k4, k5⟩ := os_idx Sl25 Sz43 a9 k1
   have p2 := own_row (Frz.onn Frz.int) k4 k5
   refine pl_val _ (k3 _ _ _ _ _ _ _ _ _ rfl rfl) ?_
   obtain ⟨u81, k6, hs⟩ := bind_some hs
   have hO := hO.fr1
   obtain ⟨k7, k8, k9, d0, l0, f3⟩ := os_store (P := Try.prog) (c' := [(.slice (some ⟨d6, 0, none⟩) 1 1)]) g5 a9 k2 (fun g hg => hO.inM g (os_block a9 g (by simpa using hg))) (on_unval e1 (os_nn e1 k6)) (hO.drop.perm (R := ([d6]) ++ ([])) (by simp)).nd (fun g hg hq => hO.apart g hq (by simp only [List.mem_append, List.not_mem_nil, false_or, or_false] at hg ⊢; simp [hg])) (fun _ h => .inl h)
   have d7 : ∀ q ∈ [g4], q ∈ c3 := fun q hq => os_block a9 q (by rw [g5]; exact hq)
   refine pl_skip (w' := k7) (ys_store rfl rfl (k9 _ _ rfl Sz43)) ?_
   have hO := hO.fr1
   have hO := hO.fr1
   have h0 := h0.mt d0 hO d7
   have hl0x1 := hl0x1.mt d0 hO d7
   have hl0x3 := hl0x3.mt d0 hO d7
   have hl0x4 := hl0x4.mt d0 hO d7
   have hb0 := hb0.mut d0 (fun q hq => hO.inM q (d7 q hq))
   have hC := hC.st d0 hO d7
   have hO := hO.perm (R := c3 ++ (([d6]) ++ ([]))) (by simp)
   have hO := hO.eat d0 (fun q hq => (l0 q hq).elim .inl (fun h => .inr (.inl h))) (os_nodup f3) f3.fpl
   refine c_nil (c_region (pl_val (.int .i64 (w64 (k54 + 1))) (y_add rfl rfl) (mi rfl (c_nil ?_))))
   cases hs
   exact ⟨_, k8, fr_ovl 81 ⟨rfl, rfl, rfl, rfl, congrArg (Value.int .i64) hw, trivial⟩, hC, hO, h0, hl0x1, hl0x3, hl0x4, hb0, f3⟩
  refine c_condF (cb f2) (wp_skip (c_region (pl_val (.int .i64 (w64 (k54 + 1))) (y_add rfl rfl) (mi rfl (c_nil ?_)))))
  cases hs
  exact ⟨_, c3, fr_ovl 81 ⟨rfl, rfl, rfl, rfl, congrArg (Value.int .i64) hw, trivial⟩, hC, hO, h0, hl0x1, hl0x3, hl0x4, hb0, a9⟩
 ·skip
  exact ⟨_, h5, fr_ovl 81 ⟨rfl, rfl, rfl, rfl, rfl, trivial⟩, hC, hO, h0, hl0x1, hl0x3, hl0x4, hb0, e8⟩
 cases o56 with
 | nx _ => exact True.intro
 | rt r_ =>
  have hs := after_rt hs
  intro d1 e0 hK
  cases hs
  exact hK
 | br s52 =>
  have hs := after_br hs
  rintro d1 a5 ⟨σ, d4, rfl, hC, hO, h0, hl0x1, hl0x3, hl0x4, hb0, f4⟩
  refine c_sr (mp rfl ?_)
  obtain ⟨r83, l1, hs⟩ := bind_some hs
  refine pl_call Bd102 rfl (c_impl_span__valueTables (M := M) (b0.1, b0.2.1, b0.2.2.1, b0.2.2.2.1, b0.2.2.2.2) (show RBox M _ vg0 81 [(.int .i64 b0.1), (.slice va0x1 vn0x1 vc0x1), (.int .i64 b0.2.2.1), (.slice va0x3 vn0x3 vc0x3), (.map (some vn0x4))] from hb0) hl0x1 hl0x3 hl0x4 hO.fut l1) ?_
  rintro _ p3 ⟨b1, b2, b3, a8, rfl, c5, a1, l2⟩
  have hO := hO.perm (R := [] ++ (d4 ++ ([]))) (by simp)
  have h0 := h0.ext c5
  have hl0x1 := hl0x1.ext c5
  have hl0x3 := hl0x3.ext c5
  have hl0x4 := hl0x4.ext c5
  have hb0 := hb0.ext c5
  have f4 := f4.ext c5
  have hC := hC.ext c5
  have hO := Own.join hO c5 l2
  have hO := hO.perm (R := a8 ++ (d4 ++ ([]))) (by simp)
  refine ax rfl (c_nil (c_seq (c_sr (ab rfl (c_nil ?_)))))
  obtain ⟨o314, l3, hs⟩ := bind_some hs
  refine wp_block (wp_iter (id := 2) (I := fun s310 a a7 => ∃ (σ : Nat → Value) (d9 : List Nat), a = fr 81 (ovl σ [(0, (pq vg0 0)), (5, (.slice a2 a3 a4)), (9, (.slice b1 b2 b3)), (10, (.bool s310.1))]) ∧ Chg [] w a7 ∧ Own (Nw w []) M a7 (a8 ++ (d9 ++ [])) ∧ (RT.rs (RT.pr ri (RT.rs ri))).val M a7 (.slice va0x1 vn0x1 vc0x1) b0.2.1 ([]) ∧ (RT.rs (RT.rs ri)).val M a7 (.slice va0x3 vn0x3 vc0x3) b0.2.2.2.1 ([]) ∧ (RT.mr (Value.int .i64)).val M a7 (.map (some vn0x4)) b0.2.2.2.2 ([]) ∧ RBox M a7 vg0 81 [(.int .i64 b0.1), (.slice va0x1 vn0x1 vc0x1), (.int .i64 b0.2.2.1), (.slice va0x3 vn0x3 vc0x3), (.map (some vn0x4))] ∧ (RT.os 43 (RT.on 3 ri)).val M a7 (.slice a2 a3 a4) s310.2 d9 ∧ (RT.os 43 (RT.os 3 ri)).val M a7 (.slice b1 b2 b3) r83 a8) (J := fun s310 a a7 => ∃ (σ : Nat → Value) (e2 : List Nat), a = fr 81 (ovl σ [(5, (.slice a2 a3 a4))]) ∧ Chg [] w a7 ∧ Own (Nw w []) M a7 (a8 ++ (e2 ++ [])) ∧ (RT.rs (RT.pr ri (RT.rs ri))).val M a7 (.slice va0x1 vn0x1 vc0x1) b0.2.1 ([]) ∧ (RT.rs (RT.rs ri)).val M a7 (.slice va0x3 vn0x3 vc0x3) b0.2.2.2.1 ([]) ∧ (RT.mr (Value.int .i64)).val M a7 (.map (some vn0x4)) b0.2.2.2.2 ([]) ∧ RBox M a7 vg0 81 [(.int .i64 b0.1), (.slice va0x1 vn0x1 vc0x1), (.int .i64 b0.2.2.1), (.slice va0x3 vn0x3 vc0x3), (.map (some vn0x4))] ∧ (RT.os 43 (RT.on 3 ri)).val M a7 (.slice a2 a3 a4) s310.2 e2 ∧ (RT.os 43 (RT.os 3 ri)).val M a7 (.slice b1 b2 b3) r83 a8) (K := (k_impl_span__firstTerms M w)) ?_ FU (true, s52) o314 _ _ ?_ l3 ?_)
  ·rintro s310 o314 a a7 ⟨σ, d9, rfl, hC, hO, hl0x1, hl0x3, hl0x4, hb0, g6, a1⟩ hs
   refine c_seq (c_sr (mb rfl (c_nil ?_)))
   rcases bif_some hs with ⟨f5, hs⟩ | ⟨f5, hs⟩
   ·refine c_condT (cb f5) (wp_skip (wp_block (c_sr (ab rfl (c_nil (c_sr (mp rfl (pl_val _ (y_nilc rfl) (pl_val (pq vg0 0) (y_faddr rfl Fa81x0) (pl_val (pq vg0 1) (y_faddr rfl Fa35x1) (pl_val (.slice va0x1 vn0x1 vc0x1) (y_load rfl ((box_load Ag33 Sz33 hb0.1 [(.int .i64 b0.1)] [(.slice va0x1 vn0x1 vc0x1)] [(.int .i64 b0.2.2.1), (.slice va0x3 vn0x3 vc0x3), (.map (some vn0x4))] rfl rfl (fun _ => rfl)) _ (Chg.refl _ _))) (pl_val _ (y_len' Sl33 (rs_len hl0x1) rfl) (mi rfl (c_nil ?_))))))))))))))
    obtain ⟨o392, l4, hs⟩ := bind_some hs
    refine wp_block (wp_forC (id := 4) (b0.2.1.length : Int) (I := fun k390 s388 a a6 => ∃ (σ : Nat → Value) (d8 : List Nat), a = fr 81 (ovl σ [(0, (pq vg0 0)), (5, (.slice a2 a3 a4)), (9, (.slice b1 b2 b3)), (10, (.bool s388.1)), (53, (.slice va0x1 vn0x1 vc0x1)), (54, (.int .i64 (b0.2.1.length : Int))), (55, (.int .i64 k390))]) ∧ Chg [] w a6 ∧ Own (Nw w []) M a6 (a8 ++ (d8 ++ [])) ∧ (RT.rs (RT.pr ri (RT.rs ri))).val M a6 (.slice va0x1 vn0x1 vc0x1) b0.2.1 ([]) ∧ (RT.rs (RT.rs ri)).val M a6 (.slice va0x3 vn0x3 vc0x3) b0.2.2.2.1 ([]) ∧ (RT.mr (Value.int .i64)).val M a6 (.map (some vn0x4)) b0.2.2.2.2 ([]) ∧ RBox M a6 vg0 81 [(.int .i64 b0.1), (.slice va0x1 vn0x1 vc0x1), (.int .i64 b0.2.2.1), (.slice va0x3 vn0x3 vc0x3), (.map (some vn0x4))] ∧ (RT.os 43 (RT.on 3 ri)).val M a6 (.slice a2 a3 a4) s388.2 d8 ∧ (RT.os 43 (RT.os 3 ri)).val M a6 (.slice b1 b2 b3) r83 a8) (J := fun s388 a a6 => ∃ (σ : Nat → Value) (e3 : List Nat), a = fr 81 (ovl σ [(0, (pq vg0 0)), (5, (.slice a2 a3 a4)), (9, (.slice b1 b2 b3)), (10, (.bool s388.1))]) ∧ Chg [] w a6 ∧ Own (Nw w []) M a6 (a8 ++ (e3 ++ [])) ∧ (RT.rs (RT.pr ri (RT.rs ri))).val M a6 (.slice va0x1 vn0x1 vc0x1) b0.2.1 ([]) ∧ (RT.rs (RT.rs ri)).val M a6 (.slice va0x3 vn0x3 vc0x3) b0.2.2.2.1 ([]) ∧ (RT.mr (Value.int .i64)).val M a6 (.map (some vn0x4)) b0.2.2.2.2 ([]) ∧ RBox M a6 vg0 81 [(.int .i64 b0.1), (.slice va0x1 vn0x1 vc0x1), (.int .i64 b0.2.2.1), (.slice va0x3 vn0x3 vc0x3), (.map (some vn0x4))] ∧ (RT.os 43 (RT.on 3 ri)).val M a6 (.slice a2 a3 a4) s388.2 e3 ∧ (RT.os 43 (RT.os 3 ri)).val M a6 (.slice b1 b2 b3) r83 a8) (K := (k_impl_span__firstTerms M w)) ?_ ?_ 0 (false, s310.2) o392 _ _ ?_ l4 ?_)
    ·rintro k390 s388 a a6 ⟨σ, d8, rfl, hC, hO, hl0x1, hl0x3, hl0x4, hb0, d2, a1⟩ hlt
     refine c_sr (pl_val _ (y_lss rfl rfl) (c_nil (c_seq (c_condF (cb (decide_eq_false hlt)) (wp_exit ?_)))))
     have hO := hO.fr1
     have hO := hO.fr1
     exact ⟨rfl, _, d8, fr_ovl 81 ⟨rfl, rfl, rfl, rfl, trivial⟩, hC, hO, hl0x1, hl0x3, hl0x4, hb0, d2, a1⟩
    ·rintro k390 s388 o392 a a6 ⟨σ, d8, rfl, hC, hO, hl0x1, hl0x3, hl0x4, hb0, d2, a1⟩ hlt hw hs
     refine c_sr (pl_val _ (y_lss rfl rfl) (c_nil (c_seq (c_condT (cb (decide_eq_true hlt)) (wp_skip (c_seq (wp_block (c_sr (mi rfl ?_)))))))))
     obtain ⟨x396, l5, hs⟩ := bind_some hs
     obtain ⟨l6, l7, l8, f6⟩ := rs_idx Sl33 Sz89 hl0x1 l5
     refine pl_val _ (l8 _ _ _ _ _ _ _ _ _ rfl rfl) ?_
     obtain ⟨p4, l9, m0⟩ := at_load Ag89 Sz89 (by intro h; cases h) f6
     obtain ⟨p5, rfl, m1⟩ := m0
     obtain ⟨p6, p7, rfl, m2, m3⟩ := pr_open m1
     obtain rfl := int_rel m2
     obtain ⟨c6, c7, c8, rfl, b4⟩ := rs_rel m3
     refine pl_val (.agg #[(.int .i64 x396.1), (.slice c6 c7 c8)]) (y_load rfl (l9 _ (Chg.refl _ _))) ?_
     obtain ⟨m4, b8, m5, g7, c0, g8⟩ := new_block a6 [(.int .i64 0), (.slice none 0 0)] 89
     refine pl_val (w' := m4) (pq b8 0) (y_alloc (by rw [m5, g7]; kernel_rfl)) ?_
     have hl0x1 := hl0x1.ext c0
     have hl0x3 := hl0x3.ext c0
     have hl0x4 := hl0x4.ext c0
     have hb0 := hb0.ext c0
     have d2 := d2.ext c0
     have a1 := a1.ext c0
     have b4 := b4.ext c0
     have f6 := at_ext f6 c0
     have hC := hC.ext c0
     have hO := hO.new1 c0 g7 g8.lt
     refine ai rfl ?_
     obtain ⟨g9, m6, c2, b6⟩ := box_store (P := Try.prog) g8 [] [(.int .i64 0), (.slice none 0 0)] [] [(.int .i64 x396.1), (.slice c6 c7 c8)] rfl rfl (by intro u hu; simp only [List.mem_cons, List.not_mem_nil, or_false] at hu; rcases hu with rfl | rfl <;> rfl)
     refine pl_skip (w' := g9) (ys_store rfl rfl (m6 _ _ rfl Sz89)) ?_
     have hl0x1 := hl0x1.mt c2 hO same_
     have hl0x3 := hl0x3.mt c2 hO same_
     have hl0x4 := hl0x4.mt c2 hO same_
     have hb0 := hb0.mut c2 (fun q hq => hO.inM q ((fun _ h => h) q hq))
     have d2 := d2.ma c2 hO same_ (fun _ e => (mem_r (mem_l (e))))
     have a1 := a1.ma c2 hO same_ (fun _ e => (mem_l (e)))
     have b4 := b4.mt c2 hO same_
     have hC := hC.st c2 hO same_
     have hO := hO.ext c2
     have b6 : BoxV g9 b8 89 [(.int .i64 x396.1), (.slice c6 c7 c8)] := b6
     refine c_nil (c_sr (ms rfl (mi rfl ?_)))
     obtain ⟨x402, m7, hs⟩ := bind_some hs
     obtain ⟨m8, p8, p9, q0, m9, n0, n1⟩ := os_idx Sl25 Sz43 a1 m7
     have n2 := own_row (Frz.os Frz.int) n0 n1
     refine pl_val _ (m9 _ _ _ _ _ _ _ _ _ rfl rfl) ?_
     obtain ⟨q1, n3, hrow404, b7⟩ := at_load1 Ag43 Sz43 rfl rfl n2
     obtain ⟨e4, e5, e6, rfl⟩ := rs_sl b7
     refine pl_val (.slice e4 e5 e6) (y_load rfl (n3 _ (Chg.refl _ _))) (pl_val _ (y_len' Sl43 (rs_len b7) rfl) (mi rfl (c_nil ?_)))
     obtain ⟨o421, n4, hs⟩ := bind_some hs
     refine wp_block (wp_forC (id := 6) (x402.length : Int) (I := fun k419 s417 a a0 => ∃ (σ : Nat → Value) (d3 : List Nat), a = fr 81 (ovl σ [(0, (pq vg0 0)), (5, (.slice a2 a3 a4)), (9, (.slice b1 b2 b3)), (10, (.bool s417.1)), (11, (.int .i64 k390)), (12, (pq b8 0)), (53, (.slice va0x1 vn0x1 vc0x1)), (54, (.int .i64 (b0.2.1.length : Int))), (55, (.int .i64 k390)), (63, (.slice e4 e5 e6)), (64, (.int .i64 (x402.length : Int))), (65, (.int .i64 k419))]) ∧ Chg [] w a0 ∧ Own (Nw w []) M a0 (([b8]) ++ (a8 ++ (d3 ++ []))) ∧ (RT.rs (RT.pr ri (RT.rs ri))).val M a0 (.slice va0x1 vn0x1 vc0x1) b0.2.1 ([]) ∧ (RT.rs (RT.rs ri)).val M a0 (.slice va0x3 vn0x3 vc0x3) b0.2.2.2.1 ([]) ∧ (RT.mr (Value.int .i64)).val M a0 (.map (some vn0x4)) b0.2.2.2.2 ([]) ∧ RBox M a0 vg0 81 [(.int .i64 b0.1), (.slice va0x1 vn0x1 vc0x1), (.int .i64 b0.2.2.1), (.slice va0x3 vn0x3 vc0x3), (.map (some vn0x4))] ∧ (RT.os 43 (RT.on 3 ri)).val M a0 (.slice a2 a3 a4) s417.2 d3 ∧ (RT.os 43 (RT.os 3 ri)).val M a0 (.slice b1 b2 b3) r83 a8 ∧ (RT.rs ri).val M a0 (.slice c6 c7 c8) x396.2 ([]) ∧ BoxV a0 b8 89 [(.int .i64 x396.1), (.slice c6 c7 c8)] ∧ (RT.rs ri).val (Less M a8) a0 (.slice e4 e5 e6) x402 ([])) (J := fun s417 a a0 => ∃ (σ : Nat → Value) (e7 : List Nat), a = fr 81 (ovl σ [(0, (pq vg0 0)), (5, (.slice a2 a3 a4)), (9, (.slice b1 b2 b3)), (10, (.bool s417.1)), (53, (.slice va0x1 vn0x1 vc0x1)), (54, (.int .i64 (b0.2.1.length : Int))), (55, (.int .i64 k390))]) ∧ Chg [] w a0 ∧ Own (Nw w []) M a0 (([b8]) ++ (a8 ++ (e7 ++ []))) ∧ (RT.rs (RT.pr ri (RT.rs ri))).val M a0 (.slice va0x1 vn0x1 vc0x1) b0.2.1 ([]) ∧ (RT.rs (RT.rs ri)).val M a0 (.slice va0x3 vn0x3 vc0x3) b0.2.2.2.1 ([]) ∧ (RT.mr (Value.int .i64)).val M a0 (.map (some vn0x4)) b0.2.2.2.2 ([]) ∧ RBox M a0 vg0 81 [(.int .i64 b0.1), (.slice va0x1 vn0x1 vc0x1), (.int .i64 b0.2.2.1), (.slice va0x3 vn0x3 vc0x3), (.map (some vn0x4))] ∧ (RT.os 43 (RT.on 3 ri)).val M a0 (.slice a2 a3 a4) s417.2 e7 ∧ (RT.os 43 (RT.os 3 ri)).val M a0 (.slice b1 b2 b3) r83 a8 ∧ (RT.rs ri).val M a0 (.slice c6 c7 c8) x396.2 ([]) ∧ BoxV a0 b8 89 [(.int .i64 x396.1), (.slice c6 c7 c8)] ∧ (RT.rs ri).val (Less M a8) a0 (.slice e4 e5 e6) x402 ([])) (K := (k_impl_span__firstTerms M w)) ?_ ?_ 0 (s388.1, s388.2) o421 _ _ ?_ n4 ?_)
     ·rintro k419 s417 a a0 ⟨σ, d3, rfl, hC, hO, hl0x1, hl0x3, hl0x4, hb0, f7, a1, b4, b6, b7⟩ hlt
      refine c_sr (pl_val _ (y_lss rfl rfl) (c_nil (c_seq (c_condF (cb (decide_eq_false hlt)) (wp_exit ?_)))))
      have hO := hO.fr2
      have hO := hO.fr2
      have hO := hO.fr2
      exact ⟨rfl, _, d3, fr_ovl 81 ⟨rfl, rfl, rfl, rfl, rfl, rfl, rfl, trivial⟩, hC, hO, hl0x1, hl0x3, hl0x4, hb0, f7, a1, b4, b6, b7⟩
     ·rintro k419 s417 o421 a a0 ⟨σ, d3, rfl, hC, hO, hl0x1, hl0x3, hl0x4, hb0, f7, a1, b4, b6, b7⟩ hlt hw hs
      refine c_sr (pl_val _ (y_lss rfl rfl) (c_nil (c_seq (c_condT (cb (decide_eq_true hlt)) (wp_skip (c_seq (wp_block (c_sr (mi rfl ?_)))))))))
      obtain ⟨x425, n5, hs⟩ := bind_some hs
      obtain ⟨n6, n7, n8, n9⟩ := rs_idx Sl43 Sz3 b7 n5
      refine pl_val _ (n8 _ _ _ _ _ _ _ _ _ rfl rfl) (pl_val (.int .i64 x425) (y_load rfl ((at_load_int Ag3 Sz3 n9) _ (Chg.refl _ _))) (ai rfl (ai rfl (c_nil (c_sr (mp rfl (ms rfl (mi rfl (pl_val (pq b8 0) (y_faddr rfl Fa89x0) (pl_val (.int .i64 x396.1) (y_load rfl ((box_load Ag3 Sz3 b6 [] [(.int .i64 x396.1)] [(.slice c6 c7 c8)] rfl rfl (fun _ => rfl)) _ (Chg.refl _ _))) (mi rfl (mi rfl ?_))))))))))))
      have hO := hO.fr2
      have o0 := hO
      have h1 := Own.lend (F := (d3 ++ ([]))) (R := ([b8]) ++ (a8 ++ ([]))) (Own.perm (o0) (by simp))
      obtain ⟨r428, o1, hs⟩ := bind_some hs
      refine pl_call Bd103 rfl (c_impl_span__relax (M := M) s417.2 k390 x396.1 k419 x425 (b0.1, b0.2.1, b0.2.2.1, b0.2.2.2.1, b0.2.2.2.2) f7 (show RBox M _ vg0 81 [(.int .i64 b0.1), (.slice va0x1 vn0x1 vc0x1), (.int .i64 b0.2.2.1), (.slice va0x3 vn0x3 vc0x3), (.map (some vn0x4))] from hb0) hl0x1 hl0x3 hl0x4 h1 h1.fut o1) ?_
      rintro _ q2 ⟨f8, rfl, c1, h2, o2⟩
      have hO := hO.perm (R := (d3 ++ ([])) ++ (([b8]) ++ (a8 ++ ([])))) (by simp)
      have hl0x1 := hl0x1.mt c1 hO same_
      have hl0x3 := hl0x3.mt c1 hO same_
      have hl0x4 := hl0x4.mt c1 hO same_
      have hb0 := hb0.mut c1 (fun q hq => hO.inM q ((fun _ h => h) q hq))
      have a1 := a1.ma c1 hO same_ (fun _ e => (mem_r (mem_l (e))))
      have b4 := b4.mt c1 hO same_
      have b6 := b6.ap c1 hO same_ (mem_l (List.mem_singleton.2 rfl))
      have b7 := b7.mut c1 (fun g hg => ⟨hO.inM g ((fun _ h => h) g hg), fun e => hO.apart g ((fun _ h => h) g hg) (mem_r (mem_l (e)))⟩) (fun _ _ h => nomatch h)
      have hC := hC.st c1 hO same_
      have hO := Own.join hO c1 o2
      have hO := hO.perm (R := f8 ++ (([b8]) ++ (a8 ++ ([])))) (by simp)
      refine c_nil ?_
      rcases bif_some hs with ⟨f9, hs⟩ | ⟨f9, hs⟩
      ·refine c_condT (cb f9) (c_region (ab rfl (c_nil (c_region (pl_val (.int .i64 (w64 (k419 + 1))) (y_add rfl rfl) (mi rfl (c_nil ?_)))))))
       cases hs
       have hO := hO.fr2
       have hO := hO.fr2
       exact ⟨_, f8, fr_ovl 81 ⟨rfl, rfl, rfl, rfl, rfl, rfl, rfl, rfl, rfl, rfl, rfl, congrArg (Value.int .i64) hw, trivial⟩, hC, hO, hl0x1, hl0x3, hl0x4, hb0, h2, a1, b4, b6, b7⟩
      refine c_condF (cb f9) (wp_skip (c_region (pl_val (.int .i64 (w64 (k419 + 1))) (y_add rfl rfl) (mi rfl (c_nil ?_)))))
      cases hs
      have hO := hO.fr2
      have hO := hO.fr2
      exact ⟨_, f8, fr_ovl 81 ⟨rfl, rfl, rfl, rfl, rfl, rfl, rfl, rfl, rfl, rfl, rfl, congrArg (Value.int .i64) hw, trivial⟩, hC, hO, hl0x1, hl0x3, hl0x4, hb0, h2, a1, b4, b6, b7⟩
     ·skip
      have hO := hO.fr2
      have hO := hO.fr2
      have hO := hO.fr2
      exact ⟨_, d8, fr_ovl 81 ⟨rfl, rfl, rfl, rfl, rfl, rfl, rfl, rfl, rfl, rfl, rfl, rfl, trivial⟩, hC, hO, hl0x1, hl0x3, hl0x4, hb0, d2, a1, b4, b6, b7⟩
     cases o421 with
     | nx _ => exact True.intro
     | rt r_ =>
      have hs := after_rt hs
      intro d1 e0 hK
      cases hs
      exact hK
     | br s417 =>
      have hs := after_br hs
      rintro d1 a0 ⟨σ, e7, rfl, hC, hO, hl0x1, hl0x3, hl0x4, hb0, o3, a1, b4, b6, b7⟩
      refine c_region (pl_val (.int .i64 (w64 (k390 + 1))) (y_add rfl rfl) (mi rfl (c_nil ?_)))
      cases hs
      have hO := hO.drop
      have hO := hO.fr1
      have hO := hO.fr1
      exact ⟨_, e7, fr_ovl 81 ⟨rfl, rfl, rfl, rfl, rfl, rfl, congrArg (Value.int .i64) hw, trivial⟩, hC, hO, hl0x1, hl0x3, hl0x4, hb0, o3, a1⟩
    ·skip
     have hO := hO.fr1
     have hO := hO.fr1
     exact ⟨_, d9, fr_ovl 81 ⟨rfl, rfl, rfl, rfl, rfl, rfl, rfl, trivial⟩, hC, hO, hl0x1, hl0x3, hl0x4, hb0, g6, a1⟩
    cases o392 with
    | nx _ => exact True.intro
    | rt r_ =>
     have hs := after_rt hs
     intro d1 e0 hK
     cases hs
     exact hK
    | br s388 =>
     have hs := after_br hs
     rintro d1 a6 ⟨σ, e3, rfl, hC, hO, hl0x1, hl0x3, hl0x4, hb0, o4, a1⟩
     cases hs
     have hO := hO.fr1
     have hO := hO.fr1
     exact ⟨_, e3, fr_ovl 81 ⟨rfl, rfl, rfl, rfl, trivial⟩, hC, hO, hl0x1, hl0x3, hl0x4, hb0, o4, a1⟩
   refine c_condF (cb f5) (wp_exit ?_)
   cases hs
   have hO := hO.fr1
   have hO := hO.fr1
   exact ⟨rfl, _, d9, fr_ovl 81 ⟨rfl, trivial⟩, hC, hO, hl0x1, hl0x3, hl0x4, hb0, g6, a1⟩
  ·skip
   have hO := hO.fr1
   have hO := hO.fr1
   exact ⟨_, d4, fr_ovl 81 ⟨rfl, rfl, rfl, rfl, trivial⟩, hC, hO, hl0x1, hl0x3, hl0x4, hb0, f4, a1⟩
  cases o314 with
  | nx _ => exact True.intro
  | rt r_ =>
   have hs := after_rt hs
   intro d1 e0 hK
   cases hs
   exact hK
  | br s310 =>
   have hs := after_br hs
   rintro d1 a7 ⟨σ, e2, rfl, hC, hO, hl0x1, hl0x3, hl0x4, hb0, o5, a1⟩
   refine c_sr (ms rfl (ax rfl (c_nil (wp_ret ?_))))
   cases hs
   have hO := hO.drop
   exact ⟨_, a2, a3, a4, e2, fr_ovl 81 ⟨rfl, trivial⟩, hC, o5, hO.top⟩

def k_impl_cloneRows (M : Nat → Prop) (w0 : World) (r : (List (List Int))) (a : Act) (w : World) : Prop :=
  ∃ (σ : Nat → Value) (ra0 : Option Addr) (rn0 rc0 : Nat) (rf0 : List Nat), a = fr 20 (ovl σ [(2, (.slice ra0 rn0 rc0))]) ∧ Chg [] w0 w ∧ (RT.os 43 (RT.os 3 (RT.int .i64))).val M w (.slice ra0 rn0 rc0) r rf0 ∧ Own (Nw w0 []) (fun _ => True) w (rf0 ++ ([]))
def s_impl_cloneRows (rows : List (List Int)) : Option ((List (List Int))) :=
  (forR (S := (List (List Int))) (R := (List (List Int))) (fun _ x20 s17 =>
  (s_impl_clone x20).bind fun r31 =>
  (app s17 ([r31])).bind fun y36 =>
  some (.nx y36)) 0 rows ([])).bind fun o21 => after o21 (fun r_ => some r_) (fun s17 =>
  some s17)
set_option maxHeartbeats 4000000 in
theorem c_impl_cloneRows {M : Nat → Prop} {w : World} {pa0 : Option Addr} {pn0 pc0 : Nat} (rows : List (List Int)) (h0 : (RT.rs (RT.rs ri)).val M w (.slice pa0 pn0 pc0) rows ([])) (hM : ∀ g, w.heap.size ≤ g → M g) {r : (List (List Int))} (hs : s_impl_cloneRows rows = some r) :
    Gives Try.prog 104 [(.slice pa0 pn0 pc0)] w (fun v w' => ∃ (ra0 : Option Addr) (rn0 rc0 : Nat) (rf0 : List Nat), v = (.slice ra0 rn0 rc0) ∧ Chg [] w w' ∧ (RT.os 43 (RT.os 3 ri)).val M w' (.slice ra0 rn0 rc0) r rf0 ∧ Own (Nw w []) (fun _ => True) w' (rf0 ++ ([]))) := by
 refine calls_fr Try.func104 rfl Try.ntmps104 (Nat.le_of_ble_eq_true rfl) ?_
 have hO := Own.start (N := Nw w []) hM Nw.fut
 have hC := Chg.refl [] w
 unfold s_impl_cloneRows at hs
 refine wp_mono (Q := KPost (k_impl_cloneRows M w r)) ?_ (fun e a d9 h => ?_)
 rotate_left
 ·cases e
  case ret =>
   obtain ⟨σ, ra0, rn0, rc0, rf0, rfl, hrest⟩ := h
   exact ret1x Try.results104 (res_tmp rfl) ⟨ra0, rn0, rc0, rf0, rfl, hrest⟩
  all_goals exact (h : False).elim
 refine c_sr (ax rfl (c_nil (c_sr ?_)))
 obtain ⟨d0, a5, e0, d1, b8, d2⟩ := new_block w [] 43
 refine pl_val (w' := d0) (.slice (some ⟨a5, 0, none⟩) 0 0) (y_bslice rfl (by rw [e0, d1]; kernel_rfl)) ?_
 have h0 := h0.ext b8
 have hC := hC.ext b8
 have hO := hO.new1 b8 d1 d2.lt
 have b9 := os_of_box (r := (RT.os 3 ri)) (M := M) (css := []) (fps := []) (xs := ([] : List (List Int))) d2 trivial (Nat.zero_le _) (List.nodup_cons.2 ⟨(fun h => nomatch h), List.nodup_nil⟩)
 have b9 : (RT.os 43 (RT.os 3 ri)).val M d0 (.slice (some ⟨a5, 0, none⟩) 0 0) [] [a5] := b9
 refine ax rfl (c_nil (c_seq (c_sr (ms rfl (pl_val _ (y_len' Sl25 (rs_len h0) rfl) (mi rfl (c_nil ?_)))))))
 obtain ⟨o21, e1, hs⟩ := bind_some hs
 refine wp_block (wp_forR (id := 0) (I := fun i_ xs_ s17 a a0 => ∃ a1 : Nat, i_ = (a1 : Int) ∧ List.drop a1 rows = xs_ ∧ (∃ (σ : Nat → Value) (a6 : Option Addr) (a7 : Nat) (a8 : Nat) (a4 : List Nat), a = fr 20 (ovl σ [(3, (.slice a6 a7 a8)), (7, (.slice pa0 pn0 pc0)), (8, (.int .i64 (rows.length : Int))), (9, (.int .i64 (a1 : Int)))]) ∧ Chg [] w a0 ∧ Own (Nw w []) M a0 (a4 ++ []) ∧ (RT.rs (RT.rs ri)).val M a0 (.slice pa0 pn0 pc0) rows ([]) ∧ (RT.os 43 (RT.os 3 ri)).val M a0 (.slice a6 a7 a8) s17 a4)) (J := fun s17 a a0 => ∃ (σ : Nat → Value) (a9 : Option Addr) (b0 : Nat) (b1 : Nat) (b4 : List Nat), a = fr 20 (ovl σ [(3, (.slice a9 b0 b1))]) ∧ Chg [] w a0 ∧ Own (Nw w []) M a0 (b4 ++ []) ∧ (RT.rs (RT.rs ri)).val M a0 (.slice pa0 pn0 pc0) rows ([]) ∧ (RT.os 43 (RT.os 3 ri)).val M a0 (.slice a9 b0 b1) s17 b4) (K := (k_impl_cloneRows M w)) ?_ ?_ rows 0 ([]) o21 _ _ ?_ e1 ?_)
 ·rintro _ s17 a a0 ⟨a1, rfl, hd, σ, a6, a7, a8, a4, rfl, hC, hO, h0, a2⟩
  have hlt := drop_nil_ge hd
  refine c_sr (pl_val _ (y_lss rfl rfl) (c_nil (c_seq (c_condF (cb (decide_eq_false hlt)) (wp_exit ?_)))))
  exact ⟨rfl, _, a6, a7, a8, a4, fr_ovl 20 ⟨rfl, trivial⟩, hC, hO, h0, a2⟩
 ·rintro _ x20 xs_ s17 o21 a a0 ⟨a1, rfl, hd, σ, a6, a7, a8, a4, rfl, hC, hO, h0, a2⟩ hs
  have hlt := drop_cons_lt hd
  have e2 := drop_cons_idx hd
  refine c_sr (pl_val _ (y_lss rfl rfl) (c_nil (c_seq (c_condT (cb (decide_eq_true hlt)) (wp_skip (c_seq (wp_block (c_sr ?_))))))))
  obtain ⟨e3, e4, e5, e6⟩ := rs_idx Sl25 Sz43 h0 e2
  refine pl_val _ (e5 _ _ _ _ _ _ _ _ _ rfl rfl) ?_
  obtain ⟨g0, e7, a3⟩ := at_load Ag43 Sz43 (fun _ => rfl) e6
  obtain ⟨c0, c1, c2, rfl⟩ := rs_sl a3
  refine pl_val (.slice c0 c1 c2) (y_load rfl (e7 _ (Chg.refl _ _))) (ax rfl (c_nil (c_region (ms rfl (ms rfl ?_)))))
  obtain ⟨r31, e8, hs⟩ := bind_some hs
  refine pl_call Bd99 rfl (c_impl_clone (M := M) x20 a3 hO.fut e8) ?_
  rintro _ e9 ⟨d3, d4, d5, b5, rfl, b3, c3, g1, f0⟩
  have h0 := h0.ext b3
  have a2 := a2.ext b3
  have a3 := a3.ext b3
  have hC := hC.ext b3
  have hO := Own.join0 hO b3 f0
  have hO := hO.perm (R := b5 ++ (a4 ++ ([]))) (by simp)
  obtain ⟨d6, b6, f1, d7, b2, d8⟩ := new_block e9 [(.slice d3 d4 d5)] 43
  refine pl_val (w' := d6) (.slice (some ⟨b6, 0, none⟩) 1 1) (y_bslice rfl (by rw [f1, d7]; kernel_rfl)) ?_
  have h0 := h0.ext b2
  have a2 := a2.ext b2
  have a3 := a3.ext b2
  have c3 := c3.ext b2
  have hC := hC.ext b2
  have hO := hO.new1 b2 d7 d8.lt
  have hO := hO.perm (R := (b6 :: ((b5) ++ ([]))) ++ (a4 ++ ([]))) (by simp)
  have f2 := hO.nd
  have c4 := os_of_box (r := (RT.os 3 ri)) (M := M) (css := [[(.slice d3 d4 d5)]]) (fps := [(b5 : List Nat)]) (xs := ([r31] : List (List Int))) d8 ⟨(os_unval c3), trivial⟩ (Nat.le_of_ble_eq_true rfl) f2
  have c4 : (RT.os 43 (RT.os 3 ri)).val M d6 (.slice (some ⟨b6, 0, none⟩) 1 1) [r31] (b6 :: ((b5) ++ ([]))) := c4
  obtain ⟨y36, f3, hs⟩ := bind_some hs
  have hO := hO.fr1
  obtain ⟨c5, c6, c7, f4, f5, f6, b7, f7, c8⟩ := app_os Rw25 f3 a2 c4 hO.inM (fun g hg hq => hO.apart g hq (mem_l hg))
  have c9 := os_block a2
  refine pl_val (w' := f4) (.slice c5 c6 c7) (y_append rfl rfl (f6 _)) ?_
  have hO := hO.fr1
  have hO := hO.fr1
  have h0 := h0.mt b7 hO c9
  have a3 := a3.mt b7 hO c9
  have hC := hC.st b7 hO c9
  have hO := hO.eat b7 f7 (os_nodup c8) c8.fpl
  refine ax rfl (c_nil (c_region (pl_val (.int .i64 (w64 ((a1 : Int) + 1))) (y_add rfl rfl) (mi rfl (c_nil ?_)))))
  cases hs
  exact ⟨_, rfl, drop_cons_next hd, _, c5, c6, c7, f5, fr_ovl 20 ⟨rfl, rfl, rfl, congrArg (Value.int .i64) (w64_succ hlt (Int.natCast_nonneg _) (rs_max h0)), trivial⟩, hC, hO, h0, c8⟩
 ·skip
  exact ⟨0, rfl, rfl, _, (some ⟨a5, 0, none⟩), 0, 0, ([a5]), fr_ovl 20 ⟨rfl, rfl, rfl, rfl, trivial⟩, hC, hO, h0, b9⟩
 cases o21 with
 | nx _ => exact True.intro
 | rt r_ =>
  have hs := after_rt hs
  intro f8 d9 hK
  cases hs
  exact hK
 | br s17 =>
  have hs := after_br hs
  rintro f8 a0 ⟨σ, a9, b0, b1, b4, rfl, hC, hO, h0, f9⟩
  refine c_sr (ms rfl (ax rfl (c_nil (wp_ret ?_))))
  cases hs
  exact ⟨_, a9, b0, b1, b4, fr_ovl 20 ⟨rfl, trivial⟩, hC, f9, hO.top⟩

theorem Fa136x0 : ∀ (a : Addr) (w : World), (Instr.fieldAt 136 (.pointer (some a)) 0).run Try.prog w = .ok (.pointer (some (a.add 0))) w := fun _ _ => by kernel_rfl

theorem Ag125 : AggT Try.prog 125 false := fun _ => by kernel_rfl

theorem Sz125 : SzT Try.prog 125 1 := ⟨_, rfl, rfl⟩

theorem Fa136x1 : ∀ (a : Addr) (w : World), (Instr.fieldAt 136 (.pointer (some a)) 1).run Try.prog w = .ok (.pointer (some (a.add 1))) w := fun _ _ => by kernel_rfl

theorem Ag132 : AggT Try.prog 132 false := fun _ => by kernel_rfl

theorem Sz132 : SzT Try.prog 132 1 := ⟨_, rfl, rfl⟩

def k_sort_insertionSort_func (M : Nat → Prop) (w0 : World) {α_ : Type} (I_ : World → List α_ → Prop) (G_ : List Nat) (r : (List α_)) (a : Act) (w : World) : Prop :=
  ∃ (σ : Nat → Value) , a = fr 35 (ovl σ []) ∧ Chg (G_ ++ ([])) w0 w ∧ I_ w r
def s_sort_insertionSort_func {α_ : Type} (ls_ : α_ → α_ → Option Bool) (d_ : List α_) (a_ : Int) (b : Int) : Option ((List α_)) :=
  (forC (S := (List α_)) (R := (List α_)) (fun k78 s76 =>
  (iter (S := Int × (List α_)) (R := (List α_)) (fun s103 =>
  ((bif (decide (a_ < s103.1)) then (lsx ls_ s103.2 s103.1 (w64 (s103.1 - 1))).bind fun r116 =>
  some r116 else some false)).bind fun s111 =>
  (bif s111 then (swx s103.2 s103.1 (w64 (s103.1 - 1))).bind fun y119 =>
  some (.nx (w64 (s103.1 - 1), y119)) else some (.br (s103.1, s103.2)))) FU (k78, s76)).bind fun o107 => after o107 (fun r_ => some (.rt r_)) (fun s103 =>
  some (.nx s103.2))) (w64 (a_ + 1)) b d_).bind fun o80 => after o80 (fun r_ => some r_) (fun s76 =>
  some s76)
set_option maxHeartbeats 4000000 in
theorem c_sort_insertionSort_func {M : Nat → Prop} {w : World} {α_ : Type} {n0_ : Nat} {I_ : World → List α_ → Prop} {G_ : List Nat} {g_ sf_ : Nat} {lb_ sb_ : Array Value} (ls_ : α_ → α_ → Option Bool) (d_ : List α_) (a_ : Int) (b : Int) (hN_ : n0_ ≤ w.heap.size) (hE_ : Env Try.prog n0_ I_ G_ ls_ g_ lb_ sf_ sb_) (hI_ : I_ w d_) (hI : Own (Nw w (G_ ++ ([]))) M w (G_ ++ ([]))) (hM : ∀ g, w.heap.size ≤ g → M g) {r : (List α_)} (hs : s_sort_insertionSort_func ls_ d_ a_ b = some r) :
    Gives Try.prog 130 [(.agg #[(.func (.func g_) #[] lb_), (.func (.func sf_) #[] sb_)]), (.int .i64 a_), (.int .i64 b)] w (fun v w' => v = (.tuple #[]) ∧ Chg (G_ ++ ([])) w w' ∧ I_ w' r) := by
 refine calls_fr Try.func130 rfl Try.ntmps130 (Nat.le_of_ble_eq_true rfl) ?_
 have hO := hI
 have hC := Chg.refl (G_ ++ ([])) w
 unfold s_sort_insertionSort_func at hs
 refine wp_mono (Q := KPostN (k_sort_insertionSort_func M w I_ G_ r)) ?_ (fun e a a7 h => ?_)
 rotate_left
 ·cases e
  case ret =>
   obtain ⟨σ, rfl, hrest⟩ := h
   exact ret0x Try.results130  ⟨rfl, hrest⟩
  case normal =>
   obtain ⟨σ, rfl, hrest⟩ := h
   exact ret0n Try.results130  ⟨rfl, hrest⟩
  all_goals exact (h : False).elim
 refine c_sr ?_
 obtain ⟨a7, a1, b6, b4, b0, a0⟩ := new_block w [(.func (.func g_) #[] lb_), (.func (.func sf_) #[] sb_)] 136
 refine pl_val (w' := a7) (pq a1 0) (y_box rfl (by rw [b6, b4]; kernel_rfl)) ?_
 have hI_ := hE_.ext hI_ b0 (fun _ h => nomatch h)
 have hC := hC.ext b0
 have hO := hO.new1 b0 b4 a0.lt
 refine c_nil (c_sr (mi rfl (pl_val (.int .i64 (w64 (a_ + 1))) (y_add rfl rfl) (ai rfl (c_nil ?_)))))
 obtain ⟨o80, b7, hs⟩ := bind_some hs
 refine wp_block (wp_forC (id := 0) b (I := fun k78 s76 a a4 => ∃ (σ : Nat → Value), a = fr 35 (ovl σ [(1, (.int .i64 a_)), (2, (.int .i64 b)), (3, (pq a1 0)), (6, (.int .i64 k78))]) ∧ Chg (G_ ++ ([])) w a4 ∧ Own (Nw w (G_ ++ ([]))) M a4 (([a1]) ++ (G_ ++ [])) ∧ I_ a4 s76 ∧ BoxV a4 a1 136 [(.func (.func g_) #[] lb_), (.func (.func sf_) #[] sb_)]) (J := fun s76 a a4 => ∃ (σ : Nat → Value), a = fr 35 (ovl σ []) ∧ Chg (G_ ++ ([])) w a4 ∧ Own (Nw w (G_ ++ ([]))) M a4 (([a1]) ++ (G_ ++ [])) ∧ I_ a4 s76 ∧ BoxV a4 a1 136 [(.func (.func g_) #[] lb_), (.func (.func sf_) #[] sb_)]) (K := (k_sort_insertionSort_func M w I_ G_)) ?_ ?_ (w64 (a_ + 1)) d_ o80 _ _ ?_ b7 ?_)
 ·rintro k78 s76 a a4 ⟨σ, rfl, hC, hO, b1, a0⟩ hlt
  refine c_seq (c_sr (mi rfl (mi rfl (pl_val _ (y_lss rfl rfl) (c_nil (c_condF (cb (decide_eq_false hlt)) (wp_exit ?_)))))))
  have hO := hO.fr1
  have hO := hO.fr1
  exact ⟨rfl, _, fr_ovl 35 trivial, hC, hO, b1, a0⟩
 ·rintro k78 s76 o80 a a4 ⟨σ, rfl, hC, hO, b1, a0⟩ hlt hw hs
  refine c_seq (c_sr (mi rfl (mi rfl (pl_val _ (y_lss rfl rfl) (c_nil (c_condT (cb (decide_eq_true hlt)) (wp_skip (c_seq (wp_block (c_sr (mi rfl (ai rfl (c_nil ?_)))))))))))))
  obtain ⟨o107, b8, hs⟩ := bind_some hs
  refine wp_block (wp_iter (id := 2) (I := fun s103 a a3 => ∃ (σ : Nat → Value), a = fr 35 (ovl σ [(1, (.int .i64 a_)), (2, (.int .i64 b)), (3, (pq a1 0)), (6, (.int .i64 k78)), (7, (.int .i64 s103.1))]) ∧ Chg (G_ ++ ([])) w a3 ∧ Own (Nw w (G_ ++ ([]))) M a3 (([a1]) ++ (G_ ++ [])) ∧ I_ a3 s103.2 ∧ BoxV a3 a1 136 [(.func (.func g_) #[] lb_), (.func (.func sf_) #[] sb_)]) (J := fun s103 a a3 => ∃ (σ : Nat → Value), a = fr 35 (ovl σ [(1, (.int .i64 a_)), (2, (.int .i64 b)), (3, (pq a1 0)), (6, (.int .i64 k78))]) ∧ Chg (G_ ++ ([])) w a3 ∧ Own (Nw w (G_ ++ ([]))) M a3 (([a1]) ++ (G_ ++ [])) ∧ I_ a3 s103.2 ∧ BoxV a3 a1 136 [(.func (.func g_) #[] lb_), (.func (.func sf_) #[] sb_)]) (K := (k_sort_insertionSort_func M w I_ G_)) ?_ FU (k78, s76) o107 _ _ ?_ b8 ?_)
  ·rintro s103 o107 a a3 ⟨σ, rfl, hC, hO, a5, a0⟩ hs
   refine c_seq (c_seq ?_)
   obtain ⟨s111, b9, hs⟩ := bind_some hs
   refine c_mid (I := fun a b5 => ∃ (σ : Nat → Value), a = fr 35 (ovl σ [(1, (.int .i64 a_)), (2, (.int .i64 b)), (3, (pq a1 0)), (6, (.int .i64 k78)), (7, (.int .i64 s103.1)), (26, (.bool s111))]) ∧ Chg [] a3 b5) ?_ ?_
   ·replace hs := b9
    have hMid := Chg.refl [] a3
    refine c_region (mi rfl (mi rfl (pl_val _ (y_gtr rfl rfl) (mb rfl ?_))))
    rcases bif_some hs with ⟨a2, hs⟩ | ⟨a2, hs⟩
    ·skip
     refine pl_yes (pq a1 0) (tg := 19) (by kernel_rfl) (cb a2) (y_faddr rfl Fa136x0) (pl_yes (.func (.func g_) #[] lb_) (tg := 19) (by kernel_rfl) (cb a2) (y_load rfl ((box_load Ag125 Sz125 a0 [] [(.func (.func g_) #[] lb_)] [(.func (.func sf_) #[] sb_)] rfl rfl (fun _ => rfl)) _ (Chg.refl _ _))) (pl_yes (.int .i64 s103.1) (tg := 19) (by kernel_rfl) (cb a2) (y_move rfl) (pl_yes (.int .i64 s103.1) (tg := 19) (by kernel_rfl) (cb a2) (y_move rfl) (pl_yes (.int .i64 (w64 (s103.1 - 1))) (tg := 19) (by kernel_rfl) (cb a2) (y_sub rfl rfl) ?_))))
     obtain ⟨r116, c0, hs⟩ := bind_some hs
     refine pl_callby (tg := 19) (by kernel_rfl) (cb a2) rfl hE_.bod rfl (hE_.less a5 c0) ?_
     rintro _ c7 ⟨rfl, a6⟩
     have a5 := hE_.ext a5 a6 (fun _ h => nomatch h)
     have a0 := a0.cn a6
     have hMid := hMid.ext a6
     have hC := hC.ext a6
     have hO := hO.ext a6
     refine pl_val (.bool r116) (y_pick_t (cb a2) rfl) (c_nil ?_)
     cases hs
     exact ⟨_, fr_ovl 35 ⟨rfl, rfl, rfl, rfl, rfl, rfl, trivial⟩, hMid⟩
    refine pl_not (tg := 19) (by kernel_rfl) (cb a2) (pl_not (tg := 19) (by kernel_rfl) (cb a2) (pl_not (tg := 19) (by kernel_rfl) (cb a2) (pl_not (tg := 19) (by kernel_rfl) (cb a2) (pl_not (tg := 19) (by kernel_rfl) (cb a2) (pl_not (tg := 19) (by kernel_rfl) (cb a2) (pl_val (.bool false) (y_pick_f (cb a2) rfl) (c_nil ?_)))))))
    cases hs
    exact ⟨_, fr_ovl 35 ⟨rfl, rfl, rfl, rfl, rfl, rfl, trivial⟩, hMid⟩
   rintro a8 b5 ⟨σ, rfl, a9⟩
   have a5 := hE_.ext a5 a9 (fun _ h => nomatch h)
   have a0 := a0.cn a9
   have hC := hC.ext a9
   have hO := hO.ext a9
   rcases bif_some hs with ⟨b2, hs⟩ | ⟨b2, hs⟩
   ·refine c_condT (cb b2) (wp_skip (c_seq (wp_block (c_region (pl_val (pq a1 1) (y_faddr rfl Fa136x1) (pl_val (.func (.func sf_) #[] sb_) (y_load rfl ((box_load Ag132 Sz132 a0 [(.func (.func g_) #[] lb_)] [(.func (.func sf_) #[] sb_)] [] rfl rfl (fun _ => rfl)) _ (Chg.refl _ _))) (mi rfl (mi rfl (pl_val (.int .i64 (w64 (s103.1 - 1))) (y_sub rfl rfl) ?_)))))))))
    obtain ⟨y119, c1, hs⟩ := bind_some hs
    obtain ⟨c2, c3, b3, c4⟩ := hE_.swap a5 c1
    refine pl_val (w' := c2) (.tuple #[]) (y_callx rfl rfl c3) ?_
    have hO := hO.fr1
    have a0 := a0.ap b3 hO same_ (mem_l (List.mem_singleton.2 rfl))
    have hC := hC.st b3 hO same_
    have hO := hO.ext b3
    refine c_nil (c_region (mi rfl (pl_val (.int .i64 (w64 (s103.1 - 1))) (y_sub rfl rfl) (ai rfl (c_nil ?_)))))
    cases hs
    have hO := hO.fr1
    exact ⟨_, fr_ovl 35 ⟨rfl, rfl, rfl, rfl, rfl, trivial⟩, hC, hO, c4, a0⟩
   refine c_condF (cb b2) (wp_exit ?_)
   cases hs
   have hO := hO.fr1
   have hO := hO.fr1
   exact ⟨rfl, _, fr_ovl 35 ⟨rfl, rfl, rfl, rfl, trivial⟩, hC, hO, a5, a0⟩
  ·skip
   have hO := hO.fr1
   have hO := hO.fr1
   exact ⟨_, fr_ovl 35 ⟨rfl, rfl, rfl, rfl, rfl, trivial⟩, hC, hO, b1, a0⟩
  cases o107 with
  | nx _ => exact True.intro
  | rt r_ =>
   have hs := after_rt hs
   intro a8 a7 hK
   cases hs
   exact hK
  | br s103 =>
   have hs := after_br hs
   rintro a8 a3 ⟨σ, rfl, hC, hO, c5, a0⟩
   refine c_region (mi rfl (pl_val (.int .i64 (w64 (k78 + 1))) (y_add rfl rfl) (ai rfl (c_nil ?_))))
   cases hs
   have hO := hO.fr1
   have hO := hO.fr1
   exact ⟨_, fr_ovl 35 ⟨rfl, rfl, rfl, congrArg (Value.int .i64) hw, trivial⟩, hC, hO, c5, a0⟩
 ·skip
  have hO := hO.fr1
  have hO := hO.fr1
  exact ⟨_, fr_ovl 35 ⟨rfl, rfl, rfl, rfl, trivial⟩, hC, hO, hI_, a0⟩
 cases o80 with
 | nx _ => exact True.intro
 | rt r_ =>
  have hs := after_rt hs
  intro a8 a7 hK
  cases hs
  exact hK
 | br s76 =>
  have hs := after_br hs
  rintro a8 a4 ⟨σ, rfl, hC, hO, c6, a0⟩
  cases hs
  exact ⟨_, fr_ovl 35 trivial, hC, c6⟩

def k_sort_swapRange_func (M : Nat → Prop) (w0 : World) {α_ : Type} (I_ : World → List α_ → Prop) (G_ : List Nat) (r : (List α_)) (a : Act) (w : World) : Prop :=
  ∃ (σ : Nat → Value) , a = fr 23 (ovl σ []) ∧ Chg (G_ ++ ([])) w0 w ∧ I_ w r
def s_sort_swapRange_func {α_ : Type} (ls_ : α_ → α_ → Option Bool) (d_ : List α_) (a_ : Int) (b : Int) (n : Int) : Option ((List α_)) :=
  (forC (S := (List α_)) (R := (List α_)) (fun k9 s7 =>
  (swx s7 (w64 (a_ + k9)) (w64 (b + k9))).bind fun y16 =>
  some (.nx y16)) 0 n d_).bind fun o11 => after o11 (fun r_ => some r_) (fun s7 =>
  some s7)
set_option maxHeartbeats 4000000 in
theorem c_sort_swapRange_func {M : Nat → Prop} {w : World} {α_ : Type} {n0_ : Nat} {I_ : World → List α_ → Prop} {G_ : List Nat} {g_ sf_ : Nat} {lb_ sb_ : Array Value} (ls_ : α_ → α_ → Option Bool) (d_ : List α_) (a_ : Int) (b : Int) (n : Int) (hN_ : n0_ ≤ w.heap.size) (hE_ : Env Try.prog n0_ I_ G_ ls_ g_ lb_ sf_ sb_) (hI_ : I_ w d_) (hI : Own (Nw w (G_ ++ ([]))) M w (G_ ++ ([]))) (hM : ∀ g, w.heap.size ≤ g → M g) {r : (List α_)} (hs : s_sort_swapRange_func ls_ d_ a_ b n = some r) :
    Gives Try.prog 133 [(.agg #[(.func (.func g_) #[] lb_), (.func (.func sf_) #[] sb_)]), (.int .i64 a_), (.int .i64 b), (.int .i64 n)] w (fun v w' => v = (.tuple #[]) ∧ Chg (G_ ++ ([])) w w' ∧ I_ w' r) := by
 refine calls_fr Try.func133 rfl Try.ntmps133 (Nat.le_of_ble_eq_true rfl) ?_
 have hO := hI
 have hC := Chg.refl (G_ ++ ([])) w
 unfold s_sort_swapRange_func at hs
 refine wp_mono (Q := KPostN (k_sort_swapRange_func M w I_ G_ r)) ?_ (fun e a a3 h => ?_)
 rotate_left
 ·cases e
  case ret =>
   obtain ⟨σ, rfl, hrest⟩ := h
   exact ret0x Try.results133  ⟨rfl, hrest⟩
  case normal =>
   obtain ⟨σ, rfl, hrest⟩ := h
   exact ret0n Try.results133  ⟨rfl, hrest⟩
  all_goals exact (h : False).elim
 refine c_sr ?_
 obtain ⟨a3, a2, a8, a7, a4, a1⟩ := new_block w [(.func (.func g_) #[] lb_), (.func (.func sf_) #[] sb_)] 136
 refine pl_val (w' := a3) (pq a2 0) (y_box rfl (by rw [a8, a7]; kernel_rfl)) ?_
 have hI_ := hE_.ext hI_ a4 (fun _ h => nomatch h)
 have hC := hC.ext a4
 have hO := hO.new1 a4 a7 a1.lt
 refine c_nil (c_sr (ai rfl (c_nil ?_)))
 obtain ⟨o11, a9, hs⟩ := bind_some hs
 refine wp_block (wp_forC (id := 0) n (I := fun k9 s7 a a0 => ∃ (σ : Nat → Value), a = fr 23 (ovl σ [(1, (.int .i64 a_)), (2, (.int .i64 b)), (3, (.int .i64 n)), (4, (pq a2 0)), (8, (.int .i64 k9))]) ∧ Chg (G_ ++ ([])) w a0 ∧ Own (Nw w (G_ ++ ([]))) M a0 (([a2]) ++ (G_ ++ [])) ∧ I_ a0 s7 ∧ BoxV a0 a2 136 [(.func (.func g_) #[] lb_), (.func (.func sf_) #[] sb_)]) (J := fun s7 a a0 => ∃ (σ : Nat → Value), a = fr 23 (ovl σ []) ∧ Chg (G_ ++ ([])) w a0 ∧ Own (Nw w (G_ ++ ([]))) M a0 (([a2]) ++ (G_ ++ [])) ∧ I_ a0 s7 ∧ BoxV a0 a2 136 [(.func (.func g_) #[] lb_), (.func (.func sf_) #[] sb_)]) (K := (k_sort_swapRange_func M w I_ G_)) ?_ ?_ 0 d_ o11 _ _ ?_ a9 ?_)
 ·rintro k9 s7 a a0 ⟨σ, rfl, hC, hO, a5, a1⟩ hlt
  refine c_seq (c_sr (mi rfl (mi rfl (pl_val _ (y_lss rfl rfl) (c_nil (c_condF (cb (decide_eq_false hlt)) (wp_exit ?_)))))))
  have hO := hO.fr1
  have hO := hO.fr1
  exact ⟨rfl, _, fr_ovl 23 trivial, hC, hO, a5, a1⟩
 ·rintro k9 s7 o11 a a0 ⟨σ, rfl, hC, hO, a5, a1⟩ hlt hw hs
  refine c_seq (c_sr (mi rfl (mi rfl (pl_val _ (y_lss rfl rfl) (c_nil (c_condT (cb (decide_eq_true hlt)) (wp_skip (c_seq (wp_block (c_region (pl_val (pq a2 1) (y_faddr rfl Fa136x1) (pl_val (.func (.func sf_) #[] sb_) (y_load rfl ((box_load Ag132 Sz132 a1 [(.func (.func g_) #[] lb_)] [(.func (.func sf_) #[] sb_)] [] rfl rfl (fun _ => rfl)) _ (Chg.refl _ _))) (mi rfl (mi rfl (pl_val (.int .i64 (w64 (a_ + k9))) (y_add rfl rfl) (mi rfl (mi rfl (pl_val (.int .i64 (w64 (b + k9))) (y_add rfl rfl) ?_))))))))))))))))))
  obtain ⟨y16, b0, hs⟩ := bind_some hs
  obtain ⟨b1, b2, a6, b3⟩ := hE_.swap a5 b0
  refine pl_val (w' := b1) (.tuple #[]) (y_callx rfl rfl b2) ?_
  have hO := hO.fr1
  have a1 := a1.ap a6 hO same_ (mem_l (List.mem_singleton.2 rfl))
  have hC := hC.st a6 hO same_
  have hO := hO.ext a6
  refine c_nil (c_region (mi rfl (pl_val (.int .i64 (w64 (k9 + 1))) (y_add rfl rfl) (ai rfl (c_nil ?_)))))
  cases hs
  have hO := hO.fr1
  exact ⟨_, fr_ovl 23 ⟨rfl, rfl, rfl, rfl, congrArg (Value.int .i64) hw, trivial⟩, hC, hO, b3, a1⟩
 ·skip
  have hO := hO.fr1
  have hO := hO.fr1
  exact ⟨_, fr_ovl 23 ⟨rfl, rfl, rfl, rfl, rfl, trivial⟩, hC, hO, hI_, a1⟩
 cases o11 with
 | nx _ => exact True.intro
 | rt r_ =>
  have hs := after_rt hs
  intro b4 a3 hK
  cases hs
  exact hK
 | br s7 =>
  have hs := after_br hs
  rintro b4 a0 ⟨σ, rfl, hC, hO, b5, a1⟩
  cases hs
  exact ⟨_, fr_ovl 23 trivial, hC, b5⟩

theorem Ag136 : AggT Try.prog 136 true := fun _ => by kernel_rfl

theorem Sz136 : SzT Try.prog 136 2 := ⟨_, rfl, rfl⟩

theorem Bd133 : Bodied Try.prog 133 := bodied Try.func133 (by kernel_rfl) rfl

def k_sort_rotate_func (M : Nat → Prop) (w0 : World) {α_ : Type} (I_ : World → List α_ → Prop) (G_ : List Nat) (r : (List α_)) (a : Act) (w : World) : Prop :=
  ∃ (σ : Nat → Value) , a = fr 53 (ovl σ []) ∧ Chg (G_ ++ ([])) w0 w ∧ I_ w r
def s_sort_rotate_func {α_ : Type} (ls_ : α_ → α_ → Option Bool) (d_ : List α_) (a_ : Int) (m : Int) (b : Int) : Option ((List α_)) :=
  (iter (S := Int × Int × (List α_)) (R := (List α_)) (fun s15 =>
  (bif (s15.1 != s15.2.1) then (bif (decide (s15.2.1 < s15.1)) then (s_sort_swapRange_func ls_ s15.2.2 (w64 (m - s15.1)) m s15.2.1).bind fun r26 =>
  some (.nx (w64 (s15.1 - s15.2.1), s15.2.1, r26)) else (s_sort_swapRange_func ls_ s15.2.2 (w64 (m - s15.1)) (w64 ((w64 (m + s15.2.1)) - s15.1)) s15.1).bind fun r28 =>
  some (.nx (s15.1, w64 (s15.2.1 - s15.1), r28))) else some (.br (s15.1, s15.2.1, s15.2.2)))) FU (w64 (m - a_), w64 (b - m), d_)).bind fun o19 => after o19 (fun r_ => some r_) (fun s15 =>
  (s_sort_swapRange_func ls_ s15.2.2 (w64 (m - s15.1)) m s15.1).bind fun r30 =>
  some r30)
set_option maxHeartbeats 4000000 in
theorem c_sort_rotate_func {M : Nat → Prop} {w : World} {α_ : Type} {n0_ : Nat} {I_ : World → List α_ → Prop} {G_ : List Nat} {g_ sf_ : Nat} {lb_ sb_ : Array Value} (ls_ : α_ → α_ → Option Bool) (d_ : List α_) (a_ : Int) (m : Int) (b : Int) (hN_ : n0_ ≤ w.heap.size) (hE_ : Env Try.prog n0_ I_ G_ ls_ g_ lb_ sf_ sb_) (hI_ : I_ w d_) (hI : Own (Nw w (G_ ++ ([]))) M w (G_ ++ ([]))) (hM : ∀ g, w.heap.size ≤ g → M g) {r : (List α_)} (hs : s_sort_rotate_func ls_ d_ a_ m b = some r) :
    Gives Try.prog 132 [(.agg #[(.func (.func g_) #[] lb_), (.func (.func sf_) #[] sb_)]), (.int .i64 a_), (.int .i64 m), (.int .i64 b)] w (fun v w' => v = (.tuple #[]) ∧ Chg (G_ ++ ([])) w w' ∧ I_ w' r) := by
 refine calls_fr Try.func132 rfl Try.ntmps132 (Nat.le_of_ble_eq_true rfl) ?_
 have hO := hI
 have hC := Chg.refl (G_ ++ ([])) w
 unfold s_sort_rotate_func at hs
 refine wp_mono (Q := KPostN (k_sort_rotate_func M w I_ G_ r)) ?_ (fun e a a3 h => ?_)
 rotate_left
 ·cases e
  case ret =>
   obtain ⟨σ, rfl, hrest⟩ := h
   exact ret0x Try.results132  ⟨rfl, hrest⟩
  case normal =>
   obtain ⟨σ, rfl, hrest⟩ := h
   exact ret0n Try.results132  ⟨rfl, hrest⟩
  all_goals exact (h : False).elim
 refine c_sr ?_
 obtain ⟨a3, a2, b2, b1, a4, a0⟩ := new_block w [(.func (.func g_) #[] lb_), (.func (.func sf_) #[] sb_)] 136
 refine pl_val (w' := a3) (pq a2 0) (y_box rfl (by rw [b2, b1]; kernel_rfl)) ?_
 have hI_ := hE_.ext hI_ a4 (fun _ h => nomatch h)
 have hC := hC.ext a4
 have hO := hO.new1 a4 b1 a0.lt
 refine c_nil (c_sr (mi rfl (mi rfl (pl_val (.int .i64 (w64 (m - a_))) (y_sub rfl rfl) (ai rfl (c_nil (c_sr (mi rfl (mi rfl (pl_val (.int .i64 (w64 (b - m))) (y_sub rfl rfl) (ai rfl (c_nil (c_seq ?_)))))))))))))
 obtain ⟨o19, b3, hs⟩ := bind_some hs
 refine wp_block (wp_iter (id := 0) (I := fun s15 a a1 => ∃ (σ : Nat → Value), a = fr 53 (ovl σ [(2, (.int .i64 m)), (4, (pq a2 0)), (8, (.int .i64 s15.1)), (9, (.int .i64 s15.2.1))]) ∧ Chg (G_ ++ ([])) w a1 ∧ Own (Nw w (G_ ++ ([]))) M a1 (([a2]) ++ (G_ ++ [])) ∧ I_ a1 s15.2.2 ∧ BoxV a1 a2 136 [(.func (.func g_) #[] lb_), (.func (.func sf_) #[] sb_)]) (J := fun s15 a a1 => ∃ (σ : Nat → Value), a = fr 53 (ovl σ [(2, (.int .i64 m)), (4, (pq a2 0)), (8, (.int .i64 s15.1))]) ∧ Chg (G_ ++ ([])) w a1 ∧ Own (Nw w (G_ ++ ([]))) M a1 (([a2]) ++ (G_ ++ [])) ∧ I_ a1 s15.2.2 ∧ BoxV a1 a2 136 [(.func (.func g_) #[] lb_), (.func (.func sf_) #[] sb_)]) (K := (k_sort_rotate_func M w I_ G_)) ?_ FU (w64 (m - a_), w64 (b - m), d_) o19 _ _ ?_ b3 ?_)
 ·rintro s15 o19 a a1 ⟨σ, rfl, hC, hO, a5, a0⟩ hs
  refine c_seq (c_sr (mi rfl (mi rfl (pl_val (.bool (s15.1 != s15.2.1)) (y_neq rfl rfl) (c_nil ?_)))))
  rcases bif_some hs with ⟨a6, hs⟩ | ⟨a6, hs⟩
  ·refine c_condT (cb a6) (wp_skip (wp_block (c_sr (mi rfl (mi rfl (pl_val _ (y_gtr rfl rfl) (c_nil ?_)))))))
   rcases bif_some hs with ⟨a7, hs⟩ | ⟨a7, hs⟩
   ·refine c_condT (cb a7) (c_sr (pl_val (.agg #[(.func (.func g_) #[] lb_), (.func (.func sf_) #[] sb_)]) (y_load rfl ((box_load Ag136 Sz136 a0 [] [(.func (.func g_) #[] lb_), (.func (.func sf_) #[] sb_)] [] rfl rfl (fun h => nomatch h)) _ (Chg.refl _ _))) (mi rfl (mi rfl (pl_val (.int .i64 (w64 (m - s15.1))) (y_sub rfl rfl) (mi rfl (mi rfl ?_)))))))
    have hO := hO.fr1
    have b4 := Own.lend (F := (G_ ++ ([]))) (R := ([a2]) ++ ([])) (Own.perm hO (by simp))
    obtain ⟨r26, b5, hs⟩ := bind_some hs
    refine pl_call Bd133 rfl (c_sort_swapRange_func (M := M) ls_ s15.2.2 (w64 (m - s15.1)) m s15.2.1 (Nat.le_trans hN_ hC.size) hE_ a5 b4 hO.fut b5) ?_
    rintro _ c5 ⟨rfl, a8, b6⟩
    have a0 := a0.ap a8 hO nil_mem (mem_l (List.mem_singleton.2 rfl))
    have hC := hC.st a8 hO nil_mem
    have hO := hO.ext a8
    refine c_nil (c_region (mi rfl (mi rfl (pl_val (.int .i64 (w64 (s15.1 - s15.2.1))) (y_sub rfl rfl) (ai rfl (c_nil ?_))))))
    cases hs
    have hO := hO.fr1
    exact ⟨_, fr_ovl 53 ⟨rfl, rfl, rfl, rfl, trivial⟩, hC, hO, b6, a0⟩
   refine c_condF (cb a7) (c_sr (pl_val (.agg #[(.func (.func g_) #[] lb_), (.func (.func sf_) #[] sb_)]) (y_load rfl ((box_load Ag136 Sz136 a0 [] [(.func (.func g_) #[] lb_), (.func (.func sf_) #[] sb_)] [] rfl rfl (fun h => nomatch h)) _ (Chg.refl _ _))) (mi rfl (mi rfl (pl_val (.int .i64 (w64 (m - s15.1))) (y_sub rfl rfl) (mi rfl (mi rfl (pl_val (.int .i64 (w64 (m + s15.2.1))) (y_add rfl rfl) (mi rfl (pl_val (.int .i64 (w64 ((w64 (m + s15.2.1)) - s15.1))) (y_sub rfl rfl) (mi rfl ?_)))))))))))
   have hO := hO.fr1
   have b7 := Own.lend (F := (G_ ++ ([]))) (R := ([a2]) ++ ([])) (Own.perm hO (by simp))
   obtain ⟨r28, b8, hs⟩ := bind_some hs
   refine pl_call Bd133 rfl (c_sort_swapRange_func (M := M) ls_ s15.2.2 (w64 (m - s15.1)) (w64 ((w64 (m + s15.2.1)) - s15.1)) s15.1 (Nat.le_trans hN_ hC.size) hE_ a5 b7 hO.fut b8) ?_
   rintro _ c6 ⟨rfl, a9, b9⟩
   have a0 := a0.ap a9 hO nil_mem (mem_l (List.mem_singleton.2 rfl))
   have hC := hC.st a9 hO nil_mem
   have hO := hO.ext a9
   refine c_nil (c_region (mi rfl (mi rfl (pl_val (.int .i64 (w64 (s15.2.1 - s15.1))) (y_sub rfl rfl) (ai rfl (c_nil ?_))))))
   cases hs
   have hO := hO.fr1
   exact ⟨_, fr_ovl 53 ⟨rfl, rfl, rfl, rfl, trivial⟩, hC, hO, b9, a0⟩
  refine c_condF (cb a6) (wp_exit ?_)
  cases hs
  have hO := hO.fr1
  have hO := hO.fr1
  exact ⟨rfl, _, fr_ovl 53 ⟨rfl, rfl, rfl, trivial⟩, hC, hO, a5, a0⟩
 ·skip
  have hO := hO.fr1
  have hO := hO.fr1
  exact ⟨_, fr_ovl 53 ⟨rfl, rfl, rfl, rfl, trivial⟩, hC, hO, hI_, a0⟩
 cases o19 with
 | nx _ => exact True.intro
 | rt r_ =>
  have hs := after_rt hs
  intro c0 a3 hK
  cases hs
  exact hK
 | br s15 =>
  have hs := after_br hs
  rintro c0 a1 ⟨σ, rfl, hC, hO, c1, a0⟩
  refine c_region (pl_val (.agg #[(.func (.func g_) #[] lb_), (.func (.func sf_) #[] sb_)]) (y_load rfl ((box_load Ag136 Sz136 a0 [] [(.func (.func g_) #[] lb_), (.func (.func sf_) #[] sb_)] [] rfl rfl (fun h => nomatch h)) _ (Chg.refl _ _))) (mi rfl (mi rfl (pl_val (.int .i64 (w64 (m - s15.1))) (y_sub rfl rfl) (mi rfl (mi rfl ?_))))))
  have hO := hO.fr1
  have c2 := Own.lend (F := (G_ ++ ([]))) (R := ([a2]) ++ ([])) (Own.perm hO (by simp))
  obtain ⟨r30, c3, hs⟩ := bind_some hs
  refine pl_call Bd133 rfl (c_sort_swapRange_func (M := M) ls_ s15.2.2 (w64 (m - s15.1)) m s15.1 (Nat.le_trans hN_ hC.size) hE_ c1 c2 hO.fut c3) ?_
  rintro _ c7 ⟨rfl, b0, c4⟩
  have a0 := a0.ap b0 hO nil_mem (mem_l (List.mem_singleton.2 rfl))
  have hC := hC.st b0 hO nil_mem
  have hO := hO.ext b0
  refine c_nil ?_
  cases hs
  exact ⟨_, fr_ovl 53 trivial, hC, c4⟩

theorem Bd132 : Bodied Try.prog 132 := bodied Try.func132 (by kernel_rfl) rfl

theorem Bd131 : Bodied Try.prog 131 := bodied Try.func131 (by kernel_rfl) rfl

def k_sort_symMerge_func (M : Nat → Prop) (w0 : World) {α_ : Type} (I_ : World → List α_ → Prop) (G_ : List Nat) (r : (List α_)) (a : Act) (w : World) : Prop :=
  ∃ (σ : Nat → Value) , a = fr 177 (ovl σ []) ∧ Chg (G_ ++ ([])) w0 w ∧ I_ w r
def s_sort_symMerge_func {α_ : Type} : Nat → (α_ → α_ → Option Bool) → (List α_) → (Int) → (Int) → (Int) → Option ((List α_))
  | 0, _, _, _, _, _ => none
  | fu_ + 1, ls_, d_, a_, m, b =>
  (bif ((w64 (m - a_)) == 1) then (iter (S := Int × Int) (R := (List α_)) (fun s7 =>
  (bif (decide (s7.1 < s7.2)) then (lsx ls_ d_ (w64 (ishr .u64 (IntKind.u64.wrap (w64 (s7.1 + s7.2))) 1)) a_).bind fun r15 =>
  (bif r15 then some (.nx (w64 ((w64 (ishr .u64 (IntKind.u64.wrap (w64 (s7.1 + s7.2))) 1)) + 1), s7.2)) else some (.nx (s7.1, w64 (ishr .u64 (IntKind.u64.wrap (w64 (s7.1 + s7.2))) 1)))) else some (.br (s7.1, s7.2)))) FU (m, b)).bind fun o11 => after o11 (fun r_ => some r_) (fun s7 =>
  (forC (S := (List α_)) (R := (List α_)) (fun k24 s22 =>
  (swx s22 k24 (w64 (k24 + 1))).bind fun y31 =>
  some (.nx y31)) a_ (w64 (s7.1 - 1)) d_).bind fun o26 => after o26 (fun r_ => some r_) (fun s22 =>
  some s22)) else (bif ((w64 (b - m)) == 1) then (iter (S := Int × Int) (R := (List α_)) (fun s37 =>
  (bif (decide (s37.1 < s37.2)) then (lsx ls_ d_ m (w64 (ishr .u64 (IntKind.u64.wrap (w64 (s37.1 + s37.2))) 1))).bind fun r45 =>
  (bif (!r45) then some (.nx (w64 ((w64 (ishr .u64 (IntKind.u64.wrap (w64 (s37.1 + s37.2))) 1)) + 1), s37.2)) else some (.nx (s37.1, w64 (ishr .u64 (IntKind.u64.wrap (w64 (s37.1 + s37.2))) 1)))) else some (.br (s37.1, s37.2)))) FU (a_, m)).bind fun o41 => after o41 (fun r_ => some r_) (fun s37 =>
  (iter (S := Int × (List α_)) (R := (List α_)) (fun s54 =>
  (bif (decide (s37.1 < s54.1)) then (swx s54.2 s54.1 (w64 (s54.1 - 1))).bind fun y64 =>
  some (.nx (w64 (s54.1 - 1), y64)) else some (.br (s54.1, s54.2)))) FU (m, d_)).bind fun o58 => after o58 (fun r_ => some r_) (fun s54 =>
  some s54.2)) else (bif (decide ((w64 (ishr .u64 (IntKind.u64.wrap (w64 (a_ + b))) 1)) < m)) then some (w64 ((w64 ((w64 (ishr .u64 (IntKind.u64.wrap (w64 (a_ + b))) 1)) + m)) - b), w64 (ishr .u64 (IntKind.u64.wrap (w64 (a_ + b))) 1)) else some (a_, m)).bind fun s65 =>
  (iter (S := Int × Int) (R := (List α_)) (fun s73 =>
  (bif (decide (s73.1 < s73.2)) then (lsx ls_ d_ (w64 ((w64 ((w64 ((w64 (ishr .u64 (IntKind.u64.wrap (w64 (a_ + b))) 1)) + m)) - 1)) - (w64 (ishr .u64 (IntKind.u64.wrap (w64 (s73.1 + s73.2))) 1)))) (w64 (ishr .u64 (IntKind.u64.wrap (w64 (s73.1 + s73.2))) 1))).bind fun r81 =>
  (bif (!r81) then some (.nx (w64 ((w64 (ishr .u64 (IntKind.u64.wrap (w64 (s73.1 + s73.2))) 1)) + 1), s73.2)) else some (.nx (s73.1, w64 (ishr .u64 (IntKind.u64.wrap (w64 (s73.1 + s73.2))) 1)))) else some (.br (s73.1, s73.2)))) FU (s65.1, s65.2)).bind fun o77 => after o77 (fun r_ => some r_) (fun s73 =>
  (bif ((decide (s73.1 < m)) && (decide (m < (w64 ((w64 ((w64 (ishr .u64 (IntKind.u64.wrap (w64 (a_ + b))) 1)) + m)) - s73.1))))) then (s_sort_rotate_func ls_ d_ s73.1 m (w64 ((w64 ((w64 (ishr .u64 (IntKind.u64.wrap (w64 (a_ + b))) 1)) + m)) - s73.1))).bind fun r97 =>
  some r97 else some d_).bind fun s91 =>
  (bif ((decide (a_ < s73.1)) && (decide (s73.1 < (w64 (ishr .u64 (IntKind.u64.wrap (w64 (a_ + b))) 1))))) then (s_sort_symMerge_func fu_ ls_ s91 a_ s73.1 (w64 (ishr .u64 (IntKind.u64.wrap (w64 (a_ + b))) 1))).bind fun r112 =>
  some r112 else some s91).bind fun s106 =>
  (bif ((decide ((w64 (ishr .u64 (IntKind.u64.wrap (w64 (a_ + b))) 1)) < (w64 ((w64 ((w64 (ishr .u64 (IntKind.u64.wrap (w64 (a_ + b))) 1)) + m)) - s73.1)))) && (decide ((w64 ((w64 ((w64 (ishr .u64 (IntKind.u64.wrap (w64 (a_ + b))) 1)) + m)) - s73.1)) < b))) then (s_sort_symMerge_func fu_ ls_ s106 (w64 (ishr .u64 (IntKind.u64.wrap (w64 (a_ + b))) 1)) (w64 ((w64 ((w64 (ishr .u64 (IntKind.u64.wrap (w64 (a_ + b))) 1)) + m)) - s73.1)) b).bind fun r119 =>
  some r119 else some s106))))
set_option maxHeartbeats 4000000 in
theorem c_sort_symMerge_func : ∀ (fu_ : Nat) {M : Nat → Prop} {w : World} {α_ : Type} {n0_ : Nat} {I_ : World → List α_ → Prop} {G_ : List Nat} {g_ sf_ : Nat} {lb_ sb_ : Array Value} (ls_ : α_ → α_ → Option Bool) (d_ : List α_) (a_ : Int) (m : Int) (b : Int) (hN_ : n0_ ≤ w.heap.size) (hE_ : Env Try.prog n0_ I_ G_ ls_ g_ lb_ sf_ sb_) (hI_ : I_ w d_) (hI : Own (Nw w (G_ ++ ([]))) M w (G_ ++ ([]))) (hM : ∀ g, w.heap.size ≤ g → M g) {r : (List α_)} (hs : s_sort_symMerge_func fu_ ls_ d_ a_ m b = some r), Gives Try.prog 131 [(.agg #[(.func (.func g_) #[] lb_), (.func (.func sf_) #[] sb_)]), (.int .i64 a_), (.int .i64 m), (.int .i64 b)] w (fun v w' => v = (.tuple #[]) ∧ Chg (G_ ++ ([])) w w' ∧ I_ w' r) := by
 intro fu_
 induction fu_ with
 | zero => intro M w α_ n0_ I_ G_ g_ sf_ lb_ sb_ ls_ d_ a_ m b hN_ hE_ hI_ hI hM r hs; exact (nomatch hs)
 | succ fu_ c_ih =>
 intro M w α_ n0_ I_ G_ g_ sf_ lb_ sb_ ls_ d_ a_ m b hN_ hE_ hI_ hI hM r hs
 refine calls_fr Try.func131 rfl Try.ntmps131 (Nat.le_of_ble_eq_true rfl) ?_
 have hO := hI
 have hC := Chg.refl (G_ ++ ([])) w
 rw [s_sort_symMerge_func] at hs
 refine wp_mono (Q := KPostN (k_sort_symMerge_func M w I_ G_ r)) ?_ (fun e a b1 h => ?_)
 rotate_left
 ·cases e
  case ret =>
   obtain ⟨σ, rfl, hrest⟩ := h
   exact ret0x Try.results131  ⟨rfl, hrest⟩
  case normal =>
   obtain ⟨σ, rfl, hrest⟩ := h
   exact ret0n Try.results131  ⟨rfl, hrest⟩
  all_goals exact (h : False).elim
 refine c_sr ?_
 obtain ⟨b1, a1, e8, e3, c3, a0⟩ := new_block w [(.func (.func g_) #[] lb_), (.func (.func sf_) #[] sb_)] 136
 refine pl_val (w' := b1) (pq a1 0) (y_box rfl (by rw [e8, e3]; kernel_rfl)) ?_
 have hI_ := hE_.ext hI_ c3 (fun _ h => nomatch h)
 have hC := hC.ext c3
 have hO := hO.new1 c3 e3 a0.lt
 refine c_nil (c_seq (c_sr (mi rfl (mi rfl (pl_val (.int .i64 (w64 (m - a_))) (y_sub rfl rfl) (pl_val (.bool ((w64 (m - a_)) == 1)) (y_eql rfl rfl) (c_nil ?_)))))))
 rcases bif_some hs with ⟨c4, hs⟩ | ⟨c4, hs⟩
 ·refine c_condT (cb c4) (c_sr (mi rfl (ai rfl (c_nil (c_sr (mi rfl (ai rfl (c_nil (c_seq ?_)))))))))
  obtain ⟨o11, e9, hs⟩ := bind_some hs
  refine wp_block (wp_iter (id := 0) (I := fun s7 a a5 => ∃ (σ : Nat → Value), a = fr 177 (ovl σ [(1, (.int .i64 a_)), (2, (.int .i64 m)), (3, (.int .i64 b)), (4, (pq a1 0)), (8, (.int .i64 s7.1)), (9, (.int .i64 s7.2))]) ∧ Chg (G_ ++ ([])) w a5 ∧ Own (Nw w (G_ ++ ([]))) M a5 (([a1]) ++ (G_ ++ [])) ∧ I_ a5 d_ ∧ BoxV a5 a1 136 [(.func (.func g_) #[] lb_), (.func (.func sf_) #[] sb_)]) (J := fun s7 a a5 => ∃ (σ : Nat → Value), a = fr 177 (ovl σ [(1, (.int .i64 a_)), (2, (.int .i64 m)), (3, (.int .i64 b)), (4, (pq a1 0)), (8, (.int .i64 s7.1))]) ∧ Chg (G_ ++ ([])) w a5 ∧ Own (Nw w (G_ ++ ([]))) M a5 (([a1]) ++ (G_ ++ [])) ∧ I_ a5 d_ ∧ BoxV a5 a1 136 [(.func (.func g_) #[] lb_), (.func (.func sf_) #[] sb_)]) (K := (k_sort_symMerge_func M w I_ G_)) ?_ FU (m, b) o11 _ _ ?_ e9 ?_)
  ·rintro s7 o11 a a5 ⟨σ, rfl, hC, hO, hI_, a0⟩ hs
   refine c_seq (c_sr (mi rfl (mi rfl (pl_val _ (y_lss rfl rfl) (c_nil ?_)))))
   rcases bif_some hs with ⟨c5, hs⟩ | ⟨c5, hs⟩
   ·refine c_condT (cb c5) (wp_skip (wp_block (c_sr (mi rfl (mi rfl (pl_val (.int .i64 (w64 (s7.1 + s7.2))) (y_add rfl rfl) (pl_val (.int .u64 (IntKind.u64.wrap (w64 (s7.1 + s7.2)))) (y_conv_int Try.underlying3 Try.underlying119 rfl) (pl_val (.int .u64 (ishr .u64 (IntKind.u64.wrap (w64 (s7.1 + s7.2))) 1)) (y_shr rfl rfl (by decide)) (pl_val (.int .i64 (w64 (ishr .u64 (IntKind.u64.wrap (w64 (s7.1 + s7.2))) 1))) (y_conv_int Try.underlying119 Try.underlying3 rfl) (ai rfl (c_nil (c_sr (pl_val (pq a1 0) (y_faddr rfl Fa136x0) (pl_val (.func (.func g_) #[] lb_) (y_load rfl ((box_load Ag125 Sz125 a0 [] [(.func (.func g_) #[] lb_)] [(.func (.func sf_) #[] sb_)] rfl rfl (fun _ => rfl)) _ (Chg.refl _ _))) (mi rfl (mi rfl ?_))))))))))))))))
    obtain ⟨r15, f0, hs⟩ := bind_some hs
    refine pl_callb rfl hE_.bod rfl (hE_.less hI_ f0) ?_
    rintro _ h9 ⟨rfl, b5⟩
    have hI_ := hE_.ext hI_ b5 (fun _ h => nomatch h)
    have a0 := a0.cn b5
    have hC := hC.ext b5
    have hO := hO.ext b5
    refine c_nil ?_
    rcases bif_some hs with ⟨c6, hs⟩ | ⟨c6, hs⟩
    ·refine c_condT (cb c6) (c_region (mi rfl (pl_val (.int .i64 (w64 ((w64 (ishr .u64 (IntKind.u64.wrap (w64 (s7.1 + s7.2))) 1)) + 1))) (y_add rfl rfl) (ai rfl (c_nil ?_)))))
     cases hs
     have hO := hO.fr1
     have hO := hO.fr1
     exact ⟨_, fr_ovl 177 ⟨rfl, rfl, rfl, rfl, rfl, rfl, trivial⟩, hC, hO, hI_, a0⟩
    refine c_condF (cb c6) (c_region (mi rfl (ai rfl (c_nil ?_))))
    cases hs
    have hO := hO.fr1
    have hO := hO.fr1
    exact ⟨_, fr_ovl 177 ⟨rfl, rfl, rfl, rfl, rfl, rfl, trivial⟩, hC, hO, hI_, a0⟩
   refine c_condF (cb c5) (wp_exit ?_)
   cases hs
   have hO := hO.fr1
   have hO := hO.fr1
   exact ⟨rfl, _, fr_ovl 177 ⟨rfl, rfl, rfl, rfl, rfl, trivial⟩, hC, hO, hI_, a0⟩
  ·skip
   have hO := hO.fr1
   have hO := hO.fr1
   exact ⟨_, fr_ovl 177 ⟨rfl, rfl, rfl, rfl, rfl, rfl, trivial⟩, hC, hO, hI_, a0⟩
  cases o11 with
  | nx _ => exact True.intro
  | rt r_ =>
   have hs := after_rt hs
   intro a2 b1 hK
   cases hs
   exact hK
  | br s7 =>
   have hs := after_br hs
   rintro a2 a5 ⟨σ, rfl, hC, hO, hI_, a0⟩
   refine c_seq (c_sr (mi rfl (ai rfl (c_nil ?_))))
   obtain ⟨o26, f1, hs⟩ := bind_some hs
   refine wp_block (wp_forC (id := 2) (w64 (s7.1 - 1)) (I := fun k24 s22 a a4 => ∃ (σ : Nat → Value), a = fr 177 (ovl σ [(1, (.int .i64 a_)), (2, (.int .i64 m)), (3, (.int .i64 b)), (4, (pq a1 0)), (8, (.int .i64 s7.1)), (11, (.int .i64 k24))]) ∧ Chg (G_ ++ ([])) w a4 ∧ Own (Nw w (G_ ++ ([]))) M a4 (([a1]) ++ (G_ ++ [])) ∧ I_ a4 s22 ∧ BoxV a4 a1 136 [(.func (.func g_) #[] lb_), (.func (.func sf_) #[] sb_)]) (J := fun s22 a a4 => ∃ (σ : Nat → Value), a = fr 177 (ovl σ [(1, (.int .i64 a_)), (2, (.int .i64 m)), (3, (.int .i64 b)), (4, (pq a1 0))]) ∧ Chg (G_ ++ ([])) w a4 ∧ Own (Nw w (G_ ++ ([]))) M a4 (([a1]) ++ (G_ ++ [])) ∧ I_ a4 s22 ∧ BoxV a4 a1 136 [(.func (.func g_) #[] lb_), (.func (.func sf_) #[] sb_)]) (K := (k_sort_symMerge_func M w I_ G_)) ?_ ?_ a_ d_ o26 _ _ ?_ f1 ?_)
   ·rintro k24 s22 a a4 ⟨σ, rfl, hC, hO, c7, a0⟩ hlt
    refine c_seq (c_sr (mi rfl (mi rfl (pl_val (.int .i64 (w64 (s7.1 - 1))) (y_sub rfl rfl) (pl_val _ (y_lss rfl rfl) (c_nil (c_condF (cb (decide_eq_false hlt)) (wp_exit ?_))))))))
    have hO := hO.fr1
    have hO := hO.fr1
    exact ⟨rfl, _, fr_ovl 177 ⟨rfl, rfl, rfl, rfl, trivial⟩, hC, hO, c7, a0⟩
   ·rintro k24 s22 o26 a a4 ⟨σ, rfl, hC, hO, c7, a0⟩ hlt hw hs
    refine c_seq (c_sr (mi rfl (mi rfl (pl_val (.int .i64 (w64 (s7.1 - 1))) (y_sub rfl rfl) (pl_val _ (y_lss rfl rfl) (c_nil (c_condT (cb (decide_eq_true hlt)) (wp_skip (c_seq (wp_block (c_region (pl_val (pq a1 1) (y_faddr rfl Fa136x1) (pl_val (.func (.func sf_) #[] sb_) (y_load rfl ((box_load Ag132 Sz132 a0 [(.func (.func g_) #[] lb_)] [(.func (.func sf_) #[] sb_)] [] rfl rfl (fun _ => rfl)) _ (Chg.refl _ _))) (mi rfl (mi rfl (pl_val (.int .i64 (w64 (k24 + 1))) (y_add rfl rfl) ?_))))))))))))))))
    obtain ⟨y31, f2, hs⟩ := bind_some hs
    obtain ⟨f3, f4, c8, f5⟩ := hE_.swap c7 f2
    refine pl_val (w' := f3) (.tuple #[]) (y_callx rfl rfl f4) ?_
    have hO := hO.fr1
    have a0 := a0.ap c8 hO same_ (mem_l (List.mem_singleton.2 rfl))
    have hC := hC.st c8 hO same_
    have hO := hO.ext c8
    refine c_nil (c_region (mi rfl (pl_val (.int .i64 (w64 (k24 + 1))) (y_add rfl rfl) (ai rfl (c_nil ?_)))))
    cases hs
    have hO := hO.fr1
    exact ⟨_, fr_ovl 177 ⟨rfl, rfl, rfl, rfl, rfl, congrArg (Value.int .i64) hw, trivial⟩, hC, hO, f5, a0⟩
   ·skip
    have hO := hO.fr1
    have hO := hO.fr1
    exact ⟨_, fr_ovl 177 ⟨rfl, rfl, rfl, rfl, rfl, rfl, trivial⟩, hC, hO, hI_, a0⟩
   cases o26 with
   | nx _ => exact True.intro
   | rt r_ =>
    have hs := after_rt hs
    intro a2 b1 hK
    cases hs
    exact hK
   | br s22 =>
    have hs := after_br hs
    rintro a2 a4 ⟨σ, rfl, hC, hO, f6, a0⟩
    refine wp_ret ?_
    cases hs
    exact ⟨_, fr_ovl 177 trivial, hC, f6⟩
 refine c_condF (cb c4) (wp_skip (c_seq (c_sr (mi rfl (mi rfl (pl_val (.int .i64 (w64 (b - m))) (y_sub rfl rfl) (pl_val (.bool ((w64 (b - m)) == 1)) (y_eql rfl rfl) (c_nil ?_))))))))
 rcases bif_some hs with ⟨c9, hs⟩ | ⟨c9, hs⟩
 ·refine c_condT (cb c9) (c_sr (mi rfl (ai rfl (c_nil (c_sr (mi rfl (ai rfl (c_nil (c_seq ?_)))))))))
  obtain ⟨o41, f7, hs⟩ := bind_some hs
  refine wp_block (wp_iter (id := 4) (I := fun s37 a a6 => ∃ (σ : Nat → Value), a = fr 177 (ovl σ [(1, (.int .i64 a_)), (2, (.int .i64 m)), (3, (.int .i64 b)), (4, (pq a1 0)), (12, (.int .i64 s37.1)), (13, (.int .i64 s37.2))]) ∧ Chg (G_ ++ ([])) w a6 ∧ Own (Nw w (G_ ++ ([]))) M a6 (([a1]) ++ (G_ ++ [])) ∧ I_ a6 d_ ∧ BoxV a6 a1 136 [(.func (.func g_) #[] lb_), (.func (.func sf_) #[] sb_)]) (J := fun s37 a a6 => ∃ (σ : Nat → Value), a = fr 177 (ovl σ [(1, (.int .i64 a_)), (2, (.int .i64 m)), (3, (.int .i64 b)), (4, (pq a1 0)), (12, (.int .i64 s37.1))]) ∧ Chg (G_ ++ ([])) w a6 ∧ Own (Nw w (G_ ++ ([]))) M a6 (([a1]) ++ (G_ ++ [])) ∧ I_ a6 d_ ∧ BoxV a6 a1 136 [(.func (.func g_) #[] lb_), (.func (.func sf_) #[] sb_)]) (K := (k_sort_symMerge_func M w I_ G_)) ?_ FU (a_, m) o41 _ _ ?_ f7 ?_)
  ·rintro s37 o41 a a6 ⟨σ, rfl, hC, hO, hI_, a0⟩ hs
   refine c_seq (c_sr (mi rfl (mi rfl (pl_val _ (y_lss rfl rfl) (c_nil ?_)))))
   rcases bif_some hs with ⟨d0, hs⟩ | ⟨d0, hs⟩
   ·refine c_condT (cb d0) (wp_skip (wp_block (c_sr (mi rfl (mi rfl (pl_val (.int .i64 (w64 (s37.1 + s37.2))) (y_add rfl rfl) (pl_val (.int .u64 (IntKind.u64.wrap (w64 (s37.1 + s37.2)))) (y_conv_int Try.underlying3 Try.underlying119 rfl) (pl_val (.int .u64 (ishr .u64 (IntKind.u64.wrap (w64 (s37.1 + s37.2))) 1)) (y_shr rfl rfl (by decide)) (pl_val (.int .i64 (w64 (ishr .u64 (IntKind.u64.wrap (w64 (s37.1 + s37.2))) 1))) (y_conv_int Try.underlying119 Try.underlying3 rfl) (ai rfl (c_nil (c_sr (pl_val (pq a1 0) (y_faddr rfl Fa136x0) (pl_val (.func (.func g_) #[] lb_) (y_load rfl ((box_load Ag125 Sz125 a0 [] [(.func (.func g_) #[] lb_)] [(.func (.func sf_) #[] sb_)] rfl rfl (fun _ => rfl)) _ (Chg.refl _ _))) (mi rfl (mi rfl ?_))))))))))))))))
    obtain ⟨r45, f8, hs⟩ := bind_some hs
    refine pl_callb rfl hE_.bod rfl (hE_.less hI_ f8) ?_
    rintro _ i0 ⟨rfl, b6⟩
    have hI_ := hE_.ext hI_ b6 (fun _ h => nomatch h)
    have a0 := a0.cn b6
    have hC := hC.ext b6
    have hO := hO.ext b6
    refine pl_val _ (y_not rfl) (c_nil ?_)
    rcases bif_some hs with ⟨d1, hs⟩ | ⟨d1, hs⟩
    ·refine c_condT (cb d1) (c_region (mi rfl (pl_val (.int .i64 (w64 ((w64 (ishr .u64 (IntKind.u64.wrap (w64 (s37.1 + s37.2))) 1)) + 1))) (y_add rfl rfl) (ai rfl (c_nil ?_)))))
     cases hs
     have hO := hO.fr1
     have hO := hO.fr1
     exact ⟨_, fr_ovl 177 ⟨rfl, rfl, rfl, rfl, rfl, rfl, trivial⟩, hC, hO, hI_, a0⟩
    refine c_condF (cb d1) (c_region (mi rfl (ai rfl (c_nil ?_))))
    cases hs
    have hO := hO.fr1
    have hO := hO.fr1
    exact ⟨_, fr_ovl 177 ⟨rfl, rfl, rfl, rfl, rfl, rfl, trivial⟩, hC, hO, hI_, a0⟩
   refine c_condF (cb d0) (wp_exit ?_)
   cases hs
   have hO := hO.fr1
   have hO := hO.fr1
   exact ⟨rfl, _, fr_ovl 177 ⟨rfl, rfl, rfl, rfl, rfl, trivial⟩, hC, hO, hI_, a0⟩
  ·skip
   have hO := hO.fr1
   have hO := hO.fr1
   exact ⟨_, fr_ovl 177 ⟨rfl, rfl, rfl, rfl, rfl, rfl, trivial⟩, hC, hO, hI_, a0⟩
  cases o41 with
  | nx _ => exact True.intro
  | rt r_ =>
   have hs := after_rt hs
   intro a2 b1 hK
   cases hs
   exact hK
  | br s37 =>
   have hs := after_br hs
   rintro a2 a6 ⟨σ, rfl, hC, hO, hI_, a0⟩
   refine c_seq (c_sr (mi rfl (ai rfl (c_nil ?_))))
   obtain ⟨o58, f9, hs⟩ := bind_some hs
   refine wp_block (wp_iter (id := 6) (I := fun s54 a a7 => ∃ (σ : Nat → Value), a = fr 177 (ovl σ [(1, (.int .i64 a_)), (2, (.int .i64 m)), (3, (.int .i64 b)), (4, (pq a1 0)), (12, (.int .i64 s37.1)), (15, (.int .i64 s54.1))]) ∧ Chg (G_ ++ ([])) w a7 ∧ Own (Nw w (G_ ++ ([]))) M a7 (([a1]) ++ (G_ ++ [])) ∧ I_ a7 s54.2 ∧ BoxV a7 a1 136 [(.func (.func g_) #[] lb_), (.func (.func sf_) #[] sb_)]) (J := fun s54 a a7 => ∃ (σ : Nat → Value), a = fr 177 (ovl σ [(1, (.int .i64 a_)), (2, (.int .i64 m)), (3, (.int .i64 b)), (4, (pq a1 0))]) ∧ Chg (G_ ++ ([])) w a7 ∧ Own (Nw w (G_ ++ ([]))) M a7 (([a1]) ++ (G_ ++ [])) ∧ I_ a7 s54.2 ∧ BoxV a7 a1 136 [(.func (.func g_) #[] lb_), (.func (.func sf_) #[] sb_)]) (K := (k_sort_symMerge_func M w I_ G_)) ?_ FU (m, d_) o58 _ _ ?_ f9 ?_)
   ·rintro s54 o58 a a7 ⟨σ, rfl, hC, hO, e4, a0⟩ hs
    refine c_seq (c_sr (mi rfl (mi rfl (pl_val _ (y_gtr rfl rfl) (c_nil ?_)))))
    rcases bif_some hs with ⟨d2, hs⟩ | ⟨d2, hs⟩
    ·refine c_condT (cb d2) (wp_skip (c_seq (wp_block (c_region (pl_val (pq a1 1) (y_faddr rfl Fa136x1) (pl_val (.func (.func sf_) #[] sb_) (y_load rfl ((box_load Ag132 Sz132 a0 [(.func (.func g_) #[] lb_)] [(.func (.func sf_) #[] sb_)] [] rfl rfl (fun _ => rfl)) _ (Chg.refl _ _))) (mi rfl (mi rfl (pl_val (.int .i64 (w64 (s54.1 - 1))) (y_sub rfl rfl) ?_)))))))))
     obtain ⟨y64, g0, hs⟩ := bind_some hs
     obtain ⟨g1, g2, d3, g3⟩ := hE_.swap e4 g0
     refine pl_val (w' := g1) (.tuple #[]) (y_callx rfl rfl g2) ?_
     have hO := hO.fr1
     have a0 := a0.ap d3 hO same_ (mem_l (List.mem_singleton.2 rfl))
     have hC := hC.st d3 hO same_
     have hO := hO.ext d3
     refine c_nil (c_region (mi rfl (pl_val (.int .i64 (w64 (s54.1 - 1))) (y_sub rfl rfl) (ai rfl (c_nil ?_)))))
     cases hs
     have hO := hO.fr1
     exact ⟨_, fr_ovl 177 ⟨rfl, rfl, rfl, rfl, rfl, rfl, trivial⟩, hC, hO, g3, a0⟩
    refine c_condF (cb d2) (wp_exit ?_)
    cases hs
    have hO := hO.fr1
    have hO := hO.fr1
    exact ⟨rfl, _, fr_ovl 177 ⟨rfl, rfl, rfl, rfl, trivial⟩, hC, hO, e4, a0⟩
   ·skip
    have hO := hO.fr1
    have hO := hO.fr1
    exact ⟨_, fr_ovl 177 ⟨rfl, rfl, rfl, rfl, rfl, rfl, trivial⟩, hC, hO, hI_, a0⟩
   cases o58 with
   | nx _ => exact True.intro
   | rt r_ =>
    have hs := after_rt hs
    intro a2 b1 hK
    cases hs
    exact hK
   | br s54 =>
    have hs := after_br hs
    rintro a2 a7 ⟨σ, rfl, hC, hO, g4, a0⟩
    refine wp_ret ?_
    cases hs
    exact ⟨_, fr_ovl 177 trivial, hC, g4⟩
 refine c_condF (cb c9) (wp_skip (c_sr (mi rfl (mi rfl (pl_val (.int .i64 (w64 (a_ + b))) (y_add rfl rfl) (pl_val (.int .u64 (IntKind.u64.wrap (w64 (a_ + b)))) (y_conv_int Try.underlying3 Try.underlying119 rfl) (pl_val (.int .u64 (ishr .u64 (IntKind.u64.wrap (w64 (a_ + b))) 1)) (y_shr rfl rfl (by decide)) (pl_val (.int .i64 (w64 (ishr .u64 (IntKind.u64.wrap (w64 (a_ + b))) 1))) (y_conv_int Try.underlying119 Try.underlying3 rfl) (ai rfl (c_nil (c_sr (mi rfl (mi rfl (pl_val (.int .i64 (w64 ((w64 (ishr .u64 (IntKind.u64.wrap (w64 (a_ + b))) 1)) + m))) (y_add rfl rfl) (ai rfl (c_nil (c_sr (ai rfl (ai rfl (c_nil (c_seq (c_sr (mi rfl ?_)))))))))))))))))))))))
 refine mi rfl (pl_val _ (y_gtr rfl rfl) (c_nil ?_))
 obtain ⟨s65, g5, hs⟩ := bind_some hs
 refine c_mid (I := fun a b4 => ∃ (σ : Nat → Value), a = fr 177 (ovl σ [(1, (.int .i64 a_)), (2, (.int .i64 m)), (3, (.int .i64 b)), (4, (pq a1 0)), (16, (.int .i64 (w64 (ishr .u64 (IntKind.u64.wrap (w64 (a_ + b))) 1)))), (17, (.int .i64 (w64 ((w64 (ishr .u64 (IntKind.u64.wrap (w64 (a_ + b))) 1)) + m)))), (18, (.int .i64 s65.1)), (19, (.int .i64 s65.2))]) ∧ Chg (G_ ++ ([])) w b4 ∧ Own (Nw w (G_ ++ ([]))) M b4 (([a1]) ++ (G_ ++ [])) ∧ I_ b4 d_ ∧ BoxV b4 a1 136 [(.func (.func g_) #[] lb_), (.func (.func sf_) #[] sb_)]) ?_ ?_
 ·replace hs := g5
  rcases bif_some hs with ⟨d4, hs⟩ | ⟨d4, hs⟩
  ·refine c_condT (cb d4) (c_sr (mi rfl (mi rfl (pl_val (.int .i64 (w64 ((w64 ((w64 (ishr .u64 (IntKind.u64.wrap (w64 (a_ + b))) 1)) + m)) - b))) (y_sub rfl rfl) (ai rfl (c_nil (c_region (mi rfl (ai rfl (c_nil ?_))))))))))
   cases hs
   have hO := hO.fr1
   have hO := hO.fr1
   exact ⟨_, fr_ovl 177 ⟨rfl, rfl, rfl, rfl, rfl, rfl, rfl, rfl, trivial⟩, hC, hO, hI_, a0⟩
  refine c_condF (cb d4) (c_sr (mi rfl (ai rfl (c_nil (c_region (mi rfl (ai rfl (c_nil ?_))))))))
  cases hs
  have hO := hO.fr1
  have hO := hO.fr1
  exact ⟨_, fr_ovl 177 ⟨rfl, rfl, rfl, rfl, rfl, rfl, rfl, rfl, trivial⟩, hC, hO, hI_, a0⟩
 rintro a2 b4 ⟨σ, rfl, hC, hO, hI_, a0⟩
 refine c_sr (mi rfl (pl_val (.int .i64 (w64 ((w64 ((w64 (ishr .u64 (IntKind.u64.wrap (w64 (a_ + b))) 1)) + m)) - 1))) (y_sub rfl rfl) (ai rfl (c_nil (c_seq ?_)))))
 obtain ⟨o77, g6, hs⟩ := bind_some hs
 refine wp_block (wp_iter (id := 8) (I := fun s73 a a3 => ∃ (σ : Nat → Value), a = fr 177 (ovl σ [(1, (.int .i64 a_)), (2, (.int .i64 m)), (3, (.int .i64 b)), (4, (pq a1 0)), (16, (.int .i64 (w64 (ishr .u64 (IntKind.u64.wrap (w64 (a_ + b))) 1)))), (17, (.int .i64 (w64 ((w64 (ishr .u64 (IntKind.u64.wrap (w64 (a_ + b))) 1)) + m)))), (18, (.int .i64 s73.1)), (19, (.int .i64 s73.2)), (20, (.int .i64 (w64 ((w64 ((w64 (ishr .u64 (IntKind.u64.wrap (w64 (a_ + b))) 1)) + m)) - 1))))]) ∧ Chg (G_ ++ ([])) w a3 ∧ Own (Nw w (G_ ++ ([]))) M a3 (([a1]) ++ (G_ ++ [])) ∧ I_ a3 d_ ∧ BoxV a3 a1 136 [(.func (.func g_) #[] lb_), (.func (.func sf_) #[] sb_)]) (J := fun s73 a a3 => ∃ (σ : Nat → Value), a = fr 177 (ovl σ [(1, (.int .i64 a_)), (2, (.int .i64 m)), (3, (.int .i64 b)), (4, (pq a1 0)), (16, (.int .i64 (w64 (ishr .u64 (IntKind.u64.wrap (w64 (a_ + b))) 1)))), (17, (.int .i64 (w64 ((w64 (ishr .u64 (IntKind.u64.wrap (w64 (a_ + b))) 1)) + m)))), (18, (.int .i64 s73.1))]) ∧ Chg (G_ ++ ([])) w a3 ∧ Own (Nw w (G_ ++ ([]))) M a3 (([a1]) ++ (G_ ++ [])) ∧ I_ a3 d_ ∧ BoxV a3 a1 136 [(.func (.func g_) #[] lb_), (.func (.func sf_) #[] sb_)]) (K := (k_sort_symMerge_func M w I_ G_)) ?_ FU (s65.1, s65.2) o77 _ _ ?_ g6 ?_)
 ·rintro s73 o77 a a3 ⟨σ, rfl, hC, hO, hI_, a0⟩ hs
  refine c_seq (c_sr (mi rfl (mi rfl (pl_val _ (y_lss rfl rfl) (c_nil ?_)))))
  rcases bif_some hs with ⟨d5, hs⟩ | ⟨d5, hs⟩
  ·refine c_condT (cb d5) (wp_skip (wp_block (c_sr (mi rfl (mi rfl (pl_val (.int .i64 (w64 (s73.1 + s73.2))) (y_add rfl rfl) (pl_val (.int .u64 (IntKind.u64.wrap (w64 (s73.1 + s73.2)))) (y_conv_int Try.underlying3 Try.underlying119 rfl) (pl_val (.int .u64 (ishr .u64 (IntKind.u64.wrap (w64 (s73.1 + s73.2))) 1)) (y_shr rfl rfl (by decide)) (pl_val (.int .i64 (w64 (ishr .u64 (IntKind.u64.wrap (w64 (s73.1 + s73.2))) 1))) (y_conv_int Try.underlying119 Try.underlying3 rfl) (ai rfl (c_nil (c_sr (pl_val (pq a1 0) (y_faddr rfl Fa136x0) (pl_val (.func (.func g_) #[] lb_) (y_load rfl ((box_load Ag125 Sz125 a0 [] [(.func (.func g_) #[] lb_)] [(.func (.func sf_) #[] sb_)] rfl rfl (fun _ => rfl)) _ (Chg.refl _ _))) (mi rfl (mi rfl (pl_val (.int .i64 (w64 ((w64 ((w64 ((w64 (ishr .u64 (IntKind.u64.wrap (w64 (a_ + b))) 1)) + m)) - 1)) - (w64 (ishr .u64 (IntKind.u64.wrap (w64 (s73.1 + s73.2))) 1))))) (y_sub rfl rfl) (mi rfl ?_))))))))))))))))))
   obtain ⟨r81, g7, hs⟩ := bind_some hs
   refine pl_callb rfl hE_.bod rfl (hE_.less hI_ g7) ?_
   rintro _ i1 ⟨rfl, b7⟩
   have hI_ := hE_.ext hI_ b7 (fun _ h => nomatch h)
   have a0 := a0.cn b7
   have hC := hC.ext b7
   have hO := hO.ext b7
   refine pl_val _ (y_not rfl) (c_nil ?_)
   rcases bif_some hs with ⟨d6, hs⟩ | ⟨d6, hs⟩
   ·refine c_condT (cb d6) (c_region (mi rfl (pl_val (.int .i64 (w64 ((w64 (ishr .u64 (IntKind.u64.wrap (w64 (s73.1 + s73.2))) 1)) + 1))) (y_add rfl rfl) (ai rfl (c_nil ?_)))))
    cases hs
    have hO := hO.fr1
    have hO := hO.fr1
    exact ⟨_, fr_ovl 177 ⟨rfl, rfl, rfl, rfl, rfl, rfl, rfl, rfl, rfl, trivial⟩, hC, hO, hI_, a0⟩
   refine c_condF (cb d6) (c_region (mi rfl (ai rfl (c_nil ?_))))
   cases hs
   have hO := hO.fr1
   have hO := hO.fr1
   exact ⟨_, fr_ovl 177 ⟨rfl, rfl, rfl, rfl, rfl, rfl, rfl, rfl, rfl, trivial⟩, hC, hO, hI_, a0⟩
  refine c_condF (cb d5) (wp_exit ?_)
  cases hs
  have hO := hO.fr1
  have hO := hO.fr1
  exact ⟨rfl, _, fr_ovl 177 ⟨rfl, rfl, rfl, rfl, rfl, rfl, rfl, trivial⟩, hC, hO, hI_, a0⟩
 ·skip
  have hO := hO.fr1
  have hO := hO.fr1
  exact ⟨_, fr_ovl 177 ⟨rfl, rfl, rfl, rfl, rfl, rfl, rfl, rfl, rfl, trivial⟩, hC, hO, hI_, a0⟩
 cases o77 with
 | nx _ => exact True.intro
 | rt r_ =>
  have hs := after_rt hs
  intro a2 b1 hK
  cases hs
  exact hK
 | br s73 =>
  have hs := after_br hs
  rintro a2 a3 ⟨σ, rfl, hC, hO, hI_, a0⟩
  refine c_sr (mi rfl (mi rfl (pl_val (.int .i64 (w64 ((w64 ((w64 (ishr .u64 (IntKind.u64.wrap (w64 (a_ + b))) 1)) + m)) - s73.1))) (y_sub rfl rfl) (ai rfl (c_nil (c_seq (c_seq (c_mid (I := fun a e5 => ∃ (σ : Nat → Value), a = fr 177 (ovl σ [(1, (.int .i64 a_)), (2, (.int .i64 m)), (3, (.int .i64 b)), (4, (pq a1 0)), (16, (.int .i64 (w64 (ishr .u64 (IntKind.u64.wrap (w64 (a_ + b))) 1)))), (18, (.int .i64 s73.1)), (22, (.int .i64 (w64 ((w64 ((w64 (ishr .u64 (IntKind.u64.wrap (w64 (a_ + b))) 1)) + m)) - s73.1)))), (145, (.bool ((decide (s73.1 < m)) && (decide (m < (w64 ((w64 ((w64 (ishr .u64 (IntKind.u64.wrap (w64 (a_ + b))) 1)) + m)) - s73.1)))))))]) ∧ Chg [] a3 e5) ?_ ?_))))))))
  ·have hMid := Chg.refl [] a3
   refine c_region (mi rfl (mi rfl (pl_val _ (y_lss rfl rfl) (mb rfl ?_))))
   rcases Bool.eq_false_or_eq_true ((decide (s73.1 < m))) with a8 | a8
   ·skip
    refine pl_yes (.int .i64 m) (tg := 141) (by kernel_rfl) (cb a8) (y_move rfl) (pl_yes (.int .i64 (w64 ((w64 ((w64 (ishr .u64 (IntKind.u64.wrap (w64 (a_ + b))) 1)) + m)) - s73.1))) (tg := 141) (by kernel_rfl) (cb a8) (y_move rfl) (pl_yes (.bool (decide (m < (w64 ((w64 ((w64 (ishr .u64 (IntKind.u64.wrap (w64 (a_ + b))) 1)) + m)) - s73.1))))) (tg := 141) (by kernel_rfl) (cb a8) (y_lss rfl rfl) (pl_val (.bool ((decide (s73.1 < m)) && (decide (m < (w64 ((w64 ((w64 (ishr .u64 (IntKind.u64.wrap (w64 (a_ + b))) 1)) + m)) - s73.1)))))) (y_pick_t (cb a8) (cb (by rw [a8]; rfl))) (c_nil ?_))))
    exact ⟨_, fr_ovl 177 ⟨rfl, rfl, rfl, rfl, rfl, rfl, rfl, rfl, trivial⟩, hMid⟩
   refine pl_not (tg := 141) (by kernel_rfl) (cb a8) (pl_not (tg := 141) (by kernel_rfl) (cb a8) (pl_not (tg := 141) (by kernel_rfl) (cb a8) (pl_val (.bool ((decide (s73.1 < m)) && (decide (m < (w64 ((w64 ((w64 (ishr .u64 (IntKind.u64.wrap (w64 (a_ + b))) 1)) + m)) - s73.1)))))) (y_pick_f (cb a8) (cb (by rw [a8]; rfl))) (c_nil ?_))))
   exact ⟨_, fr_ovl 177 ⟨rfl, rfl, rfl, rfl, rfl, rfl, rfl, rfl, trivial⟩, hMid⟩
  rintro a2 e5 ⟨σ, rfl, b8⟩
  have hI_ := hE_.ext hI_ b8 (fun _ h => nomatch h)
  have a0 := a0.cn b8
  have hC := hC.ext b8
  have hO := hO.ext b8
  obtain ⟨s91, g8, hs⟩ := bind_some hs
  refine c_mid (I := fun a b2 => ∃ (σ : Nat → Value), a = fr 177 (ovl σ [(1, (.int .i64 a_)), (3, (.int .i64 b)), (4, (pq a1 0)), (16, (.int .i64 (w64 (ishr .u64 (IntKind.u64.wrap (w64 (a_ + b))) 1)))), (18, (.int .i64 s73.1)), (22, (.int .i64 (w64 ((w64 ((w64 (ishr .u64 (IntKind.u64.wrap (w64 (a_ + b))) 1)) + m)) - s73.1))))]) ∧ Chg (G_ ++ ([])) w b2 ∧ Own (Nw w (G_ ++ ([]))) M b2 (([a1]) ++ (G_ ++ [])) ∧ I_ b2 s91 ∧ BoxV b2 a1 136 [(.func (.func g_) #[] lb_), (.func (.func sf_) #[] sb_)]) ?_ ?_
  ·replace hs := g8
   rcases bif_some hs with ⟨d7, hs⟩ | ⟨d7, hs⟩
   ·refine c_condT (cb d7) (c_region (pl_val (.agg #[(.func (.func g_) #[] lb_), (.func (.func sf_) #[] sb_)]) (y_load rfl ((box_load Ag136 Sz136 a0 [] [(.func (.func g_) #[] lb_), (.func (.func sf_) #[] sb_)] [] rfl rfl (fun h => nomatch h)) _ (Chg.refl _ _))) (mi rfl (mi rfl (mi rfl ?_)))))
    have hO := hO.fr1
    have g9 := Own.lend (F := (G_ ++ ([]))) (R := ([a1]) ++ ([])) (Own.perm hO (by simp))
    obtain ⟨r97, h0, hs⟩ := bind_some hs
    refine pl_call Bd132 rfl (c_sort_rotate_func (M := M) ls_ d_ s73.1 m (w64 ((w64 ((w64 (ishr .u64 (IntKind.u64.wrap (w64 (a_ + b))) 1)) + m)) - s73.1)) (Nat.le_trans hN_ hC.size) hE_ hI_ g9 hO.fut h0) ?_
    rintro _ i2 ⟨rfl, d8, h1⟩
    have a0 := a0.ap d8 hO nil_mem (mem_l (List.mem_singleton.2 rfl))
    have hC := hC.st d8 hO nil_mem
    have hO := hO.ext d8
    refine c_nil ?_
    cases hs
    have hO := hO.fr1
    exact ⟨_, fr_ovl 177 ⟨rfl, rfl, rfl, rfl, rfl, rfl, trivial⟩, hC, hO, h1, a0⟩
   refine c_condF (cb d7) (wp_skip ?_)
   cases hs
   have hO := hO.fr1
   have hO := hO.fr1
   exact ⟨_, fr_ovl 177 ⟨rfl, rfl, rfl, rfl, rfl, rfl, trivial⟩, hC, hO, hI_, a0⟩
  rintro a2 b2 ⟨σ, rfl, hC, hO, b9, a0⟩
  refine c_seq (c_seq (c_mid (I := fun a e6 => ∃ (σ : Nat → Value), a = fr 177 (ovl σ [(1, (.int .i64 a_)), (3, (.int .i64 b)), (4, (pq a1 0)), (16, (.int .i64 (w64 (ishr .u64 (IntKind.u64.wrap (w64 (a_ + b))) 1)))), (18, (.int .i64 s73.1)), (22, (.int .i64 (w64 ((w64 ((w64 (ishr .u64 (IntKind.u64.wrap (w64 (a_ + b))) 1)) + m)) - s73.1)))), (158, (.bool ((decide (a_ < s73.1)) && (decide (s73.1 < (w64 (ishr .u64 (IntKind.u64.wrap (w64 (a_ + b))) 1)))))))]) ∧ Chg [] b2 e6) ?_ ?_))
  ·have hMid := Chg.refl [] b2
   refine c_region (mi rfl (mi rfl (pl_val _ (y_lss rfl rfl) (mb rfl ?_))))
   rcases Bool.eq_false_or_eq_true ((decide (a_ < s73.1))) with a9 | a9
   ·skip
    refine pl_yes (.int .i64 s73.1) (tg := 154) (by kernel_rfl) (cb a9) (y_move rfl) (pl_yes (.int .i64 (w64 (ishr .u64 (IntKind.u64.wrap (w64 (a_ + b))) 1))) (tg := 154) (by kernel_rfl) (cb a9) (y_move rfl) (pl_yes (.bool (decide (s73.1 < (w64 (ishr .u64 (IntKind.u64.wrap (w64 (a_ + b))) 1))))) (tg := 154) (by kernel_rfl) (cb a9) (y_lss rfl rfl) (pl_val (.bool ((decide (a_ < s73.1)) && (decide (s73.1 < (w64 (ishr .u64 (IntKind.u64.wrap (w64 (a_ + b))) 1)))))) (y_pick_t (cb a9) (cb (by rw [a9]; rfl))) (c_nil ?_))))
    exact ⟨_, fr_ovl 177 ⟨rfl, rfl, rfl, rfl, rfl, rfl, rfl, trivial⟩, hMid⟩
   refine pl_not (tg := 154) (by kernel_rfl) (cb a9) (pl_not (tg := 154) (by kernel_rfl) (cb a9) (pl_not (tg := 154) (by kernel_rfl) (cb a9) (pl_val (.bool ((decide (a_ < s73.1)) && (decide (s73.1 < (w64 (ishr .u64 (IntKind.u64.wrap (w64 (a_ + b))) 1)))))) (y_pick_f (cb a9) (cb (by rw [a9]; rfl))) (c_nil ?_))))
   exact ⟨_, fr_ovl 177 ⟨rfl, rfl, rfl, rfl, rfl, rfl, rfl, trivial⟩, hMid⟩
  rintro a2 e6 ⟨σ, rfl, c0⟩
  have b9 := hE_.ext b9 c0 (fun _ h => nomatch h)
  have a0 := a0.cn c0
  have hC := hC.ext c0
  have hO := hO.ext c0
  obtain ⟨s106, h2, hs⟩ := bind_some hs
  refine c_mid (I := fun a b3 => ∃ (σ : Nat → Value), a = fr 177 (ovl σ [(3, (.int .i64 b)), (4, (pq a1 0)), (16, (.int .i64 (w64 (ishr .u64 (IntKind.u64.wrap (w64 (a_ + b))) 1)))), (22, (.int .i64 (w64 ((w64 ((w64 (ishr .u64 (IntKind.u64.wrap (w64 (a_ + b))) 1)) + m)) - s73.1))))]) ∧ Chg (G_ ++ ([])) w b3 ∧ Own (Nw w (G_ ++ ([]))) M b3 (([a1]) ++ (G_ ++ [])) ∧ I_ b3 s106 ∧ BoxV b3 a1 136 [(.func (.func g_) #[] lb_), (.func (.func sf_) #[] sb_)]) ?_ ?_
  ·replace hs := h2
   rcases bif_some hs with ⟨d9, hs⟩ | ⟨d9, hs⟩
   ·refine c_condT (cb d9) (c_region (pl_val (.agg #[(.func (.func g_) #[] lb_), (.func (.func sf_) #[] sb_)]) (y_load rfl ((box_load Ag136 Sz136 a0 [] [(.func (.func g_) #[] lb_), (.func (.func sf_) #[] sb_)] [] rfl rfl (fun h => nomatch h)) _ (Chg.refl _ _))) (mi rfl (mi rfl (mi rfl ?_)))))
    have hO := hO.fr1
    have h3 := Own.lend (F := (G_ ++ ([]))) (R := ([a1]) ++ ([])) (Own.perm hO (by simp))
    obtain ⟨r112, h4, hs⟩ := bind_some hs
    refine pl_call Bd131 rfl (c_ih (M := M) ls_ s91 a_ s73.1 (w64 (ishr .u64 (IntKind.u64.wrap (w64 (a_ + b))) 1)) (Nat.le_trans hN_ hC.size) hE_ b9 h3 hO.fut h4) ?_
    rintro _ i3 ⟨rfl, e0, h5⟩
    have a0 := a0.ap e0 hO nil_mem (mem_l (List.mem_singleton.2 rfl))
    have hC := hC.st e0 hO nil_mem
    have hO := hO.ext e0
    refine c_nil ?_
    cases hs
    have hO := hO.fr1
    exact ⟨_, fr_ovl 177 ⟨rfl, rfl, rfl, rfl, trivial⟩, hC, hO, h5, a0⟩
   refine c_condF (cb d9) (wp_skip ?_)
   cases hs
   have hO := hO.fr1
   have hO := hO.fr1
   exact ⟨_, fr_ovl 177 ⟨rfl, rfl, rfl, rfl, trivial⟩, hC, hO, b9, a0⟩
  rintro a2 b3 ⟨σ, rfl, hC, hO, c1, a0⟩
  refine c_seq (c_mid (I := fun a e7 => ∃ (σ : Nat → Value), a = fr 177 (ovl σ [(3, (.int .i64 b)), (4, (pq a1 0)), (16, (.int .i64 (w64 (ishr .u64 (IntKind.u64.wrap (w64 (a_ + b))) 1)))), (22, (.int .i64 (w64 ((w64 ((w64 (ishr .u64 (IntKind.u64.wrap (w64 (a_ + b))) 1)) + m)) - s73.1)))), (171, (.bool ((decide ((w64 (ishr .u64 (IntKind.u64.wrap (w64 (a_ + b))) 1)) < (w64 ((w64 ((w64 (ishr .u64 (IntKind.u64.wrap (w64 (a_ + b))) 1)) + m)) - s73.1)))) && (decide ((w64 ((w64 ((w64 (ishr .u64 (IntKind.u64.wrap (w64 (a_ + b))) 1)) + m)) - s73.1)) < b)))))]) ∧ Chg [] b3 e7) ?_ ?_)
  ·have hMid := Chg.refl [] b3
   refine c_region (mi rfl (mi rfl (pl_val _ (y_lss rfl rfl) (mb rfl ?_))))
   rcases Bool.eq_false_or_eq_true ((decide ((w64 (ishr .u64 (IntKind.u64.wrap (w64 (a_ + b))) 1)) < (w64 ((w64 ((w64 (ishr .u64 (IntKind.u64.wrap (w64 (a_ + b))) 1)) + m)) - s73.1))))) with b0 | b0
   ·skip
    refine pl_yes (.int .i64 (w64 ((w64 ((w64 (ishr .u64 (IntKind.u64.wrap (w64 (a_ + b))) 1)) + m)) - s73.1))) (tg := 167) (by kernel_rfl) (cb b0) (y_move rfl) (pl_yes (.int .i64 b) (tg := 167) (by kernel_rfl) (cb b0) (y_move rfl) (pl_yes (.bool (decide ((w64 ((w64 ((w64 (ishr .u64 (IntKind.u64.wrap (w64 (a_ + b))) 1)) + m)) - s73.1)) < b))) (tg := 167) (by kernel_rfl) (cb b0) (y_lss rfl rfl) (pl_val (.bool ((decide ((w64 (ishr .u64 (IntKind.u64.wrap (w64 (a_ + b))) 1)) < (w64 ((w64 ((w64 (ishr .u64 (IntKind.u64.wrap (w64 (a_ + b))) 1)) + m)) - s73.1)))) && (decide ((w64 ((w64 ((w64 (ishr .u64 (IntKind.u64.wrap (w64 (a_ + b))) 1)) + m)) - s73.1)) < b)))) (y_pick_t (cb b0) (cb (by rw [b0]; rfl))) (c_nil ?_))))
    exact ⟨_, fr_ovl 177 ⟨rfl, rfl, rfl, rfl, rfl, trivial⟩, hMid⟩
   refine pl_not (tg := 167) (by kernel_rfl) (cb b0) (pl_not (tg := 167) (by kernel_rfl) (cb b0) (pl_not (tg := 167) (by kernel_rfl) (cb b0) (pl_val (.bool ((decide ((w64 (ishr .u64 (IntKind.u64.wrap (w64 (a_ + b))) 1)) < (w64 ((w64 ((w64 (ishr .u64 (IntKind.u64.wrap (w64 (a_ + b))) 1)) + m)) - s73.1)))) && (decide ((w64 ((w64 ((w64 (ishr .u64 (IntKind.u64.wrap (w64 (a_ + b))) 1)) + m)) - s73.1)) < b)))) (y_pick_f (cb b0) (cb (by rw [b0]; rfl))) (c_nil ?_))))
   exact ⟨_, fr_ovl 177 ⟨rfl, rfl, rfl, rfl, rfl, trivial⟩, hMid⟩
  rintro a2 e7 ⟨σ, rfl, c2⟩
  have c1 := hE_.ext c1 c2 (fun _ h => nomatch h)
  have a0 := a0.cn c2
  have hC := hC.ext c2
  have hO := hO.ext c2
  rcases bif_some hs with ⟨e1, hs⟩ | ⟨e1, hs⟩
  ·refine c_condT (cb e1) (c_region (pl_val (.agg #[(.func (.func g_) #[] lb_), (.func (.func sf_) #[] sb_)]) (y_load rfl ((box_load Ag136 Sz136 a0 [] [(.func (.func g_) #[] lb_), (.func (.func sf_) #[] sb_)] [] rfl rfl (fun h => nomatch h)) _ (Chg.refl _ _))) (mi rfl (mi rfl (mi rfl ?_)))))
   have hO := hO.fr1
   have h6 := Own.lend (F := (G_ ++ ([]))) (R := ([a1]) ++ ([])) (Own.perm hO (by simp))
   obtain ⟨r119, h7, hs⟩ := bind_some hs
   refine pl_call Bd131 rfl (c_ih (M := M) ls_ s106 (w64 (ishr .u64 (IntKind.u64.wrap (w64 (a_ + b))) 1)) (w64 ((w64 ((w64 (ishr .u64 (IntKind.u64.wrap (w64 (a_ + b))) 1)) + m)) - s73.1)) b (Nat.le_trans hN_ hC.size) hE_ c1 h6 hO.fut h7) ?_
   rintro _ i4 ⟨rfl, e2, h8⟩
   have a0 := a0.ap e2 hO nil_mem (mem_l (List.mem_singleton.2 rfl))
   have hC := hC.st e2 hO nil_mem
   have hO := hO.ext e2
   refine c_nil ?_
   cases hs
   exact ⟨_, fr_ovl 177 trivial, hC, h8⟩
  refine c_condF (cb e1) (wp_skip ?_)
  cases hs
  exact ⟨_, fr_ovl 177 trivial, hC, c1⟩

theorem Bd130 : Bodied Try.prog 130 := bodied Try.func130 (by kernel_rfl) rfl

def k_sort_stable_func (M : Nat → Prop) (w0 : World) {α_ : Type} (I_ : World → List α_ → Prop) (G_ : List Nat) (r : (List α_)) (a : Act) (w : World) : Prop :=
  ∃ (σ : Nat → Value) , a = fr 57 (ovl σ []) ∧ Chg (G_ ++ ([])) w0 w ∧ I_ w r
def s_sort_stable_func {α_ : Type} (ls_ : α_ → α_ → Option Bool) (d_ : List α_) (n : Int) : Option ((List α_)) :=
  (iter (S := Int × Int × (List α_)) (R := (List α_)) (fun s9 =>
  (bif (decide (s9.2.1 ≤ n)) then (s_sort_insertionSort_func ls_ s9.2.2 s9.1 s9.2.1).bind fun r19 =>
  some (.nx (s9.2.1, w64 (s9.2.1 + 20), r19)) else some (.br (s9.1, s9.2.1, s9.2.2)))) FU (0, 20, d_)).bind fun o13 => after o13 (fun r_ => some r_) (fun s9 =>
  (s_sort_insertionSort_func ls_ s9.2.2 s9.1 n).bind fun r21 =>
  (iter (S := Int × Int × Int × (List α_)) (R := (List α_)) (fun s67 =>
  (bif (decide (s67.1 < n)) then (iter (S := Int × Int × (List α_)) (R := (List α_)) (fun s83 =>
  (bif (decide (s83.2.1 ≤ n)) then (s_sort_symMerge_func FU ls_ s83.2.2 s83.1 (w64 (s83.1 + s67.1)) s83.2.1).bind fun r93 =>
  some (.nx (s83.2.1, w64 (s83.2.1 + (w64 (2 * s67.1))), r93)) else some (.br (s83.1, s83.2.1, s83.2.2)))) FU (0, w64 (2 * s67.1), s67.2.2.2)).bind fun o87 => after o87 (fun r_ => some (.rt r_)) (fun s83 =>
  (bif (decide ((w64 (s83.1 + s67.1)) < n)) then (s_sort_symMerge_func FU ls_ s83.2.2 s83.1 (w64 (s83.1 + s67.1)) n).bind fun r96 =>
  some (.nx (w64 (s67.1 * 2), s83.1, s83.2.1, r96)) else some (.nx (w64 (s67.1 * 2), s83.1, s83.2.1, s83.2.2)))) else some (.br (s67.1, s67.2.1, s67.2.2.1, s67.2.2.2)))) FU (20, s9.1, s9.2.1, r21)).bind fun o71 => after o71 (fun r_ => some r_) (fun s67 =>
  some s67.2.2.2))
set_option maxHeartbeats 4000000 in
theorem c_sort_stable_func {M : Nat → Prop} {w : World} {α_ : Type} {n0_ : Nat} {I_ : World → List α_ → Prop} {G_ : List Nat} {g_ sf_ : Nat} {lb_ sb_ : Array Value} (ls_ : α_ → α_ → Option Bool) (d_ : List α_) (n : Int) (hN_ : n0_ ≤ w.heap.size) (hE_ : Env Try.prog n0_ I_ G_ ls_ g_ lb_ sf_ sb_) (hI_ : I_ w d_) (hI : Own (Nw w (G_ ++ ([]))) M w (G_ ++ ([]))) (hM : ∀ g, w.heap.size ≤ g → M g) {r : (List α_)} (hs : s_sort_stable_func ls_ d_ n = some r) :
    Gives Try.prog 119 [(.agg #[(.func (.func g_) #[] lb_), (.func (.func sf_) #[] sb_)]), (.int .i64 n)] w (fun v w' => v = (.tuple #[]) ∧ Chg (G_ ++ ([])) w w' ∧ I_ w' r) := by
 refine calls_fr Try.func119 rfl Try.ntmps119 (Nat.le_of_ble_eq_true rfl) ?_
 have hO := hI
 have hC := Chg.refl (G_ ++ ([])) w
 unfold s_sort_stable_func at hs
 refine wp_mono (Q := KPostN (k_sort_stable_func M w I_ G_ r)) ?_ (fun e a a5 h => ?_)
 rotate_left
 ·cases e
  case ret =>
   obtain ⟨σ, rfl, hrest⟩ := h
   exact ret0x Try.results119  ⟨rfl, hrest⟩
  case normal =>
   obtain ⟨σ, rfl, hrest⟩ := h
   exact ret0n Try.results119  ⟨rfl, hrest⟩
  all_goals exact (h : False).elim
 refine c_sr ?_
 obtain ⟨a5, a1, c1, b6, a7, a0⟩ := new_block w [(.func (.func g_) #[] lb_), (.func (.func sf_) #[] sb_)] 136
 refine pl_val (w' := a5) (pq a1 0) (y_box rfl (by rw [c1, b6]; kernel_rfl)) ?_
 have hI_ := hE_.ext hI_ a7 (fun _ h => nomatch h)
 have hC := hC.ext a7
 have hO := hO.new1 a7 b6 a0.lt
 refine c_nil (c_sr (ai rfl (c_nil (c_sr (mi rfl (ai rfl (ai rfl (c_nil (c_seq ?_)))))))))
 obtain ⟨o13, c2, hs⟩ := bind_some hs
 refine wp_block (wp_iter (id := 0) (I := fun s9 a a2 => ∃ (σ : Nat → Value), a = fr 57 (ovl σ [(1, (.int .i64 n)), (2, (pq a1 0)), (4, (.int .i64 20)), (5, (.int .i64 s9.1)), (6, (.int .i64 s9.2.1))]) ∧ Chg (G_ ++ ([])) w a2 ∧ Own (Nw w (G_ ++ ([]))) M a2 (([a1]) ++ (G_ ++ [])) ∧ I_ a2 s9.2.2 ∧ BoxV a2 a1 136 [(.func (.func g_) #[] lb_), (.func (.func sf_) #[] sb_)]) (J := fun s9 a a2 => ∃ (σ : Nat → Value), a = fr 57 (ovl σ [(1, (.int .i64 n)), (2, (pq a1 0)), (4, (.int .i64 20)), (5, (.int .i64 s9.1)), (6, (.int .i64 s9.2.1))]) ∧ Chg (G_ ++ ([])) w a2 ∧ Own (Nw w (G_ ++ ([]))) M a2 (([a1]) ++ (G_ ++ [])) ∧ I_ a2 s9.2.2 ∧ BoxV a2 a1 136 [(.func (.func g_) #[] lb_), (.func (.func sf_) #[] sb_)]) (K := (k_sort_stable_func M w I_ G_)) ?_ FU (0, 20, d_) o13 _ _ ?_ c2 ?_)
 ·rintro s9 o13 a a2 ⟨σ, rfl, hC, hO, b7, a0⟩ hs
  refine c_seq (c_sr (mi rfl (mi rfl (pl_val _ (y_leq rfl rfl) (c_nil ?_)))))
  rcases bif_some hs with ⟨a8, hs⟩ | ⟨a8, hs⟩
  ·refine c_condT (cb a8) (wp_skip (wp_block (c_sr (pl_val (.agg #[(.func (.func g_) #[] lb_), (.func (.func sf_) #[] sb_)]) (y_load rfl ((box_load Ag136 Sz136 a0 [] [(.func (.func g_) #[] lb_), (.func (.func sf_) #[] sb_)] [] rfl rfl (fun h => nomatch h)) _ (Chg.refl _ _))) (mi rfl (mi rfl ?_))))))
   have hO := hO.fr1
   have c3 := Own.lend (F := (G_ ++ ([]))) (R := ([a1]) ++ ([])) (Own.perm hO (by simp))
   obtain ⟨r19, c4, hs⟩ := bind_some hs
   refine pl_call Bd130 rfl (c_sort_insertionSort_func (M := M) ls_ s9.2.2 s9.1 s9.2.1 (Nat.le_trans hN_ hC.size) hE_ b7 c3 hO.fut c4) ?_
   rintro _ d9 ⟨rfl, a9, c5⟩
   have a0 := a0.ap a9 hO nil_mem (mem_l (List.mem_singleton.2 rfl))
   have hC := hC.st a9 hO nil_mem
   have hO := hO.ext a9
   refine c_nil (c_sr (mi rfl (ai rfl (c_nil (c_region (mi rfl (mi rfl (pl_val (.int .i64 (w64 (s9.2.1 + 20))) (y_add rfl rfl) (ai rfl (c_nil ?_))))))))))
   cases hs
   have hO := hO.fr1
   exact ⟨_, fr_ovl 57 ⟨rfl, rfl, rfl, rfl, rfl, trivial⟩, hC, hO, c5, a0⟩
  refine c_condF (cb a8) (wp_exit ?_)
  cases hs
  have hO := hO.fr1
  have hO := hO.fr1
  exact ⟨rfl, _, fr_ovl 57 ⟨rfl, rfl, rfl, rfl, rfl, trivial⟩, hC, hO, b7, a0⟩
 ·skip
  have hO := hO.fr1
  have hO := hO.fr1
  exact ⟨_, fr_ovl 57 ⟨rfl, rfl, rfl, rfl, rfl, trivial⟩, hC, hO, hI_, a0⟩
 cases o13 with
 | nx _ => exact True.intro
 | rt r_ =>
  have hs := after_rt hs
  intro a6 a5 hK
  cases hs
  exact hK
 | br s9 =>
  have hs := after_br hs
  rintro a6 a2 ⟨σ, rfl, hC, hO, c6, a0⟩
  refine c_sr (pl_val (.agg #[(.func (.func g_) #[] lb_), (.func (.func sf_) #[] sb_)]) (y_load rfl ((box_load Ag136 Sz136 a0 [] [(.func (.func g_) #[] lb_), (.func (.func sf_) #[] sb_)] [] rfl rfl (fun h => nomatch h)) _ (Chg.refl _ _))) (mi rfl (mi rfl ?_)))
  have hO := hO.fr1
  have c7 := Own.lend (F := (G_ ++ ([]))) (R := ([a1]) ++ ([])) (Own.perm hO (by simp))
  obtain ⟨r21, c8, hs⟩ := bind_some hs
  refine pl_call Bd130 rfl (c_sort_insertionSort_func (M := M) ls_ s9.2.2 s9.1 n (Nat.le_trans hN_ hC.size) hE_ c6 c7 hO.fut c8) ?_
  rintro _ e0 ⟨rfl, b0, c9⟩
  have a0 := a0.ap b0 hO nil_mem (mem_l (List.mem_singleton.2 rfl))
  have hC := hC.st b0 hO nil_mem
  have hO := hO.ext b0
  refine c_nil ?_
  obtain ⟨o71, d0, hs⟩ := bind_some hs
  refine wp_block (wp_iter (id := 2) (I := fun s67 a a3 => ∃ (σ : Nat → Value), a = fr 57 (ovl σ [(1, (.int .i64 n)), (2, (pq a1 0)), (4, (.int .i64 s67.1)), (5, (.int .i64 s67.2.1)), (6, (.int .i64 s67.2.2.1))]) ∧ Chg (G_ ++ ([])) w a3 ∧ Own (Nw w (G_ ++ ([]))) M a3 (G_ ++ (([a1]) ++ [])) ∧ I_ a3 s67.2.2.2 ∧ BoxV a3 a1 136 [(.func (.func g_) #[] lb_), (.func (.func sf_) #[] sb_)]) (J := fun s67 a a3 => ∃ (σ : Nat → Value), a = fr 57 (ovl σ []) ∧ Chg (G_ ++ ([])) w a3 ∧ Own (Nw w (G_ ++ ([]))) M a3 (G_ ++ (([a1]) ++ [])) ∧ I_ a3 s67.2.2.2 ∧ BoxV a3 a1 136 [(.func (.func g_) #[] lb_), (.func (.func sf_) #[] sb_)]) (K := (k_sort_stable_func M w I_ G_)) ?_ FU (20, s9.1, s9.2.1, r21) o71 _ _ ?_ d0 ?_)
  ·rintro s67 o71 a a3 ⟨σ, rfl, hC, hO, b8, a0⟩ hs
   refine c_seq (c_sr (mi rfl (mi rfl (pl_val _ (y_lss rfl rfl) (c_nil ?_)))))
   rcases bif_some hs with ⟨b1, hs⟩ | ⟨b1, hs⟩
   ·refine c_condT (cb b1) (wp_skip (wp_block (c_sr (mi rfl (pl_val (.int .i64 (w64 (2 * s67.1))) (y_mul rfl rfl) (ai rfl (ai rfl (c_nil (c_seq ?_)))))))))
    obtain ⟨o87, d1, hs⟩ := bind_some hs
    refine wp_block (wp_iter (id := 4) (I := fun s83 a a4 => ∃ (σ : Nat → Value), a = fr 57 (ovl σ [(1, (.int .i64 n)), (2, (pq a1 0)), (4, (.int .i64 s67.1)), (5, (.int .i64 s83.1)), (6, (.int .i64 s83.2.1))]) ∧ Chg (G_ ++ ([])) w a4 ∧ Own (Nw w (G_ ++ ([]))) M a4 (G_ ++ (([a1]) ++ [])) ∧ I_ a4 s83.2.2 ∧ BoxV a4 a1 136 [(.func (.func g_) #[] lb_), (.func (.func sf_) #[] sb_)]) (J := fun s83 a a4 => ∃ (σ : Nat → Value), a = fr 57 (ovl σ [(1, (.int .i64 n)), (2, (pq a1 0)), (4, (.int .i64 s67.1)), (5, (.int .i64 s83.1)), (6, (.int .i64 s83.2.1))]) ∧ Chg (G_ ++ ([])) w a4 ∧ Own (Nw w (G_ ++ ([]))) M a4 (G_ ++ (([a1]) ++ [])) ∧ I_ a4 s83.2.2 ∧ BoxV a4 a1 136 [(.func (.func g_) #[] lb_), (.func (.func sf_) #[] sb_)]) (K := (k_sort_stable_func M w I_ G_)) ?_ FU (0, w64 (2 * s67.1), s67.2.2.2) o87 _ _ ?_ d1 ?_)
    ·rintro s83 o87 a a4 ⟨σ, rfl, hC, hO, b9, a0⟩ hs
     refine c_seq (c_sr (mi rfl (mi rfl (pl_val _ (y_leq rfl rfl) (c_nil ?_)))))
     rcases bif_some hs with ⟨b2, hs⟩ | ⟨b2, hs⟩
     ·refine c_condT (cb b2) (wp_skip (wp_block (c_sr (pl_val (.agg #[(.func (.func g_) #[] lb_), (.func (.func sf_) #[] sb_)]) (y_load rfl ((box_load Ag136 Sz136 a0 [] [(.func (.func g_) #[] lb_), (.func (.func sf_) #[] sb_)] [] rfl rfl (fun h => nomatch h)) _ (Chg.refl _ _))) (mi rfl (mi rfl (mi rfl (pl_val (.int .i64 (w64 (s83.1 + s67.1))) (y_add rfl rfl) (mi rfl ?_)))))))))
      have d2 := Own.lend (F := (G_ ++ ([]))) (R := ([a1]) ++ ([])) (Own.perm hO (by simp))
      obtain ⟨r93, d3, hs⟩ := bind_some hs
      refine pl_call Bd131 rfl (c_sort_symMerge_func (M := M) FU ls_ s83.2.2 s83.1 (w64 (s83.1 + s67.1)) s83.2.1 (Nat.le_trans hN_ hC.size) hE_ b9 d2 hO.fut d3) ?_
      rintro _ e1 ⟨rfl, b3, d4⟩
      have a0 := a0.ap b3 hO nil_mem (mem_l (List.mem_singleton.2 rfl))
      have hC := hC.st b3 hO nil_mem
      have hO := hO.ext b3
      refine c_nil (c_sr (mi rfl (ai rfl (c_nil (c_region (mi rfl (mi rfl (pl_val (.int .i64 (w64 (2 * s67.1))) (y_mul rfl rfl) (pl_val (.int .i64 (w64 (s83.2.1 + (w64 (2 * s67.1))))) (y_add rfl rfl) (ai rfl (c_nil ?_)))))))))))
      cases hs
      have hO := hO.fr1
      have hO := hO.fr1
      exact ⟨_, fr_ovl 57 ⟨rfl, rfl, rfl, rfl, rfl, trivial⟩, hC, hO, d4, a0⟩
     refine c_condF (cb b2) (wp_exit ?_)
     cases hs
     have hO := hO.fr1
     have hO := hO.fr1
     exact ⟨rfl, _, fr_ovl 57 ⟨rfl, rfl, rfl, rfl, rfl, trivial⟩, hC, hO, b9, a0⟩
    ·skip
     have hO := hO.fr1
     have hO := hO.fr1
     exact ⟨_, fr_ovl 57 ⟨rfl, rfl, rfl, rfl, rfl, trivial⟩, hC, hO, b8, a0⟩
    cases o87 with
    | nx _ => exact True.intro
    | rt r_ =>
     have hs := after_rt hs
     intro a6 a5 hK
     cases hs
     exact hK
    | br s83 =>
     have hs := after_br hs
     rintro a6 a4 ⟨σ, rfl, hC, hO, c0, a0⟩
     refine c_seq (c_sr (mi rfl (mi rfl (pl_val (.int .i64 (w64 (s83.1 + s67.1))) (y_add rfl rfl) (ai rfl (c_nil (c_sr (mi rfl (mi rfl (pl_val _ (y_lss rfl rfl) (c_nil ?_)))))))))))
     rcases bif_some hs with ⟨b4, hs⟩ | ⟨b4, hs⟩
     ·refine c_condT (cb b4) (c_region (pl_val (.agg #[(.func (.func g_) #[] lb_), (.func (.func sf_) #[] sb_)]) (y_load rfl ((box_load Ag136 Sz136 a0 [] [(.func (.func g_) #[] lb_), (.func (.func sf_) #[] sb_)] [] rfl rfl (fun h => nomatch h)) _ (Chg.refl _ _))) (mi rfl (mi rfl (mi rfl ?_)))))
      have d5 := Own.lend (F := (G_ ++ ([]))) (R := ([a1]) ++ ([])) (Own.perm hO (by simp))
      obtain ⟨r96, d6, hs⟩ := bind_some hs
      refine pl_call Bd131 rfl (c_sort_symMerge_func (M := M) FU ls_ s83.2.2 s83.1 (w64 (s83.1 + s67.1)) n (Nat.le_trans hN_ hC.size) hE_ c0 d5 hO.fut d6) ?_
      rintro _ e2 ⟨rfl, b5, d7⟩
      have a0 := a0.ap b5 hO nil_mem (mem_l (List.mem_singleton.2 rfl))
      have hC := hC.st b5 hO nil_mem
      have hO := hO.ext b5
      refine c_nil (c_region (mi rfl (pl_val (.int .i64 (w64 (s67.1 * 2))) (y_mul rfl rfl) (ai rfl (c_nil ?_)))))
      cases hs
      have hO := hO.fr1
      have hO := hO.fr1
      exact ⟨_, fr_ovl 57 ⟨rfl, rfl, rfl, rfl, rfl, trivial⟩, hC, hO, d7, a0⟩
     refine c_condF (cb b4) (wp_skip (c_region (mi rfl (pl_val (.int .i64 (w64 (s67.1 * 2))) (y_mul rfl rfl) (ai rfl (c_nil ?_))))))
     cases hs
     have hO := hO.fr1
     have hO := hO.fr1
     exact ⟨_, fr_ovl 57 ⟨rfl, rfl, rfl, rfl, rfl, trivial⟩, hC, hO, c0, a0⟩
   refine c_condF (cb b1) (wp_exit ?_)
   cases hs
   have hO := hO.fr1
   have hO := hO.fr1
   exact ⟨rfl, _, fr_ovl 57 trivial, hC, hO, b8, a0⟩
  ·skip
   have hO := hO.fr1
   have hO := hO.fr1
   exact ⟨_, fr_ovl 57 ⟨rfl, rfl, rfl, rfl, rfl, trivial⟩, hC, hO, c9, a0⟩
  cases o71 with
  | nx _ => exact True.intro
  | rt r_ =>
   have hs := after_rt hs
   intro a6 a5 hK
   cases hs
   exact hK
  | br s67 =>
   have hs := after_br hs
   rintro a6 a3 ⟨σ, rfl, hC, hO, d8, a0⟩
   cases hs
   exact ⟨_, fr_ovl 57 trivial, hC, d8⟩

theorem Bd104 : Bodied Try.prog 104 := bodied Try.func104 (by kernel_rfl) rfl

theorem Ag99 : AggT Try.prog 99 false := fun _ => by kernel_rfl

theorem Sz99 : SzT Try.prog 99 1 := ⟨_, rfl, rfl⟩

def k_impl_sortRows_1__impl_compareLists (M : Nat → Prop) (w0 : World) (r : Bool) (a : Act) (w : World) : Prop :=
  ∃ (σ : Nat → Value) , a = fr 18 (ovl σ [(6, (.bool r))]) ∧ Chg [] w0 w
def s_impl_sortRows_1__impl_compareLists (tab1 : List (List Int)) (i : Int) (j : Int) : Option (Bool) :=
  (idx tab1 i).bind fun x5 =>
  (idx tab1 j).bind fun x9 =>
  (s_impl_compareLists x5 x9).bind fun r14 =>
  some (decide (r14 < 0))
set_option maxHeartbeats 4000000 in
theorem c_impl_sortRows_1__impl_compareLists {M : Nat → Prop} {w : World} {gv0 : Nat} {pa1 : Option Addr} {pn1 pc1 : Nat} {gv1 : Nat} (tab1 : List (List Int)) (i : Int) (j : Int) (hbgv0 : BoxV w gv0 99 [(.func (.func 78) #[] #[])]) (h1 : (RT.rs (RT.rs ri)).val M w (.slice pa1 pn1 pc1) tab1 ([])) (hbgv1 : BoxV w gv1 25 [(.slice pa1 pn1 pc1)]) (hM : ∀ g, w.heap.size ≤ g → M g) {r : Bool} (hs : s_impl_sortRows_1__impl_compareLists tab1 i j = some r) :
    Gives Try.prog 115 [(.int .i64 i), (.int .i64 j), (pq gv0 0), (pq gv1 0)] w (fun v w' => v = (.bool r) ∧ Chg [] w w') := by
 refine calls_fr Try.func115 rfl Try.ntmps115 (Nat.le_of_ble_eq_true rfl) ?_
 have hO := Own.start (N := Nw w []) hM Nw.fut
 have hC := Chg.refl [] w
 unfold s_impl_sortRows_1__impl_compareLists at hs
 refine wp_mono (Q := KPost (k_impl_sortRows_1__impl_compareLists M w r)) ?_ (fun e a c4 h => ?_)
 rotate_left
 ·cases e
  case ret =>
   obtain ⟨σ, rfl, hrest⟩ := h
   exact ret1x Try.results115 (res_tmp rfl) ⟨rfl, hrest⟩
  all_goals exact (h : False).elim
 refine c_sr (ab rfl (c_nil (c_seq (x_start [9] Mx rfl ?_))))
 have a1 := Chg.drew w
 generalize World.drew w = a6 at a1 ⊢
 have hbgv0 := hbgv0.cn a1
 have h1 := h1.ext a1
 have hbgv1 := hbgv1.cn a1
 have hC := hC.ext a1
 have hO := hO.ext a1
 have hS := Chg.refl [] a6
 refine x_l 0 (.func (.func 78) #[] #[]) rfl (by kernel_rfl)  (fun w' hw' => y_load rfl ((box_load Ag99 Sz99 hbgv0 [] [(.func (.func 78) #[] #[])] [] rfl rfl (fun _ => rfl)) w' hw')) hS (x_l 1 (.slice pa1 pn1 pc1) rfl (by kernel_rfl)  (fun w' hw' => y_load rfl ((box_load Ag25 Sz25 hbgv1 [] [(.slice pa1 pn1 pc1)] [] rfl rfl (fun _ => rfl)) w' hw')) hS (x_p 2 (.int .i64 i) rfl (by kernel_rfl)  (fun _ => y_move rfl) (fun _ => hS) ?_))
 obtain ⟨x5, a7, hs⟩ := bind_some hs
 obtain ⟨a8, a9, b0, a4⟩ := rs_idx Sl25 Sz43 h1 a7
 refine x_p 3 (pq a8 a9) rfl (by kernel_rfl)  (fun _ => b0 _ _ _ _ _ _ _ _ _ rfl rfl) (fun _ => hS) ?_
 obtain ⟨c5, b1, a2⟩ := at_load Ag43 Sz43 (fun _ => rfl) a4
 obtain ⟨b2, b3, b4, rfl⟩ := rs_sl a2
 refine x_l 4 (.slice b2 b3 b4) rfl (by kernel_rfl)  (fun w' hw' => y_load rfl (b1 w' hw')) hS (x_l 5 (.slice pa1 pn1 pc1) rfl (by kernel_rfl)  (fun w' hw' => y_load rfl ((box_load Ag25 Sz25 hbgv1 [] [(.slice pa1 pn1 pc1)] [] rfl rfl (fun _ => rfl)) w' hw')) hS (x_p 6 (.int .i64 j) rfl (by kernel_rfl)  (fun _ => y_move rfl) (fun _ => hS) ?_))
 obtain ⟨x9, b5, hs⟩ := bind_some hs
 obtain ⟨b6, b7, b8, a5⟩ := rs_idx Sl25 Sz43 h1 b5
 refine x_p 7 (pq b6 b7) rfl (by kernel_rfl)  (fun _ => b8 _ _ _ _ _ _ _ _ _ rfl rfl) (fun _ => hS) ?_
 obtain ⟨c6, b9, a3⟩ := at_load Ag43 Sz43 (fun _ => rfl) a5
 obtain ⟨c0, c1, c2, rfl⟩ := rs_sl a3
 refine x_l 8 (.slice c0 c1 c2) rfl (by kernel_rfl)  (fun w' hw' => y_load rfl (b9 w' hw')) hS (x_one (i := 9) (by kernel_rfl) ?_)
 obtain ⟨r14, c3, hs⟩ := bind_some hs
 refine xk_callv (b := true) rfl  (h := rfl) Bd78 rfl (c_impl_compareLists (M := M) x5 x9 a2 a3 hO.fut c3) rfl (fun h => nomatch h) ?_
 rintro _ c7 ⟨rfl, a0⟩
 have hbgv0 := hbgv0.cn a0
 have h1 := h1.ext a0
 have hbgv1 := hbgv1.cn a0
 have a2 := a2.ext a0
 have a3 := a3.ext a0
 have a4 := at_ext a4 a0
 have a5 := at_ext a5 a0
 have hC := hC.ext a0
 have hO := hO.ext a0
 refine x_p 10 (.bool (decide (r14 < 0))) rfl (by kernel_rfl)  (fun _ => y_lss rfl rfl) (fun h => nomatch h) (x_p 11 (.bool (decide (r14 < 0))) rfl (by kernel_rfl)  (fun _ => y_assign rfl) (fun h => nomatch h) (x_end (by kernel_rfl) ?_))
 clear hS
 refine wp_ret ?_
 cases hs
 exact ⟨_, fr_ovl 18 ⟨rfl, trivial⟩, hC⟩

theorem Fx117 : ∀ args W, (callFunc 117 args).run Try.prog W = (((fun args : Array Value => Extern.ReflectliteValue.unpack (args.getD 0 (.tuple #[]))) args).run Try.prog W).andThen fun v w' => .ok (.value v) w' := fun args W => run_callFunc_extern Try.func117 (by kernel_rfl) (by kernel_rfl) (by kernel_rfl) (e := (fun args : Array Value => Extern.ReflectliteValue.unpack (args.getD 0 (.tuple #[])))) (by kernel_rfl) args W

theorem Ti25 : ∃ i, Try.prog.info? 25 = some i ∧ i.desc = .slice 43 := ⟨(Try.prog.info? 25).get (by kernel_rfl), by kernel_rfl, by kernel_rfl⟩

theorem Sz130 : SzT Try.prog 130 3 := ⟨_, rfl, rfl⟩

theorem Fx118 : ∀ args W, (callFunc 118 args).run Try.prog W = (((Extern.ReflectliteSwapper.swapper "internal/reflectlite" (Extern.ReflectliteValue.valueError "Swapper")) args).run Try.prog W).andThen fun v w' => .ok (.value v) w' := fun args W => run_callFunc_extern Try.func118 (by kernel_rfl) (by kernel_rfl) (by kernel_rfl) (e := (Extern.ReflectliteSwapper.swapper "internal/reflectlite" (Extern.ReflectliteValue.valueError "Swapper"))) (by kernel_rfl) args W

theorem Ke43 : ∀ w, (Extern.Rtype.kind 43).run Try.prog w = .ok 23 w := fun _ => by kernel_rfl

theorem Ag130 : AggT Try.prog 130 true := fun _ => by kernel_rfl

theorem Fx120 : ∀ args W, (callFunc 120 args).run Try.prog W = (((Extern.ReflectliteValue.method (Extern.ReflectliteValue.valueError "reflectlite.Value.Len" 0) Extern.ReflectliteValue.len) args).run Try.prog W).andThen fun v w' => .ok (.value v) w' := fun args W => run_callFunc_extern Try.func120 (by kernel_rfl) (by kernel_rfl) (by kernel_rfl) (e := (Extern.ReflectliteValue.method (Extern.ReflectliteValue.valueError "reflectlite.Value.Len" 0) Extern.ReflectliteValue.len)) (by kernel_rfl) args W

theorem Pk25 : Try.prog.packed 25 = false := by kernel_rfl

theorem Bd119 : Bodied Try.prog 119 := bodied Try.func119 (by kernel_rfl) rfl

def k_sort_SliceStable (M : Nat → Prop) (w0 : World) {α_ : Type} (I_ : World → List α_ → Prop) (G_ : List Nat) (r : (List α_)) (a : Act) (w : World) : Prop :=
  ∃ (σ : Nat → Value) , a = fr 16 (ovl σ []) ∧ Chg (G_ ++ ([])) w0 w ∧ I_ w r
def s_sort_SliceStable {α_ : Type} (ls_ : α_ → α_ → Option Bool) (d_ : List α_) (n_ : Nat) : Option ((List α_)) :=
  (s_sort_stable_func ls_ d_ (n_ : Int)).bind fun r7 =>
  some r7
set_option maxHeartbeats 4000000 in
theorem c_sort_SliceStable {M : Nat → Prop} {w : World} {a_ : Option Addr} {c_ : Nat} {ie_ : TypeInfo} {α_ : Type} {n0_ : Nat} {I_ : World → List α_ → Prop} {G_ : List Nat} {g_ sf_ : Nat} {lb_ : Array Value} (ls_ : α_ → α_ → Option Bool) (d_ : List α_) (n_ : Nat) (hN_ : n0_ ≤ w.heap.size) (hie_ : Try.prog.info? 43 = some ie_) (hf_ : Try.prog.funcs.findIdx? (·.name == "internal/reflectlite" ++ ".Swapper$" ++ toString (Go.Lib.swapperK n_ ie_ 23)) = some sf_) (hE_ : Env Try.prog n0_ I_ G_ ls_ g_ lb_ sf_ (if Go.Lib.swapperK n_ ie_ 23 ≤ 2 then #[] else #[.slice a_ n_ c_, typeHandle Try.prog 43])) (hI_ : I_ w d_) (hI : Own (Nw w (G_ ++ ([]))) M w (G_ ++ ([]))) (hM : ∀ g, w.heap.size ≤ g → M g) {r : (List α_)} (hs : s_sort_SliceStable ls_ d_ n_ = some r) :
    Gives Try.prog 114 [(.iface 25 (.slice a_ n_ c_)), (.func (.func g_) #[] lb_)] w (fun v w' => v = (.tuple #[]) ∧ Chg (G_ ++ ([])) w w' ∧ I_ w' r) := by
 refine calls_fr Try.func114 rfl Try.ntmps114 (Nat.le_of_ble_eq_true rfl) ?_
 have hO := hI
 have hC := Chg.refl (G_ ++ ([])) w
 unfold s_sort_SliceStable at hs
 refine wp_mono (Q := KPostN (k_sort_SliceStable M w I_ G_ r)) ?_ (fun e a a6 h => ?_)
 rotate_left
 ·cases e
  case ret =>
   obtain ⟨σ, rfl, hrest⟩ := h
   exact ret0x Try.results114  ⟨rfl, hrest⟩
  case normal =>
   obtain ⟨σ, rfl, hrest⟩ := h
   exact ret0n Try.results114  ⟨rfl, hrest⟩
  all_goals exact (h : False).elim
 refine c_sr (pl_val (.iface 25 (.slice a_ n_ c_)) (y_move rfl) ?_)
 obtain ⟨b3, b4, b5⟩ := Ti25
 obtain ⟨a6, a1, b6, a9, a7, a0⟩ := new_block w [(.slice a_ n_ c_)] 25
 refine pl_val (w' := a6) (.agg #[(typeHandle Try.prog 25), (pq a1 0), (.int .u64 151)]) (y_callg rfl rfl (by rw [Fx117]; show Result.andThen (Sem.run Try.prog (Extern.ReflectliteValue.unpack (.iface 25 (.slice a_ n_ c_))) _) _ = _; rw [Go.Lib.run_valueOf_slice 25 43 b3 b4 b5, b6, a9]; rfl)) ?_
 have hI_ := hE_.ext hI_ a7 (fun _ h => nomatch h)
 have hC := hC.ext a7
 have hO := hO.new1 a7 a9 a0.lt
 obtain ⟨b7, a8, b8, b0, a3, b1⟩ := new_block a6 [(.pointer none), (.pointer none), (.int .u64 0)] 130
 refine pl_val (w' := b7) (pq a8 0) (y_alloc (by rw [b8, b0]; kernel_rfl)) ?_
 have hI_ := hE_.ext hI_ a3 (fun _ h => nomatch h)
 have a0 := a0.cn a3
 have hC := hC.ext a3
 have hO := hO.new1 a3 b0 b1.lt
 obtain ⟨b2, b9, a4, a2⟩ := box_store (P := Try.prog) b1 [] [(.pointer none), (.pointer none), (.int .u64 0)] [] [(typeHandle Try.prog 25), (pq a1 0), (.int .u64 151)] rfl rfl (by intro u hu; simp only [List.mem_cons, List.not_mem_nil, or_false] at hu; rcases hu with rfl | rfl | rfl <;> rfl)
 refine pl_skip (w' := b2) (ys_store rfl rfl (b9 _ _ rfl Sz130)) ?_
 have hI_ := hE_.ext hI_ a4 (fun q hq => Nat.le_trans hN_ ((hO.inN q ((fun _ h => h) q hq)).resolve_left (fun e => hO.apart q ((fun _ h => h) q hq) (mem_r (mem_l (nil_mem q e))))))
 have a0 := a0.ap a4 hO same_ (mem_l (List.mem_singleton.2 rfl))
 have hC := hC.st a4 hO same_
 have hO := hO.ext a4
 have a2 : BoxV b2 a8 130 [(typeHandle Try.prog 25), (pq a1 0), (.int .u64 151)] := a2
 refine c_nil (c_sr (pl_val (.iface 25 (.slice a_ n_ c_)) (y_move rfl) ?_))
 obtain ⟨c0, c1, c2⟩ := Ti25
 refine pl_val (.func (.func sf_) #[] (if Go.Lib.swapperK n_ ie_ 23 ≤ 2 then #[] else #[.slice a_ n_ c_, typeHandle Try.prog 43])) ((y_callg rfl rfl (by rw [Fx118]; show Result.andThen (Sem.run Try.prog (Extern.ReflectliteSwapper.swapper "internal/reflectlite" (Extern.ReflectliteValue.valueError "Swapper") #[(.iface 25 (.slice a_ n_ c_))]) _) _ = _; rw [Go.Lib.run_swapper_slice 25 43 c0 ie_ c1 c2 hie_ 23 Ke43 a_ n_ c_ sf_ hf_]; rfl))) (pl_val (.func (.func sf_) #[] (if Go.Lib.swapperK n_ ie_ 23 ≤ 2 then #[] else #[.slice a_ n_ c_, typeHandle Try.prog 43])) (y_assign rfl) (c_nil (c_region (pl_val (.func (.func g_) #[] lb_) (y_move rfl) (pl_val (.func (.func sf_) #[] (if Go.Lib.swapperK n_ ie_ 23 ≤ 2 then #[] else #[.slice a_ n_ c_, typeHandle Try.prog 43])) (y_move rfl) (pl_val (.agg #[(.func (.func g_) #[] lb_), (.func (.func sf_) #[] (if Go.Lib.swapperK n_ ie_ 23 ≤ 2 then #[] else #[.slice a_ n_ c_, typeHandle Try.prog 43]))]) (y_build rfl (by kernel_rfl)) (pl_val (.agg #[(typeHandle Try.prog 25), (pq a1 0), (.int .u64 151)]) (y_load rfl ((box_load Ag130 Sz130 a2 [] [(typeHandle Try.prog 25), (pq a1 0), (.int .u64 151)] [] rfl rfl (fun h => nomatch h)) _ (Chg.refl _ _))) ?_)))))))
 obtain ⟨c3, c4, c5⟩ := Ti25
 refine pl_val (.int .i64 (n_ : Int)) ((y_callg rfl rfl (by rw [Fx120]; show Result.andThen (Sem.run Try.prog (Extern.ReflectliteValue.method (Extern.ReflectliteValue.valueError "reflectlite.Value.Len" 0) Extern.ReflectliteValue.len #[(.agg #[(typeHandle Try.prog 25), (pq a1 0), (.int .u64 151)])]) _) _ = _; rw [Go.Lib.run_valueLen_slice 25 43 c3 c4 c5 Pk25 _ _ _ _ _ (box_cell a0)]; rfl))) ?_
 have hO := hO.fr2
 have c6 := Own.lend (F := (G_ ++ ([]))) (R := ([a8]) ++ (([a1]) ++ ([]))) (Own.perm hO (by simp))
 obtain ⟨r7, c7, hs⟩ := bind_some hs
 refine pl_call Bd119 rfl (c_sort_stable_func (M := M) ls_ d_ (n_ : Int) (Nat.le_trans hN_ hC.size) hE_ hI_ c6 hO.fut c7) ?_
 rintro _ c9 ⟨rfl, a5, c8⟩
 have a0 := a0.ap a5 hO nil_mem (mem_r (mem_l (List.mem_singleton.2 rfl)))
 have a2 := a2.ap a5 hO nil_mem (mem_l (List.mem_singleton.2 rfl))
 have hC := hC.st a5 hO nil_mem
 have hO := hO.ext a5
 refine c_nil ?_
 cases hs
 exact ⟨_, fr_ovl 16 trivial, hC, c8⟩

theorem Ei43 : ∃ ie, Try.prog.info? 43 = some ie ∧ ie.size = 1 ∧ ie.hasPointers = true ∧ (ie.bytes == 8) = false := ⟨(Try.prog.info? 43).get (by kernel_rfl), by kernel_rfl, by kernel_rfl, by kernel_rfl, by kernel_rfl⟩

theorem Fs2 : ∀ W, (callFunc 122 #[.int .i64 0, .int .i64 0]).run Try.prog W = .ok (.value (.tuple #[])) W := fun W => (run_callFunc_extern Try.func122 (by kernel_rfl) (by kernel_rfl) (by kernel_rfl) (e := (Extern.find Try.f122).get (by kernel_rfl)) (by kernel_rfl) _ W).trans (by kernel_rfl)

theorem Fx129 : ∀ args W, (callFunc 129 args).run Try.prog W = (((Extern.ReflectliteSwapper.swap false) args).run Try.prog W).andThen fun v w' => .ok (.value v) w' := fun args W => run_callFunc_extern Try.func129 (by kernel_rfl) (by kernel_rfl) (by kernel_rfl) (e := (Extern.ReflectliteSwapper.swap false)) (by kernel_rfl) args W

theorem Sn1 : Try.prog.funcs.findIdx? (·.name == "internal/reflectlite" ++ ".Swapper$" ++ toString 1) = some 121 := by kernel_rfl

theorem Sn2 : Try.prog.funcs.findIdx? (·.name == "internal/reflectlite" ++ ".Swapper$" ++ toString 2) = some 122 := by kernel_rfl

theorem Sn9 : Try.prog.funcs.findIdx? (·.name == "internal/reflectlite" ++ ".Swapper$" ++ toString 9) = some 129 := by kernel_rfl

theorem Bd115 : Bodied Try.prog 115 := bodied Try.func115 (by kernel_rfl) rfl

theorem Bd114 : Bodied Try.prog 114 := bodied Try.func114 (by kernel_rfl) rfl

def k_impl_sortRows__impl_compareLists (M : Nat → Prop) (w0 : World) (qa0 : Option Addr) (qn0 qc0 : Nat) (qf0 : List Nat) (r : (List (List Int))) (a : Act) (w : World) : Prop :=
  ∃ (σ : Nat → Value) (rfi0 : List Nat), a = fr 8 (ovl σ []) ∧ Chg (qf0 ++ ([])) w0 w ∧ (RT.os 43 (RT.os 3 (RT.int .i64))).val M w (.slice qa0 qn0 qc0) r rfi0 ∧ Own (Nw w0 (qf0 ++ ([]))) (fun _ => True) w (rfi0 ++ ([]))
def s_impl_sortRows__impl_compareLists (rows : List (List Int)) : Option ((List (List Int))) :=
  (s_sort_SliceStable (fun x_ y_ => (s_impl_compareLists x_ y_).bind fun r_ => some (decide (r_ < 0))) rows (rows.length)).bind fun r5 =>
  some r5
set_option maxHeartbeats 4000000 in
theorem c_impl_sortRows__impl_compareLists {M : Nat → Prop} {w : World} {pa0 : Option Addr} {pn0 pc0 : Nat} {pf0 : List Nat} (rows : List (List Int)) (h0 : (RT.os 43 (RT.os 3 ri)).val M w (.slice pa0 pn0 pc0) rows pf0) (hI : Own (Nw w (pf0 ++ ([]))) M w (pf0 ++ ([]))) (hM : ∀ g, w.heap.size ≤ g → M g) {r : (List (List Int))} (hs : s_impl_sortRows__impl_compareLists rows = some r) :
    Gives Try.prog 105 [(.slice pa0 pn0 pc0), (.func (.func 78) #[] #[])] w (fun v w' => ∃ (rfi0 : List Nat), v = (.tuple #[]) ∧ Chg (pf0 ++ ([])) w w' ∧ (RT.os 43 (RT.os 3 ri)).val M w' (.slice pa0 pn0 pc0) r rfi0 ∧ Own (Nw w (pf0 ++ ([]))) (fun _ => True) w' (rfi0 ++ ([]))) := by
 refine calls_fr Try.func105 rfl Try.ntmps105 (Nat.le_of_ble_eq_true rfl) ?_
 have hO := hI
 have hC := Chg.refl (pf0 ++ ([])) w
 unfold s_impl_sortRows__impl_compareLists at hs
 refine wp_mono (Q := KPostN (k_impl_sortRows__impl_compareLists M w pa0 pn0 pc0 pf0 r)) ?_ (fun e a c5 h => ?_)
 rotate_left
 ·cases e
  case ret =>
   obtain ⟨σ, rfi0, rfl, hrest⟩ := h
   exact ret0x Try.results105  ⟨rfi0, rfl, hrest⟩
  case normal =>
   obtain ⟨σ, rfi0, rfl, hrest⟩ := h
   exact ret0n Try.results105  ⟨rfi0, rfl, hrest⟩
  all_goals exact (h : False).elim
 refine c_sr ?_
 obtain ⟨b0, a1, b4, b1, a6, a0⟩ := new_block w [(.slice pa0 pn0 pc0)] 25
 refine pl_val (w' := b0) (pq a1 0) (y_box rfl (by rw [b4, b1]; kernel_rfl)) ?_
 have h0 := h0.ext a6
 have hC := hC.ext a6
 have hO := hO.new1 a6 b1 a0.lt
 obtain ⟨a7, a2, b5, b2, a4, a3⟩ := new_block b0 [(.func (.func 78) #[] #[])] 99
 refine pl_val (w' := a7) (pq a2 0) (y_box rfl (by rw [b5, b2]; kernel_rfl)) ?_
 have h0 := h0.ext a4
 have a0 := a0.cn a4
 have hC := hC.ext a4
 have hO := hO.new1 a4 b2 a3.lt
 refine c_nil (c_region (pl_val (.slice pa0 pn0 pc0) (y_load rfl ((box_load Ag25 Sz25 a0 [] [(.slice pa0 pn0 pc0)] [] rfl rfl (fun _ => rfl)) _ (Chg.refl _ _))) (pl_val (.iface 25 (.slice pa0 pn0 pc0)) (y_iface Try.underlying25 rfl) (pl_val (.func (.func 115) #[] #[(pq a2 0), (pq a1 0)]) (y_func rfl rfl) ?_))))
 have hO := hO.fr2
 obtain ⟨c6, b3, b6, a8, b7⟩ := Ei43
 have b8 := os_n h0
 obtain ⟨c7, b9, c0⟩ := sort_env (P := Try.prog) (ke := 23) (M := M) (gO := a2) (gR := a1) (tO := 99) (tR := 25) (fv := (.func (.func 78) #[] #[])) (ls := (fun x_ y_ => (s_impl_compareLists x_ y_).bind fun r_ => some (decide (r_ < 0)))) (g := 115) (lb := #[(pq a2 0), (pq a1 0)]) rfl b3 b6 Ag43 a8 b7 rfl Sn1 Sn2 Sn9 Fs2 Fx129 Bd115 hO.inM (fun hg => hO.apart _ hg (mem_l (List.mem_singleton.2 rfl))) (fun hg => hO.apart _ hg (mem_r (mem_l (List.mem_singleton.2 rfl)))) (fun h hm ho hr hf hl => c_impl_sortRows_1__impl_compareLists (M := Less M _) _ _ _ ho (((Frz.os (Frz.os Frz.int))).val h Less.sub Less.not) hr (less_fut hf h.fpl) (show s_impl_sortRows_1__impl_compareLists _ _ _ = some _ from hl)) h0 (n0 := (a7).heap.size) hO.lt a3.lt a0.lt hO.fut
 have c1 : SortI (RT.os 3 ri) 43 M pa0 pn0 pc0 pf0 a2 a1 99 25 (.func (.func 78) #[] #[]) a7 rows := ⟨⟨_, h0, List.Perm.refl _⟩, a3, a0, hO.fut⟩
 have c2 := Own.lend (F := (pf0 ++ ([]))) (R := ([a2]) ++ (([a1]) ++ ([]))) (Own.perm hO (by simp))
 obtain ⟨r5, c3, hs⟩ := bind_some hs
 refine pl_call Bd114 rfl (c_sort_SliceStable (M := M) (fun x_ y_ => (s_impl_compareLists x_ y_).bind fun r_ => some (decide (r_ < 0))) rows pn0 (Nat.le_refl _) b3 b9 c0 c1 c2 hO.fut (by rw [b8]; exact c3)) ?_
 rintro _ c8 ⟨rfl, a5, ⟨⟨c4, a9, a8⟩, _, _, _⟩⟩
 have a0 := a0.ap a5 hO nil_mem (mem_r (mem_l (List.mem_singleton.2 rfl)))
 have a3 := a3.ap a5 hO nil_mem (mem_l (List.mem_singleton.2 rfl))
 have hC := hC.st a5 hO nil_mem
 have hO := hO.grow a5 (fun q hq => .inl (a8.mem_iff.1 hq)) (os_nodup a9) a9.fpl
 refine c_nil ?_
 cases hs
 have hO := hO.fr1
 have hO := hO.drop
 have hO := hO.fr1
 have hO := hO.drop
 exact ⟨_, c4, fr_ovl 8 trivial, hC, a9, hO.top⟩

theorem Bd105 : Bodied Try.prog 105 := bodied Try.func105 (by kernel_rfl) rfl

def k_impl_sortedTuples (M : Nat → Prop) (w0 : World) (r : (List (List Int))) (a : Act) (w : World) : Prop :=
  ∃ (σ : Nat → Value) (ra0 : Option Addr) (rn0 rc0 : Nat) (rf0 : List Nat), a = fr 9 (ovl σ [(2, (.slice ra0 rn0 rc0))]) ∧ Chg [] w0 w ∧ (RT.os 43 (RT.os 3 (RT.int .i64))).val M w (.slice ra0 rn0 rc0) r rf0 ∧ Own (Nw w0 []) (fun _ => True) w (rf0 ++ ([]))
def s_impl_sortedTuples (list : List (List Int)) : Option ((List (List Int))) :=
  (s_impl_cloneRows list).bind fun r3 =>
  (s_impl_sortRows__impl_compareLists r3).bind fun r6 =>
  some r6
set_option maxHeartbeats 4000000 in
theorem c_impl_sortedTuples {M : Nat → Prop} {w : World} {pa0 : Option Addr} {pn0 pc0 : Nat} (list : List (List Int)) (h0 : (RT.rs (RT.rs ri)).val M w (.slice pa0 pn0 pc0) list ([])) (hM : ∀ g, w.heap.size ≤ g → M g) {r : (List (List Int))} (hs : s_impl_sortedTuples list = some r) :
    Gives Try.prog 58 [(.slice pa0 pn0 pc0)] w (fun v w' => ∃ (ra0 : Option Addr) (rn0 rc0 : Nat) (rf0 : List Nat), v = (.slice ra0 rn0 rc0) ∧ Chg [] w w' ∧ (RT.os 43 (RT.os 3 ri)).val M w' (.slice ra0 rn0 rc0) r rf0 ∧ Own (Nw w []) (fun _ => True) w' (rf0 ++ ([]))) := by
 refine calls_fr Try.func58 rfl Try.ntmps58 (Nat.le_of_ble_eq_true rfl) ?_
 have hO := Own.start (N := Nw w []) hM Nw.fut
 have hC := Chg.refl [] w
 unfold s_impl_sortedTuples at hs
 refine wp_mono (Q := KPost (k_impl_sortedTuples M w r)) ?_ (fun e a b5 h => ?_)
 rotate_left
 ·cases e
  case ret =>
   obtain ⟨σ, ra0, rn0, rc0, rf0, rfl, hrest⟩ := h
   exact ret1x Try.results58 (res_tmp rfl) ⟨ra0, rn0, rc0, rf0, rfl, hrest⟩
  all_goals exact (h : False).elim
 refine c_sr (ax rfl (c_nil (c_sr (ms rfl ?_))))
 obtain ⟨r3, a8, hs⟩ := bind_some hs
 refine pl_call Bd104 rfl (c_impl_cloneRows (M := M) list h0 hO.fut a8) ?_
 rintro _ b6 ⟨a0, a1, a2, a3, rfl, a4, a9, b0⟩
 have h0 := h0.ext a4
 have hC := hC.ext a4
 have hO := Own.join0 hO a4 b0
 have hO := hO.perm (R := a3 ++ ([])) (by simp)
 refine ax rfl (c_nil (c_sr (ms rfl ?_)))
 have b1 := hO
 have a5 := Own.lend (F := (a3 ++ ([]))) (R := []) (Own.perm (b1) (by simp))
 obtain ⟨r6, b2, hs⟩ := bind_some hs
 refine pl_call Bd105 rfl (c_impl_sortRows__impl_compareLists (M := M) r3 a9 a5 a5.fut b2) ?_
 rintro _ b7 ⟨a6, rfl, a7, b3, b4⟩
 have hO := hO.perm (R := (a3 ++ ([])) ++ ([])) (by simp)
 have hC := hC.st a7 hO same_
 have hO := Own.join hO a7 b4
 have hO := hO.perm (R := a6 ++ ([])) (by simp)
 refine c_nil (c_sr (ms rfl (ax rfl (c_nil (wp_ret ?_)))))
 cases hs
 exact ⟨_, a0, a1, a2, a6, fr_ovl 9 ⟨rfl, trivial⟩, hC, b3, hO.top⟩

theorem Bd55 : Bodied Try.prog 55 := bodied Try.func55 (by kernel_rfl) rfl

theorem Bd56 : Bodied Try.prog 56 := bodied Try.func56 (by kernel_rfl) rfl

theorem Bd57 : Bodied Try.prog 57 := bodied Try.func57 (by kernel_rfl) rfl

theorem Bd58 : Bodied Try.prog 58 := bodied Try.func58 (by kernel_rfl) rfl

end Go.Proofs
