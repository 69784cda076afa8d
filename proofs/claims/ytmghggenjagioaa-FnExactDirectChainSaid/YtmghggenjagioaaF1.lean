/- What functions of the program compute, as plain functions, and that a call gives just that. Conditions: those named in each theorem. -/
import Derived.Test.YtmghggenjagioaaF0
set_option linter.unusedVariables false
namespace Go.Proofs
open Go.G Go.RowKit
set_option maxRecDepth 100000

def k_spec_l12Rounds (M : Nat → Prop) (w0 : World) (r : ((List (List Int)) × (List (Int × (List Int))) × Bool)) (a : Act) (w : World) : Prop :=
  ∃ (σ : Nat → Value) (rg6 : Nat) (ra0 : Option Addr) (rn0 rc0 : Nat) (rf0 : List Nat) (ra1 : Option Addr) (rn1 rc1 : Nat) (rf1 : List Nat), a = fr 68 (ovl σ [(6, (.pointer (some ⟨rg6, 0, none⟩)))]) ∧ BoxV w rg6 89 [(.slice ra0 rn0 rc0), (.slice ra1 rn1 rc1), (.bool r.2.2)] ∧ Chg [] w0 w ∧ (RT.os 37 (RT.rs (RT.int .i64))).val (PastL M [] w0 w (rf0 ++ (rf1 ++ ([])))) w (.slice ra0 rn0 rc0) r.1 rf0 ∧ (RT.os 119 (RT.pr (RT.int .i64) (RT.os 3 (RT.int .i64)))).val (PastL M [] w0 w (rf0 ++ (rf1 ++ ([])))) w (.slice ra1 rn1 rc1) r.2.1 rf1 ∧ Own (Nw w0 []) (fun _ => True) w (rf0 ++ (rf1 ++ ([])))
def s_spec_l12Rounds (n : Int) (ops : List (Int × (List Int))) (first : List (List Int)) : Option (((List (List Int)) × (List (Int × (List Int))) × Bool)) :=
  (forC (S := (List (List Int)) × (List (Int × (List Int))) × Bool) (R := ((List (List Int)) × (List (Int × (List Int))) × Bool)) (fun k60 s58 =>
  (idx first k60).bind fun x75 =>
  (s_spec_l12Add__take02 (s58.1, s58.2.1, s58.2.2) x75 ((-1), [k60])).bind fun r82 =>
  some (.nx (r82.1, r82.2.1, r82.2.2))) 0 (first.length : Int) ([], [], false)).bind fun o62 => after o62 (fun r_ => some r_) (fun s58 =>
  (iter (S := Int × (List (List Int)) × (List (Int × (List Int))) × Bool) (R := ((List (List Int)) × (List (Int × (List Int))) × Bool)) (fun s257 =>
  (bif ((decide (s257.1 < (s257.2.1.length : Int))) && (!s257.2.2.2)) then (iter (S := Int × (List (List Int)) × (List (Int × (List Int))) × Bool) (R := ((List (List Int)) × (List (Int × (List Int))) × Bool)) (fun s321 =>
  (bif ((decide (s321.1 < (ops.length : Int))) && (!s321.2.2.2)) then (idx ops s321.1).bind fun x343 =>
  (idx first 0).bind fun x347 =>
  (s_spec_l12Round__take1 n (s321.2.1, s321.2.2.1, s321.2.2.2) (x343.1, x343.2) s321.1 (s257.2.1.length : Int) s257.1 (x347.length : Int)).bind fun r352 =>
  some (.nx (w64 (s321.1 + 1), r352.1, r352.2.1, r352.2.2)) else some (.br (s321.1, s321.2.1, s321.2.2.1, s321.2.2.2)))) FU (0, s257.2.1, s257.2.2.1, s257.2.2.2)).bind fun o325 => after o325 (fun r_ => some (.rt r_)) (fun s321 =>
  some (.nx ((s257.2.1.length : Int), s321.2.1, s321.2.2.1, s321.2.2.2))) else some (.br (s257.1, s257.2.1, s257.2.2.1, s257.2.2.2)))) FU (0, s58.1, s58.2.1, s58.2.2)).bind fun o261 => after o261 (fun r_ => some r_) (fun s257 =>
  some (s257.2.1, s257.2.2.1, s257.2.2.2)))
set_option maxHeartbeats 4000000 in
theorem c_spec_l12Rounds {M : Nat → Prop} {w : World} {pa0 : Option Addr} {pn0 pc0 : Nat} {pa1 : Option Addr} {pn1 pc1 : Nat} (n : Int) (ops : List (Int × (List Int))) (first : List (List Int)) (h0 : (RT.rs (RT.pr (RT.int .i64) (RT.rs (RT.int .i64)))).val M w (.slice pa0 pn0 pc0) ops ([])) (h1 : (RT.rs (RT.rs (RT.int .i64))).val M w (.slice pa1 pn1 pc1) first ([])) (hM : ∀ g, w.heap.size ≤ g → M g) {r : ((List (List Int)) × (List (Int × (List Int))) × Bool)} (hs : s_spec_l12Rounds n ops first = some r) :
    Gives Try.prog 108 [(.int .i64 n), (.slice pa0 pn0 pc0), (.slice pa1 pn1 pc1)] w (fun v w' => ∃ (ra0 : Option Addr) (rn0 rc0 : Nat) (rf0 : List Nat) (ra1 : Option Addr) (rn1 rc1 : Nat) (rf1 : List Nat), v = (.agg #[(.slice ra0 rn0 rc0), (.slice ra1 rn1 rc1), (.bool r.2.2)]) ∧ Chg [] w w' ∧ (RT.os 37 (RT.rs (RT.int .i64))).val (PastL M [] w w' (rf0 ++ (rf1 ++ ([])))) w' (.slice ra0 rn0 rc0) r.1 rf0 ∧ (RT.os 119 (RT.pr (RT.int .i64) (RT.os 3 (RT.int .i64)))).val (PastL M [] w w' (rf0 ++ (rf1 ++ ([])))) w' (.slice ra1 rn1 rc1) r.2.1 rf1 ∧ Own (Nw w []) (fun _ => True) w' (rf0 ++ (rf1 ++ ([])))) := by
 refine calls_fr Try.func108 rfl Try.ntmps108 (Nat.le_of_ble_eq_true rfl) ?_
 have hO := Own.start (N := Nw w []) hM Nw.fut
 have hC := Chg.refl [] w
 unfold s_spec_l12Rounds at hs
 refine wp_mono (Q := KPost (k_spec_l12Rounds M w r)) ?_ (fun e a j9 h => ?_)
 rotate_left
 ·cases e
  case ret =>
   obtain ⟨σ, rg6, ra0, rn0, rc0, rf0, ra1, rn1, rc1, rf1, rfl, hbrg6, hrest⟩ := h
   exact ret1x Try.results108 (res_cell rfl (box_load Ag89 Sz89 hbrg6 [] _ [] rfl rfl (fun h => nomatch h))) ⟨ra0, rn0, rc0, rf0, ra1, rn1, rc1, rf1, rfl, hrest⟩
  all_goals exact (h : False).elim
 refine c_sr ?_
 obtain ⟨m5, a3, n9, m6, h7, a1⟩ := new_block w [(.slice none 0 0), (.slice none 0 0), (.bool false)] 89
 refine pl_val (w' := m5) (.pointer (some ⟨a3, 0, none⟩)) (y_alloc (by rw [n9, m6]; kernel_rfl)) ?_
 have h0 := h0.ext h7
 have h1 := h1.ext h7
 have hC := hC.ext h7
 have hO := hO.new1 h7 m6 a1.lt
 refine c_nil ?_
 refine c_sr ?_
 refine pl_val (.agg #[(.slice none 0 0), (.slice none 0 0), (.bool false)]) (y_build rfl (by kernel_rfl)) ?_
 obtain ⟨o0, a2, o1, m7, h2, m8⟩ := new_block m5 [(.slice none 0 0), (.slice none 0 0), (.bool false)] 89
 refine pl_val (w' := o0) (.pointer (some ⟨a2, 0, none⟩)) (y_alloc (by rw [o1, m7]; kernel_rfl)) ?_
 have h0 := h0.ext h2
 have h1 := h1.ext h2
 have a1 := a1.cn h2
 have hC := hC.ext h2
 have hO := hO.new1 h2 m7 m8.lt
 obtain ⟨m9, o2, h3, a0⟩ := box_store (P := Try.prog) m8 [] [(.slice none 0 0), (.slice none 0 0), (.bool false)] [] [(.slice none 0 0), (.slice none 0 0), (.bool false)] rfl rfl (by intro u hu; simp only [List.mem_cons, List.not_mem_nil, or_false] at hu; rcases hu with rfl | rfl | rfl <;> rfl)
 refine pl_skip (w' := m9) (ys_store rfl rfl (o2 _ _ rfl Sz89)) ?_
 have h0 := h0.mt h3 hO same_
 have h1 := h1.mt h3 hO same_
 have a1 := a1.ap h3 hO same_ (mem_l (List.mem_singleton.2 rfl))
 have hC := hC.st h3 hO same_
 have hO := hO.ext h3
 have a0 : BoxV m9 a2 89 [(.slice none 0 0), (.slice none 0 0), (.bool false)] := a0
 refine c_nil ?_
 refine c_seq ?_
 refine c_sr ?_
 refine pl_val (.int .i64 0) (y_assign rfl) ?_
 refine c_nil ?_
 obtain ⟨o62, o3, hs⟩ := bind_some hs
 refine wp_block ?_
 refine wp_forC (id := 0) (first.length : Int) (I := fun k60 s58 a a4 => ∃ (σ : Nat → Value) (a7 : Nat → Prop) (c5 : Option Addr) (c6 : Nat) (c7 : Nat) (a9 : List Nat) (c8 : Option Addr) (c9 : Nat) (d0 : Nat) (b0 : List Nat), a = fr 68 (ovl σ [(0, (.int .i64 n)), (1, (.slice pa0 pn0 pc0)), (2, (.slice pa1 pn1 pc1)), (6, (.pointer (some ⟨a3, 0, none⟩))), (7, (.pointer (some ⟨a2, 0, none⟩))), (8, (.int .i64 k60))]) ∧ Chg [] w a4 ∧ Own (Nw w []) a7 a4 (a9 ++ (b0 ++ (([a2]) ++ (([a3]) ++ [])))) ∧ KeepsF w [] M a7 ∧ (RT.rs (RT.pr (RT.int .i64) (RT.rs (RT.int .i64)))).val a7 a4 (.slice pa0 pn0 pc0) ops ([]) ∧ (RT.rs (RT.rs (RT.int .i64))).val a7 a4 (.slice pa1 pn1 pc1) first ([]) ∧ BoxV a4 a3 89 [(.slice none 0 0), (.slice none 0 0), (.bool false)] ∧ BoxV a4 a2 89 [(.slice c5 c6 c7), (.slice c8 c9 d0), (.bool s58.2.2)] ∧ (RT.os 37 (RT.rs (RT.int .i64))).val a7 a4 (.slice c5 c6 c7) s58.1 a9 ∧ (RT.os 119 (RT.pr (RT.int .i64) (RT.os 3 (RT.int .i64)))).val a7 a4 (.slice c8 c9 d0) s58.2.1 b0) (J := fun s58 a a4 => ∃ (σ : Nat → Value) (d1 : Nat → Prop) (h8 : Option Addr) (h9 : Nat) (i0 : Nat) (i1 : List Nat) (i2 : Option Addr) (i3 : Nat) (i4 : Nat) (i5 : List Nat), a = fr 68 (ovl σ [(0, (.int .i64 n)), (1, (.slice pa0 pn0 pc0)), (2, (.slice pa1 pn1 pc1)), (6, (.pointer (some ⟨a3, 0, none⟩))), (7, (.pointer (some ⟨a2, 0, none⟩)))]) ∧ Chg [] w a4 ∧ Own (Nw w []) d1 a4 (i1 ++ (i5 ++ (([a2]) ++ (([a3]) ++ [])))) ∧ KeepsF w [] M d1 ∧ (RT.rs (RT.pr (RT.int .i64) (RT.rs (RT.int .i64)))).val d1 a4 (.slice pa0 pn0 pc0) ops ([]) ∧ (RT.rs (RT.rs (RT.int .i64))).val d1 a4 (.slice pa1 pn1 pc1) first ([]) ∧ BoxV a4 a3 89 [(.slice none 0 0), (.slice none 0 0), (.bool false)] ∧ BoxV a4 a2 89 [(.slice h8 h9 i0), (.slice i2 i3 i4), (.bool s58.2.2)] ∧ (RT.os 37 (RT.rs (RT.int .i64))).val d1 a4 (.slice h8 h9 i0) s58.1 i1 ∧ (RT.os 119 (RT.pr (RT.int .i64) (RT.os 3 (RT.int .i64)))).val d1 a4 (.slice i2 i3 i4) s58.2.1 i5) (K := (k_spec_l12Rounds M w)) ?_ ?_ 0 ([], [], false) o62 _ _ ?_ o3 ?_
 ·rintro k60 s58 a a4 ⟨σ, a7, c5, c6, c7, a9, c8, c9, d0, b0, rfl, hC, hO, hK, h0, h1, a1, a0, f5, f6⟩ hlt
  refine c_seq ?_
  refine c_sr ?_
  refine pl_val (.int .i64 k60) (y_move rfl) ?_
  refine pl_val (.slice pa1 pn1 pc1) (y_move rfl) ?_
  refine pl_val (.int .i64 (first.length : Int)) (y_len' Sl47 (rs_len h1) rfl) ?_
  refine pl_val (.bool (decide (k60 < (first.length : Int)))) (y_lss rfl rfl) ?_
  refine c_nil ?_
  refine c_condF (congrArg Value.bool (decide_eq_false hlt)) ?_
  refine wp_exit ?_
  have hO := hO.fr3
  have hO := hO.fr3
  have hO := hO.fr3
  have hO := hO.fr3
  exact ⟨rfl, _, a7, c5, c6, c7, a9, c8, c9, d0, b0, fr_ovl 68 ⟨rfl, rfl, rfl, rfl, rfl, trivial⟩, hC, hO, hK, h0, h1, a1, a0, f5, f6⟩
 ·rintro k60 s58 o62 a a4 ⟨σ, a7, c5, c6, c7, a9, c8, c9, d0, b0, rfl, hC, hO, hK, h0, h1, a1, a0, f5, f6⟩ hlt hw hs
  refine c_seq ?_
  refine c_sr ?_
  refine pl_val (.int .i64 k60) (y_move rfl) ?_
  refine pl_val (.slice pa1 pn1 pc1) (y_move rfl) ?_
  refine pl_val (.int .i64 (first.length : Int)) (y_len' Sl47 (rs_len h1) rfl) ?_
  refine pl_val (.bool (decide (k60 < (first.length : Int)))) (y_lss rfl rfl) ?_
  refine c_nil ?_
  refine c_condT (congrArg Value.bool (decide_eq_true hlt)) ?_
  refine wp_skip ?_
  refine c_seq ?_
  refine wp_block ?_
  refine x_start [8, 9] Mx rfl ?_
  have c1 := Chg.drew a4
  generalize World.drew a4 = n0 at c1 ⊢
  have h0 := h0.ext c1
  have h1 := h1.ext c1
  have a1 := a1.cn c1
  have a0 := a0.cn c1
  have f5 := f5.ext c1
  have f6 := f6.ext c1
  have hC := hC.ext c1
  have hO := hO.ext c1
  have hS := Chg.refl [] n0
  refine x_l 0 (.agg #[(.slice c5 c6 c7), (.slice c8 c9 d0), (.bool s58.2.2)]) rfl (by kernel_rfl)  (fun w' hw' => y_load rfl ((box_load Ag89 Sz89 a0 [] [(.slice c5 c6 c7), (.slice c8 c9 d0), (.bool s58.2.2)] [] rfl rfl (fun h => nomatch h)) w' hw')) hS ?_
  refine x_p 1 (.slice pa1 pn1 pc1) rfl (by kernel_rfl)  (fun _ => y_move rfl) (fun _ => hS) ?_
  refine x_p 2 (.int .i64 k60) rfl (by kernel_rfl)  (fun _ => y_move rfl) (fun _ => hS) ?_
  obtain ⟨x75, o4, hs⟩ := bind_some hs
  obtain ⟨o5, o6, o7, k0⟩ := rs_idx Sl47 Sz37 h1 o4
  refine x_p 3 (.pointer (some ⟨o5, o6, none⟩)) rfl (by kernel_rfl)  (fun _ => o7 _ _ _ _ _ _ _ _ _ rfl rfl) (fun _ => hS) ?_
  obtain ⟨t2, o8, b7⟩ := at_load Ag37 Sz37 (fun _ => rfl) k0
  obtain ⟨o9, p0, p1, rfl⟩ := rs_sl b7
  refine x_l 4 (.slice o9 p0 p1) rfl (by kernel_rfl)  (fun w' hw' => y_load rfl (o8 w' hw')) hS ?_
  refine x_p 5 (.int .i64 k60) rfl (by kernel_rfl)  (fun _ => y_move rfl) (fun _ => hS) ?_
  refine x_one (i := 6) (by kernel_rfl) ?_
  obtain ⟨f7, b4, p2, n1, b1, n2⟩ := new_block n0 [(.int .i64 k60)] 3
  refine xk_val (w' := f7) (b := false) (.slice (some ⟨b4, 0, none⟩) 1 1) rfl  (y_bslice rfl (by rw [p2, n1]; kernel_rfl)) rfl (fun _ => hS.ext b1) ?_
  have h0 := h0.ext b1
  have h1 := h1.ext b1
  have a1 := a1.cn b1
  have a0 := a0.cn b1
  have f5 := f5.ext b1
  have f6 := f6.ext b1
  have b7 := b7.ext b1
  have k0 := at_ext k0 b1
  have hC := hC.ext b1
  have hO := hO.new1 b1 n1 n2.lt
  have k1 := os_of_box (r := (RT.int .i64)) (M := a7) (css := [[(.int .i64 k60)]]) (fps := [([] : List Nat)]) (xs := ([k60] : List Int)) n2 ⟨⟨rfl, rfl⟩, trivial⟩ (Nat.le_of_ble_eq_true rfl) (List.nodup_cons.2 ⟨(fun h => nomatch h), List.nodup_nil⟩)
  have k1 : (RT.os 3 (RT.int .i64)).val a7 f7 (.slice (some ⟨b4, 0, none⟩) 1 1) [k60] [b4] := k1
  have hS := hS.ext b1
  refine x_p 7 (.agg #[(.int .i64 (-1)), (.slice (some ⟨b4, 0, none⟩) 1 1)]) rfl (by kernel_rfl)  (fun _ => y_build rfl (by kernel_rfl)) (fun _ => hS) ?_
  refine x_one (i := 8) (by kernel_rfl) ?_
  have hO := hO.fr2
  have hO := hO.fr2
  have p3 := hO
  have n3 := Own.lend (F := (a9 ++ (b0 ++ (([b4]) ++ ([]))))) (R := ([a2]) ++ (([a3]) ++ ([]))) (Own.perm (p3) (by simp))
  obtain ⟨r82, p4, hs⟩ := bind_some hs
  refine xk_call (b := true) rfl  Bd115 rfl (c_spec_l12Add__take02 (M := a7) (s58.1, s58.2.1, s58.2.2) x75 ((-1), [k60]) f5 f6 b7 k1 n3 n3.fut p4) rfl (fun h => nomatch h) ?_
  rintro _ h4 ⟨k2, k3, k4, f8, k5, k6, k7, f9, rfl, g0, k8, k9, p5⟩
  have hO := hO.fr2
  have hO := hO.fr2
  have hO := hO.fr2
  have hO := hO.perm (R := (a9 ++ (b0 ++ (([b4]) ++ ([])))) ++ (([a2]) ++ (([a3]) ++ ([])))) (by simp)
  have p6 := Own.pastL hO g0 p5
  have hK := hK.trans (show KeepsF w [] a7 (PastL a7 (a9 ++ (b0 ++ (([b4]) ++ ([])))) f7 h4 (f8 ++ (f9 ++ ([])))) from KeepsF.pastL hC.size (fun g hg => (hO.inN g hg)))
  have h0 := h0.mt g0 hO same_
  have h1 := h1.mt g0 hO same_
  have a1 := a1.ap g0 hO same_ (mem_r (mem_l (List.mem_singleton.2 rfl)))
  have a0 := a0.ap g0 hO same_ (mem_l (List.mem_singleton.2 rfl))
  have b7 := b7.mt g0 hO same_
  have hC := hC.st g0 hO same_
  have hO := p6
  have h0 := h0.sub (M' := (PastL a7 (a9 ++ (b0 ++ (([b4]) ++ ([])))) f7 h4 (f8 ++ (f9 ++ ([]))))) (fun g hg => .inl hg.1)
  have h1 := h1.sub (M' := (PastL a7 (a9 ++ (b0 ++ (([b4]) ++ ([])))) f7 h4 (f8 ++ (f9 ++ ([]))))) (fun g hg => .inl hg.1)
  have b7 := b7.sub (M' := (PastL a7 (a9 ++ (b0 ++ (([b4]) ++ ([])))) f7 h4 (f8 ++ (f9 ++ ([]))))) (fun g hg => .inl hg.1)
  have hO := hO.perm (R := f8 ++ (f9 ++ (([a2]) ++ (([a3]) ++ ([]))))) (by simp)
  refine x_one (i := 9) (by kernel_rfl) ?_
  obtain ⟨n4, p7, d2, l0⟩ := box_store (P := Try.prog) a0 [] [(.slice c5 c6 c7), (.slice c8 c9 d0), (.bool s58.2.2)] [] [(.slice k2 k3 k4), (.slice k5 k6 k7), (.bool r82.2.2)] rfl rfl (by intro u hu; simp only [List.mem_cons, List.not_mem_nil, or_false] at hu; rcases hu with rfl | rfl | rfl <;> rfl)
  refine xk_skip (w' := n4) (b := true) rfl (ys_store rfl rfl (p7 _ _ rfl Sz89)) rfl (fun h => nomatch h) ?_
  have hO := hO.fr2
  have h0 := h0.mt d2 hO same_
  have h1 := h1.mt d2 hO same_
  have a1 := a1.ap d2 hO same_ (mem_r (mem_r (mem_l (List.mem_singleton.2 rfl))))
  have b7 := b7.mt d2 hO same_
  have k8 := k8.ma d2 hO same_ (fun _ e => (mem_l (e)))
  have k9 := k9.ma d2 hO same_ (fun _ e => (mem_r (mem_l (e))))
  have hC := hC.st d2 hO same_
  have hO := hO.ext d2
  have l0 : BoxV n4 a2 89 [(.slice k2 k3 k4), (.slice k5 k6 k7), (.bool r82.2.2)] := l0
  refine x_end (by kernel_rfl) ?_
  clear hS
  refine c_region ?_
  refine pl_val (.int .i64 k60) (y_move rfl) ?_
  refine pl_val (.int .i64 (w64 (k60 + 1))) (y_add rfl rfl) ?_
  refine pl_val (.int .i64 (w64 (k60 + 1))) (y_assign rfl) ?_
  refine c_nil ?_
  cases hs
  have hO := hO.fr3
  have hO := hO.fr1
  have hO := hO.fr3
  have hO := hO.fr3
  exact ⟨_, (PastL a7 (a9 ++ (b0 ++ (([b4]) ++ ([])))) f7 h4 (f8 ++ (f9 ++ ([])))), k2, k3, k4, f8, k5, k6, k7, f9, fr_ovl 68 ⟨rfl, rfl, rfl, rfl, rfl, congrArg (Value.int .i64) hw, trivial⟩, hC, hO, hK, h0, h1, a1, l0, k8, k9⟩
 ·skip
  have hO := hO.fr1
  have hO := hO.fr1
  have hO := hO.nil
  have hO := hO.nil
  exact ⟨_, M, none, 0, 0, [], none, 0, 0, [], fr_ovl 68 ⟨rfl, rfl, rfl, rfl, rfl, rfl, trivial⟩, hC, hO, KeepsF.refl, h0, h1, a1, a0, os_nil, os_nil⟩
 cases o62 with
 | nx _ => exact True.intro
 | rt r_ =>
  have hs := after_rt hs
  intro g1 j9 hK
  cases hs
  exact hK
 | br s58 =>
  have hs := after_br hs
  rintro g1 a4 ⟨σ, d1, h8, h9, i0, i1, i2, i3, i4, i5, rfl, hC, hO, hK, h0, h1, a1, a0, p8, p9⟩
  refine c_sr ?_
  refine pl_val (.int .i64 0) (y_assign rfl) ?_
  refine c_nil ?_
  refine c_seq ?_
  obtain ⟨o261, q0, hs⟩ := bind_some hs
  refine wp_block ?_
  refine wp_iter (id := 2) (I := fun s257 a a5 => ∃ (σ : Nat → Value) (c2 : Nat → Prop) (b8 : Option Addr) (b9 : Nat) (c0 : Nat) (h5 : List Nat) (d3 : Option Addr) (d4 : Nat) (d5 : Nat) (h6 : List Nat), a = fr 68 (ovl σ [(0, (.int .i64 n)), (1, (.slice pa0 pn0 pc0)), (2, (.slice pa1 pn1 pc1)), (6, (.pointer (some ⟨a3, 0, none⟩))), (7, (.pointer (some ⟨a2, 0, none⟩))), (9, (.int .i64 s257.1))]) ∧ Chg [] w a5 ∧ Own (Nw w []) c2 a5 (h5 ++ (h6 ++ (([a2]) ++ (([a3]) ++ [])))) ∧ KeepsF w [] M c2 ∧ (RT.rs (RT.pr (RT.int .i64) (RT.rs (RT.int .i64)))).val c2 a5 (.slice pa0 pn0 pc0) ops ([]) ∧ (RT.rs (RT.rs (RT.int .i64))).val c2 a5 (.slice pa1 pn1 pc1) first ([]) ∧ BoxV a5 a3 89 [(.slice none 0 0), (.slice none 0 0), (.bool false)] ∧ BoxV a5 a2 89 [(.slice b8 b9 c0), (.slice d3 d4 d5), (.bool s257.2.2.2)] ∧ (RT.os 37 (RT.rs (RT.int .i64))).val c2 a5 (.slice b8 b9 c0) s257.2.1 h5 ∧ (RT.os 119 (RT.pr (RT.int .i64) (RT.os 3 (RT.int .i64)))).val c2 a5 (.slice d3 d4 d5) s257.2.2.1 h6) (J := fun s257 a a5 => ∃ (σ : Nat → Value) (g2 : Nat → Prop) (d6 : Option Addr) (d7 : Nat) (d8 : Nat) (i6 : List Nat) (d9 : Option Addr) (e0 : Nat) (e1 : Nat) (i7 : List Nat), a = fr 68 (ovl σ [(6, (.pointer (some ⟨a3, 0, none⟩))), (7, (.pointer (some ⟨a2, 0, none⟩)))]) ∧ Chg [] w a5 ∧ Own (Nw w []) g2 a5 (i6 ++ (i7 ++ (([a2]) ++ (([a3]) ++ [])))) ∧ KeepsF w [] M g2 ∧ (RT.rs (RT.pr (RT.int .i64) (RT.rs (RT.int .i64)))).val g2 a5 (.slice pa0 pn0 pc0) ops ([]) ∧ (RT.rs (RT.rs (RT.int .i64))).val g2 a5 (.slice pa1 pn1 pc1) first ([]) ∧ BoxV a5 a3 89 [(.slice none 0 0), (.slice none 0 0), (.bool false)] ∧ BoxV a5 a2 89 [(.slice d6 d7 d8), (.slice d9 e0 e1), (.bool s257.2.2.2)] ∧ (RT.os 37 (RT.rs (RT.int .i64))).val g2 a5 (.slice d6 d7 d8) s257.2.1 i6 ∧ (RT.os 119 (RT.pr (RT.int .i64) (RT.os 3 (RT.int .i64)))).val g2 a5 (.slice d9 e0 e1) s257.2.2.1 i7) (K := (k_spec_l12Rounds M w)) ?_ FU (0, s58.1, s58.2.1, s58.2.2) o261 _ _ ?_ q0 ?_
  ·rintro s257 o261 a a5 ⟨σ, c2, b8, b9, c0, h5, d3, d4, d5, h6, rfl, hC, hO, hK, h0, h1, a1, a0, g6, i9⟩ hs
   refine c_seq ?_
   refine c_seq ?_
   refine c_mid (I := fun a n5 => ∃ (σ : Nat → Value), a = fr 68 (ovl σ [(0, (.int .i64 n)), (1, (.slice pa0 pn0 pc0)), (2, (.slice pa1 pn1 pc1)), (6, (.pointer (some ⟨a3, 0, none⟩))), (7, (.pointer (some ⟨a2, 0, none⟩))), (9, (.int .i64 s257.1)), (37, (.bool ((decide (s257.1 < (s257.2.1.length : Int))) && (!s257.2.2.2))))]) ∧ Chg [] a5 n5) ?_ ?_
   ·have hMid := Chg.refl [] a5
    refine c_region ?_
    refine pl_val (.int .i64 s257.1) (y_move rfl) ?_
    refine pl_val (.pointer (some ⟨a2, 0, none⟩)) (y_faddr rfl Fa89x0) ?_
    refine pl_val (.slice b8 b9 c0) (y_load rfl ((box_load Ag47 Sz47 a0 [] [(.slice b8 b9 c0)] [(.slice d3 d4 d5), (.bool s257.2.2.2)] rfl rfl (fun _ => rfl)) _ (Chg.refl _ _))) ?_
    refine pl_val (.int .i64 (s257.2.1.length : Int)) (y_len' Sl47 (os_len g6) rfl) ?_
    refine pl_val (.bool (decide (s257.1 < (s257.2.1.length : Int)))) (y_lss rfl rfl) ?_
    refine pl_val (.bool (decide (s257.1 < (s257.2.1.length : Int)))) (y_move rfl) ?_
    rcases Bool.eq_false_or_eq_true ((decide (s257.1 < (s257.2.1.length : Int)))) with b5 | b5
    ·skip
     refine pl_yes (.pointer (some ⟨a2, 2, none⟩)) (tg := 33) (by kernel_rfl) (congrArg Value.bool b5) (y_faddr rfl Fa89x2) ?_
     refine pl_yes (.bool s257.2.2.2) (tg := 33) (by kernel_rfl) (congrArg Value.bool b5) (y_load rfl ((box_load Ag4 Sz4 a0 [(.slice b8 b9 c0), (.slice d3 d4 d5)] [(.bool s257.2.2.2)] [] rfl rfl (fun _ => rfl)) _ (Chg.refl _ _))) ?_
     refine pl_yes (.bool (!s257.2.2.2)) (tg := 33) (by kernel_rfl) (congrArg Value.bool b5) (y_not rfl) ?_
     refine pl_val (.bool ((decide (s257.1 < (s257.2.1.length : Int))) && (!s257.2.2.2))) (y_pick_t (congrArg Value.bool b5) (congrArg Value.bool (by rw [b5]; rfl))) ?_
     refine c_nil ?_
     exact ⟨_, fr_ovl 68 ⟨rfl, rfl, rfl, rfl, rfl, rfl, rfl, trivial⟩, hMid⟩
    refine pl_not (tg := 33) (by kernel_rfl) (congrArg Value.bool b5) ?_
    refine pl_not (tg := 33) (by kernel_rfl) (congrArg Value.bool b5) ?_
    refine pl_not (tg := 33) (by kernel_rfl) (congrArg Value.bool b5) ?_
    refine pl_val (.bool ((decide (s257.1 < (s257.2.1.length : Int))) && (!s257.2.2.2))) (y_pick_f (congrArg Value.bool b5) (congrArg Value.bool (by rw [b5]; rfl))) ?_
    refine c_nil ?_
    exact ⟨_, fr_ovl 68 ⟨rfl, rfl, rfl, rfl, rfl, rfl, rfl, trivial⟩, hMid⟩
   rintro g1 n5 ⟨σ, rfl, e2⟩
   have h0 := h0.ext e2
   have h1 := h1.ext e2
   have a1 := a1.cn e2
   have a0 := a0.cn e2
   have g6 := g6.ext e2
   have i9 := i9.ext e2
   have hC := hC.ext e2
   have hO := hO.ext e2
   rcases bif_some hs with ⟨l1, hs⟩ | ⟨l1, hs⟩
   ·refine c_condT (congrArg Value.bool l1) ?_
    refine wp_skip ?_
    refine wp_block ?_
    refine c_sr ?_
    refine pl_val (.pointer (some ⟨a2, 0, none⟩)) (y_faddr rfl Fa89x0) ?_
    refine pl_val (.slice b8 b9 c0) (y_load rfl ((box_load Ag47 Sz47 a0 [] [(.slice b8 b9 c0)] [(.slice d3 d4 d5), (.bool s257.2.2.2)] rfl rfl (fun _ => rfl)) _ (Chg.refl _ _))) ?_
    refine pl_val (.int .i64 (s257.2.1.length : Int)) (y_len' Sl47 (os_len g6) rfl) ?_
    refine pl_val (.int .i64 (s257.2.1.length : Int)) (y_assign rfl) ?_
    refine c_nil ?_
    refine c_seq ?_
    refine c_sr ?_
    refine pl_val (.int .i64 0) (y_assign rfl) ?_
    refine c_nil ?_
    obtain ⟨o325, q1, hs⟩ := bind_some hs
    refine wp_block ?_
    refine wp_iter (id := 4) (I := fun s321 a a6 => ∃ (σ : Nat → Value) (a8 : Nat → Prop) (e3 : Option Addr) (e4 : Nat) (e5 : Nat) (b2 : List Nat) (e6 : Option Addr) (e7 : Nat) (e8 : Nat) (b3 : List Nat), a = fr 68 (ovl σ [(0, (.int .i64 n)), (1, (.slice pa0 pn0 pc0)), (2, (.slice pa1 pn1 pc1)), (6, (.pointer (some ⟨a3, 0, none⟩))), (7, (.pointer (some ⟨a2, 0, none⟩))), (9, (.int .i64 s257.1)), (10, (.int .i64 (s257.2.1.length : Int))), (11, (.int .i64 s321.1))]) ∧ Chg [] w a6 ∧ Own (Nw w []) a8 a6 (b2 ++ (b3 ++ (([a2]) ++ (([a3]) ++ [])))) ∧ KeepsF w [] M a8 ∧ (RT.rs (RT.pr (RT.int .i64) (RT.rs (RT.int .i64)))).val a8 a6 (.slice pa0 pn0 pc0) ops ([]) ∧ (RT.rs (RT.rs (RT.int .i64))).val a8 a6 (.slice pa1 pn1 pc1) first ([]) ∧ BoxV a6 a3 89 [(.slice none 0 0), (.slice none 0 0), (.bool false)] ∧ BoxV a6 a2 89 [(.slice e3 e4 e5), (.slice e6 e7 e8), (.bool s321.2.2.2)] ∧ (RT.os 37 (RT.rs (RT.int .i64))).val a8 a6 (.slice e3 e4 e5) s321.2.1 b2 ∧ (RT.os 119 (RT.pr (RT.int .i64) (RT.os 3 (RT.int .i64)))).val a8 a6 (.slice e6 e7 e8) s321.2.2.1 b3) (J := fun s321 a a6 => ∃ (σ : Nat → Value) (e9 : Nat → Prop) (j0 : Option Addr) (j1 : Nat) (j2 : Nat) (j3 : List Nat) (j4 : Option Addr) (j5 : Nat) (j6 : Nat) (j7 : List Nat), a = fr 68 (ovl σ [(0, (.int .i64 n)), (1, (.slice pa0 pn0 pc0)), (2, (.slice pa1 pn1 pc1)), (6, (.pointer (some ⟨a3, 0, none⟩))), (7, (.pointer (some ⟨a2, 0, none⟩))), (9, (.int .i64 s257.1)), (10, (.int .i64 (s257.2.1.length : Int)))]) ∧ Chg [] w a6 ∧ Own (Nw w []) e9 a6 (j3 ++ (j7 ++ (([a2]) ++ (([a3]) ++ [])))) ∧ KeepsF w [] M e9 ∧ (RT.rs (RT.pr (RT.int .i64) (RT.rs (RT.int .i64)))).val e9 a6 (.slice pa0 pn0 pc0) ops ([]) ∧ (RT.rs (RT.rs (RT.int .i64))).val e9 a6 (.slice pa1 pn1 pc1) first ([]) ∧ BoxV a6 a3 89 [(.slice none 0 0), (.slice none 0 0), (.bool false)] ∧ BoxV a6 a2 89 [(.slice j0 j1 j2), (.slice j4 j5 j6), (.bool s321.2.2.2)] ∧ (RT.os 37 (RT.rs (RT.int .i64))).val e9 a6 (.slice j0 j1 j2) s321.2.1 j3 ∧ (RT.os 119 (RT.pr (RT.int .i64) (RT.os 3 (RT.int .i64)))).val e9 a6 (.slice j4 j5 j6) s321.2.2.1 j7) (K := (k_spec_l12Rounds M w)) ?_ FU (0, s257.2.1, s257.2.2.1, s257.2.2.2) o325 _ _ ?_ q1 ?_
    ·rintro s321 o325 a a6 ⟨σ, a8, e3, e4, e5, b2, e6, e7, e8, b3, rfl, hC, hO, hK, h0, h1, a1, a0, g7, g8⟩ hs
     refine c_seq ?_
     refine c_seq ?_
     refine c_mid (I := fun a j8 => ∃ (σ : Nat → Value), a = fr 68 (ovl σ [(0, (.int .i64 n)), (1, (.slice pa0 pn0 pc0)), (2, (.slice pa1 pn1 pc1)), (6, (.pointer (some ⟨a3, 0, none⟩))), (7, (.pointer (some ⟨a2, 0, none⟩))), (9, (.int .i64 s257.1)), (10, (.int .i64 (s257.2.1.length : Int))), (11, (.int .i64 s321.1)), (49, (.bool ((decide (s321.1 < (ops.length : Int))) && (!s321.2.2.2))))]) ∧ Chg [] a6 j8) ?_ ?_
     ·have hMid := Chg.refl [] a6
      refine c_region ?_
      refine pl_val (.int .i64 s321.1) (y_move rfl) ?_
      refine pl_val (.slice pa0 pn0 pc0) (y_move rfl) ?_
      refine pl_val (.int .i64 (ops.length : Int)) (y_len' Sl26 (rs_len h0) rfl) ?_
      refine pl_val (.bool (decide (s321.1 < (ops.length : Int)))) (y_lss rfl rfl) ?_
      refine pl_val (.bool (decide (s321.1 < (ops.length : Int)))) (y_move rfl) ?_
      rcases Bool.eq_false_or_eq_true ((decide (s321.1 < (ops.length : Int)))) with b6 | b6
      ·skip
       refine pl_yes (.pointer (some ⟨a2, 2, none⟩)) (tg := 45) (by kernel_rfl) (congrArg Value.bool b6) (y_faddr rfl Fa89x2) ?_
       refine pl_yes (.bool s321.2.2.2) (tg := 45) (by kernel_rfl) (congrArg Value.bool b6) (y_load rfl ((box_load Ag4 Sz4 a0 [(.slice e3 e4 e5), (.slice e6 e7 e8)] [(.bool s321.2.2.2)] [] rfl rfl (fun _ => rfl)) _ (Chg.refl _ _))) ?_
       refine pl_yes (.bool (!s321.2.2.2)) (tg := 45) (by kernel_rfl) (congrArg Value.bool b6) (y_not rfl) ?_
       refine pl_val (.bool ((decide (s321.1 < (ops.length : Int))) && (!s321.2.2.2))) (y_pick_t (congrArg Value.bool b6) (congrArg Value.bool (by rw [b6]; rfl))) ?_
       refine c_nil ?_
       exact ⟨_, fr_ovl 68 ⟨rfl, rfl, rfl, rfl, rfl, rfl, rfl, rfl, rfl, trivial⟩, hMid⟩
      refine pl_not (tg := 45) (by kernel_rfl) (congrArg Value.bool b6) ?_
      refine pl_not (tg := 45) (by kernel_rfl) (congrArg Value.bool b6) ?_
      refine pl_not (tg := 45) (by kernel_rfl) (congrArg Value.bool b6) ?_
      refine pl_val (.bool ((decide (s321.1 < (ops.length : Int))) && (!s321.2.2.2))) (y_pick_f (congrArg Value.bool b6) (congrArg Value.bool (by rw [b6]; rfl))) ?_
      refine c_nil ?_
      exact ⟨_, fr_ovl 68 ⟨rfl, rfl, rfl, rfl, rfl, rfl, rfl, rfl, rfl, trivial⟩, hMid⟩
     rintro g1 j8 ⟨σ, rfl, f0⟩
     have h0 := h0.ext f0
     have h1 := h1.ext f0
     have a1 := a1.cn f0
     have a0 := a0.cn f0
     have g7 := g7.ext f0
     have g8 := g8.ext f0
     have hC := hC.ext f0
     have hO := hO.ext f0
     rcases bif_some hs with ⟨l2, hs⟩ | ⟨l2, hs⟩
     ·refine c_condT (congrArg Value.bool l2) ?_
      refine wp_skip ?_
      refine c_seq ?_
      refine wp_block ?_
      refine x_start [13, 14] Mx rfl ?_
      have c3 := Chg.drew j8
      generalize World.drew j8 = g3 at c3 ⊢
      have h0 := h0.ext c3
      have h1 := h1.ext c3
      have a1 := a1.cn c3
      have a0 := a0.cn c3
      have g7 := g7.ext c3
      have g8 := g8.ext c3
      have hC := hC.ext c3
      have hO := hO.ext c3
      have hS := Chg.refl [] g3
      refine x_p 0 (.int .i64 n) rfl (by kernel_rfl)  (fun _ => y_move rfl) (fun _ => hS) ?_
      refine x_l 1 (.agg #[(.slice e3 e4 e5), (.slice e6 e7 e8), (.bool s321.2.2.2)]) rfl (by kernel_rfl)  (fun w' hw' => y_load rfl ((box_load Ag89 Sz89 a0 [] [(.slice e3 e4 e5), (.slice e6 e7 e8), (.bool s321.2.2.2)] [] rfl rfl (fun h => nomatch h)) w' hw')) hS ?_
      refine x_p 2 (.slice pa0 pn0 pc0) rfl (by kernel_rfl)  (fun _ => y_move rfl) (fun _ => hS) ?_
      refine x_p 3 (.int .i64 s321.1) rfl (by kernel_rfl)  (fun _ => y_move rfl) (fun _ => hS) ?_
      obtain ⟨x343, q2, hs⟩ := bind_some hs
      obtain ⟨q3, q4, q5, q6⟩ := rs_idx Sl26 Sz64 h0 q2
      refine x_p 4 (.pointer (some ⟨q3, q4, none⟩)) rfl (by kernel_rfl)  (fun _ => q5 _ _ _ _ _ _ _ _ _ rfl rfl) (fun _ => hS) ?_
      obtain ⟨t3, q7, q8⟩ := at_load Ag64 Sz64 (by intro h; cases h) q6
      obtain ⟨t4, rfl, q9⟩ := q8
      obtain ⟨t5, t6, rfl, r0, r1⟩ := pr_open q9
      obtain rfl := int_rel r0
      obtain ⟨r2, r3, r4, rfl, g4⟩ := rs_rel r1
      refine x_l 5 (.agg #[(.int .i64 x343.1), (.slice r2 r3 r4)]) rfl (by kernel_rfl)  (fun w' hw' => y_load rfl (q7 w' hw')) hS ?_
      refine x_p 6 (.int .i64 s321.1) rfl (by kernel_rfl)  (fun _ => y_move rfl) (fun _ => hS) ?_
      refine x_p 7 (.int .i64 (s257.2.1.length : Int)) rfl (by kernel_rfl)  (fun _ => y_move rfl) (fun _ => hS) ?_
      refine x_p 8 (.int .i64 s257.1) rfl (by kernel_rfl)  (fun _ => y_move rfl) (fun _ => hS) ?_
      refine x_p 9 (.slice pa1 pn1 pc1) rfl (by kernel_rfl)  (fun _ => y_move rfl) (fun _ => hS) ?_
      obtain ⟨x347, r5, hs⟩ := bind_some hs
      obtain ⟨r6, r7, r8, r9⟩ := rs_idx Sl47 Sz37 h1 r5
      refine x_p 10 (.pointer (some ⟨r6, r7, none⟩)) rfl (by kernel_rfl)  (fun _ => r8 _ _ _ _ _ _ _ _ _ rfl rfl) (fun _ => hS) ?_
      obtain ⟨t7, s0, f1⟩ := at_load Ag37 Sz37 (fun _ => rfl) r9
      obtain ⟨s1, s2, s3, rfl⟩ := rs_sl f1
      refine x_l 11 (.slice s1 s2 s3) rfl (by kernel_rfl)  (fun w' hw' => y_load rfl (s0 w' hw')) hS ?_
      refine x_p 12 (.int .i64 (x347.length : Int)) rfl (by kernel_rfl)  (fun _ => y_len' Sl37 (rs_len f1) rfl) (fun _ => hS) ?_
      refine x_one (i := 13) (by kernel_rfl) ?_
      have hO := hO.fr1
      have hO := hO.fr1
      have s4 := hO
      have n6 := Own.lend (F := (b2 ++ (b3 ++ ([])))) (R := ([a2]) ++ (([a3]) ++ ([]))) (Own.perm (s4) (by simp))
      obtain ⟨r352, s5, hs⟩ := bind_some hs
      refine xk_call (b := true) rfl  Bd116 rfl (c_spec_l12Round__take1 (M := a8) n (s321.2.1, s321.2.2.1, s321.2.2.2) (x343.1, x343.2) s321.1 (s257.2.1.length : Int) s257.1 (x347.length : Int) g7 g8 g4 n6 n6.fut s5) rfl (fun h => nomatch h) ?_
      rintro _ g9 ⟨l3, l4, l5, f2, l6, l7, l8, f3, rfl, f4, l9, m0, s6⟩
      have hO := hO.fr1
      have hO := hO.fr1
      have hO := hO.perm (R := (b2 ++ (b3 ++ ([]))) ++ (([a2]) ++ (([a3]) ++ ([])))) (by simp)
      have s7 := Own.pastL hO f4 s6
      have hK := hK.trans (show KeepsF w [] a8 (PastL a8 (b2 ++ (b3 ++ ([]))) g3 g9 (f2 ++ (f3 ++ ([])))) from KeepsF.pastL hC.size (fun g hg => (hO.inN g hg)))
      have h0 := h0.mt f4 hO same_
      have h1 := h1.mt f4 hO same_
      have a1 := a1.ap f4 hO same_ (mem_r (mem_l (List.mem_singleton.2 rfl)))
      have a0 := a0.ap f4 hO same_ (mem_l (List.mem_singleton.2 rfl))
      have g4 := g4.mt f4 hO same_
      have f1 := f1.mt f4 hO same_
      have hC := hC.st f4 hO same_
      have hO := s7
      have h0 := h0.sub (M' := (PastL a8 (b2 ++ (b3 ++ ([]))) g3 g9 (f2 ++ (f3 ++ ([]))))) (fun g hg => .inl hg.1)
      have h1 := h1.sub (M' := (PastL a8 (b2 ++ (b3 ++ ([]))) g3 g9 (f2 ++ (f3 ++ ([]))))) (fun g hg => .inl hg.1)
      have g4 := g4.sub (M' := (PastL a8 (b2 ++ (b3 ++ ([]))) g3 g9 (f2 ++ (f3 ++ ([]))))) (fun g hg => .inl hg.1)
      have f1 := f1.sub (M' := (PastL a8 (b2 ++ (b3 ++ ([]))) g3 g9 (f2 ++ (f3 ++ ([]))))) (fun g hg => .inl hg.1)
      have hO := hO.perm (R := f2 ++ (f3 ++ (([a2]) ++ (([a3]) ++ ([]))))) (by simp)
      refine x_one (i := 14) (by kernel_rfl) ?_
      obtain ⟨n7, s8, c4, m1⟩ := box_store (P := Try.prog) a0 [] [(.slice e3 e4 e5), (.slice e6 e7 e8), (.bool s321.2.2.2)] [] [(.slice l3 l4 l5), (.slice l6 l7 l8), (.bool r352.2.2)] rfl rfl (by intro u hu; simp only [List.mem_cons, List.not_mem_nil, or_false] at hu; rcases hu with rfl | rfl | rfl <;> rfl)
      refine xk_skip (w' := n7) (b := true) rfl (ys_store rfl rfl (s8 _ _ rfl Sz89)) rfl (fun h => nomatch h) ?_
      have hO := hO.fr2
      have h0 := h0.mt c4 hO same_
      have h1 := h1.mt c4 hO same_
      have a1 := a1.ap c4 hO same_ (mem_r (mem_r (mem_l (List.mem_singleton.2 rfl))))
      have g4 := g4.mt c4 hO same_
      have f1 := f1.mt c4 hO same_
      have l9 := l9.ma c4 hO same_ (fun _ e => (mem_l (e)))
      have m0 := m0.ma c4 hO same_ (fun _ e => (mem_r (mem_l (e))))
      have hC := hC.st c4 hO same_
      have hO := hO.ext c4
      have m1 : BoxV n7 a2 89 [(.slice l3 l4 l5), (.slice l6 l7 l8), (.bool r352.2.2)] := m1
      refine x_end (by kernel_rfl) ?_
      clear hS
      refine c_region ?_
      refine pl_val (.int .i64 s321.1) (y_move rfl) ?_
      refine pl_val (.int .i64 (w64 (s321.1 + 1))) (y_add rfl rfl) ?_
      refine pl_val (.int .i64 (w64 (s321.1 + 1))) (y_assign rfl) ?_
      refine c_nil ?_
      cases hs
      have hO := hO.fr3
      have hO := hO.fr1
      have hO := hO.fr3
      have hO := hO.fr3
      exact ⟨_, (PastL a8 (b2 ++ (b3 ++ ([]))) g3 g9 (f2 ++ (f3 ++ ([])))), l3, l4, l5, f2, l6, l7, l8, f3, fr_ovl 68 ⟨rfl, rfl, rfl, rfl, rfl, rfl, rfl, rfl, trivial⟩, hC, hO, hK, h0, h1, a1, m1, l9, m0⟩
     refine c_condF (congrArg Value.bool l2) ?_
     refine wp_exit ?_
     cases hs
     have hO := hO.fr3
     have hO := hO.fr3
     have hO := hO.fr3
     have hO := hO.fr3
     exact ⟨rfl, _, a8, e3, e4, e5, b2, e6, e7, e8, b3, fr_ovl 68 ⟨rfl, rfl, rfl, rfl, rfl, rfl, rfl, trivial⟩, hC, hO, hK, h0, h1, a1, a0, g7, g8⟩
    ·skip
     have hO := hO.fr3
     have hO := hO.fr3
     have hO := hO.fr3
     have hO := hO.fr3
     exact ⟨_, c2, b8, b9, c0, h5, d3, d4, d5, h6, fr_ovl 68 ⟨rfl, rfl, rfl, rfl, rfl, rfl, rfl, rfl, trivial⟩, hC, hO, hK, h0, h1, a1, a0, g6, i9⟩
    cases o325 with
    | nx _ => exact True.intro
    | rt r_ =>
     have hs := after_rt hs
     intro g1 j9 hK
     cases hs
     exact hK
    | br s321 =>
     have hs := after_br hs
     rintro g1 a6 ⟨σ, e9, j0, j1, j2, j3, j4, j5, j6, j7, rfl, hC, hO, hK, h0, h1, a1, a0, s9, t0⟩
     refine c_region ?_
     refine pl_val (.int .i64 (s257.2.1.length : Int)) (y_move rfl) ?_
     refine pl_val (.int .i64 (s257.2.1.length : Int)) (y_assign rfl) ?_
     refine c_nil ?_
     cases hs
     have hO := hO.fr3
     have hO := hO.fr3
     have hO := hO.fr3
     have hO := hO.fr3
     exact ⟨_, e9, j0, j1, j2, j3, j4, j5, j6, j7, fr_ovl 68 ⟨rfl, rfl, rfl, rfl, rfl, rfl, trivial⟩, hC, hO, hK, h0, h1, a1, a0, s9, t0⟩
   refine c_condF (congrArg Value.bool l1) ?_
   refine wp_exit ?_
   cases hs
   have hO := hO.fr3
   have hO := hO.fr3
   have hO := hO.fr3
   have hO := hO.fr3
   exact ⟨rfl, _, c2, b8, b9, c0, h5, d3, d4, d5, h6, fr_ovl 68 ⟨rfl, rfl, trivial⟩, hC, hO, hK, h0, h1, a1, a0, g6, i9⟩
  ·skip
   have hO := hO.fr3
   have hO := hO.fr3
   have hO := hO.fr3
   have hO := hO.fr3
   exact ⟨_, d1, h8, h9, i0, i1, i2, i3, i4, i5, fr_ovl 68 ⟨rfl, rfl, rfl, rfl, rfl, rfl, trivial⟩, hC, hO, hK, h0, h1, a1, a0, p8, p9⟩
  cases o261 with
  | nx _ => exact True.intro
  | rt r_ =>
   have hs := after_rt hs
   intro g1 j9 hK
   cases hs
   exact hK
  | br s257 =>
   have hs := after_br hs
   rintro g1 a5 ⟨σ, g2, d6, d7, d8, i6, d9, e0, e1, i7, rfl, hC, hO, hK, h0, h1, a1, a0, m2, m3⟩
   refine c_sr ?_
   refine pl_val (.agg #[(.slice d6 d7 d8), (.slice d9 e0 e1), (.bool s257.2.2.2)]) (y_load rfl ((box_load Ag89 Sz89 a0 [] [(.slice d6 d7 d8), (.slice d9 e0 e1), (.bool s257.2.2.2)] [] rfl rfl (fun h => nomatch h)) _ (Chg.refl _ _))) ?_
   obtain ⟨n8, t1, g5, m4⟩ := box_store (P := Try.prog) a1 [] [(.slice none 0 0), (.slice none 0 0), (.bool false)] [] [(.slice d6 d7 d8), (.slice d9 e0 e1), (.bool s257.2.2.2)] rfl rfl (by intro u hu; simp only [List.mem_cons, List.not_mem_nil, or_false] at hu; rcases hu with rfl | rfl | rfl <;> rfl)
   refine pl_skip (w' := n8) (ys_store rfl rfl (t1 _ _ rfl Sz89)) ?_
   have hO := hO.fr3
   have h0 := h0.mt g5 hO same_
   have h1 := h1.mt g5 hO same_
   have a0 := a0.ap g5 hO same_ (mem_r (mem_r (mem_l (List.mem_singleton.2 rfl))))
   have m2 := m2.ma g5 hO same_ (fun _ e => (mem_l (e)))
   have m3 := m3.ma g5 hO same_ (fun _ e => (mem_r (mem_l (e))))
   have hC := hC.st g5 hO same_
   have hO := hO.ext g5
   have m4 : BoxV n8 a3 89 [(.slice d6 d7 d8), (.slice d9 e0 e1), (.bool s257.2.2.2)] := m4
   refine c_nil ?_
   refine wp_ret ?_
   cases hs
   have hO := hO.drop
   have hO := hO.fr2
   have hO := hO.drop
   have hO := hO.fr1
   have hO := hO.fr1
   exact ⟨_, a3, d6, d7, d8, i6, d9, e0, e1, i7, fr_ovl 68 ⟨rfl, trivial⟩, m4, hC, (KeepsF.out hK hO.allM m2), (KeepsF.out hK hO.allM m3), hO.top⟩

theorem Bd57 : Bodied Try.prog 57 := bodied Try.func57 (by kernel_rfl) rfl

theorem Bd108 : Bodied Try.prog 108 := bodied Try.func108 (by kernel_rfl) rfl

def k_spec_l12Clone (M : Nat → Prop) (w0 : World) (r : ((List (List Int)) × (List (Int × (List Int))) × Bool)) (a : Act) (w : World) : Prop :=
  ∃ (σ : Nat → Value) (rg4 : Nat) (ra0 : Option Addr) (rn0 rc0 : Nat) (rf0 : List Nat) (ra1 : Option Addr) (rn1 rc1 : Nat) (rf1 : List Nat), a = fr 27 (ovl σ [(4, (.pointer (some ⟨rg4, 0, none⟩)))]) ∧ BoxV w rg4 89 [(.slice ra0 rn0 rc0), (.slice ra1 rn1 rc1), (.bool r.2.2)] ∧ Chg [] w0 w ∧ (RT.os 37 (RT.rs (RT.int .i64))).val (PastL M [] w0 w (rf0 ++ (rf1 ++ ([])))) w (.slice ra0 rn0 rc0) r.1 rf0 ∧ (RT.os 119 (RT.pr (RT.int .i64) (RT.os 3 (RT.int .i64)))).val (PastL M [] w0 w (rf0 ++ (rf1 ++ ([])))) w (.slice ra1 rn1 rc1) r.2.1 rf1 ∧ Own (Nw w0 []) (fun _ => True) w (rf0 ++ (rf1 ++ ([])))
def s_spec_l12Clone (a_ : Int × (List (Int × (List Int)))) (k : Int) : Option (((List (List Int)) × (List (Int × (List Int))) × Bool)) :=
  (forC (S := (List (List Int))) (R := ((List (List Int)) × (List (Int × (List Int))) × Bool)) (fun k18 s16 =>
  (s_spec_l12Projection a_.1 k k18).bind fun r27 =>
  (app s16 ([r27])).bind fun y32 =>
  some (.nx y32)) 0 k ([])).bind fun o20 => after o20 (fun r_ => some r_) (fun s16 =>
  (s_spec_l12Rounds a_.1 a_.2 s16).bind fun r37 =>
  some (r37.1, r37.2.1, r37.2.2))
set_option maxHeartbeats 4000000 in
theorem c_spec_l12Clone {M : Nat → Prop} {w : World} {pa0 : Option Addr} {pn0 pc0 : Nat} (a_ : Int × (List (Int × (List Int)))) (k : Int) (h0 : (RT.rs (RT.pr (RT.int .i64) (RT.rs (RT.int .i64)))).val M w (.slice pa0 pn0 pc0) a_.2 ([])) (hM : ∀ g, w.heap.size ≤ g → M g) {r : ((List (List Int)) × (List (Int × (List Int))) × Bool)} (hs : s_spec_l12Clone a_ k = some r) :
    Gives Try.prog 78 [(.agg #[(.int .i64 a_.1), (.slice pa0 pn0 pc0)]), (.int .i64 k)] w (fun v w' => ∃ (ra0 : Option Addr) (rn0 rc0 : Nat) (rf0 : List Nat) (ra1 : Option Addr) (rn1 rc1 : Nat) (rf1 : List Nat), v = (.agg #[(.slice ra0 rn0 rc0), (.slice ra1 rn1 rc1), (.bool r.2.2)]) ∧ Chg [] w w' ∧ (RT.os 37 (RT.rs (RT.int .i64))).val (PastL M [] w w' (rf0 ++ (rf1 ++ ([])))) w' (.slice ra0 rn0 rc0) r.1 rf0 ∧ (RT.os 119 (RT.pr (RT.int .i64) (RT.os 3 (RT.int .i64)))).val (PastL M [] w w' (rf0 ++ (rf1 ++ ([])))) w' (.slice ra1 rn1 rc1) r.2.1 rf1 ∧ Own (Nw w []) (fun _ => True) w' (rf0 ++ (rf1 ++ ([])))) := by
 refine calls_fr Try.func78 rfl Try.ntmps78 (Nat.le_of_ble_eq_true rfl) ?_
 have hO := Own.start (N := Nw w []) hM Nw.fut
 have hC := Chg.refl [] w
 unfold s_spec_l12Clone at hs
 refine wp_mono (Q := KPost (k_spec_l12Clone M w r)) ?_ (fun e a g1 h => ?_)
 rotate_left
 ·cases e
  case ret =>
   obtain ⟨σ, rg4, ra0, rn0, rc0, rf0, ra1, rn1, rc1, rf1, rfl, hbrg4, hrest⟩ := h
   exact ret1x Try.results78 (res_cell rfl (box_load Ag89 Sz89 hbrg4 [] _ [] rfl rfl (fun h => nomatch h))) ⟨ra0, rn0, rc0, rf0, ra1, rn1, rc1, rf1, rfl, hrest⟩
  all_goals exact (h : False).elim
 refine c_sr ?_
 obtain ⟨e7, a3, g2, e8, c8, a0⟩ := new_block w [(.int .i64 a_.1), (.slice pa0 pn0 pc0)] 30
 refine pl_val (w' := e7) (.pointer (some ⟨a3, 0, none⟩)) (y_box rfl (by rw [g2, e8]; kernel_rfl)) ?_
 have h0 := h0.ext c8
 have hC := hC.ext c8
 have hO := hO.new1 c8 e8 a0.lt
 obtain ⟨e9, a4, g3, f0, c1, a2⟩ := new_block e7 [(.slice none 0 0), (.slice none 0 0), (.bool false)] 89
 refine pl_val (w' := e9) (.pointer (some ⟨a4, 0, none⟩)) (y_alloc (by rw [g3, f0]; kernel_rfl)) ?_
 have h0 := h0.ext c1
 have a0 := a0.cn c1
 have hC := hC.ext c1
 have hO := hO.new1 c1 f0 a2.lt
 refine c_nil ?_
 refine c_sr ?_
 obtain ⟨f1, b0, g4, f2, b7, f3⟩ := new_block e9 [] 37
 refine pl_val (w' := f1) (.slice (some ⟨b0, 0, none⟩) 0 0) (y_bslice rfl (by rw [g4, f2]; kernel_rfl)) ?_
 have h0 := h0.ext b7
 have a0 := a0.cn b7
 have a2 := a2.cn b7
 have hC := hC.ext b7
 have hO := hO.new1 b7 f2 f3.lt
 have c9 := os_of_box (r := (RT.os 3 (RT.int .i64))) (M := M) (css := []) (fps := []) (xs := ([] : List (List Int))) f3 trivial (Nat.zero_le _) (List.nodup_cons.2 ⟨(fun h => nomatch h), List.nodup_nil⟩)
 have c9 : (RT.os 37 (RT.os 3 (RT.int .i64))).val M f1 (.slice (some ⟨b0, 0, none⟩) 0 0) [] [b0] := c9
 refine pl_val (.slice (some ⟨b0, 0, none⟩) 0 0) (y_assign rfl) ?_
 refine c_nil ?_
 refine c_seq ?_
 refine c_sr ?_
 refine pl_val (.int .i64 0) (y_assign rfl) ?_
 refine c_nil ?_
 obtain ⟨o20, g5, hs⟩ := bind_some hs
 refine wp_block ?_
 refine wp_forC (id := 0) k (I := fun k18 s16 a a1 => ∃ (σ : Nat → Value) (b1 : Option Addr) (b2 : Nat) (b3 : Nat) (a6 : List Nat), a = fr 27 (ovl σ [(1, (.int .i64 k)), (2, (.pointer (some ⟨a3, 0, none⟩))), (4, (.pointer (some ⟨a4, 0, none⟩))), (5, (.slice b1 b2 b3)), (6, (.int .i64 k18))]) ∧ Chg [] w a1 ∧ Own (Nw w []) M a1 (a6 ++ (([a4]) ++ (([a3]) ++ []))) ∧ (RT.rs (RT.pr (RT.int .i64) (RT.rs (RT.int .i64)))).val M a1 (.slice pa0 pn0 pc0) a_.2 ([]) ∧ BoxV a1 a3 30 [(.int .i64 a_.1), (.slice pa0 pn0 pc0)] ∧ BoxV a1 a4 89 [(.slice none 0 0), (.slice none 0 0), (.bool false)] ∧ (RT.os 37 (RT.os 3 (RT.int .i64))).val M a1 (.slice b1 b2 b3) s16 a6) (J := fun s16 a a1 => ∃ (σ : Nat → Value) (c2 : Option Addr) (c3 : Nat) (c4 : Nat) (d0 : List Nat), a = fr 27 (ovl σ [(2, (.pointer (some ⟨a3, 0, none⟩))), (4, (.pointer (some ⟨a4, 0, none⟩))), (5, (.slice c2 c3 c4))]) ∧ Chg [] w a1 ∧ Own (Nw w []) M a1 (d0 ++ (([a4]) ++ (([a3]) ++ []))) ∧ (RT.rs (RT.pr (RT.int .i64) (RT.rs (RT.int .i64)))).val M a1 (.slice pa0 pn0 pc0) a_.2 ([]) ∧ BoxV a1 a3 30 [(.int .i64 a_.1), (.slice pa0 pn0 pc0)] ∧ BoxV a1 a4 89 [(.slice none 0 0), (.slice none 0 0), (.bool false)] ∧ (RT.os 37 (RT.os 3 (RT.int .i64))).val M a1 (.slice c2 c3 c4) s16 d0) (K := (k_spec_l12Clone M w)) ?_ ?_ 0 ([]) o20 _ _ ?_ g5 ?_
 ·rintro k18 s16 a a1 ⟨σ, b1, b2, b3, a6, rfl, hC, hO, h0, a0, a2, a5⟩ hlt
  refine c_seq ?_
  refine c_sr ?_
  refine pl_val (.int .i64 k18) (y_move rfl) ?_
  refine pl_val (.int .i64 k) (y_move rfl) ?_
  refine pl_val (.bool (decide (k18 < k))) (y_lss rfl rfl) ?_
  refine c_nil ?_
  refine c_condF (congrArg Value.bool (decide_eq_false hlt)) ?_
  refine wp_exit ?_
  have hO := hO.fr2
  have hO := hO.fr2
  have hO := hO.fr2
  exact ⟨rfl, _, b1, b2, b3, a6, fr_ovl 27 ⟨rfl, rfl, rfl, trivial⟩, hC, hO, h0, a0, a2, a5⟩
 ·rintro k18 s16 o20 a a1 ⟨σ, b1, b2, b3, a6, rfl, hC, hO, h0, a0, a2, a5⟩ hlt hw hs
  refine c_seq ?_
  refine c_sr ?_
  refine pl_val (.int .i64 k18) (y_move rfl) ?_
  refine pl_val (.int .i64 k) (y_move rfl) ?_
  refine pl_val (.bool (decide (k18 < k))) (y_lss rfl rfl) ?_
  refine c_nil ?_
  refine c_condT (congrArg Value.bool (decide_eq_true hlt)) ?_
  refine wp_skip ?_
  refine c_seq ?_
  refine wp_block ?_
  refine c_region ?_
  refine pl_val (.slice b1 b2 b3) (y_move rfl) ?_
  refine pl_val (.pointer (some ⟨a3, 0, none⟩)) (y_faddr rfl Fa30x0) ?_
  refine pl_val (.int .i64 a_.1) (y_load rfl ((box_load Ag3 Sz3 a0 [] [(.int .i64 a_.1)] [(.slice pa0 pn0 pc0)] rfl rfl (fun _ => rfl)) _ (Chg.refl _ _))) ?_
  refine pl_val (.int .i64 k) (y_move rfl) ?_
  refine pl_val (.int .i64 k18) (y_move rfl) ?_
  obtain ⟨r27, g6, hs⟩ := bind_some hs
  refine pl_call Bd57 rfl (c_spec_l12Projection (M := M) a_.1 k k18  hO.fut g6) ?_
  rintro _ g7 ⟨f4, f5, f6, c5, rfl, b4, d1, g8⟩
  have h0 := h0.ext b4
  have a0 := a0.cn b4
  have a2 := a2.cn b4
  have a5 := a5.ext b4
  have hC := hC.ext b4
  have hO := Own.join0 hO b4 g8
  have hO := hO.perm (R := c5 ++ (a6 ++ (([a4]) ++ (([a3]) ++ ([]))))) (by simp)
  obtain ⟨f7, c6, g9, f8, a7, f9⟩ := new_block g7 [(.slice f4 f5 f6)] 37
  refine pl_val (w' := f7) (.slice (some ⟨c6, 0, none⟩) 1 1) (y_bslice rfl (by rw [g9, f8]; kernel_rfl)) ?_
  have h0 := h0.ext a7
  have a0 := a0.cn a7
  have a2 := a2.cn a7
  have a5 := a5.ext a7
  have d1 := d1.ext a7
  have hC := hC.ext a7
  have hO := hO.new1 a7 f8 f9.lt
  have hO := hO.perm (R := (c6 :: ((c5) ++ ([]))) ++ (a6 ++ (([a4]) ++ (([a3]) ++ ([]))))) (by simp)
  have h1 := hO.nd
  have d2 := os_of_box (r := (RT.os 3 (RT.int .i64))) (M := M) (css := [[(.slice f4 f5 f6)]]) (fps := [(c5 : List Nat)]) (xs := ([r27] : List (List Int))) f9 ⟨(os_unval d1), trivial⟩ (Nat.le_of_ble_eq_true rfl) h1
  have d2 : (RT.os 37 (RT.os 3 (RT.int .i64))).val M f7 (.slice (some ⟨c6, 0, none⟩) 1 1) [r27] (c6 :: ((c5) ++ ([]))) := d2
  obtain ⟨y32, h2, hs⟩ := bind_some hs
  have hO := hO.fr1
  obtain ⟨d3, d4, d5, h3, h4, h5, b8, h6, d6⟩ := app_os Rw47 h2 a5 d2 hO.inM (fun g hg hq => hO.apart g hq (mem_l hg))
  have c7 := os_block a5
  refine pl_val (w' := h3) (.slice d3 d4 d5) (y_append rfl rfl (h5 _)) ?_
  have hO := hO.fr1
  have hO := hO.fr1
  have h0 := h0.mt b8 hO c7
  have a0 := a0.ap b8 hO c7 (mem_r (mem_r (mem_l (List.mem_singleton.2 rfl))))
  have a2 := a2.ap b8 hO c7 (mem_r (mem_l (List.mem_singleton.2 rfl)))
  have hC := hC.st b8 hO c7
  have hO := hO.eat b8 h6 (os_nodup d6) d6.fpl
  refine pl_val (.slice d3 d4 d5) (y_assign rfl) ?_
  refine c_nil ?_
  refine c_region ?_
  refine pl_val (.int .i64 k18) (y_move rfl) ?_
  refine pl_val (.int .i64 (w64 (k18 + 1))) (y_add rfl rfl) ?_
  refine pl_val (.int .i64 (w64 (k18 + 1))) (y_assign rfl) ?_
  refine c_nil ?_
  cases hs
  have hO := hO.fr2
  have hO := hO.fr2
  have hO := hO.fr2
  exact ⟨_, d3, d4, d5, h4, fr_ovl 27 ⟨rfl, rfl, rfl, rfl, congrArg (Value.int .i64) hw, trivial⟩, hC, hO, h0, a0, a2, d6⟩
 ·skip
  have hO := hO.fr2
  have hO := hO.fr2
  have hO := hO.fr2
  exact ⟨_, (some ⟨b0, 0, none⟩), 0, 0, ([b0]), fr_ovl 27 ⟨rfl, rfl, rfl, rfl, rfl, trivial⟩, hC, hO, h0, a0, a2, c9⟩
 cases o20 with
 | nx _ => exact True.intro
 | rt r_ =>
  have hs := after_rt hs
  intro h7 g1 hK
  cases hs
  exact hK
 | br s16 =>
  have hs := after_br hs
  rintro h7 a1 ⟨σ, c2, c3, c4, d0, rfl, hC, hO, h0, a0, a2, h8⟩
  refine c_sr ?_
  refine pl_val (.pointer (some ⟨a3, 0, none⟩)) (y_faddr rfl Fa30x0) ?_
  refine pl_val (.int .i64 a_.1) (y_load rfl ((box_load Ag3 Sz3 a0 [] [(.int .i64 a_.1)] [(.slice pa0 pn0 pc0)] rfl rfl (fun _ => rfl)) _ (Chg.refl _ _))) ?_
  refine pl_val (.pointer (some ⟨a3, 1, none⟩)) (y_faddr rfl Fa30x1) ?_
  refine pl_val (.slice pa0 pn0 pc0) (y_load rfl ((box_load Ag26 Sz26 a0 [(.int .i64 a_.1)] [(.slice pa0 pn0 pc0)] [] rfl rfl (fun _ => rfl)) _ (Chg.refl _ _))) ?_
  refine pl_val (.slice c2 c3 c4) (y_move rfl) ?_
  obtain ⟨b5, i5, h9, i0, hO, a8⟩ := frzF_own (Frz.os (Frz.os Frz.int)) h8 hO
  have h0 := h0.sub (M' := b5) h9
  have hK := i0
  obtain ⟨r37, i1, hs⟩ := bind_some hs
  refine pl_call Bd108 rfl (c_spec_l12Rounds (M := b5) a_.1 a_.2 s16 h0 a8 hO.fut i1) ?_
  rintro _ d7 ⟨d8, d9, e0, b9, e1, e2, e3, c0, rfl, b6, e4, e5, i2⟩
  have hO := hO.perm (R := [] ++ (([a4]) ++ (([a3]) ++ ([])))) (by simp)
  have i3 := Own.pastL hO b6 i2
  have hK := hK.trans (show KeepsF w [] b5 (PastL b5 [] a1 d7 (b9 ++ (c0 ++ ([])))) from KeepsF.pastL hC.size (fun g hg => (hO.inN g hg)))
  have h0 := h0.ext b6
  have a0 := a0.cn b6
  have a2 := a2.cn b6
  have a8 := a8.ext b6
  have hC := hC.ext b6
  have hO := i3
  have h0 := h0.sub (M' := (PastL b5 [] a1 d7 (b9 ++ (c0 ++ ([]))))) (fun g hg => .inl hg.1)
  have a8 := a8.sub (M' := (PastL b5 [] a1 d7 (b9 ++ (c0 ++ ([]))))) (fun g hg => .inl hg.1)
  have hO := hO.perm (R := b9 ++ (c0 ++ (([a4]) ++ (([a3]) ++ ([]))))) (by simp)
  obtain ⟨g0, i4, a9, e6⟩ := box_store (P := Try.prog) a2 [] [(.slice none 0 0), (.slice none 0 0), (.bool false)] [] [(.slice d8 d9 e0), (.slice e1 e2 e3), (.bool r37.2.2)] rfl rfl (by intro u hu; simp only [List.mem_cons, List.not_mem_nil, or_false] at hu; rcases hu with rfl | rfl | rfl <;> rfl)
  refine pl_skip (w' := g0) (ys_store rfl rfl (i4 _ _ rfl Sz89)) ?_
  have hO := hO.fr2
  have h0 := h0.mt a9 hO same_
  have a0 := a0.ap a9 hO same_ (mem_r (mem_r (mem_l (List.mem_singleton.2 rfl))))
  have a8 := a8.mt a9 hO same_
  have e4 := e4.ma a9 hO same_ (fun _ e => (mem_l (e)))
  have e5 := e5.ma a9 hO same_ (fun _ e => (mem_r (mem_l (e))))
  have hC := hC.st a9 hO same_
  have hO := hO.ext a9
  have e6 : BoxV g0 a4 89 [(.slice d8 d9 e0), (.slice e1 e2 e3), (.bool r37.2.2)] := e6
  refine c_nil ?_
  refine wp_ret ?_
  cases hs
  have hO := hO.drop
  have hO := hO.fr2
  have hO := hO.drop
  have hO := hO.fr1
  have hO := hO.fr1
  exact ⟨_, a4, d8, d9, e0, b9, e1, e2, e3, c0, fr_ovl 27 ⟨rfl, trivial⟩, e6, hC, (KeepsF.out hK hO.allM e4), (KeepsF.out hK hO.allM e5), hO.top⟩

theorem Bd77 : Bodied Try.prog 77 := bodied Try.func77 (by kernel_rfl) rfl

theorem Bd78 : Bodied Try.prog 78 := bodied Try.func78 (by kernel_rfl) rfl

def k_spec_l17Clone (M : Nat → Prop) (w0 : World) (r : (List (List Int)) × Bool) (a : Act) (w : World) : Prop :=
  ∃ (σ : Nat → Value) (ra0 : Option Addr) (rn0 rc0 : Nat), a = fr 21 (ovl σ [(2, (.slice ra0 rn0 rc0)), (3, (.bool r.2))]) ∧ Chg [] w0 w ∧ (RT.rs (RT.rs (RT.int .i64))).val (Past M w0 w) w (.slice ra0 rn0 rc0) r.1 []
def s_spec_l17Clone (a_ : Int × (List (Int × (List Int)))) : Option ((List (List Int)) × Bool) :=
  ((s_spec_l2Good (a_.1, a_.2)).bind fun r7 =>
  (bif (!r7) then some true else some (decide (3 < a_.1)))).bind fun s3 =>
  (bif s3 then some ([], false) else (s_spec_l12Clone (a_.1, a_.2) 3).bind fun r14 =>
  some (r14.1, (!r14.2.2)))
set_option maxHeartbeats 4000000 in
theorem c_spec_l17Clone {M : Nat → Prop} {w : World} {pa0 : Option Addr} {pn0 pc0 : Nat} (a_ : Int × (List (Int × (List Int)))) (h0 : (RT.rs (RT.pr (RT.int .i64) (RT.rs (RT.int .i64)))).val M w (.slice pa0 pn0 pc0) a_.2 ([])) (hM : ∀ g, w.heap.size ≤ g → M g) {r : (List (List Int)) × Bool} (hs : s_spec_l17Clone a_ = some r) :
    Gives Try.prog 38 [(.agg #[(.int .i64 a_.1), (.slice pa0 pn0 pc0)])] w (fun v w' => ∃ (ra0 : Option Addr) (rn0 rc0 : Nat), v = (.tuple #[(.slice ra0 rn0 rc0), (.bool r.2)]) ∧ Chg [] w w' ∧ (RT.rs (RT.rs (RT.int .i64))).val (Past M w w') w' (.slice ra0 rn0 rc0) r.1 []) := by
 refine calls_fr Try.func38 rfl Try.ntmps38 (Nat.le_of_ble_eq_true rfl) ?_
 have hO := Own.start (N := Nw w []) hM Nw.fut
 have hC := Chg.refl [] w
 unfold s_spec_l17Clone at hs
 refine wp_mono (Q := KPost (k_spec_l17Clone M w r)) ?_ (fun e a f5 h => ?_)
 rotate_left
 ·cases e
  case ret =>
   obtain ⟨σ, ra0, rn0, rc0, rfl, hrest⟩ := h
   exact ret2x Try.results38 (res_tmp rfl) (res_tmp rfl) ⟨ra0, rn0, rc0, rfl, hrest⟩
  all_goals exact (h : False).elim
 refine c_sr ?_
 obtain ⟨c3, b1, d6, d0, c4, a0⟩ := new_block w [(.int .i64 a_.1), (.slice pa0 pn0 pc0)] 30
 refine pl_val (w' := c3) (.pointer (some ⟨b1, 0, none⟩)) (y_box rfl (by rw [d6, d0]; kernel_rfl)) ?_
 have h0 := h0.ext c4
 have hC := hC.ext c4
 have hO := hO.new1 c4 d0 a0.lt
 refine pl_val (.slice none 0 0) (y_assign rfl) ?_
 refine pl_val (.bool false) (y_assign rfl) ?_
 refine c_nil ?_
 refine c_seq ?_
 refine c_seq ?_
 obtain ⟨s3, d7, hs⟩ := bind_some hs
 refine c_mid (I := fun a b2 => ∃ (σ : Nat → Value), a = fr 21 (ovl σ [(1, (.pointer (some ⟨b1, 0, none⟩))), (2, (.slice none 0 0)), (3, (.bool false)), (12, (.bool s3))]) ∧ Chg [] c3 b2) ?_ ?_
 ·replace hs := d7
  have hMid := Chg.refl [] c3
  refine c_region ?_
  refine pl_val (.agg #[(.int .i64 a_.1), (.slice pa0 pn0 pc0)]) (y_load rfl ((box_load Ag30 Sz30 a0 [] [(.int .i64 a_.1), (.slice pa0 pn0 pc0)] [] rfl rfl (fun h => nomatch h)) _ (Chg.refl _ _))) ?_
  obtain ⟨r7, d8, hs⟩ := bind_some hs
  refine pl_call Bd77 rfl (c_spec_l2Good (M := M) (a_.1, a_.2) h0 hO.fut d8) ?_
  rintro _ f6 ⟨rfl, b3⟩
  have h0 := h0.ext b3
  have a0 := a0.cn b3
  have hMid := hMid.ext b3
  have hC := hC.ext b3
  have hO := hO.ext b3
  refine pl_val (.bool (!r7)) (y_not rfl) ?_
  refine pl_val (.bool (!r7)) (y_move rfl) ?_
  rcases bif_some hs with ⟨a1, hs⟩ | ⟨a1, hs⟩
  ·skip
   refine pl_not (tg := 8) (by kernel_rfl) (congrArg Value.bool a1) ?_
   refine pl_not (tg := 8) (by kernel_rfl) (congrArg Value.bool a1) ?_
   refine pl_not (tg := 8) (by kernel_rfl) (congrArg Value.bool a1) ?_
   refine pl_val (.bool true) (y_pick_t (congrArg Value.bool a1) rfl) ?_
   refine c_nil ?_
   cases hs
   exact ⟨_, fr_ovl 21 ⟨rfl, rfl, rfl, rfl, trivial⟩, hMid⟩
  refine pl_yes (.pointer (some ⟨b1, 0, none⟩)) (tg := 8) (by kernel_rfl) (congrArg Value.bool a1) (y_faddr rfl Fa30x0) ?_
  refine pl_yes (.int .i64 a_.1) (tg := 8) (by kernel_rfl) (congrArg Value.bool a1) (y_load rfl ((box_load Ag3 Sz3 a0 [] [(.int .i64 a_.1)] [(.slice pa0 pn0 pc0)] rfl rfl (fun _ => rfl)) _ (Chg.refl _ _))) ?_
  refine pl_yes (.bool (decide (3 < a_.1))) (tg := 8) (by kernel_rfl) (congrArg Value.bool a1) (y_gtr rfl rfl) ?_
  refine pl_val (.bool (decide (3 < a_.1))) (y_pick_f (congrArg Value.bool a1) rfl) ?_
  refine c_nil ?_
  cases hs
  exact ⟨_, fr_ovl 21 ⟨rfl, rfl, rfl, rfl, trivial⟩, hMid⟩
 rintro f7 b2 ⟨σ, rfl, b5⟩
 have h0 := h0.ext b5
 have a0 := a0.cn b5
 have hC := hC.ext b5
 have hO := hO.ext b5
 rcases bif_some hs with ⟨c5, hs⟩ | ⟨c5, hs⟩
 ·refine c_condT (congrArg Value.bool c5) ?_
  refine c_sr ?_
  obtain ⟨d1, b4, d9, d2, b6, d3⟩ := new_block b2 [] 37
  refine pl_val (w' := d1) (.slice (some ⟨b4, 0, none⟩) 0 0) (y_bslice rfl (by rw [d9, d2]; kernel_rfl)) ?_
  have h0 := h0.ext b6
  have a0 := a0.cn b6
  have hC := hC.ext b6
  have hO := hO.new1 b6 d2 d3.lt
  have c6 := os_of_box (r := (RT.os 3 (RT.int .i64))) (M := M) (css := []) (fps := []) (xs := ([] : List (List Int))) d3 trivial (Nat.zero_le _) (List.nodup_cons.2 ⟨(fun h => nomatch h), List.nodup_nil⟩)
  have c6 : (RT.os 37 (RT.os 3 (RT.int .i64))).val M d1 (.slice (some ⟨b4, 0, none⟩) 0 0) [] [b4] := c6
  refine pl_val (.slice (some ⟨b4, 0, none⟩) 0 0) (y_assign rfl) ?_
  refine pl_val (.bool false) (y_assign rfl) ?_
  refine c_nil ?_
  refine wp_ret ?_
  cases hs
  obtain ⟨e0, f8, e1, e2, hO, e3⟩ := frz_own (Frz.os (Frz.os Frz.int)) c6 hO
  have h0 := h0.sub (M' := e0) e1
  have hK := e2
  exact ⟨_, (some ⟨b4, 0, none⟩), 0, 0, fr_ovl 21 ⟨rfl, rfl, trivial⟩, hC, (Keeps.out hK e3)⟩
 refine c_condF (congrArg Value.bool c5) ?_
 refine wp_skip ?_
 refine c_sr ?_
 refine pl_val (.agg #[(.int .i64 a_.1), (.slice pa0 pn0 pc0)]) (y_load rfl ((box_load Ag30 Sz30 a0 [] [(.int .i64 a_.1), (.slice pa0 pn0 pc0)] [] rfl rfl (fun h => nomatch h)) _ (Chg.refl _ _))) ?_
 obtain ⟨r14, e4, hs⟩ := bind_some hs
 refine pl_call Bd78 rfl (c_spec_l12Clone (M := M) (a_.1, a_.2) 3 h0 hO.fut e4) ?_
 rintro _ c7 ⟨a3, a4, a5, c8, b7, b8, b9, c9, rfl, c0, a6, a2, e5⟩
 have hO := hO.perm (R := [] ++ (([b1]) ++ ([]))) (by simp)
 have e6 := Own.pastL hO c0 e5
 have hK := (show Keeps w M (PastL M [] b2 c7 (c8 ++ (c9 ++ ([])))) from Keeps.pastL hC.size (fun g hg => (hO.inN g hg).resolve_left (fun h => nomatch h)))
 have h0 := h0.ext c0
 have a0 := a0.cn c0
 have hC := hC.ext c0
 have hO := e6
 have h0 := h0.sub (M' := (PastL M [] b2 c7 (c8 ++ (c9 ++ ([]))))) (fun g hg => .inl hg.1)
 have hO := hO.perm (R := c8 ++ (c9 ++ (([b1]) ++ ([])))) (by simp)
 obtain ⟨e7, c1, e8, d4, a8, d5⟩ := new_block c7 [(.slice none 0 0), (.slice none 0 0), (.bool false)] 89
 refine pl_val (w' := e7) (.pointer (some ⟨c1, 0, none⟩)) (y_alloc (by rw [e8, d4]; kernel_rfl)) ?_
 have h0 := h0.ext a8
 have a0 := a0.cn a8
 have a6 := a6.ext a8
 have a2 := a2.ext a8
 have hC := hC.ext a8
 have hO := hO.new1 a8 d4 d5.lt
 obtain ⟨c2, e9, a9, b0⟩ := box_store (P := Try.prog) d5 [] [(.slice none 0 0), (.slice none 0 0), (.bool false)] [] [(.slice a3 a4 a5), (.slice b7 b8 b9), (.bool r14.2.2)] rfl rfl (by intro u hu; simp only [List.mem_cons, List.not_mem_nil, or_false] at hu; rcases hu with rfl | rfl | rfl <;> rfl)
 refine pl_skip (w' := c2) (ys_store rfl rfl (e9 _ _ rfl Sz89)) ?_
 have h0 := h0.mt a9 hO same_
 have a0 := a0.ap a9 hO same_ (mem_r (mem_r (mem_l (List.mem_singleton.2 rfl))))
 have a6 := a6.ma a9 hO same_ (fun _ e => (mem_l (e)))
 have a2 := a2.ma a9 hO same_ (fun _ e => (mem_r (mem_l (e))))
 have hC := hC.st a9 hO same_
 have hO := hO.ext a9
 have b0 : BoxV c2 c1 89 [(.slice a3 a4 a5), (.slice b7 b8 b9), (.bool r14.2.2)] := b0
 refine c_nil ?_
 refine c_seq ?_
 refine x_start [] Mx rfl ?_
 have a7 := Chg.drew c2
 generalize World.drew c2 = f0 at a7 ⊢
 have a0 := a0.cn a7
 have a6 := a6.ext a7
 have a2 := a2.ext a7
 have b0 := b0.cn a7
 have hC := hC.ext a7
 have hO := hO.ext a7
 have hS := Chg.refl [] f0
 refine x_p 0 (.pointer (some ⟨c1, 0, none⟩)) rfl (by kernel_rfl)  (fun _ => y_faddr rfl Fa89x0) (fun _ => hS) ?_
 refine x_l 1 (.slice a3 a4 a5) rfl (by kernel_rfl)  (fun w' hw' => y_load rfl ((box_load Ag47 Sz47 b0 [] [(.slice a3 a4 a5)] [(.slice b7 b8 b9), (.bool r14.2.2)] rfl rfl (fun _ => rfl)) w' hw')) hS ?_
 refine x_p 2 (.pointer (some ⟨c1, 2, none⟩)) rfl (by kernel_rfl)  (fun _ => y_faddr rfl Fa89x2) (fun _ => hS) ?_
 refine x_l 3 (.bool r14.2.2) rfl (by kernel_rfl)  (fun w' hw' => y_load rfl ((box_load Ag4 Sz4 b0 [(.slice a3 a4 a5), (.slice b7 b8 b9)] [(.bool r14.2.2)] [] rfl rfl (fun _ => rfl)) w' hw')) hS ?_
 refine x_p 4 (.bool (!r14.2.2)) rfl (by kernel_rfl)  (fun _ => y_not rfl) (fun _ => hS) ?_
 refine x_p 5 (.slice a3 a4 a5) rfl (by kernel_rfl)  (fun _ => y_assign rfl) (fun _ => hS) ?_
 refine x_p 6 (.bool (!r14.2.2)) rfl (by kernel_rfl)  (fun _ => y_assign rfl) (fun _ => hS) ?_
 refine x_end (by kernel_rfl) ?_
 clear hS
 refine wp_ret ?_
 cases hs
 have hO := hO.fr1
 obtain ⟨f1, f9, f2, f3, hO, f4⟩ := frz_own (Frz.os (Frz.rs Frz.int)) a6 hO
 have a2 := a2.sub (M' := f1) f2
 have hK := hK.trans f3
 exact ⟨_, a3, a4, a5, fr_ovl 21 ⟨rfl, rfl, trivial⟩, hC, (Keeps.out hK f4)⟩

def k_spec_l17Value (M : Nat → Prop) (w0 : World) (r : Int) (a : Act) (w : World) : Prop :=
  ∃ (σ : Nat → Value) , a = fr 25 (ovl σ [(10, (.int .i64 r))]) ∧ Chg [] w0 w
def s_spec_l17Value (n : Int) (f : List Int) (x_ : Int) (y : Int) (z : Int) : Option (Int) :=
  (idx f (w64 ((w64 ((w64 ((w64 (x_ * n)) * n)) + (w64 (y * n)))) + z))).bind fun x2 =>
  some x2
set_option maxHeartbeats 4000000 in
theorem c_spec_l17Value {M : Nat → Prop} {w : World} {pa0 : Option Addr} {pn0 pc0 : Nat} (n : Int) (f : List Int) (x_ : Int) (y : Int) (z : Int) (h0 : (RT.rs (RT.int .i64)).val M w (.slice pa0 pn0 pc0) f ([])) (hM : ∀ g, w.heap.size ≤ g → M g) {r : Int} (hs : s_spec_l17Value n f x_ y z = some r) :
    Gives Try.prog 79 [(.int .i64 n), (.slice pa0 pn0 pc0), (.int .i64 x_), (.int .i64 y), (.int .i64 z)] w (fun v w' => v = (.int .i64 r) ∧ Chg [] w w') := by
 refine calls_fr Try.func79 rfl Try.ntmps79 (Nat.le_of_ble_eq_true rfl) ?_
 have hO := Own.start (N := Nw w []) hM Nw.fut
 have hC := Chg.refl [] w
 unfold s_spec_l17Value at hs
 refine wp_mono (Q := KPost (k_spec_l17Value M w r)) ?_ (fun e a a5 h => ?_)
 rotate_left
 ·cases e
  case ret =>
   obtain ⟨σ, rfl, hrest⟩ := h
   exact ret1x Try.results79 (res_tmp rfl) ⟨rfl, hrest⟩
  all_goals exact (h : False).elim
 refine c_sr ?_
 refine pl_val (.int .i64 0) (y_assign rfl) ?_
 refine c_nil ?_
 refine c_sr ?_
 refine pl_val (.slice pa0 pn0 pc0) (y_move rfl) ?_
 refine pl_val (.int .i64 x_) (y_move rfl) ?_
 refine pl_val (.int .i64 n) (y_move rfl) ?_
 refine pl_val (.int .i64 (w64 (x_ * n))) (y_mul rfl rfl) ?_
 refine pl_val (.int .i64 n) (y_move rfl) ?_
 refine pl_val (.int .i64 (w64 ((w64 (x_ * n)) * n))) (y_mul rfl rfl) ?_
 refine pl_val (.int .i64 y) (y_move rfl) ?_
 refine pl_val (.int .i64 n) (y_move rfl) ?_
 refine pl_val (.int .i64 (w64 (y * n))) (y_mul rfl rfl) ?_
 refine pl_val (.int .i64 (w64 ((w64 ((w64 (x_ * n)) * n)) + (w64 (y * n))))) (y_add rfl rfl) ?_
 refine pl_val (.int .i64 z) (y_move rfl) ?_
 refine pl_val (.int .i64 (w64 ((w64 ((w64 ((w64 (x_ * n)) * n)) + (w64 (y * n)))) + z))) (y_add rfl rfl) ?_
 obtain ⟨x2, a0, hs⟩ := bind_some hs
 obtain ⟨a1, a2, a3, a4⟩ := rs_idx Sl37 Sz3 h0 a0
 refine pl_val (.pointer (some ⟨a1, a2, none⟩)) (a3 _ _ _ _ _ _ _ _ _ rfl rfl) ?_
 refine pl_val (.int .i64 x2) (y_load rfl ((at_load_int Ag3 Sz3 a4) _ (Chg.refl _ _))) ?_
 refine pl_val (.int .i64 x2) (y_assign rfl) ?_
 refine c_nil ?_
 refine wp_ret ?_
 cases hs
 exact ⟨_, fr_ovl 25 ⟨rfl, trivial⟩, hC⟩

theorem Bd79 : Bodied Try.prog 79 := bodied Try.func79 (by kernel_rfl) rfl

def k_spec_l17Part (M : Nat → Prop) (w0 : World) (r : (List Int)) (a : Act) (w : World) : Prop :=
  ∃ (σ : Nat → Value) (ra0 : Option Addr) (rn0 rc0 : Nat) (rf0 : List Nat), a = fr 54 (ovl σ [(6, (.slice ra0 rn0 rc0))]) ∧ Chg [] w0 w ∧ (RT.os 3 (RT.int .i64)).val M w (.slice ra0 rn0 rc0) r rf0 ∧ Own (Nw w0 []) (fun _ => True) w (rf0 ++ ([]))
def s_spec_l17Part (n : Int) (f : List Int) (way : Int) : Option ((List Int)) :=
  (forC (S := (List Int)) (R := (List Int)) (fun k66 s64 =>
  (forC (S := (List Int)) (R := (List Int)) (fun k101 s99 =>
  (bif (way == 0) then (s_spec_l17Value n f k66 k101 k66).bind fun r111 =>
  (app s99 ([r111])).bind fun y115 =>
  some (.nx y115) else (bif (way == 1) then (s_spec_l17Value n f k66 k66 k101).bind fun r119 =>
  (app s99 ([r119])).bind fun y123 =>
  some (.nx y123) else (s_spec_l17Value n f k66 k101 k101).bind fun r126 =>
  (app s99 ([r126])).bind fun y130 =>
  some (.nx y130)))) 0 n s64).bind fun o103 => after o103 (fun r_ => some (.rt r_)) (fun s99 =>
  some (.nx s99))) 0 n ([])).bind fun o68 => after o68 (fun r_ => some r_) (fun s64 =>
  some s64)
set_option maxHeartbeats 4000000 in
theorem c_spec_l17Part {M : Nat → Prop} {w : World} {pa0 : Option Addr} {pn0 pc0 : Nat} (n : Int) (f : List Int) (way : Int) (h0 : (RT.rs (RT.int .i64)).val M w (.slice pa0 pn0 pc0) f ([])) (hM : ∀ g, w.heap.size ≤ g → M g) {r : (List Int)} (hs : s_spec_l17Part n f way = some r) :
    Gives Try.prog 67 [(.int .i64 n), (.slice pa0 pn0 pc0), (.int .i64 way)] w (fun v w' => ∃ (ra0 : Option Addr) (rn0 rc0 : Nat) (rf0 : List Nat), v = (.slice ra0 rn0 rc0) ∧ Chg [] w w' ∧ (RT.os 3 (RT.int .i64)).val M w' (.slice ra0 rn0 rc0) r rf0 ∧ Own (Nw w []) (fun _ => True) w' (rf0 ++ ([]))) := by
 refine calls_fr Try.func67 rfl Try.ntmps67 (Nat.le_of_ble_eq_true rfl) ?_
 have hO := Own.start (N := Nw w []) hM Nw.fut
 have hC := Chg.refl [] w
 unfold s_spec_l17Part at hs
 refine wp_mono (Q := KPost (k_spec_l17Part M w r)) ?_ (fun e a f3 h => ?_)
 rotate_left
 ·cases e
  case ret =>
   obtain ⟨σ, ra0, rn0, rc0, rf0, rfl, hrest⟩ := h
   exact ret1x Try.results67 (res_tmp rfl) ⟨ra0, rn0, rc0, rf0, rfl, hrest⟩
  all_goals exact (h : False).elim
 refine c_sr ?_
 refine pl_val (.slice none 0 0) (y_assign rfl) ?_
 refine c_nil ?_
 refine c_sr ?_
 obtain ⟨f4, a6, g9, f5, c6, f6⟩ := new_block w [] 3
 refine pl_val (w' := f4) (.slice (some ⟨a6, 0, none⟩) 0 0) (y_bslice rfl (by rw [g9, f5]; kernel_rfl)) ?_
 have h0 := h0.ext c6
 have hC := hC.ext c6
 have hO := hO.new1 c6 f5 f6.lt
 have c7 := os_of_box (r := (RT.int .i64)) (M := M) (css := []) (fps := []) (xs := ([] : List Int)) f6 trivial (Nat.zero_le _) (List.nodup_cons.2 ⟨(fun h => nomatch h), List.nodup_nil⟩)
 have c7 : (RT.os 3 (RT.int .i64)).val M f4 (.slice (some ⟨a6, 0, none⟩) 0 0) [] [a6] := c7
 refine pl_val (.slice (some ⟨a6, 0, none⟩) 0 0) (y_assign rfl) ?_
 refine c_nil ?_
 refine c_seq ?_
 refine c_sr ?_
 refine pl_val (.int .i64 0) (y_assign rfl) ?_
 refine c_nil ?_
 obtain ⟨o68, h1, hs⟩ := bind_some hs
 refine wp_block ?_
 refine wp_forC (id := 0) n (I := fun k66 s64 a a1 => ∃ (σ : Nat → Value) (a7 : Option Addr) (a8 : Nat) (a9 : Nat) (b0 : List Nat), a = fr 54 (ovl σ [(0, (.int .i64 n)), (1, (.slice pa0 pn0 pc0)), (2, (.int .i64 way)), (7, (.slice a7 a8 a9)), (8, (.int .i64 k66))]) ∧ Chg [] w a1 ∧ Own (Nw w []) M a1 (b0 ++ []) ∧ (RT.rs (RT.int .i64)).val M a1 (.slice pa0 pn0 pc0) f ([]) ∧ (RT.os 3 (RT.int .i64)).val M a1 (.slice a7 a8 a9) s64 b0) (J := fun s64 a a1 => ∃ (σ : Nat → Value) (b1 : Option Addr) (b2 : Nat) (b3 : Nat) (b5 : List Nat), a = fr 54 (ovl σ [(7, (.slice b1 b2 b3))]) ∧ Chg [] w a1 ∧ Own (Nw w []) M a1 (b5 ++ []) ∧ (RT.rs (RT.int .i64)).val M a1 (.slice pa0 pn0 pc0) f ([]) ∧ (RT.os 3 (RT.int .i64)).val M a1 (.slice b1 b2 b3) s64 b5) (K := (k_spec_l17Part M w)) ?_ ?_ 0 ([]) o68 _ _ ?_ h1 ?_
 ·rintro k66 s64 a a1 ⟨σ, a7, a8, a9, b0, rfl, hC, hO, h0, c8⟩ hlt
  refine c_seq ?_
  refine c_sr ?_
  refine pl_val (.int .i64 k66) (y_move rfl) ?_
  refine pl_val (.int .i64 n) (y_move rfl) ?_
  refine pl_val (.bool (decide (k66 < n))) (y_lss rfl rfl) ?_
  refine c_nil ?_
  refine c_condF (congrArg Value.bool (decide_eq_false hlt)) ?_
  refine wp_exit ?_
  exact ⟨rfl, _, a7, a8, a9, b0, fr_ovl 54 ⟨rfl, trivial⟩, hC, hO, h0, c8⟩
 ·rintro k66 s64 o68 a a1 ⟨σ, a7, a8, a9, b0, rfl, hC, hO, h0, c8⟩ hlt hw hs
  refine c_seq ?_
  refine c_sr ?_
  refine pl_val (.int .i64 k66) (y_move rfl) ?_
  refine pl_val (.int .i64 n) (y_move rfl) ?_
  refine pl_val (.bool (decide (k66 < n))) (y_lss rfl rfl) ?_
  refine c_nil ?_
  refine c_condT (congrArg Value.bool (decide_eq_true hlt)) ?_
  refine wp_skip ?_
  refine c_seq ?_
  refine wp_block ?_
  refine c_sr ?_
  refine pl_val (.int .i64 0) (y_assign rfl) ?_
  refine c_nil ?_
  obtain ⟨o103, h2, hs⟩ := bind_some hs
  refine wp_block ?_
  refine wp_forC (id := 2) n (I := fun k101 s99 a a2 => ∃ (σ : Nat → Value) (a3 : Option Addr) (a4 : Nat) (a5 : Nat) (b4 : List Nat), a = fr 54 (ovl σ [(0, (.int .i64 n)), (1, (.slice pa0 pn0 pc0)), (2, (.int .i64 way)), (7, (.slice a3 a4 a5)), (8, (.int .i64 k66)), (9, (.int .i64 k101))]) ∧ Chg [] w a2 ∧ Own (Nw w []) M a2 (b4 ++ []) ∧ (RT.rs (RT.int .i64)).val M a2 (.slice pa0 pn0 pc0) f ([]) ∧ (RT.os 3 (RT.int .i64)).val M a2 (.slice a3 a4 a5) s99 b4) (J := fun s99 a a2 => ∃ (σ : Nat → Value) (b6 : Option Addr) (b7 : Nat) (b8 : Nat) (b9 : List Nat), a = fr 54 (ovl σ [(0, (.int .i64 n)), (1, (.slice pa0 pn0 pc0)), (2, (.int .i64 way)), (7, (.slice b6 b7 b8)), (8, (.int .i64 k66))]) ∧ Chg [] w a2 ∧ Own (Nw w []) M a2 (b9 ++ []) ∧ (RT.rs (RT.int .i64)).val M a2 (.slice pa0 pn0 pc0) f ([]) ∧ (RT.os 3 (RT.int .i64)).val M a2 (.slice b6 b7 b8) s99 b9) (K := (k_spec_l17Part M w)) ?_ ?_ 0 s64 o103 _ _ ?_ h2 ?_
  ·rintro k101 s99 a a2 ⟨σ, a3, a4, a5, b4, rfl, hC, hO, h0, a0⟩ hlt
   refine c_seq ?_
   refine c_sr ?_
   refine pl_val (.int .i64 k101) (y_move rfl) ?_
   refine pl_val (.int .i64 n) (y_move rfl) ?_
   refine pl_val (.bool (decide (k101 < n))) (y_lss rfl rfl) ?_
   refine c_nil ?_
   refine c_condF (congrArg Value.bool (decide_eq_false hlt)) ?_
   refine wp_exit ?_
   exact ⟨rfl, _, a3, a4, a5, b4, fr_ovl 54 ⟨rfl, rfl, rfl, rfl, rfl, trivial⟩, hC, hO, h0, a0⟩
  ·rintro k101 s99 o103 a a2 ⟨σ, a3, a4, a5, b4, rfl, hC, hO, h0, a0⟩ hlt hw hs
   refine c_seq ?_
   refine c_sr ?_
   refine pl_val (.int .i64 k101) (y_move rfl) ?_
   refine pl_val (.int .i64 n) (y_move rfl) ?_
   refine pl_val (.bool (decide (k101 < n))) (y_lss rfl rfl) ?_
   refine c_nil ?_
   refine c_condT (congrArg Value.bool (decide_eq_true hlt)) ?_
   refine wp_skip ?_
   refine c_seq ?_
   refine wp_block ?_
   refine c_sr ?_
   refine pl_val (.int .i64 way) (y_move rfl) ?_
   refine c_nil ?_
   refine wp_block ?_
   refine c_sr ?_
   refine pl_val (.bool (way == 0)) (y_eql rfl rfl) ?_
   refine pl_val (.bool (way == 0)) (y_assign rfl) ?_
   refine c_nil ?_
   rcases bif_some hs with ⟨c9, hs⟩ | ⟨c9, hs⟩
   ·refine c_condT (congrArg Value.bool c9) ?_
    refine c_region ?_
    refine pl_val (.slice a3 a4 a5) (y_move rfl) ?_
    refine pl_val (.int .i64 n) (y_move rfl) ?_
    refine pl_val (.slice pa0 pn0 pc0) (y_move rfl) ?_
    refine pl_val (.int .i64 k66) (y_move rfl) ?_
    refine pl_val (.int .i64 k101) (y_move rfl) ?_
    refine pl_val (.int .i64 k66) (y_move rfl) ?_
    obtain ⟨r111, h3, hs⟩ := bind_some hs
    refine pl_call Bd79 rfl (c_spec_l17Value (M := M) n f k66 k101 k66 h0 hO.fut h3) ?_
    rintro _ h4 ⟨rfl, c0⟩
    have h0 := h0.ext c0
    have a0 := a0.ext c0
    have hC := hC.ext c0
    have hO := hO.ext c0
    obtain ⟨f7, d0, h5, f8, c1, f9⟩ := new_block h4 [(.int .i64 r111)] 3
    refine pl_val (w' := f7) (.slice (some ⟨d0, 0, none⟩) 1 1) (y_bslice rfl (by rw [h5, f8]; kernel_rfl)) ?_
    have h0 := h0.ext c1
    have a0 := a0.ext c1
    have hC := hC.ext c1
    have hO := hO.new1 c1 f8 f9.lt
    have d1 := os_of_box (r := (RT.int .i64)) (M := M) (css := [[(.int .i64 r111)]]) (fps := [([] : List Nat)]) (xs := ([r111] : List Int)) f9 ⟨⟨rfl, rfl⟩, trivial⟩ (Nat.le_of_ble_eq_true rfl) (List.nodup_cons.2 ⟨(fun h => nomatch h), List.nodup_nil⟩)
    have d1 : (RT.os 3 (RT.int .i64)).val M f7 (.slice (some ⟨d0, 0, none⟩) 1 1) [r111] [d0] := d1
    obtain ⟨y115, h6, hs⟩ := bind_some hs
    have hO := hO.fr1
    obtain ⟨d2, d3, d4, h7, h8, h9, d5, i0, d6⟩ := app_os Rw37 h6 a0 d1 hO.inM (fun g hg hq => hO.apart g hq (mem_l hg))
    have g0 := os_block a0
    refine pl_val (w' := h7) (.slice d2 d3 d4) (y_append rfl rfl (h9 _)) ?_
    have hO := hO.fr1
    have hO := hO.fr1
    have h0 := h0.mt d5 hO g0
    have hC := hC.st d5 hO g0
    have hO := hO.eat d5 i0 (os_nodup d6) d6.fpl
    refine pl_val (.slice d2 d3 d4) (y_assign rfl) ?_
    refine c_nil ?_
    refine c_region ?_
    refine pl_val (.int .i64 k101) (y_move rfl) ?_
    refine pl_val (.int .i64 (w64 (k101 + 1))) (y_add rfl rfl) ?_
    refine pl_val (.int .i64 (w64 (k101 + 1))) (y_assign rfl) ?_
    refine c_nil ?_
    cases hs
    exact ⟨_, d2, d3, d4, h8, fr_ovl 54 ⟨rfl, rfl, rfl, rfl, rfl, congrArg (Value.int .i64) hw, trivial⟩, hC, hO, h0, d6⟩
   refine c_condF (congrArg Value.bool c9) ?_
   refine c_sr ?_
   refine pl_val (.bool (way == 1)) (y_eql rfl rfl) ?_
   refine pl_val (.bool (way == 1)) (y_assign rfl) ?_
   refine c_nil ?_
   rcases bif_some hs with ⟨d7, hs⟩ | ⟨d7, hs⟩
   ·refine c_condT (congrArg Value.bool d7) ?_
    refine c_region ?_
    refine pl_val (.slice a3 a4 a5) (y_move rfl) ?_
    refine pl_val (.int .i64 n) (y_move rfl) ?_
    refine pl_val (.slice pa0 pn0 pc0) (y_move rfl) ?_
    refine pl_val (.int .i64 k66) (y_move rfl) ?_
    refine pl_val (.int .i64 k66) (y_move rfl) ?_
    refine pl_val (.int .i64 k101) (y_move rfl) ?_
    obtain ⟨r119, i1, hs⟩ := bind_some hs
    refine pl_call Bd79 rfl (c_spec_l17Value (M := M) n f k66 k66 k101 h0 hO.fut i1) ?_
    rintro _ i2 ⟨rfl, c2⟩
    have h0 := h0.ext c2
    have a0 := a0.ext c2
    have hC := hC.ext c2
    have hO := hO.ext c2
    obtain ⟨g1, d8, i3, g2, c3, g3⟩ := new_block i2 [(.int .i64 r119)] 3
    refine pl_val (w' := g1) (.slice (some ⟨d8, 0, none⟩) 1 1) (y_bslice rfl (by rw [i3, g2]; kernel_rfl)) ?_
    have h0 := h0.ext c3
    have a0 := a0.ext c3
    have hC := hC.ext c3
    have hO := hO.new1 c3 g2 g3.lt
    have d9 := os_of_box (r := (RT.int .i64)) (M := M) (css := [[(.int .i64 r119)]]) (fps := [([] : List Nat)]) (xs := ([r119] : List Int)) g3 ⟨⟨rfl, rfl⟩, trivial⟩ (Nat.le_of_ble_eq_true rfl) (List.nodup_cons.2 ⟨(fun h => nomatch h), List.nodup_nil⟩)
    have d9 : (RT.os 3 (RT.int .i64)).val M g1 (.slice (some ⟨d8, 0, none⟩) 1 1) [r119] [d8] := d9
    obtain ⟨y123, i4, hs⟩ := bind_some hs
    have hO := hO.fr1
    obtain ⟨e0, e1, e2, i5, i6, i7, e3, i9, e4⟩ := app_os Rw37 i4 a0 d9 hO.inM (fun g hg hq => hO.apart g hq (mem_l hg))
    have g4 := os_block a0
    refine pl_val (w' := i5) (.slice e0 e1 e2) (y_append rfl rfl (i7 _)) ?_
    have hO := hO.fr1
    have hO := hO.fr1
    have h0 := h0.mt e3 hO g4
    have hC := hC.st e3 hO g4
    have hO := hO.eat e3 i9 (os_nodup e4) e4.fpl
    refine pl_val (.slice e0 e1 e2) (y_assign rfl) ?_
    refine c_nil ?_
    refine c_region ?_
    refine pl_val (.int .i64 k101) (y_move rfl) ?_
    refine pl_val (.int .i64 (w64 (k101 + 1))) (y_add rfl rfl) ?_
    refine pl_val (.int .i64 (w64 (k101 + 1))) (y_assign rfl) ?_
    refine c_nil ?_
    cases hs
    exact ⟨_, e0, e1, e2, i6, fr_ovl 54 ⟨rfl, rfl, rfl, rfl, rfl, congrArg (Value.int .i64) hw, trivial⟩, hC, hO, h0, e4⟩
   refine c_condF (congrArg Value.bool d7) ?_
   refine c_region ?_
   refine pl_val (.slice a3 a4 a5) (y_move rfl) ?_
   refine pl_val (.int .i64 n) (y_move rfl) ?_
   refine pl_val (.slice pa0 pn0 pc0) (y_move rfl) ?_
   refine pl_val (.int .i64 k66) (y_move rfl) ?_
   refine pl_val (.int .i64 k101) (y_move rfl) ?_
   refine pl_val (.int .i64 k101) (y_move rfl) ?_
   obtain ⟨r126, j0, hs⟩ := bind_some hs
   refine pl_call Bd79 rfl (c_spec_l17Value (M := M) n f k66 k101 k101 h0 hO.fut j0) ?_
   rintro _ j1 ⟨rfl, c4⟩
   have h0 := h0.ext c4
   have a0 := a0.ext c4
   have hC := hC.ext c4
   have hO := hO.ext c4
   obtain ⟨g5, e5, j2, g6, c5, g7⟩ := new_block j1 [(.int .i64 r126)] 3
   refine pl_val (w' := g5) (.slice (some ⟨e5, 0, none⟩) 1 1) (y_bslice rfl (by rw [j2, g6]; kernel_rfl)) ?_
   have h0 := h0.ext c5
   have a0 := a0.ext c5
   have hC := hC.ext c5
   have hO := hO.new1 c5 g6 g7.lt
   have e6 := os_of_box (r := (RT.int .i64)) (M := M) (css := [[(.int .i64 r126)]]) (fps := [([] : List Nat)]) (xs := ([r126] : List Int)) g7 ⟨⟨rfl, rfl⟩, trivial⟩ (Nat.le_of_ble_eq_true rfl) (List.nodup_cons.2 ⟨(fun h => nomatch h), List.nodup_nil⟩)
   have e6 : (RT.os 3 (RT.int .i64)).val M g5 (.slice (some ⟨e5, 0, none⟩) 1 1) [r126] [e5] := e6
   obtain ⟨y130, j3, hs⟩ := bind_some hs
   have hO := hO.fr1
   obtain ⟨e7, e8, e9, j4, j5, j6, f0, j7, f1⟩ := app_os Rw37 j3 a0 e6 hO.inM (fun g hg hq => hO.apart g hq (mem_l hg))
   have g8 := os_block a0
   refine pl_val (w' := j4) (.slice e7 e8 e9) (y_append rfl rfl (j6 _)) ?_
   have hO := hO.fr1
   have hO := hO.fr1
   have h0 := h0.mt f0 hO g8
   have hC := hC.st f0 hO g8
   have hO := hO.eat f0 j7 (os_nodup f1) f1.fpl
   refine pl_val (.slice e7 e8 e9) (y_assign rfl) ?_
   refine c_nil ?_
   refine c_region ?_
   refine pl_val (.int .i64 k101) (y_move rfl) ?_
   refine pl_val (.int .i64 (w64 (k101 + 1))) (y_add rfl rfl) ?_
   refine pl_val (.int .i64 (w64 (k101 + 1))) (y_assign rfl) ?_
   refine c_nil ?_
   cases hs
   exact ⟨_, e7, e8, e9, j5, fr_ovl 54 ⟨rfl, rfl, rfl, rfl, rfl, congrArg (Value.int .i64) hw, trivial⟩, hC, hO, h0, f1⟩
  ·skip
   exact ⟨_, a7, a8, a9, b0, fr_ovl 54 ⟨rfl, rfl, rfl, rfl, rfl, rfl, trivial⟩, hC, hO, h0, c8⟩
  cases o103 with
  | nx _ => exact True.intro
  | rt r_ =>
   have hs := after_rt hs
   intro f2 f3 hK
   cases hs
   exact hK
  | br s99 =>
   have hs := after_br hs
   rintro f2 a2 ⟨σ, b6, b7, b8, b9, rfl, hC, hO, h0, j8⟩
   refine c_region ?_
   refine pl_val (.int .i64 k66) (y_move rfl) ?_
   refine pl_val (.int .i64 (w64 (k66 + 1))) (y_add rfl rfl) ?_
   refine pl_val (.int .i64 (w64 (k66 + 1))) (y_assign rfl) ?_
   refine c_nil ?_
   cases hs
   exact ⟨_, b6, b7, b8, b9, fr_ovl 54 ⟨rfl, rfl, rfl, rfl, congrArg (Value.int .i64) hw, trivial⟩, hC, hO, h0, j8⟩
 ·skip
  exact ⟨_, (some ⟨a6, 0, none⟩), 0, 0, ([a6]), fr_ovl 54 ⟨rfl, rfl, rfl, rfl, rfl, trivial⟩, hC, hO, h0, c7⟩
 cases o68 with
 | nx _ => exact True.intro
 | rt r_ =>
  have hs := after_rt hs
  intro f2 f3 hK
  cases hs
  exact hK
 | br s64 =>
  have hs := after_br hs
  rintro f2 a1 ⟨σ, b1, b2, b3, b5, rfl, hC, hO, h0, j9⟩
  refine c_sr ?_
  refine pl_val (.slice b1 b2 b3) (y_move rfl) ?_
  refine pl_val (.slice b1 b2 b3) (y_assign rfl) ?_
  refine c_nil ?_
  refine wp_ret ?_
  cases hs
  exact ⟨_, b1, b2, b3, b5, fr_ovl 54 ⟨rfl, trivial⟩, hC, j9, hO.top⟩

def k_spec_l17Xs (M : Nat → Prop) (w0 : World) (r : (List Int)) (a : Act) (w : World) : Prop :=
  ∃ (σ : Nat → Value) (ra0 : Option Addr) (rn0 rc0 : Nat) (rf0 : List Nat), a = fr 5 (ovl σ [(2, (.slice ra0 rn0 rc0))]) ∧ Chg [] w0 w ∧ (RT.os 3 (RT.int .i64)).val M w (.slice ra0 rn0 rc0) r rf0 ∧ Own (Nw w0 []) (fun _ => True) w (rf0 ++ ([]))
def s_spec_l17Xs (n : Int) : Option ((List Int)) :=
  (s_spec_l12Projection n 2 0).bind fun r2 =>
  some r2
set_option maxHeartbeats 4000000 in
theorem c_spec_l17Xs {M : Nat → Prop} {w : World}  (n : Int)  (hM : ∀ g, w.heap.size ≤ g → M g) {r : (List Int)} (hs : s_spec_l17Xs n = some r) :
    Gives Try.prog 71 [(.int .i64 n)] w (fun v w' => ∃ (ra0 : Option Addr) (rn0 rc0 : Nat) (rf0 : List Nat), v = (.slice ra0 rn0 rc0) ∧ Chg [] w w' ∧ (RT.os 3 (RT.int .i64)).val M w' (.slice ra0 rn0 rc0) r rf0 ∧ Own (Nw w []) (fun _ => True) w' (rf0 ++ ([]))) := by
 refine calls_fr Try.func71 rfl Try.ntmps71 (Nat.le_of_ble_eq_true rfl) ?_
 have hO := Own.start (N := Nw w []) hM Nw.fut
 have hC := Chg.refl [] w
 unfold s_spec_l17Xs at hs
 refine wp_mono (Q := KPost (k_spec_l17Xs M w r)) ?_ (fun e a a5 h => ?_)
 rotate_left
 ·cases e
  case ret =>
   obtain ⟨σ, ra0, rn0, rc0, rf0, rfl, hrest⟩ := h
   exact ret1x Try.results71 (res_tmp rfl) ⟨ra0, rn0, rc0, rf0, rfl, hrest⟩
  all_goals exact (h : False).elim
 refine c_sr ?_
 refine pl_val (.slice none 0 0) (y_assign rfl) ?_
 refine c_nil ?_
 refine c_sr ?_
 refine pl_val (.int .i64 n) (y_move rfl) ?_
 obtain ⟨r2, a6, hs⟩ := bind_some hs
 refine pl_call Bd57 rfl (c_spec_l12Projection (M := M) n 2 0  hO.fut a6) ?_
 rintro _ a5 ⟨a0, a1, a2, a3, rfl, a4, a7, a8⟩
 have hC := hC.ext a4
 have hO := Own.join0 hO a4 a8
 have hO := hO.perm (R := a3 ++ ([])) (by simp)
 refine pl_val (.slice a0 a1 a2) (y_assign rfl) ?_
 refine c_nil ?_
 refine wp_ret ?_
 cases hs
 exact ⟨_, a0, a1, a2, a3, fr_ovl 5 ⟨rfl, trivial⟩, hC, a7, hO.top⟩

theorem Bd67 : Bodied Try.prog 67 := bodied Try.func67 (by kernel_rfl) rfl

theorem Bd71 : Bodied Try.prog 71 := bodied Try.func71 (by kernel_rfl) rfl

def k_spec_l17Fixed (M : Nat → Prop) (w0 : World) (r : Bool) (a : Act) (w : World) : Prop :=
  ∃ (σ : Nat → Value) , a = fr 11 (ovl σ [(4, (.bool r))]) ∧ Chg [] w0 w
def s_spec_l17Fixed (n : Int) (f : List Int) : Option (Bool) :=
  (s_spec_l17Part n f 0).bind fun r3 =>
  (s_spec_l17Xs n).bind fun r6 =>
  (s_spec_l1Same r3 r6).bind fun r9 =>
  some r9
set_option maxHeartbeats 4000000 in
theorem c_spec_l17Fixed {M : Nat → Prop} {w : World} {pa0 : Option Addr} {pn0 pc0 : Nat} (n : Int) (f : List Int) (h0 : (RT.rs (RT.int .i64)).val M w (.slice pa0 pn0 pc0) f ([])) (hM : ∀ g, w.heap.size ≤ g → M g) {r : Bool} (hs : s_spec_l17Fixed n f = some r) :
    Gives Try.prog 52 [(.int .i64 n), (.slice pa0 pn0 pc0)] w (fun v w' => v = (.bool r) ∧ Chg [] w w') := by
 refine calls_fr Try.func52 rfl Try.ntmps52 (Nat.le_of_ble_eq_true rfl) ?_
 have hO := Own.start (N := Nw w []) hM Nw.fut
 have hC := Chg.refl [] w
 unfold s_spec_l17Fixed at hs
 refine wp_mono (Q := KPost (k_spec_l17Fixed M w r)) ?_ (fun e a b2 h => ?_)
 rotate_left
 ·cases e
  case ret =>
   obtain ⟨σ, rfl, hrest⟩ := h
   exact ret1x Try.results52 (res_tmp rfl) ⟨rfl, hrest⟩
  all_goals exact (h : False).elim
 refine c_sr ?_
 refine pl_val (.bool false) (y_assign rfl) ?_
 refine c_nil ?_
 refine c_sr ?_
 refine pl_val (.int .i64 n) (y_move rfl) ?_
 refine pl_val (.slice pa0 pn0 pc0) (y_move rfl) ?_
 obtain ⟨r3, a7, hs⟩ := bind_some hs
 refine pl_call Bd67 rfl (c_spec_l17Part (M := M) n f 0 h0 hO.fut a7) ?_
 rintro _ b3 ⟨b4, b5, b6, a3, rfl, a4, a0, a8⟩
 have h0 := h0.ext a4
 have hC := hC.ext a4
 have hO := Own.join0 hO a4 a8
 have hO := hO.perm (R := a3 ++ ([])) (by simp)
 refine pl_val (.int .i64 n) (y_move rfl) ?_
 obtain ⟨r6, a9, hs⟩ := bind_some hs
 refine pl_call Bd71 rfl (c_spec_l17Xs (M := M) n  hO.fut a9) ?_
 rintro _ b7 ⟨b8, b9, c0, a6, rfl, a2, a5, b0⟩
 have h0 := h0.ext a2
 have a0 := a0.ext a2
 have hC := hC.ext a2
 have hO := Own.join0 hO a2 b0
 have hO := hO.perm (R := a6 ++ (a3 ++ ([]))) (by simp)
 have hO := hO.fr1
 obtain ⟨r9, b1, hs⟩ := bind_some hs
 refine pl_call Bd66 rfl (c_spec_l1Same (M := (Less (Less M a3) a6)) r3 r6 ((((Frz.os Frz.int)).val a0 Less.sub Less.not).sub Less.sub) (((Frz.os Frz.int)).val (a5.sub Less.sub) Less.sub Less.not) (hO.less).less.fut b1) ?_
 rintro _ c1 ⟨rfl, a1⟩
 have h0 := h0.ext a1
 have a0 := a0.ext a1
 have a5 := a5.ext a1
 have hC := hC.ext a1
 have hO := hO.ext a1
 refine pl_val (.bool r9) (y_assign rfl) ?_
 refine c_nil ?_
 refine wp_ret ?_
 cases hs
 exact ⟨_, fr_ovl 11 ⟨rfl, trivial⟩, hC⟩

theorem Rw56 : RowT Try.prog 56 4 1 [(.bool false)] := ⟨Try.underlying56, ⟨_, _, rfl, rfl, rfl, rfl, by decide⟩, rfl, by decide⟩

theorem Bd52 : Bodied Try.prog 52 := bodied Try.func52 (by kernel_rfl) rfl

def k_spec_l17Allowed (M : Nat → Prop) (w0 : World) (r : (List Bool)) (a : Act) (w : World) : Prop :=
  ∃ (σ : Nat → Value) (ra0 : Option Addr) (rn0 rc0 : Nat) (rf0 : List Nat), a = fr 30 (ovl σ [(6, (.slice ra0 rn0 rc0))]) ∧ Chg [] w0 w ∧ (RT.os 4 RT.bool).val M w (.slice ra0 rn0 rc0) r rf0 ∧ Own (Nw w0 []) (fun _ => True) w (rf0 ++ ([]))
def s_spec_l17Allowed (n : Int) (clone : List (List Int)) (fixed : Bool) : Option ((List Bool)) :=
  (forC (S := (List Bool)) (R := (List Bool)) (fun k25 s23 =>
  (bif (!fixed) then (app s23 ([true])).bind fun y37 =>
  some (.nx y37) else (idx clone k25).bind fun x39 =>
  (s_spec_l17Fixed n x39).bind fun r44 =>
  (app s23 ([r44])).bind fun y48 =>
  some (.nx y48))) 0 (clone.length : Int) ([])).bind fun o27 => after o27 (fun r_ => some r_) (fun s23 =>
  some s23)
set_option maxHeartbeats 4000000 in
theorem c_spec_l17Allowed {M : Nat → Prop} {w : World} {pa0 : Option Addr} {pn0 pc0 : Nat} (n : Int) (clone : List (List Int)) (fixed : Bool) (h0 : (RT.rs (RT.rs (RT.int .i64))).val M w (.slice pa0 pn0 pc0) clone ([])) (hM : ∀ g, w.heap.size ≤ g → M g) {r : (List Bool)} (hs : s_spec_l17Allowed n clone fixed = some r) :
    Gives Try.prog 104 [(.int .i64 n), (.slice pa0 pn0 pc0), (.bool fixed)] w (fun v w' => ∃ (ra0 : Option Addr) (rn0 rc0 : Nat) (rf0 : List Nat), v = (.slice ra0 rn0 rc0) ∧ Chg [] w w' ∧ (RT.os 4 RT.bool).val M w' (.slice ra0 rn0 rc0) r rf0 ∧ Own (Nw w []) (fun _ => True) w' (rf0 ++ ([]))) := by
 refine calls_fr Try.func104 rfl Try.ntmps104 (Nat.le_of_ble_eq_true rfl) ?_
 have hO := Own.start (N := Nw w []) hM Nw.fut
 have hC := Chg.refl [] w
 unfold s_spec_l17Allowed at hs
 refine wp_mono (Q := KPost (k_spec_l17Allowed M w r)) ?_ (fun e a e4 h => ?_)
 rotate_left
 ·cases e
  case ret =>
   obtain ⟨σ, ra0, rn0, rc0, rf0, rfl, hrest⟩ := h
   exact ret1x Try.results104 (res_tmp rfl) ⟨ra0, rn0, rc0, rf0, rfl, hrest⟩
  all_goals exact (h : False).elim
 refine c_sr ?_
 refine pl_val (.slice none 0 0) (y_assign rfl) ?_
 refine c_nil ?_
 refine c_sr ?_
 obtain ⟨d4, a4, e5, d5, b8, d6⟩ := new_block w [] 4
 refine pl_val (w' := d4) (.slice (some ⟨a4, 0, none⟩) 0 0) (y_bslice rfl (by rw [e5, d5]; kernel_rfl)) ?_
 have h0 := h0.ext b8
 have hC := hC.ext b8
 have hO := hO.new1 b8 d5 d6.lt
 have b9 := os_of_box (r := RT.bool) (M := M) (css := []) (fps := []) (xs := ([] : List Bool)) d6 trivial (Nat.zero_le _) (List.nodup_cons.2 ⟨(fun h => nomatch h), List.nodup_nil⟩)
 have b9 : (RT.os 4 RT.bool).val M d4 (.slice (some ⟨a4, 0, none⟩) 0 0) [] [a4] := b9
 refine pl_val (.slice (some ⟨a4, 0, none⟩) 0 0) (y_assign rfl) ?_
 refine c_nil ?_
 refine c_seq ?_
 refine c_sr ?_
 refine pl_val (.int .i64 0) (y_assign rfl) ?_
 refine c_nil ?_
 obtain ⟨o27, e6, hs⟩ := bind_some hs
 refine wp_block ?_
 refine wp_forC (id := 0) (clone.length : Int) (I := fun k25 s23 a a1 => ∃ (σ : Nat → Value) (a5 : Option Addr) (a6 : Nat) (a7 : Nat) (b3 : List Nat), a = fr 30 (ovl σ [(0, (.int .i64 n)), (1, (.slice pa0 pn0 pc0)), (2, (.bool fixed)), (7, (.slice a5 a6 a7)), (8, (.int .i64 k25))]) ∧ Chg [] w a1 ∧ Own (Nw w []) M a1 (b3 ++ []) ∧ (RT.rs (RT.rs (RT.int .i64))).val M a1 (.slice pa0 pn0 pc0) clone ([]) ∧ (RT.os 4 RT.bool).val M a1 (.slice a5 a6 a7) s23 b3) (J := fun s23 a a1 => ∃ (σ : Nat → Value) (a8 : Option Addr) (a9 : Nat) (b0 : Nat) (b5 : List Nat), a = fr 30 (ovl σ [(7, (.slice a8 a9 b0))]) ∧ Chg [] w a1 ∧ Own (Nw w []) M a1 (b5 ++ []) ∧ (RT.rs (RT.rs (RT.int .i64))).val M a1 (.slice pa0 pn0 pc0) clone ([]) ∧ (RT.os 4 RT.bool).val M a1 (.slice a8 a9 b0) s23 b5) (K := (k_spec_l17Allowed M w)) ?_ ?_ 0 ([]) o27 _ _ ?_ e6 ?_
 ·rintro k25 s23 a a1 ⟨σ, a5, a6, a7, b3, rfl, hC, hO, h0, a2⟩ hlt
  refine c_seq ?_
  refine c_sr ?_
  refine pl_val (.int .i64 k25) (y_move rfl) ?_
  refine pl_val (.slice pa0 pn0 pc0) (y_move rfl) ?_
  refine pl_val (.int .i64 (clone.length : Int)) (y_len' Sl47 (rs_len h0) rfl) ?_
  refine pl_val (.bool (decide (k25 < (clone.length : Int)))) (y_lss rfl rfl) ?_
  refine c_nil ?_
  refine c_condF (congrArg Value.bool (decide_eq_false hlt)) ?_
  refine wp_exit ?_
  exact ⟨rfl, _, a5, a6, a7, b3, fr_ovl 30 ⟨rfl, trivial⟩, hC, hO, h0, a2⟩
 ·rintro k25 s23 o27 a a1 ⟨σ, a5, a6, a7, b3, rfl, hC, hO, h0, a2⟩ hlt hw hs
  refine c_seq ?_
  refine c_sr ?_
  refine pl_val (.int .i64 k25) (y_move rfl) ?_
  refine pl_val (.slice pa0 pn0 pc0) (y_move rfl) ?_
  refine pl_val (.int .i64 (clone.length : Int)) (y_len' Sl47 (rs_len h0) rfl) ?_
  refine pl_val (.bool (decide (k25 < (clone.length : Int)))) (y_lss rfl rfl) ?_
  refine c_nil ?_
  refine c_condT (congrArg Value.bool (decide_eq_true hlt)) ?_
  refine wp_skip ?_
  refine c_seq ?_
  refine wp_block ?_
  refine c_region ?_
  refine pl_val (.slice a5 a6 a7) (y_move rfl) ?_
  refine pl_val (.bool fixed) (y_move rfl) ?_
  refine pl_val (.bool (!fixed)) (y_not rfl) ?_
  refine pl_val (.bool (!fixed)) (y_move rfl) ?_
  rcases bif_some hs with ⟨a0, hs⟩ | ⟨a0, hs⟩
  ·skip
   refine pl_not (tg := 19) (by kernel_rfl) (congrArg Value.bool a0) ?_
   refine pl_not (tg := 19) (by kernel_rfl) (congrArg Value.bool a0) ?_
   refine pl_not (tg := 19) (by kernel_rfl) (congrArg Value.bool a0) ?_
   refine pl_not (tg := 19) (by kernel_rfl) (congrArg Value.bool a0) ?_
   refine pl_not (tg := 19) (by kernel_rfl) (congrArg Value.bool a0) ?_
   refine pl_not (tg := 19) (by kernel_rfl) (congrArg Value.bool a0) ?_
   refine pl_val (.bool true) (y_pick_t (congrArg Value.bool a0) rfl) ?_
   obtain ⟨d7, c0, e7, d8, b6, d9⟩ := new_block a1 [(.bool true)] 4
   refine pl_val (w' := d7) (.slice (some ⟨c0, 0, none⟩) 1 1) (y_bslice rfl (by rw [e7, d8]; kernel_rfl)) ?_
   have h0 := h0.ext b6
   have a2 := a2.ext b6
   have hC := hC.ext b6
   have hO := hO.new1 b6 d8 d9.lt
   have c1 := os_of_box (r := RT.bool) (M := M) (css := [[(.bool true)]]) (fps := [([] : List Nat)]) (xs := ([true] : List Bool)) d9 ⟨⟨rfl, rfl⟩, trivial⟩ (Nat.le_of_ble_eq_true rfl) (List.nodup_cons.2 ⟨(fun h => nomatch h), List.nodup_nil⟩)
   have c1 : (RT.os 4 RT.bool).val M d7 (.slice (some ⟨c0, 0, none⟩) 1 1) [true] [c0] := c1
   obtain ⟨y37, e8, hs⟩ := bind_some hs
   have hO := hO.fr1
   obtain ⟨c2, c3, c4, e9, f0, f1, c5, f2, c6⟩ := app_os Rw56 e8 a2 c1 hO.inM (fun g hg hq => hO.apart g hq (mem_l hg))
   have e0 := os_block a2
   refine pl_val (w' := e9) (.slice c2 c3 c4) (y_append rfl rfl (f1 _)) ?_
   have hO := hO.fr1
   have hO := hO.fr1
   have h0 := h0.mt c5 hO e0
   have hC := hC.st c5 hO e0
   have hO := hO.eat c5 f2 (os_nodup c6) c6.fpl
   refine pl_val (.slice c2 c3 c4) (y_assign rfl) ?_
   refine c_nil ?_
   refine c_region ?_
   refine pl_val (.int .i64 k25) (y_move rfl) ?_
   refine pl_val (.int .i64 (w64 (k25 + 1))) (y_add rfl rfl) ?_
   refine pl_val (.int .i64 (w64 (k25 + 1))) (y_assign rfl) ?_
   refine c_nil ?_
   cases hs
   exact ⟨_, c2, c3, c4, f0, fr_ovl 30 ⟨rfl, rfl, rfl, rfl, congrArg (Value.int .i64) hw, trivial⟩, hC, hO, h0, c6⟩
  refine pl_yes (.int .i64 n) (tg := 19) (by kernel_rfl) (congrArg Value.bool a0) (y_move rfl) ?_
  refine pl_yes (.slice pa0 pn0 pc0) (tg := 19) (by kernel_rfl) (congrArg Value.bool a0) (y_move rfl) ?_
  refine pl_yes (.int .i64 k25) (tg := 19) (by kernel_rfl) (congrArg Value.bool a0) (y_move rfl) ?_
  obtain ⟨x39, f3, hs⟩ := bind_some hs
  obtain ⟨f4, f5, f6, b4⟩ := rs_idx Sl47 Sz37 h0 f3
  refine pl_yes (.pointer (some ⟨f4, f5, none⟩)) (tg := 19) (by kernel_rfl) (congrArg Value.bool a0) (f6 _ _ _ _ _ _ _ _ _ rfl rfl) ?_
  obtain ⟨h2, f7, a3⟩ := at_load Ag37 Sz37 (fun _ => rfl) b4
  obtain ⟨f8, f9, g0, rfl⟩ := rs_sl a3
  refine pl_yes (.slice f8 f9 g0) (tg := 19) (by kernel_rfl) (congrArg Value.bool a0) (y_load rfl (f7 _ (Chg.refl _ _))) ?_
  obtain ⟨r44, g1, hs⟩ := bind_some hs
  refine pl_cally (tg := 19) (by kernel_rfl) (congrArg Value.bool a0) Bd52 rfl (c_spec_l17Fixed (M := M) n x39 a3 hO.fut g1) ?_
  rintro _ g2 ⟨rfl, b1⟩
  have h0 := h0.ext b1
  have a2 := a2.ext b1
  have a3 := a3.ext b1
  have b4 := at_ext b4 b1
  have hC := hC.ext b1
  have hO := hO.ext b1
  refine pl_val (.bool r44) (y_pick_f (congrArg Value.bool a0) rfl) ?_
  obtain ⟨e1, c7, g3, e2, b2, e3⟩ := new_block g2 [(.bool r44)] 4
  refine pl_val (w' := e1) (.slice (some ⟨c7, 0, none⟩) 1 1) (y_bslice rfl (by rw [g3, e2]; kernel_rfl)) ?_
  have h0 := h0.ext b2
  have a2 := a2.ext b2
  have a3 := a3.ext b2
  have b4 := at_ext b4 b2
  have hC := hC.ext b2
  have hO := hO.new1 b2 e2 e3.lt
  have c8 := os_of_box (r := RT.bool) (M := M) (css := [[(.bool r44)]]) (fps := [([] : List Nat)]) (xs := ([r44] : List Bool)) e3 ⟨⟨rfl, rfl⟩, trivial⟩ (Nat.le_of_ble_eq_true rfl) (List.nodup_cons.2 ⟨(fun h => nomatch h), List.nodup_nil⟩)
  have c8 : (RT.os 4 RT.bool).val M e1 (.slice (some ⟨c7, 0, none⟩) 1 1) [r44] [c7] := c8
  obtain ⟨y48, g4, hs⟩ := bind_some hs
  have hO := hO.fr1
  obtain ⟨c9, d0, d1, g5, g6, g7, b7, g8, d2⟩ := app_os Rw56 g4 a2 c8 hO.inM (fun g hg hq => hO.apart g hq (mem_l hg))
  have d3 := os_block a2
  refine pl_val (w' := g5) (.slice c9 d0 d1) (y_append rfl rfl (g7 _)) ?_
  have hO := hO.fr1
  have hO := hO.fr1
  have h0 := h0.mt b7 hO d3
  have a3 := a3.mt b7 hO d3
  have hC := hC.st b7 hO d3
  have hO := hO.eat b7 g8 (os_nodup d2) d2.fpl
  refine pl_val (.slice c9 d0 d1) (y_assign rfl) ?_
  refine c_nil ?_
  refine c_region ?_
  refine pl_val (.int .i64 k25) (y_move rfl) ?_
  refine pl_val (.int .i64 (w64 (k25 + 1))) (y_add rfl rfl) ?_
  refine pl_val (.int .i64 (w64 (k25 + 1))) (y_assign rfl) ?_
  refine c_nil ?_
  cases hs
  exact ⟨_, c9, d0, d1, g6, fr_ovl 30 ⟨rfl, rfl, rfl, rfl, congrArg (Value.int .i64) hw, trivial⟩, hC, hO, h0, d2⟩
 ·skip
  exact ⟨_, (some ⟨a4, 0, none⟩), 0, 0, ([a4]), fr_ovl 30 ⟨rfl, rfl, rfl, rfl, rfl, trivial⟩, hC, hO, h0, b9⟩
 cases o27 with
 | nx _ => exact True.intro
 | rt r_ =>
  have hs := after_rt hs
  intro g9 e4 hK
  cases hs
  exact hK
 | br s23 =>
  have hs := after_br hs
  rintro g9 a1 ⟨σ, a8, a9, b0, b5, rfl, hC, hO, h0, h1⟩
  refine c_sr ?_
  refine pl_val (.slice a8 a9 b0) (y_move rfl) ?_
  refine pl_val (.slice a8 a9 b0) (y_assign rfl) ?_
  refine c_nil ?_
  refine wp_ret ?_
  cases hs
  exact ⟨_, a8, a9, b0, b5, fr_ovl 30 ⟨rfl, trivial⟩, hC, h1, hO.top⟩

theorem Sl56 : SlT Try.prog 56 4 := Try.underlying56

theorem Rw106 : RowT Try.prog 106 56 1 [(.slice none 0 0)] := ⟨Try.underlying106, ⟨_, _, rfl, rfl, rfl, rfl, by decide⟩, rfl, by decide⟩

def k_spec_l17May (M : Nat → Prop) (w0 : World) (r : (List (List Bool))) (a : Act) (w : World) : Prop :=
  ∃ (σ : Nat → Value) (ra0 : Option Addr) (rn0 rc0 : Nat) (rf0 : List Nat), a = fr 89 (ovl σ [(10, (.slice ra0 rn0 rc0))]) ∧ Chg [] w0 w ∧ (RT.os 56 (RT.os 4 RT.bool)).val M w (.slice ra0 rn0 rc0) r rf0 ∧ Own (Nw w0 []) (fun _ => True) w (rf0 ++ ([]))
def s_spec_l17May (n : Int) (clone : List (List Int)) (one : Int) (other : Int) (allowed : List Bool) : Option ((List (List Bool))) :=
  (forC (S := (List (List Int)) × (List (List Int))) (R := (List (List Bool))) (fun k37 s35 =>
  (idx clone k37).bind fun x49 =>
  (s_spec_l17Part n x49 one).bind fun r54 =>
  (app s35.1 ([r54])).bind fun y59 =>
  (idx clone k37).bind fun x61 =>
  (s_spec_l17Part n x61 other).bind fun r66 =>
  (app s35.2 ([r66])).bind fun y71 =>
  some (.nx (y59, y71))) 0 (clone.length : Int) ([], [])).bind fun o39 => after o39 (fun r_ => some r_) (fun s35 =>
  (forC (S := (List (List Bool))) (R := (List (List Bool))) (fun k162 s160 =>
  (forC (S := (List Bool)) (R := (List (List Bool))) (fun k208 s206 =>
  (idx allowed k162).bind fun x217 =>
  (bif x217 then (idx allowed k208).bind fun x220 =>
  (bif x220 then (idx s35.1 k162).bind fun x223 =>
  (idx s35.2 k208).bind fun x227 =>
  (s_spec_l1Same x223 x227).bind fun r232 =>
  (app s206 ([r232])).bind fun y236 =>
  some (.nx y236) else (app s206 ([false])).bind fun y241 =>
  some (.nx y241)) else (app s206 ([false])).bind fun y246 =>
  some (.nx y246))) 0 (clone.length : Int) ([])).bind fun o210 => after o210 (fun r_ => some (.rt r_)) (fun s206 =>
  (app s160 ([s206])).bind fun y251 =>
  some (.nx y251))) 0 (clone.length : Int) ([])).bind fun o164 => after o164 (fun r_ => some r_) (fun s160 =>
  some s160))
set_option maxHeartbeats 4000000 in
theorem c_spec_l17May {M : Nat → Prop} {w : World} {pa0 : Option Addr} {pn0 pc0 : Nat} {pa1 : Option Addr} {pn1 pc1 : Nat} (n : Int) (clone : List (List Int)) (one : Int) (other : Int) (allowed : List Bool) (h0 : (RT.rs (RT.rs (RT.int .i64))).val M w (.slice pa0 pn0 pc0) clone ([])) (h1 : (RT.rs RT.bool).val M w (.slice pa1 pn1 pc1) allowed ([])) (hM : ∀ g, w.heap.size ≤ g → M g) {r : (List (List Bool))} (hs : s_spec_l17May n clone one other allowed = some r) :
    Gives Try.prog 103 [(.int .i64 n), (.slice pa0 pn0 pc0), (.int .i64 one), (.int .i64 other), (.slice pa1 pn1 pc1)] w (fun v w' => ∃ (ra0 : Option Addr) (rn0 rc0 : Nat) (rf0 : List Nat), v = (.slice ra0 rn0 rc0) ∧ Chg [] w w' ∧ (RT.os 56 (RT.os 4 RT.bool)).val M w' (.slice ra0 rn0 rc0) r rf0 ∧ Own (Nw w []) (fun _ => True) w' (rf0 ++ ([]))) := by
 refine calls_fr Try.func103 rfl Try.ntmps103 (Nat.le_of_ble_eq_true rfl) ?_
 have hO := Own.start (N := Nw w []) hM Nw.fut
 have hC := Chg.refl [] w
 unfold s_spec_l17May at hs
 refine wp_mono (Q := KPost (k_spec_l17May M w r)) ?_ (fun e a j6 h => ?_)
 rotate_left
 ·cases e
  case ret =>
   obtain ⟨σ, ra0, rn0, rc0, rf0, rfl, hrest⟩ := h
   exact ret1x Try.results103 (res_tmp rfl) ⟨ra0, rn0, rc0, rf0, rfl, hrest⟩
  all_goals exact (h : False).elim
 refine c_sr ?_
 refine pl_val (.slice none 0 0) (y_assign rfl) ?_
 refine c_nil ?_
 refine c_sr ?_
 obtain ⟨j7, e7, r3, n8, i9, n9⟩ := new_block w [] 37
 refine pl_val (w' := j7) (.slice (some ⟨e7, 0, none⟩) 0 0) (y_bslice rfl (by rw [r3, n8]; kernel_rfl)) ?_
 have h0 := h0.ext i9
 have h1 := h1.ext i9
 have hC := hC.ext i9
 have hO := hO.new1 i9 n8 n9.lt
 have h5 := os_of_box (r := (RT.os 3 (RT.int .i64))) (M := M) (css := []) (fps := []) (xs := ([] : List (List Int))) n9 trivial (Nat.zero_le _) (List.nodup_cons.2 ⟨(fun h => nomatch h), List.nodup_nil⟩)
 have h5 : (RT.os 37 (RT.os 3 (RT.int .i64))).val M j7 (.slice (some ⟨e7, 0, none⟩) 0 0) [] [e7] := h5
 obtain ⟨o0, e8, r4, o1, h6, o2⟩ := new_block j7 [] 37
 refine pl_val (w' := o0) (.slice (some ⟨e8, 0, none⟩) 0 0) (y_bslice rfl (by rw [r4, o1]; kernel_rfl)) ?_
 have h0 := h0.ext h6
 have h1 := h1.ext h6
 have h5 := h5.ext h6
 have hC := hC.ext h6
 have hO := hO.new1 h6 o1 o2.lt
 have j8 := os_of_box (r := (RT.os 3 (RT.int .i64))) (M := M) (css := []) (fps := []) (xs := ([] : List (List Int))) o2 trivial (Nat.zero_le _) (List.nodup_cons.2 ⟨(fun h => nomatch h), List.nodup_nil⟩)
 have j8 : (RT.os 37 (RT.os 3 (RT.int .i64))).val M o0 (.slice (some ⟨e8, 0, none⟩) 0 0) [] [e8] := j8
 refine pl_val (.slice (some ⟨e7, 0, none⟩) 0 0) (y_assign rfl) ?_
 refine pl_val (.slice (some ⟨e8, 0, none⟩) 0 0) (y_assign rfl) ?_
 refine c_nil ?_
 refine c_seq ?_
 refine c_sr ?_
 refine pl_val (.int .i64 0) (y_assign rfl) ?_
 refine c_nil ?_
 obtain ⟨o39, r5, hs⟩ := bind_some hs
 refine wp_block ?_
 refine wp_forC (id := 0) (clone.length : Int) (I := fun k37 s35 a a9 => ∃ (σ : Nat → Value) (e9 : Option Addr) (f0 : Nat) (f1 : Nat) (e2 : List Nat) (f2 : Option Addr) (f3 : Nat) (f4 : Nat) (c7 : List Nat), a = fr 89 (ovl σ [(0, (.int .i64 n)), (1, (.slice pa0 pn0 pc0)), (2, (.int .i64 one)), (3, (.int .i64 other)), (4, (.slice pa1 pn1 pc1)), (11, (.slice e9 f0 f1)), (12, (.slice f2 f3 f4)), (13, (.int .i64 k37))]) ∧ Chg [] w a9 ∧ Own (Nw w []) M a9 (e2 ++ (c7 ++ [])) ∧ (RT.rs (RT.rs (RT.int .i64))).val M a9 (.slice pa0 pn0 pc0) clone ([]) ∧ (RT.rs RT.bool).val M a9 (.slice pa1 pn1 pc1) allowed ([]) ∧ (RT.os 37 (RT.os 3 (RT.int .i64))).val M a9 (.slice e9 f0 f1) s35.1 e2 ∧ (RT.os 37 (RT.os 3 (RT.int .i64))).val M a9 (.slice f2 f3 f4) s35.2 c7) (J := fun s35 a a9 => ∃ (σ : Nat → Value) (b4 : Option Addr) (b5 : Nat) (b6 : Nat) (b0 : List Nat) (b7 : Option Addr) (b8 : Nat) (b9 : Nat) (b1 : List Nat), a = fr 89 (ovl σ [(1, (.slice pa0 pn0 pc0)), (4, (.slice pa1 pn1 pc1)), (11, (.slice b4 b5 b6)), (12, (.slice b7 b8 b9))]) ∧ Chg [] w a9 ∧ Own (Nw w []) M a9 (b0 ++ (b1 ++ [])) ∧ (RT.rs (RT.rs (RT.int .i64))).val M a9 (.slice pa0 pn0 pc0) clone ([]) ∧ (RT.rs RT.bool).val M a9 (.slice pa1 pn1 pc1) allowed ([]) ∧ (RT.os 37 (RT.os 3 (RT.int .i64))).val M a9 (.slice b4 b5 b6) s35.1 b0 ∧ (RT.os 37 (RT.os 3 (RT.int .i64))).val M a9 (.slice b7 b8 b9) s35.2 b1) (K := (k_spec_l17May M w)) ?_ ?_ 0 ([], []) o39 _ _ ?_ r5 ?_
 ·rintro k37 s35 a a9 ⟨σ, e9, f0, f1, e2, f2, f3, f4, c7, rfl, hC, hO, h0, h1, d4, b2⟩ hlt
  refine c_seq ?_
  refine c_sr ?_
  refine pl_val (.int .i64 k37) (y_move rfl) ?_
  refine pl_val (.slice pa0 pn0 pc0) (y_move rfl) ?_
  refine pl_val (.int .i64 (clone.length : Int)) (y_len' Sl47 (rs_len h0) rfl) ?_
  refine pl_val (.bool (decide (k37 < (clone.length : Int)))) (y_lss rfl rfl) ?_
  refine c_nil ?_
  refine c_condF (congrArg Value.bool (decide_eq_false hlt)) ?_
  refine wp_exit ?_
  have hO := hO.fr1
  have hO := hO.fr1
  exact ⟨rfl, _, e9, f0, f1, e2, f2, f3, f4, c7, fr_ovl 89 ⟨rfl, rfl, rfl, rfl, trivial⟩, hC, hO, h0, h1, d4, b2⟩
 ·rintro k37 s35 o39 a a9 ⟨σ, e9, f0, f1, e2, f2, f3, f4, c7, rfl, hC, hO, h0, h1, d4, b2⟩ hlt hw hs
  refine c_seq ?_
  refine c_sr ?_
  refine pl_val (.int .i64 k37) (y_move rfl) ?_
  refine pl_val (.slice pa0 pn0 pc0) (y_move rfl) ?_
  refine pl_val (.int .i64 (clone.length : Int)) (y_len' Sl47 (rs_len h0) rfl) ?_
  refine pl_val (.bool (decide (k37 < (clone.length : Int)))) (y_lss rfl rfl) ?_
  refine c_nil ?_
  refine c_condT (congrArg Value.bool (decide_eq_true hlt)) ?_
  refine wp_skip ?_
  refine c_seq ?_
  refine wp_block ?_
  refine c_sr ?_
  refine pl_val (.slice e9 f0 f1) (y_move rfl) ?_
  refine pl_val (.int .i64 n) (y_move rfl) ?_
  refine pl_val (.slice pa0 pn0 pc0) (y_move rfl) ?_
  refine pl_val (.int .i64 k37) (y_move rfl) ?_
  obtain ⟨x49, r6, hs⟩ := bind_some hs
  obtain ⟨r7, r8, r9, h7⟩ := rs_idx Sl47 Sz37 h0 r6
  refine pl_val (.pointer (some ⟨r7, r8, none⟩)) (r9 _ _ _ _ _ _ _ _ _ rfl rfl) ?_
  obtain ⟨A9, s0, d5⟩ := at_load Ag37 Sz37 (fun _ => rfl) h7
  obtain ⟨s1, s2, s3, rfl⟩ := rs_sl d5
  refine pl_val (.slice s1 s2 s3) (y_load rfl (s0 _ (Chg.refl _ _))) ?_
  refine pl_val (.int .i64 one) (y_move rfl) ?_
  obtain ⟨r54, s4, hs⟩ := bind_some hs
  refine pl_call Bd67 rfl (c_spec_l17Part (M := M) n x49 one d5 hO.fut s4) ?_
  rintro _ s5 ⟨o3, o4, o5, j0, rfl, d6, j9, s6⟩
  have h0 := h0.ext d6
  have h1 := h1.ext d6
  have d4 := d4.ext d6
  have b2 := b2.ext d6
  have d5 := d5.ext d6
  have h7 := at_ext h7 d6
  have hC := hC.ext d6
  have hO := Own.join0 hO d6 s6
  have hO := hO.perm (R := j0 ++ (e2 ++ (c7 ++ ([])))) (by simp)
  obtain ⟨o6, j1, s7, o7, c8, o8⟩ := new_block s5 [(.slice o3 o4 o5)] 37
  refine pl_val (w' := o6) (.slice (some ⟨j1, 0, none⟩) 1 1) (y_bslice rfl (by rw [s7, o7]; kernel_rfl)) ?_
  have h0 := h0.ext c8
  have h1 := h1.ext c8
  have d4 := d4.ext c8
  have b2 := b2.ext c8
  have d5 := d5.ext c8
  have j9 := j9.ext c8
  have h7 := at_ext h7 c8
  have hC := hC.ext c8
  have hO := hO.new1 c8 o7 o8.lt
  have hO := hO.perm (R := (j1 :: ((j0) ++ ([]))) ++ (e2 ++ (c7 ++ ([])))) (by simp)
  have s8 := hO.nd
  have k0 := os_of_box (r := (RT.os 3 (RT.int .i64))) (M := M) (css := [[(.slice o3 o4 o5)]]) (fps := [(j0 : List Nat)]) (xs := ([r54] : List (List Int))) o8 ⟨(os_unval j9), trivial⟩ (Nat.le_of_ble_eq_true rfl) s8
  have k0 : (RT.os 37 (RT.os 3 (RT.int .i64))).val M o6 (.slice (some ⟨j1, 0, none⟩) 1 1) [r54] (j1 :: ((j0) ++ ([]))) := k0
  obtain ⟨y59, s9, hs⟩ := bind_some hs
  have hO := hO.fr1
  obtain ⟨k1, k2, k3, t0, k4, t1, f5, t2, c9⟩ := app_os Rw47 s9 d4 k0 hO.inM (fun g hg hq => hO.apart g hq (mem_l hg))
  have h8 := os_block d4
  refine pl_val (w' := t0) (.slice k1 k2 k3) (y_append rfl rfl (t1 _)) ?_
  have hO := hO.fr1
  have hO := hO.fr1
  have h0 := h0.mt f5 hO h8
  have h1 := h1.mt f5 hO h8
  have b2 := b2.ma f5 hO h8 (fun _ e => (mem_r (mem_l (e))))
  have d5 := d5.mt f5 hO h8
  have hC := hC.st f5 hO h8
  have hO := hO.eat f5 t2 (os_nodup c9) c9.fpl
  refine pl_val (.slice k1 k2 k3) (y_assign rfl) ?_
  refine c_nil ?_
  refine c_region ?_
  refine pl_val (.slice f2 f3 f4) (y_move rfl) ?_
  refine pl_val (.int .i64 n) (y_move rfl) ?_
  refine pl_val (.slice pa0 pn0 pc0) (y_move rfl) ?_
  refine pl_val (.int .i64 k37) (y_move rfl) ?_
  obtain ⟨x61, t3, hs⟩ := bind_some hs
  obtain ⟨t4, t5, t6, h9⟩ := rs_idx Sl47 Sz37 h0 t3
  refine pl_val (.pointer (some ⟨t4, t5, none⟩)) (t6 _ _ _ _ _ _ _ _ _ rfl rfl) ?_
  obtain ⟨B0, t7, d7⟩ := at_load Ag37 Sz37 (fun _ => rfl) h9
  obtain ⟨t8, t9, u0, rfl⟩ := rs_sl d7
  refine pl_val (.slice t8 t9 u0) (y_load rfl (t7 _ (Chg.refl _ _))) ?_
  refine pl_val (.int .i64 other) (y_move rfl) ?_
  obtain ⟨r66, u1, hs⟩ := bind_some hs
  refine pl_call Bd67 rfl (c_spec_l17Part (M := M) n x61 other d7 hO.fut u1) ?_
  rintro _ u2 ⟨o9, p0, p1, j2, rfl, d8, k5, u3⟩
  have h0 := h0.ext d8
  have h1 := h1.ext d8
  have b2 := b2.ext d8
  have c9 := c9.ext d8
  have d7 := d7.ext d8
  have h9 := at_ext h9 d8
  have hC := hC.ext d8
  have hO := Own.join0 hO d8 u3
  have hO := hO.perm (R := j2 ++ (k4 ++ (c7 ++ ([])))) (by simp)
  obtain ⟨p2, j3, u4, p3, d0, p4⟩ := new_block u2 [(.slice o9 p0 p1)] 37
  refine pl_val (w' := p2) (.slice (some ⟨j3, 0, none⟩) 1 1) (y_bslice rfl (by rw [u4, p3]; kernel_rfl)) ?_
  have h0 := h0.ext d0
  have h1 := h1.ext d0
  have b2 := b2.ext d0
  have c9 := c9.ext d0
  have d7 := d7.ext d0
  have k5 := k5.ext d0
  have h9 := at_ext h9 d0
  have hC := hC.ext d0
  have hO := hO.new1 d0 p3 p4.lt
  have hO := hO.perm (R := (j3 :: ((j2) ++ ([]))) ++ (k4 ++ (c7 ++ ([])))) (by simp)
  have u5 := hO.nd
  have k6 := os_of_box (r := (RT.os 3 (RT.int .i64))) (M := M) (css := [[(.slice o9 p0 p1)]]) (fps := [(j2 : List Nat)]) (xs := ([r66] : List (List Int))) p4 ⟨(os_unval k5), trivial⟩ (Nat.le_of_ble_eq_true rfl) u5
  have k6 : (RT.os 37 (RT.os 3 (RT.int .i64))).val M p2 (.slice (some ⟨j3, 0, none⟩) 1 1) [r66] (j3 :: ((j2) ++ ([]))) := k6
  obtain ⟨y71, u6, hs⟩ := bind_some hs
  have hO := hO.fr2
  obtain ⟨k7, k8, k9, u7, u9, v0, f6, v1, l0⟩ := app_os Rw47 u6 b2 k6 hO.inM (fun g hg hq => hO.apart g hq (mem_l hg))
  have i0 := os_block b2
  refine pl_val (w' := u7) (.slice k7 k8 k9) (y_append rfl rfl (v0 _)) ?_
  have hO := hO.fr1
  have hO := hO.fr1
  have h0 := h0.mt f6 hO i0
  have h1 := h1.mt f6 hO i0
  have c9 := c9.ma f6 hO i0 (fun _ e => (mem_r (mem_l (e))))
  have d7 := d7.mt f6 hO i0
  have hC := hC.st f6 hO i0
  have hO := hO.eat f6 v1 (os_nodup l0) l0.fpl
  refine pl_val (.slice k7 k8 k9) (y_assign rfl) ?_
  refine c_nil ?_
  refine c_region ?_
  refine pl_val (.int .i64 k37) (y_move rfl) ?_
  refine pl_val (.int .i64 (w64 (k37 + 1))) (y_add rfl rfl) ?_
  refine pl_val (.int .i64 (w64 (k37 + 1))) (y_assign rfl) ?_
  refine c_nil ?_
  cases hs
  have hO := hO.fr1
  exact ⟨_, k1, k2, k3, k4, k7, k8, k9, u9, fr_ovl 89 ⟨rfl, rfl, rfl, rfl, rfl, rfl, rfl, congrArg (Value.int .i64) hw, trivial⟩, hC, hO, h0, h1, c9, l0⟩
 ·skip
  have hO := hO.fr1
  exact ⟨_, (some ⟨e7, 0, none⟩), 0, 0, ([e7]), (some ⟨e8, 0, none⟩), 0, 0, ([e8]), fr_ovl 89 ⟨rfl, rfl, rfl, rfl, rfl, rfl, rfl, rfl, trivial⟩, hC, hO, h0, h1, h5, j8⟩
 cases o39 with
 | nx _ => exact True.intro
 | rt r_ =>
  have hs := after_rt hs
  intro i1 j6 hK
  cases hs
  exact hK
 | br s35 =>
  have hs := after_br hs
  rintro i1 a9 ⟨σ, b4, b5, b6, b0, b7, b8, b9, b1, rfl, hC, hO, h0, h1, a0, a1⟩
  refine c_sr ?_
  obtain ⟨p5, f7, v2, p6, f8, p7⟩ := new_block a9 [] 56
  refine pl_val (w' := p5) (.slice (some ⟨f7, 0, none⟩) 0 0) (y_bslice rfl (by rw [v2, p6]; kernel_rfl)) ?_
  have h0 := h0.ext f8
  have h1 := h1.ext f8
  have a0 := a0.ext f8
  have a1 := a1.ext f8
  have hC := hC.ext f8
  have hO := hO.new1 f8 p6 p7.lt
  have l1 := os_of_box (r := (RT.os 4 RT.bool)) (M := M) (css := []) (fps := []) (xs := ([] : List (List Bool))) p7 trivial (Nat.zero_le _) (List.nodup_cons.2 ⟨(fun h => nomatch h), List.nodup_nil⟩)
  have l1 : (RT.os 56 (RT.os 4 RT.bool)).val M p5 (.slice (some ⟨f7, 0, none⟩) 0 0) [] [f7] := l1
  refine pl_val (.slice (some ⟨f7, 0, none⟩) 0 0) (y_assign rfl) ?_
  refine c_nil ?_
  refine c_seq ?_
  refine c_sr ?_
  refine pl_val (.int .i64 0) (y_assign rfl) ?_
  refine c_nil ?_
  obtain ⟨o164, v3, hs⟩ := bind_some hs
  refine wp_block ?_
  refine wp_forC (id := 2) (clone.length : Int) (I := fun k162 s160 a a7 => ∃ (σ : Nat → Value) (c2 : Option Addr) (c3 : Nat) (c4 : Nat) (c5 : List Nat), a = fr 89 (ovl σ [(1, (.slice pa0 pn0 pc0)), (4, (.slice pa1 pn1 pc1)), (11, (.slice b4 b5 b6)), (12, (.slice b7 b8 b9)), (14, (.slice c2 c3 c4)), (15, (.int .i64 k162))]) ∧ Chg [] w a7 ∧ Own (Nw w []) M a7 (c5 ++ (b0 ++ (b1 ++ []))) ∧ (RT.rs (RT.rs (RT.int .i64))).val M a7 (.slice pa0 pn0 pc0) clone ([]) ∧ (RT.rs RT.bool).val M a7 (.slice pa1 pn1 pc1) allowed ([]) ∧ (RT.os 37 (RT.os 3 (RT.int .i64))).val M a7 (.slice b4 b5 b6) s35.1 b0 ∧ (RT.os 37 (RT.os 3 (RT.int .i64))).val M a7 (.slice b7 b8 b9) s35.2 b1 ∧ (RT.os 56 (RT.os 4 RT.bool)).val M a7 (.slice c2 c3 c4) s160 c5) (J := fun s160 a a7 => ∃ (σ : Nat → Value) (f9 : Option Addr) (g0 : Nat) (g1 : Nat) (j4 : List Nat), a = fr 89 (ovl σ [(14, (.slice f9 g0 g1))]) ∧ Chg [] w a7 ∧ Own (Nw w []) M a7 (j4 ++ (b0 ++ (b1 ++ []))) ∧ (RT.rs (RT.rs (RT.int .i64))).val M a7 (.slice pa0 pn0 pc0) clone ([]) ∧ (RT.rs RT.bool).val M a7 (.slice pa1 pn1 pc1) allowed ([]) ∧ (RT.os 37 (RT.os 3 (RT.int .i64))).val M a7 (.slice b4 b5 b6) s35.1 b0 ∧ (RT.os 37 (RT.os 3 (RT.int .i64))).val M a7 (.slice b7 b8 b9) s35.2 b1 ∧ (RT.os 56 (RT.os 4 RT.bool)).val M a7 (.slice f9 g0 g1) s160 j4) (K := (k_spec_l17May M w)) ?_ ?_ 0 ([]) o164 _ _ ?_ v3 ?_
  ·rintro k162 s160 a a7 ⟨σ, c2, c3, c4, c5, rfl, hC, hO, h0, h1, a0, a1, a2⟩ hlt
   refine c_seq ?_
   refine c_sr ?_
   refine pl_val (.int .i64 k162) (y_move rfl) ?_
   refine pl_val (.slice pa0 pn0 pc0) (y_move rfl) ?_
   refine pl_val (.int .i64 (clone.length : Int)) (y_len' Sl47 (rs_len h0) rfl) ?_
   refine pl_val (.bool (decide (k162 < (clone.length : Int)))) (y_lss rfl rfl) ?_
   refine c_nil ?_
   refine c_condF (congrArg Value.bool (decide_eq_false hlt)) ?_
   refine wp_exit ?_
   have hO := hO.fr2
   have hO := hO.fr2
   have hO := hO.fr2
   exact ⟨rfl, _, c2, c3, c4, c5, fr_ovl 89 ⟨rfl, trivial⟩, hC, hO, h0, h1, a0, a1, a2⟩
  ·rintro k162 s160 o164 a a7 ⟨σ, c2, c3, c4, c5, rfl, hC, hO, h0, h1, a0, a1, a2⟩ hlt hw hs
   refine c_seq ?_
   refine c_sr ?_
   refine pl_val (.int .i64 k162) (y_move rfl) ?_
   refine pl_val (.slice pa0 pn0 pc0) (y_move rfl) ?_
   refine pl_val (.int .i64 (clone.length : Int)) (y_len' Sl47 (rs_len h0) rfl) ?_
   refine pl_val (.bool (decide (k162 < (clone.length : Int)))) (y_lss rfl rfl) ?_
   refine c_nil ?_
   refine c_condT (congrArg Value.bool (decide_eq_true hlt)) ?_
   refine wp_skip ?_
   refine c_seq ?_
   refine wp_block ?_
   refine c_sr ?_
   obtain ⟨p8, g2, v4, p9, e3, q0⟩ := new_block a7 [] 4
   refine pl_val (w' := p8) (.slice (some ⟨g2, 0, none⟩) 0 0) (y_bslice rfl (by rw [v4, p9]; kernel_rfl)) ?_
   have h0 := h0.ext e3
   have h1 := h1.ext e3
   have a0 := a0.ext e3
   have a1 := a1.ext e3
   have a2 := a2.ext e3
   have hC := hC.ext e3
   have hO := hO.new1 e3 p9 q0.lt
   have l2 := os_of_box (r := RT.bool) (M := M) (css := []) (fps := []) (xs := ([] : List Bool)) q0 trivial (Nat.zero_le _) (List.nodup_cons.2 ⟨(fun h => nomatch h), List.nodup_nil⟩)
   have l2 : (RT.os 4 RT.bool).val M p8 (.slice (some ⟨g2, 0, none⟩) 0 0) [] [g2] := l2
   refine pl_val (.slice (some ⟨g2, 0, none⟩) 0 0) (y_assign rfl) ?_
   refine c_nil ?_
   refine c_seq ?_
   refine c_sr ?_
   refine pl_val (.int .i64 0) (y_assign rfl) ?_
   refine c_nil ?_
   obtain ⟨o210, v5, hs⟩ := bind_some hs
   refine wp_block ?_
   refine wp_forC (id := 4) (clone.length : Int) (I := fun k208 s206 a a3 => ∃ (σ : Nat → Value) (g3 : Option Addr) (g4 : Nat) (g5 : Nat) (i2 : List Nat), a = fr 89 (ovl σ [(1, (.slice pa0 pn0 pc0)), (4, (.slice pa1 pn1 pc1)), (11, (.slice b4 b5 b6)), (12, (.slice b7 b8 b9)), (14, (.slice c2 c3 c4)), (15, (.int .i64 k162)), (16, (.slice g3 g4 g5)), (17, (.int .i64 k208))]) ∧ Chg [] w a3 ∧ Own (Nw w []) M a3 (i2 ++ (c5 ++ (b0 ++ (b1 ++ [])))) ∧ (RT.rs (RT.rs (RT.int .i64))).val M a3 (.slice pa0 pn0 pc0) clone ([]) ∧ (RT.rs RT.bool).val M a3 (.slice pa1 pn1 pc1) allowed ([]) ∧ (RT.os 37 (RT.os 3 (RT.int .i64))).val M a3 (.slice b4 b5 b6) s35.1 b0 ∧ (RT.os 37 (RT.os 3 (RT.int .i64))).val M a3 (.slice b7 b8 b9) s35.2 b1 ∧ (RT.os 56 (RT.os 4 RT.bool)).val M a3 (.slice c2 c3 c4) s160 c5 ∧ (RT.os 4 RT.bool).val M a3 (.slice g3 g4 g5) s206 i2) (J := fun s206 a a3 => ∃ (σ : Nat → Value) (g6 : Option Addr) (g7 : Nat) (g8 : Nat) (g9 : List Nat), a = fr 89 (ovl σ [(1, (.slice pa0 pn0 pc0)), (4, (.slice pa1 pn1 pc1)), (11, (.slice b4 b5 b6)), (12, (.slice b7 b8 b9)), (14, (.slice c2 c3 c4)), (15, (.int .i64 k162)), (16, (.slice g6 g7 g8))]) ∧ Chg [] w a3 ∧ Own (Nw w []) M a3 (g9 ++ (c5 ++ (b0 ++ (b1 ++ [])))) ∧ (RT.rs (RT.rs (RT.int .i64))).val M a3 (.slice pa0 pn0 pc0) clone ([]) ∧ (RT.rs RT.bool).val M a3 (.slice pa1 pn1 pc1) allowed ([]) ∧ (RT.os 37 (RT.os 3 (RT.int .i64))).val M a3 (.slice b4 b5 b6) s35.1 b0 ∧ (RT.os 37 (RT.os 3 (RT.int .i64))).val M a3 (.slice b7 b8 b9) s35.2 b1 ∧ (RT.os 56 (RT.os 4 RT.bool)).val M a3 (.slice c2 c3 c4) s160 c5 ∧ (RT.os 4 RT.bool).val M a3 (.slice g6 g7 g8) s206 g9) (K := (k_spec_l17May M w)) ?_ ?_ 0 ([]) o210 _ _ ?_ v5 ?_
   ·rintro k208 s206 a a3 ⟨σ, g3, g4, g5, i2, rfl, hC, hO, h0, h1, a0, a1, a2, a8⟩ hlt
    refine c_seq ?_
    refine c_sr ?_
    refine pl_val (.int .i64 k208) (y_move rfl) ?_
    refine pl_val (.slice pa0 pn0 pc0) (y_move rfl) ?_
    refine pl_val (.int .i64 (clone.length : Int)) (y_len' Sl47 (rs_len h0) rfl) ?_
    refine pl_val (.bool (decide (k208 < (clone.length : Int)))) (y_lss rfl rfl) ?_
    refine c_nil ?_
    refine c_condF (congrArg Value.bool (decide_eq_false hlt)) ?_
    refine wp_exit ?_
    have hO := hO.fr3
    have hO := hO.fr3
    have hO := hO.fr3
    have hO := hO.fr3
    exact ⟨rfl, _, g3, g4, g5, i2, fr_ovl 89 ⟨rfl, rfl, rfl, rfl, rfl, rfl, rfl, trivial⟩, hC, hO, h0, h1, a0, a1, a2, a8⟩
   ·rintro k208 s206 o210 a a3 ⟨σ, g3, g4, g5, i2, rfl, hC, hO, h0, h1, a0, a1, a2, a8⟩ hlt hw hs
    refine c_seq ?_
    refine c_sr ?_
    refine pl_val (.int .i64 k208) (y_move rfl) ?_
    refine pl_val (.slice pa0 pn0 pc0) (y_move rfl) ?_
    refine pl_val (.int .i64 (clone.length : Int)) (y_len' Sl47 (rs_len h0) rfl) ?_
    refine pl_val (.bool (decide (k208 < (clone.length : Int)))) (y_lss rfl rfl) ?_
    refine c_nil ?_
    refine c_condT (congrArg Value.bool (decide_eq_true hlt)) ?_
    refine wp_skip ?_
    refine c_seq ?_
    refine wp_block ?_
    refine x_start [23] Mx rfl ?_
    have d1 := Chg.drew a3
    generalize World.drew a3 = l3 at d1 ⊢
    have h0 := h0.ext d1
    have h1 := h1.ext d1
    have a0 := a0.ext d1
    have a1 := a1.ext d1
    have a2 := a2.ext d1
    have a8 := a8.ext d1
    have hC := hC.ext d1
    have hO := hO.ext d1
    have hS := Chg.refl [] l3
    refine x_p 0 (.slice g3 g4 g5) rfl (by kernel_rfl)  (fun _ => y_move rfl) (fun _ => hS) ?_
    refine x_p 1 (.slice pa1 pn1 pc1) rfl (by kernel_rfl)  (fun _ => y_move rfl) (fun _ => hS) ?_
    refine x_p 2 (.int .i64 k162) rfl (by kernel_rfl)  (fun _ => y_move rfl) (fun _ => hS) ?_
    obtain ⟨x217, v6, hs⟩ := bind_some hs
    obtain ⟨v7, v8, v9, d2⟩ := rs_idx Sl56 Sz4 h1 v6
    refine x_p 3 (.pointer (some ⟨v7, v8, none⟩)) rfl (by kernel_rfl)  (fun _ => v9 _ _ _ _ _ _ _ _ _ rfl rfl) (fun _ => hS) ?_
    refine x_l 4 (.bool x217) rfl (by kernel_rfl)  (fun w' hw' => y_load rfl ((at_load_bool Ag4 Sz4 d2) w' hw')) hS ?_
    refine x_p 5 (.bool x217) rfl (by kernel_rfl)  (fun _ => y_move rfl) (fun _ => hS) ?_
    rcases bif_some hs with ⟨c0, hs⟩ | ⟨c0, hs⟩
    ·skip
     refine x_py 6 (.slice pa1 pn1 pc1) rfl (by kernel_rfl) (tg := 65) (by kernel_rfl) (congrArg Value.bool c0) (fun _ => y_move rfl) (fun _ => hS) ?_
     refine x_py 7 (.int .i64 k208) rfl (by kernel_rfl) (tg := 65) (by kernel_rfl) (congrArg Value.bool c0) (fun _ => y_move rfl) (fun _ => hS) ?_
     obtain ⟨x220, w1, hs⟩ := bind_some hs
     obtain ⟨w2, w3, w4, e4⟩ := rs_idx Sl56 Sz4 h1 w1
     refine x_py 8 (.pointer (some ⟨w2, w3, none⟩)) rfl (by kernel_rfl) (tg := 65) (by kernel_rfl) (congrArg Value.bool c0) (fun _ => w4 _ _ _ _ _ _ _ _ _ rfl rfl) (fun _ => hS) ?_
     refine x_ly 9 (.bool x220) rfl (by kernel_rfl) (tg := 65) (by kernel_rfl) (congrArg Value.bool c0) (fun w' hw' => y_load rfl ((at_load_bool Ag4 Sz4 e4) w' hw')) hS ?_
     refine x_p 10 (.bool x220) rfl (by kernel_rfl)  (fun _ => y_pick_t (congrArg Value.bool c0) rfl) (fun _ => hS) ?_
     refine x_p 11 (.bool x220) rfl (by kernel_rfl)  (fun _ => y_move rfl) (fun _ => hS) ?_
     rcases bif_some hs with ⟨a4, hs⟩ | ⟨a4, hs⟩
     ·skip
      refine x_py 12 (.slice b4 b5 b6) rfl (by kernel_rfl) (tg := 71) (by kernel_rfl) (congrArg Value.bool a4) (fun _ => y_move rfl) (fun _ => hS) ?_
      refine x_py 13 (.int .i64 k162) rfl (by kernel_rfl) (tg := 71) (by kernel_rfl) (congrArg Value.bool a4) (fun _ => y_move rfl) (fun _ => hS) ?_
      obtain ⟨x223, w5, hs⟩ := bind_some hs
      obtain ⟨w6, B1, B2, B3, w7, i3, w8⟩ := os_idx Sl47 Sz37 a0 w5
      have i4 := own_row (Frz.os Frz.int) i3 w8
      refine x_py 14 (.pointer (some ⟨w6, 0 + Int.toNat k162 * 1, none⟩)) rfl (by kernel_rfl) (tg := 71) (by kernel_rfl) (congrArg Value.bool a4) (fun _ => w7 _ _ _ _ _ _ _ _ _ rfl rfl) (fun _ => hS) ?_
      obtain ⟨B4, w9, hrow225, d9⟩ := at_load1 Ag37 Sz37 rfl rfl i4
      obtain ⟨x0, x1, x2, rfl⟩ := rs_sl d9
      refine x_ly 15 (.slice x0 x1 x2) rfl (by kernel_rfl) (tg := 71) (by kernel_rfl) (congrArg Value.bool a4) (fun w' hw' => y_load rfl (w9 w' hw')) hS ?_
      refine x_py 16 (.slice b7 b8 b9) rfl (by kernel_rfl) (tg := 71) (by kernel_rfl) (congrArg Value.bool a4) (fun _ => y_move rfl) (fun _ => hS) ?_
      refine x_py 17 (.int .i64 k208) rfl (by kernel_rfl) (tg := 71) (by kernel_rfl) (congrArg Value.bool a4) (fun _ => y_move rfl) (fun _ => hS) ?_
      obtain ⟨x227, x3, hs⟩ := bind_some hs
      obtain ⟨x4, B5, B6, B7, x5, i5, x6⟩ := os_idx Sl47 Sz37 a1 x3
      have i6 := own_row (Frz.os Frz.int) i5 x6
      refine x_py 18 (.pointer (some ⟨x4, 0 + Int.toNat k208 * 1, none⟩)) rfl (by kernel_rfl) (tg := 71) (by kernel_rfl) (congrArg Value.bool a4) (fun _ => x5 _ _ _ _ _ _ _ _ _ rfl rfl) (fun _ => hS) ?_
      obtain ⟨B8, x7, hrow229, e0⟩ := at_load1 Ag37 Sz37 rfl rfl i6
      obtain ⟨x8, x9, y0, rfl⟩ := rs_sl e0
      refine x_ly 19 (.slice x8 x9 y0) rfl (by kernel_rfl) (tg := 71) (by kernel_rfl) (congrArg Value.bool a4) (fun w' hw' => y_load rfl (x7 w' hw')) hS ?_
      refine x_one (i := 20) (by kernel_rfl) ?_
      have hO := hO.fr3
      have hO := hO.fr3
      obtain ⟨r232, y1, hs⟩ := bind_some hs
      refine xk_cally (b := false) rfl (tg := 71) (by kernel_rfl) (congrArg Value.bool a4) Bd66 rfl (c_spec_l1Same (M := (Less (Less M b0) b1)) x223 x227 (d9.sub (M' := (Less (Less M b0) b1)) (fun g h => .inl (by simp only [Less] at h ⊢; simp [h]))) (e0.sub (M' := (Less (Less M b0) b1)) (fun g h => .inl (by simp only [Less] at h ⊢; simp [h]))) (hO.less).less.fut y1) rfl (by rintro _ _ _ ⟨rfl, a5⟩; exact hS.ext a5) ?_
      rintro _ y2 ⟨rfl, a5⟩
      have h0 := h0.ext a5
      have h1 := h1.ext a5
      have a0 := a0.ext a5
      have a1 := a1.ext a5
      have a2 := a2.ext a5
      have a8 := a8.ext a5
      have d9 := d9.ext a5
      have hrow225 := hrow225.cn a5
      have e0 := e0.ext a5
      have hrow229 := hrow229.cn a5
      have d2 := at_ext d2 a5
      have e4 := at_ext e4 a5
      have i3 := at_ext i3 a5
      have i4 := at_ext i4 a5
      have i5 := at_ext i5 a5
      have i6 := at_ext i6 a5
      have hC := hC.ext a5
      have hO := hO.ext a5
      have hS := hS.ext a5
      refine x_p 21 (.bool r232) rfl (by kernel_rfl)  (fun _ => y_pick_t (congrArg Value.bool a4) rfl) (fun _ => hS) ?_
      refine x_one (i := 22) (by kernel_rfl) ?_
      obtain ⟨q1, l4, y3, q2, a6, q3⟩ := new_block y2 [(.bool r232)] 4
      refine xk_val (w' := q1) (b := false) (.slice (some ⟨l4, 0, none⟩) 1 1) rfl  (y_bslice rfl (by rw [y3, q2]; kernel_rfl)) rfl (fun _ => hS.ext a6) ?_
      have h0 := h0.ext a6
      have h1 := h1.ext a6
      have a0 := a0.ext a6
      have a1 := a1.ext a6
      have a2 := a2.ext a6
      have a8 := a8.ext a6
      have d9 := d9.ext a6
      have hrow225 := hrow225.cn a6
      have e0 := e0.ext a6
      have hrow229 := hrow229.cn a6
      have d2 := at_ext d2 a6
      have e4 := at_ext e4 a6
      have i3 := at_ext i3 a6
      have i4 := at_ext i4 a6
      have i5 := at_ext i5 a6
      have i6 := at_ext i6 a6
      have hC := hC.ext a6
      have hO := hO.new1 a6 q2 q3.lt
      have l5 := os_of_box (r := RT.bool) (M := M) (css := [[(.bool r232)]]) (fps := [([] : List Nat)]) (xs := ([r232] : List Bool)) q3 ⟨⟨rfl, rfl⟩, trivial⟩ (Nat.le_of_ble_eq_true rfl) (List.nodup_cons.2 ⟨(fun h => nomatch h), List.nodup_nil⟩)
      have l5 : (RT.os 4 RT.bool).val M q1 (.slice (some ⟨l4, 0, none⟩) 1 1) [r232] [l4] := l5
      have hS := hS.ext a6
      refine x_one (i := 23) (by kernel_rfl) ?_
      obtain ⟨y236, y4, hs⟩ := bind_some hs
      have hO := hO.fr3
      obtain ⟨l6, l7, l8, y5, y6, y7, d3, y8, l9⟩ := app_os Rw56 y4 a8 l5 hO.inM (fun g hg hq => hO.apart g hq (mem_l hg))
      have c6 := os_block a8
      refine xk_val (w' := y5) (b := true) (.slice l6 l7 l8) rfl  (y_append rfl rfl (y7 _)) rfl (fun h => nomatch h) ?_
      have hO := hO.fr1
      have hO := hO.fr1
      have h0 := h0.mt d3 hO c6
      have h1 := h1.mt d3 hO c6
      have a0 := a0.ma d3 hO c6 (fun _ e => (mem_r (mem_l (e))))
      have a1 := a1.ma d3 hO c6 (fun _ e => (mem_r (mem_r (mem_l (e)))))
      have a2 := a2.ma d3 hO c6 (fun _ e => (mem_r (mem_r (mem_r (mem_l (e))))))
      have d9 := d9.mut d3 (fun g hg => ⟨hO.inM g (c6 g hg), fun e => hO.apart g (c6 g hg) (mem_r (mem_l (e)))⟩) (fun _ _ h => nomatch h)
      have e0 := e0.mut d3 (fun g hg => ⟨hO.inM g (c6 g hg), fun e => hO.apart g (c6 g hg) (mem_r (mem_r (mem_l (e))))⟩) (fun _ _ h => nomatch h)
      have hC := hC.st d3 hO c6
      have hO := hO.eat d3 y8 (os_nodup l9) l9.fpl
      refine x_p 24 (.slice l6 l7 l8) rfl (by kernel_rfl)  (fun _ => y_assign rfl) (fun h => nomatch h) ?_
      refine x_end (by kernel_rfl) ?_
      clear hS
      refine c_region ?_
      refine pl_val (.int .i64 k208) (y_move rfl) ?_
      refine pl_val (.int .i64 (w64 (k208 + 1))) (y_add rfl rfl) ?_
      refine pl_val (.int .i64 (w64 (k208 + 1))) (y_assign rfl) ?_
      refine c_nil ?_
      cases hs
      have hO := hO.fr2
      have hO := hO.fr2
      have hO := hO.fr3
      have hO := hO.fr3
      exact ⟨_, l6, l7, l8, y6, fr_ovl 89 ⟨rfl, rfl, rfl, rfl, rfl, rfl, rfl, congrArg (Value.int .i64) hw, trivial⟩, hC, hO, h0, h1, a0, a1, a2, l9⟩
     refine x_pn 12 rfl (by kernel_rfl) (tg := 71) (by kernel_rfl) (congrArg Value.bool a4) (fun _ => hS) ?_
     refine x_pn 13 rfl (by kernel_rfl) (tg := 71) (by kernel_rfl) (congrArg Value.bool a4) (fun _ => hS) ?_
     refine x_pn 14 rfl (by kernel_rfl) (tg := 71) (by kernel_rfl) (congrArg Value.bool a4) (fun _ => hS) ?_
     refine x_pn 15 rfl (by kernel_rfl) (tg := 71) (by kernel_rfl) (congrArg Value.bool a4) (fun _ => hS) ?_
     refine x_pn 16 rfl (by kernel_rfl) (tg := 71) (by kernel_rfl) (congrArg Value.bool a4) (fun _ => hS) ?_
     refine x_pn 17 rfl (by kernel_rfl) (tg := 71) (by kernel_rfl) (congrArg Value.bool a4) (fun _ => hS) ?_
     refine x_pn 18 rfl (by kernel_rfl) (tg := 71) (by kernel_rfl) (congrArg Value.bool a4) (fun _ => hS) ?_
     refine x_pn 19 rfl (by kernel_rfl) (tg := 71) (by kernel_rfl) (congrArg Value.bool a4) (fun _ => hS) ?_
     refine x_pn 20 rfl (by kernel_rfl) (tg := 71) (by kernel_rfl) (congrArg Value.bool a4) (fun _ => hS) ?_
     refine x_p 21 (.bool false) rfl (by kernel_rfl)  (fun _ => y_pick_f (congrArg Value.bool a4) rfl) (fun _ => hS) ?_
     refine x_one (i := 22) (by kernel_rfl) ?_
     obtain ⟨q4, m0, y9, q5, b3, q6⟩ := new_block l3 [(.bool false)] 4
     refine xk_val (w' := q4) (b := false) (.slice (some ⟨m0, 0, none⟩) 1 1) rfl  (y_bslice rfl (by rw [y9, q5]; kernel_rfl)) rfl (fun _ => hS.ext b3) ?_
     have h0 := h0.ext b3
     have h1 := h1.ext b3
     have a0 := a0.ext b3
     have a1 := a1.ext b3
     have a2 := a2.ext b3
     have a8 := a8.ext b3
     have d2 := at_ext d2 b3
     have e4 := at_ext e4 b3
     have hC := hC.ext b3
     have hO := hO.new1 b3 q5 q6.lt
     have m1 := os_of_box (r := RT.bool) (M := M) (css := [[(.bool false)]]) (fps := [([] : List Nat)]) (xs := ([false] : List Bool)) q6 ⟨⟨rfl, rfl⟩, trivial⟩ (Nat.le_of_ble_eq_true rfl) (List.nodup_cons.2 ⟨(fun h => nomatch h), List.nodup_nil⟩)
     have m1 : (RT.os 4 RT.bool).val M q4 (.slice (some ⟨m0, 0, none⟩) 1 1) [false] [m0] := m1
     have hS := hS.ext b3
     refine x_one (i := 23) (by kernel_rfl) ?_
     obtain ⟨y241, z0, hs⟩ := bind_some hs
     have hO := hO.fr1
     obtain ⟨m2, m3, m4, z1, z2, z3, e5, z4, m5⟩ := app_os Rw56 z0 a8 m1 hO.inM (fun g hg hq => hO.apart g hq (mem_l hg))
     have h2 := os_block a8
     refine xk_val (w' := z1) (b := true) (.slice m2 m3 m4) rfl  (y_append rfl rfl (z3 _)) rfl (fun h => nomatch h) ?_
     have hO := hO.fr1
     have hO := hO.fr1
     have h0 := h0.mt e5 hO h2
     have h1 := h1.mt e5 hO h2
     have a0 := a0.ma e5 hO h2 (fun _ e => (mem_r (mem_r (mem_l (e)))))
     have a1 := a1.ma e5 hO h2 (fun _ e => (mem_r (mem_r (mem_r (mem_l (e))))))
     have a2 := a2.ma e5 hO h2 (fun _ e => (mem_r (mem_l (e))))
     have hC := hC.st e5 hO h2
     have hO := hO.eat e5 z4 (os_nodup m5) m5.fpl
     refine x_p 24 (.slice m2 m3 m4) rfl (by kernel_rfl)  (fun _ => y_assign rfl) (fun h => nomatch h) ?_
     refine x_end (by kernel_rfl) ?_
     clear hS
     refine c_region ?_
     refine pl_val (.int .i64 k208) (y_move rfl) ?_
     refine pl_val (.int .i64 (w64 (k208 + 1))) (y_add rfl rfl) ?_
     refine pl_val (.int .i64 (w64 (k208 + 1))) (y_assign rfl) ?_
     refine c_nil ?_
     cases hs
     have hO := hO.fr3
     have hO := hO.fr3
     have hO := hO.fr3
     have hO := hO.fr3
     exact ⟨_, m2, m3, m4, z2, fr_ovl 89 ⟨rfl, rfl, rfl, rfl, rfl, rfl, rfl, congrArg (Value.int .i64) hw, trivial⟩, hC, hO, h0, h1, a0, a1, a2, m5⟩
    refine x_pn 6 rfl (by kernel_rfl) (tg := 65) (by kernel_rfl) (congrArg Value.bool c0) (fun _ => hS) ?_
    refine x_pn 7 rfl (by kernel_rfl) (tg := 65) (by kernel_rfl) (congrArg Value.bool c0) (fun _ => hS) ?_
    refine x_pn 8 rfl (by kernel_rfl) (tg := 65) (by kernel_rfl) (congrArg Value.bool c0) (fun _ => hS) ?_
    refine x_pn 9 rfl (by kernel_rfl) (tg := 65) (by kernel_rfl) (congrArg Value.bool c0) (fun _ => hS) ?_
    refine x_p 10 (.bool false) rfl (by kernel_rfl)  (fun _ => y_pick_f (congrArg Value.bool c0) rfl) (fun _ => hS) ?_
    refine x_p 11 (.bool false) rfl (by kernel_rfl)  (fun _ => y_move rfl) (fun _ => hS) ?_
    refine x_pn 12 rfl (by kernel_rfl) (tg := 71) (by kernel_rfl) (by rfl) (fun _ => hS) ?_
    refine x_pn 13 rfl (by kernel_rfl) (tg := 71) (by kernel_rfl) (by rfl) (fun _ => hS) ?_
    refine x_pn 14 rfl (by kernel_rfl) (tg := 71) (by kernel_rfl) (by rfl) (fun _ => hS) ?_
    refine x_pn 15 rfl (by kernel_rfl) (tg := 71) (by kernel_rfl) (by rfl) (fun _ => hS) ?_
    refine x_pn 16 rfl (by kernel_rfl) (tg := 71) (by kernel_rfl) (by rfl) (fun _ => hS) ?_
    refine x_pn 17 rfl (by kernel_rfl) (tg := 71) (by kernel_rfl) (by rfl) (fun _ => hS) ?_
    refine x_pn 18 rfl (by kernel_rfl) (tg := 71) (by kernel_rfl) (by rfl) (fun _ => hS) ?_
    refine x_pn 19 rfl (by kernel_rfl) (tg := 71) (by kernel_rfl) (by rfl) (fun _ => hS) ?_
    refine x_pn 20 rfl (by kernel_rfl) (tg := 71) (by kernel_rfl) (by rfl) (fun _ => hS) ?_
    refine x_p 21 (.bool false) rfl (by kernel_rfl)  (fun _ => y_pick_f (by rfl) rfl) (fun _ => hS) ?_
    refine x_one (i := 22) (by kernel_rfl) ?_
    obtain ⟨q7, m6, z5, q8, c1, q9⟩ := new_block l3 [(.bool false)] 4
    refine xk_val (w' := q7) (b := false) (.slice (some ⟨m6, 0, none⟩) 1 1) rfl  (y_bslice rfl (by rw [z5, q8]; kernel_rfl)) rfl (fun _ => hS.ext c1) ?_
    have h0 := h0.ext c1
    have h1 := h1.ext c1
    have a0 := a0.ext c1
    have a1 := a1.ext c1
    have a2 := a2.ext c1
    have a8 := a8.ext c1
    have d2 := at_ext d2 c1
    have hC := hC.ext c1
    have hO := hO.new1 c1 q8 q9.lt
    have m7 := os_of_box (r := RT.bool) (M := M) (css := [[(.bool false)]]) (fps := [([] : List Nat)]) (xs := ([false] : List Bool)) q9 ⟨⟨rfl, rfl⟩, trivial⟩ (Nat.le_of_ble_eq_true rfl) (List.nodup_cons.2 ⟨(fun h => nomatch h), List.nodup_nil⟩)
    have m7 : (RT.os 4 RT.bool).val M q7 (.slice (some ⟨m6, 0, none⟩) 1 1) [false] [m6] := m7
    have hS := hS.ext c1
    refine x_one (i := 23) (by kernel_rfl) ?_
    obtain ⟨y246, z6, hs⟩ := bind_some hs
    have hO := hO.fr1
    obtain ⟨m8, m9, n0, z7, z8, z9, e6, A0, n1⟩ := app_os Rw56 z6 a8 m7 hO.inM (fun g hg hq => hO.apart g hq (mem_l hg))
    have h3 := os_block a8
    refine xk_val (w' := z7) (b := true) (.slice m8 m9 n0) rfl  (y_append rfl rfl (z9 _)) rfl (fun h => nomatch h) ?_
    have hO := hO.fr1
    have hO := hO.fr1
    have h0 := h0.mt e6 hO h3
    have h1 := h1.mt e6 hO h3
    have a0 := a0.ma e6 hO h3 (fun _ e => (mem_r (mem_r (mem_l (e)))))
    have a1 := a1.ma e6 hO h3 (fun _ e => (mem_r (mem_r (mem_r (mem_l (e))))))
    have a2 := a2.ma e6 hO h3 (fun _ e => (mem_r (mem_l (e))))
    have hC := hC.st e6 hO h3
    have hO := hO.eat e6 A0 (os_nodup n1) n1.fpl
    refine x_p 24 (.slice m8 m9 n0) rfl (by kernel_rfl)  (fun _ => y_assign rfl) (fun h => nomatch h) ?_
    refine x_end (by kernel_rfl) ?_
    clear hS
    refine c_region ?_
    refine pl_val (.int .i64 k208) (y_move rfl) ?_
    refine pl_val (.int .i64 (w64 (k208 + 1))) (y_add rfl rfl) ?_
    refine pl_val (.int .i64 (w64 (k208 + 1))) (y_assign rfl) ?_
    refine c_nil ?_
    cases hs
    have hO := hO.fr3
    have hO := hO.fr3
    have hO := hO.fr3
    have hO := hO.fr3
    exact ⟨_, m8, m9, n0, z8, fr_ovl 89 ⟨rfl, rfl, rfl, rfl, rfl, rfl, rfl, congrArg (Value.int .i64) hw, trivial⟩, hC, hO, h0, h1, a0, a1, a2, n1⟩
   ·skip
    have hO := hO.fr3
    have hO := hO.fr3
    have hO := hO.fr3
    have hO := hO.fr3
    exact ⟨_, (some ⟨g2, 0, none⟩), 0, 0, ([g2]), fr_ovl 89 ⟨rfl, rfl, rfl, rfl, rfl, rfl, rfl, rfl, trivial⟩, hC, hO, h0, h1, a0, a1, a2, l2⟩
   cases o210 with
   | nx _ => exact True.intro
   | rt r_ =>
    have hs := after_rt hs
    intro i1 j6 hK
    cases hs
    exact hK
   | br s206 =>
    have hs := after_br hs
    rintro i1 a3 ⟨σ, g6, g7, g8, g9, rfl, hC, hO, h0, h1, a0, a1, a2, n2⟩
    refine c_region ?_
    refine pl_val (.slice c2 c3 c4) (y_move rfl) ?_
    refine pl_val (.slice g6 g7 g8) (y_move rfl) ?_
    obtain ⟨r0, j5, A1, r1, e1, r2⟩ := new_block a3 [(.slice g6 g7 g8)] 56
    refine pl_val (w' := r0) (.slice (some ⟨j5, 0, none⟩) 1 1) (y_bslice rfl (by rw [A1, r1]; kernel_rfl)) ?_
    have h0 := h0.ext e1
    have h1 := h1.ext e1
    have a0 := a0.ext e1
    have a1 := a1.ext e1
    have a2 := a2.ext e1
    have n2 := n2.ext e1
    have hC := hC.ext e1
    have hO := hO.new1 e1 r1 r2.lt
    have hO := hO.perm (R := (j5 :: ((g9) ++ ([]))) ++ (c5 ++ (b0 ++ (b1 ++ ([]))))) (by simp)
    have A2 := hO.nd
    have n3 := os_of_box (r := (RT.os 4 RT.bool)) (M := M) (css := [[(.slice g6 g7 g8)]]) (fps := [(g9 : List Nat)]) (xs := ([s206] : List (List Bool))) r2 ⟨(os_unval n2), trivial⟩ (Nat.le_of_ble_eq_true rfl) A2
    have n3 : (RT.os 56 (RT.os 4 RT.bool)).val M r0 (.slice (some ⟨j5, 0, none⟩) 1 1) [s206] (j5 :: ((g9) ++ ([]))) := n3
    obtain ⟨y251, A3, hs⟩ := bind_some hs
    have hO := hO.fr1
    obtain ⟨n4, n5, n6, A4, A5, A6, h4, A7, n7⟩ := app_os Rw106 A3 a2 n3 hO.inM (fun g hg hq => hO.apart g hq (mem_l hg))
    have i7 := os_block a2
    refine pl_val (w' := A4) (.slice n4 n5 n6) (y_append rfl rfl (A6 _)) ?_
    have hO := hO.fr1
    have hO := hO.fr1
    have h0 := h0.mt h4 hO i7
    have h1 := h1.mt h4 hO i7
    have a0 := a0.ma h4 hO i7 (fun _ e => (mem_r (mem_l (e))))
    have a1 := a1.ma h4 hO i7 (fun _ e => (mem_r (mem_r (mem_l (e)))))
    have hC := hC.st h4 hO i7
    have hO := hO.eat h4 A7 (os_nodup n7) n7.fpl
    refine pl_val (.slice n4 n5 n6) (y_assign rfl) ?_
    refine c_nil ?_
    refine c_region ?_
    refine pl_val (.int .i64 k162) (y_move rfl) ?_
    refine pl_val (.int .i64 (w64 (k162 + 1))) (y_add rfl rfl) ?_
    refine pl_val (.int .i64 (w64 (k162 + 1))) (y_assign rfl) ?_
    refine c_nil ?_
    cases hs
    have hO := hO.fr2
    have hO := hO.fr2
    have hO := hO.fr2
    exact ⟨_, n4, n5, n6, A5, fr_ovl 89 ⟨rfl, rfl, rfl, rfl, rfl, congrArg (Value.int .i64) hw, trivial⟩, hC, hO, h0, h1, a0, a1, n7⟩
  ·skip
   have hO := hO.fr2
   have hO := hO.fr2
   have hO := hO.fr2
   exact ⟨_, (some ⟨f7, 0, none⟩), 0, 0, ([f7]), fr_ovl 89 ⟨rfl, rfl, rfl, rfl, rfl, rfl, trivial⟩, hC, hO, h0, h1, a0, a1, l1⟩
  cases o164 with
  | nx _ => exact True.intro
  | rt r_ =>
   have hs := after_rt hs
   intro i1 j6 hK
   cases hs
   exact hK
  | br s160 =>
   have hs := after_br hs
   rintro i1 a7 ⟨σ, f9, g0, g1, j4, rfl, hC, hO, h0, h1, a0, a1, A8⟩
   refine c_sr ?_
   refine pl_val (.slice f9 g0 g1) (y_move rfl) ?_
   refine pl_val (.slice f9 g0 g1) (y_assign rfl) ?_
   refine c_nil ?_
   refine wp_ret ?_
   cases hs
   have hO := hO.fr1
   have hO := hO.drop
   have hO := hO.fr1
   have hO := hO.drop
   exact ⟨_, f9, g0, g1, j4, fr_ovl 89 ⟨rfl, trivial⟩, hC, A8, hO.top⟩

def k_spec_l17Ys (M : Nat → Prop) (w0 : World) (r : (List Int)) (a : Act) (w : World) : Prop :=
  ∃ (σ : Nat → Value) (ra0 : Option Addr) (rn0 rc0 : Nat) (rf0 : List Nat), a = fr 5 (ovl σ [(2, (.slice ra0 rn0 rc0))]) ∧ Chg [] w0 w ∧ (RT.os 3 (RT.int .i64)).val M w (.slice ra0 rn0 rc0) r rf0 ∧ Own (Nw w0 []) (fun _ => True) w (rf0 ++ ([]))
def s_spec_l17Ys (n : Int) : Option ((List Int)) :=
  (s_spec_l12Projection n 2 1).bind fun r2 =>
  some r2
set_option maxHeartbeats 4000000 in
theorem c_spec_l17Ys {M : Nat → Prop} {w : World}  (n : Int)  (hM : ∀ g, w.heap.size ≤ g → M g) {r : (List Int)} (hs : s_spec_l17Ys n = some r) :
    Gives Try.prog 72 [(.int .i64 n)] w (fun v w' => ∃ (ra0 : Option Addr) (rn0 rc0 : Nat) (rf0 : List Nat), v = (.slice ra0 rn0 rc0) ∧ Chg [] w w' ∧ (RT.os 3 (RT.int .i64)).val M w' (.slice ra0 rn0 rc0) r rf0 ∧ Own (Nw w []) (fun _ => True) w' (rf0 ++ ([]))) := by
 refine calls_fr Try.func72 rfl Try.ntmps72 (Nat.le_of_ble_eq_true rfl) ?_
 have hO := Own.start (N := Nw w []) hM Nw.fut
 have hC := Chg.refl [] w
 unfold s_spec_l17Ys at hs
 refine wp_mono (Q := KPost (k_spec_l17Ys M w r)) ?_ (fun e a a5 h => ?_)
 rotate_left
 ·cases e
  case ret =>
   obtain ⟨σ, ra0, rn0, rc0, rf0, rfl, hrest⟩ := h
   exact ret1x Try.results72 (res_tmp rfl) ⟨ra0, rn0, rc0, rf0, rfl, hrest⟩
  all_goals exact (h : False).elim
 refine c_sr ?_
 refine pl_val (.slice none 0 0) (y_assign rfl) ?_
 refine c_nil ?_
 refine c_sr ?_
 refine pl_val (.int .i64 n) (y_move rfl) ?_
 obtain ⟨r2, a6, hs⟩ := bind_some hs
 refine pl_call Bd57 rfl (c_spec_l12Projection (M := M) n 2 1  hO.fut a6) ?_
 rintro _ a5 ⟨a0, a1, a2, a3, rfl, a4, a7, a8⟩
 have hC := hC.ext a4
 have hO := Own.join0 hO a4 a8
 have hO := hO.perm (R := a3 ++ ([])) (by simp)
 refine pl_val (.slice a0 a1 a2) (y_assign rfl) ?_
 refine c_nil ?_
 refine wp_ret ?_
 cases hs
 exact ⟨_, a0, a1, a2, a3, fr_ovl 5 ⟨rfl, trivial⟩, hC, a7, hO.top⟩

theorem Sl111 : SlT Try.prog 111 106 := Try.underlying111

theorem Sz106 : SzT Try.prog 106 1 := ⟨_, rfl, rfl⟩

theorem Ag106 : AggT Try.prog 106 false := fun _ => by kernel_rfl

theorem Sl106 : SlT Try.prog 106 56 := Try.underlying106

theorem Sz56 : SzT Try.prog 56 1 := ⟨_, rfl, rfl⟩

theorem Ag56 : AggT Try.prog 56 false := fun _ => by kernel_rfl

end Go.Proofs
