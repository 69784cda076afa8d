/- What functions of the program compute, as plain functions, and that a call gives just that. Conditions: those named in each theorem. -/
import Derived.Test.YtmghggenjagioaaF0
set_option linter.unusedVariables false
namespace Go.Proofs
open Go.G Go.RowKit
set_option maxRecDepth 100000

def k_spec_l12Rounds (M : Nat → Prop) (w0 : World) (r : ((List (List Int)) × (List (Int × (List Int))) × Bool)) (a : Act) (w : World) : Prop :=
  ∃ (σ : Nat → Value) (rg6 : Nat) (ra0 : Option Addr) (rn0 rc0 : Nat) (rf0 : List Nat) (ra1 : Option Addr) (rn1 rc1 : Nat) (rf1 : List Nat), a = fr 68 (ovl σ [(6, (.pointer (some ⟨rg6, 0, none⟩)))]) ∧ BoxV w rg6 89 [(.slice ra0 rn0 rc0), (.slice ra1 rn1 rc1), (.bool r.2.2)] ∧ Chg [] w0 w ∧ (RT.os 37 (RT.rs (RT.int .i64))).val (PastL M [] w0 w (rf0 ++ (rf1 ++ ([])))) w (.slice ra0 rn0 rc0) r.1 rf0 ∧ (RT.os 119 (RT.pr (RT.int .i64) (RT.os 3 (RT.int .i64)))).val (PastL M [] w0 w (rf0 ++ (rf1 ++ ([])))) w (.slice ra1 rn1 rc1) r.2.1 rf1 ∧ Own (Nw w0 []) (fun _ => True) w (rf0 ++ (rf1 ++ ([])))
def s_spec_l12Rounds (n : Int) (ops : List (Int × (List Int))) (first : List (List Int)) : Option (((List (List Int)) × (List (Int × (List Int))) × Bool)) :=
  (forC (S := (List (List Int)) × (List (Int × (List Int))) × Bool) (R := ((List (List Int)) × (List (Int × (List Int))) × Bool)) (fun k60 s58 =>
  (idx first k60).bind fun x75 =>
  (s_spec_l12Add__take02 (s58.1, s58.2.1, s58.2.2) x75 ((-1), [k60])).bind fun r82 =>
  some (.nx (r82.1, r82.2.1, r82.2.2))) 0 (first.length : Int) ([], [], false)).bind fun o62 => after o62 (fun r_ => some r_) (fun s58 =>
  (iter (S := Int × (List (List Int)) × (List (Int × (List Int))) × Bool) (R := ((List (List Int)) × (List (Int × (List Int))) × Bool)) (fun s257 =>
  (bif ((decide (s257.1 < (s257.2.1.length : Int))) && (!s257.2.2.2)) then (iter (S := Int × (List (List Int)) × (List (Int × (List Int))) × Bool) (R := ((List (List Int)) × (List (Int × (List Int))) × Bool)) (fun s321 =>
  (bif ((decide (s321.1 < (ops.length : Int))) && (!s321.2.2.2)) then (idx ops s321.1).bind fun x343 =>
  (idx first 0).bind fun x347 =>
  (s_spec_l12Round__take1 n (s321.2.1, s321.2.2.1, s321.2.2.2) (x343.1, x343.2) s321.1 (s257.2.1.length : Int) s257.1 (x347.length : Int)).bind fun r352 =>
  some (.nx (w64 (s321.1 + 1), r352.1, r352.2.1, r352.2.2)) else some (.br (s321.1, s321.2.1, s321.2.2.1, s321.2.2.2)))) FU (0, s257.2.1, s257.2.2.1, s257.2.2.2)).bind fun o325 => after o325 (fun r_ => some (.rt r_)) (fun s321 =>
  some (.nx ((s257.2.1.length : Int), s321.2.1, s321.2.2.1, s321.2.2.2))) else some (.br (s257.1, s257.2.1, s257.2.2.1, s257.2.2.2)))) FU (0, s58.1, s58.2.1, s58.2.2)).bind fun o261 => after o261 (fun r_ => some r_) (fun s257 =>
  some (s257.2.1, s257.2.2.1, s257.2.2.2)))
set_option maxHeartbeats 4000000 in
theorem c_spec_l12Rounds {M : Nat → Prop} {w : World} {pa0 : Option Addr} {pn0 pc0 : Nat} {pa1 : Option Addr} {pn1 pc1 : Nat} (n : Int) (ops : List (Int × (List Int))) (first : List (List Int)) (h0 : (RT.rs (RT.pr (RT.int .i64) (RT.rs (RT.int .i64)))).val M w (.slice pa0 pn0 pc0) ops ([])) (h1 : (RT.rs (RT.rs (RT.int .i64))).val M w (.slice pa1 pn1 pc1) first ([])) (hM : ∀ g, w.heap.size ≤ g → M g) {r : ((List (List Int)) × (List (Int × (List Int))) × Bool)} (hs : s_spec_l12Rounds n ops first = some r) :
    Gives Try.prog 108 [(.int .i64 n), (.slice pa0 pn0 pc0), (.slice pa1 pn1 pc1)] w (fun v w' => ∃ (ra0 : Option Addr) (rn0 rc0 : Nat) (rf0 : List Nat) (ra1 : Option Addr) (rn1 rc1 : Nat) (rf1 : List Nat), v = (.agg #[(.slice ra0 rn0 rc0), (.slice ra1 rn1 rc1), (.bool r.2.2)]) ∧ Chg [] w w' ∧ (RT.os 37 (RT.rs (RT.int .i64))).val (PastL M [] w w' (rf0 ++ (rf1 ++ ([])))) w' (.slice ra0 rn0 rc0) r.1 rf0 ∧ (RT.os 119 (RT.pr (RT.int .i64) (RT.os 3 (RT.int .i64)))).val (PastL M [] w w' (rf0 ++ (rf1 ++ ([])))) w' (.slice ra1 rn1 rc1) r.2.1 rf1 ∧ Own (Nw w []) (fun _ => True) w' (rf0 ++ (rf1 ++ ([])))) := by
 refine calls_fr Try.func108 rfl Try.ntmps108 (Nat.le_of_ble_eq_true rfl) ?_
 have hO := Own.start (N := Nw w []) hM Nw.fut
 have hC := Chg.refl [] w
 unfold s_spec_l12Rounds at hs
 refine wp_mono (Q := KPost (k_spec_l12Rounds M w r)) ?_ (fun e a j9 h => ?_)
 rotate_left
 ·cases e
  case ret =>
   obtain ⟨σ, rg6, ra0, rn0, rc0, rf0, ra1, rn1, rc1, rf1, rfl, hbrg6, hrest⟩ := h
   exact ret1x Try.results108 (res_cell rfl (box_load Ag89 Sz89 hbrg6 [] _ [] rfl rfl (fun h => nomatch h))) ⟨ra0, rn0, rc0, rf0, ra1, rn1, rc1, rf1, rfl, hrest⟩
  all_goals exact (h : False).elim
 refine c_sr ?_
 obtain ⟨m5, a3, n9, m6, h7, a1⟩ := new_block w [(.slice none 0 0), (.slice none 0 0), (.bool false)] 89
 refine pl_val (w' := m5) (.pointer (some ⟨a3, 0, none⟩)) (y_alloc (by rw [n9, m6]; kernel_rfl)) ?_
 have h0 := h0.ext h7
 have h1 := h1.ext h7
 have hC := hC.ext h7
 have hO := hO.new1 h7 m6 a1.lt
 refine c_nil ?_
 refine c_sr ?_
 refine pl_val (.agg #[(.slice none 0 0), (.slice none 0 0), (.bool false)]) (y_build rfl (by kernel_rfl)) ?_
 obtain ⟨o0, a2, o1, m7, h2, m8⟩ := new_block m5 [(.slice none 0 0), (.slice none 0 0), (.bool false)] 89
 refine pl_val (w' := o0) (.pointer (some ⟨a2, 0, none⟩)) (y_alloc (by rw [o1, m7]; kernel_rfl)) ?_
 have h0 := h0.ext h2
 have h1 := h1.ext h2
 have a1 := a1.cn h2
 have hC := hC.ext h2
 have hO := hO.new1 h2 m7 m8.lt
 obtain ⟨m9, o2, h3, a0⟩ := box_store (P := Try.prog) m8 [] [(.slice none 0 0), (.slice none 0 0), (.bool false)] [] [(.slice none 0 0), (.slice none 0 0), (.bool false)] rfl rfl (by intro u hu; simp only [List.mem_cons, List.not_mem_nil, or_false] at hu; rcases hu with rfl | rfl | rfl <;> rfl)
 refine pl_skip (w' := m9) (ys_store rfl rfl (o2 _ _ rfl Sz89)) ?_
 have h0 := h0.mt h3 hO same_
 have h1 := h1.mt h3 hO same_
 have a1 := a1.ap h3 hO same_ (mem_l (List.mem_singleton.2 rfl))
 have hC := hC.st h3 hO same_
 have hO := hO.ext h3
 have a0 : BoxV m9 a2 89 [(.slice none 0 0), (.slice none 0 0), (.bool false)] := a0
 refine c_nil ?_
 refine c_seq ?_
 refine c_sr ?_
 refine pl_val (.int .i64 0) (y_assign rfl) ?_
 refine c_nil ?_
 obtain ⟨o62, o3, hs⟩ := bind_some hs
 refine wp_block ?_
 refine wp_forC (id := 0) (first.length : Int) (I := fun k60 s58 a a4 => ∃ (σ : Nat → Value) (a7 : Nat → Prop) (c5 : Option Addr) (c6 : Nat) (c7 : Nat) (a9 : List Nat) (c8 : Option Addr) (c9 : Nat) (d0 : Nat) (b0 : List Nat), a = fr 68 (ovl σ [(0, (.int .i64 n)), (1, (.slice pa0 pn0 pc0)), (2, (.slice pa1 pn1 pc1)), (6, (.pointer (some ⟨a3, 0, none⟩))), (7, (.pointer (some ⟨a2, 0, none⟩))), (8, (.int .i64 k60))]) ∧ Chg [] w a4 ∧ Own (Nw w []) a7 a4 (a9 ++ (b0 ++ (([a2]) ++ (([a3]) ++ [])))) ∧ KeepsF w [] M a7 ∧ (RT.rs (RT.pr (RT.int .i64) (RT.rs (RT.int .i64)))).val a7 a4 (.slice pa0 pn0 pc0) ops ([]) ∧ (RT.rs (RT.rs (RT.int .i64))).val a7 a4 (.slice pa1 pn1 pc1) first ([]) ∧ BoxV a4 a3 89 [(.slice none 0 0), (.slice none 0 0), (.bool false)] ∧ BoxV a4 a2 89 [(.slice c5 c6 c7), (.slice c8 c9 d0), (.bool s58.2.2)] ∧ (RT.os 37 (RT.rs (RT.int .i64))).val a7 a4 (.slice c5 c6 c7) s58.1 a9 ∧ (RT.os 119 (RT.pr (RT.int .i64) (RT.os 3 (RT.int .i64)))).val a7 a4 (.slice c8 c9 d0) s58.2.1 b0) (J := fun s58 a a4 => ∃ (σ : Nat → Value) (d1 : Nat → Prop) (h8 : Option Addr) (h9 : Nat) (i0 : Nat) (i1 : List Nat) (i2 : Option Addr) (i3 : Nat) (i4 : Nat) (i5 : List Nat), a = fr 68 (ovl σ [(0, (.int .i64 n)), (1, (.slice pa0 pn0 pc0)), (2, (.slice pa1 pn1 pc1)), (6, (.pointer (some ⟨a3, 0, none⟩))), (7, (.pointer (some ⟨a2, 0, none⟩)))]) ∧ Chg [] w a4 ∧ Own (Nw w []) d1 a4 (i1 ++ (i5 ++ (([a2]) ++ (([a3]) ++ [])))) ∧ KeepsF w [] M d1 ∧ (RT.rs (RT.pr (RT.int .i64) (RT.rs (RT.int .i64)))).val d1 a4 (.slice pa0 pn0 pc0) ops ([]) ∧ (RT.rs (RT.rs (RT.int .i64))).val d1 a4 (.slice pa1 pn1 pc1) first ([]) ∧ BoxV a4 a3 89 [(.slice none 0 0), (.slice none 0 0), (.bool false)] ∧ BoxV a4 a2 89 [(.slice h8 h9 i0), (.slice i2 i3 i4), (.bool s58.2.2)] ∧ (RT.os 37 (RT.rs (RT.int .i64))).val d1 a4 (.slice h8 h9 i0) s58.1 i1 ∧ (RT.os 119 (RT.pr (RT.int .i64) (RT.os 3 (RT.int .i64)))).val d1 a4 (.slice i2 i3 i4) s58.2.1 i5) (K := (k_spec_l12Rounds M w)) ?_ ?_ 0 ([], [], false) o62 _ _ ?_ o3 ?_
 ·rintro k60 s58 a a4 ⟨σ, a7, c5, c6, c7, a9, c8, c9, d0, b0, rfl, hC, hO, hK, h0, h1, a1, a0, f5, f6⟩ hlt
  refine c_seq ?_
  refine c_sr ?_
  refine pl_val (.int .i64 k60) (y_move rfl) ?_
  refine pl_val (.slice pa1 pn1 pc1) (y_move rfl) ?_
  refine pl_val (.int .i64 (first.length : Int)) (y_len' Sl47 (rs_len h1) rfl) ?_
  refine pl_val (.bool (decide (k60 < (first.length : Int)))) (y_lss rfl rfl) ?_
  refine c_nil ?_
  refine c_condF (congrArg Value.bool (decide_eq_false hlt)) ?_
  refine wp_exit ?_
  have hO := hO.fr3
  have hO := hO.fr3
  have hO := hO.fr3
  have hO := hO.fr3
  exact ⟨rfl, _, a7, c5, c6, c7, a9, c8, c9, d0, b0, fr_ovl 68 ⟨rfl, rfl, rfl, rfl, rfl, trivial⟩, hC, hO, hK, h0, h1, a1, a0, f5, f6⟩
 ·rintro k60 s58 o62 a a4 ⟨σ, a7, c5, c6, c7, a9, c8, c9, d0, b0, rfl, hC, hO, hK, h0, h1, a1, a0, f5, f6⟩ hlt hw hs
  refine c_seq ?_
  refine c_sr ?_
  refine pl_val (.int .i64 k60) (y_move rfl) ?_
  refine pl_val (.slice pa1 pn1 pc1) (y_move rfl) ?_
  refine pl_val (.int .i64 (first.length : Int)) (y_len' Sl47 (rs_len h1) rfl) ?_
  refine pl_val (.bool (decide (k60 < (first.length : Int)))) (y_lss rfl rfl) ?_
  refine c_nil ?_
  refine c_condT (congrArg Value.bool (decide_eq_true hlt)) ?_
  refine wp_skip ?_
  refine c_seq ?_
  refine wp_block ?_
  refine x_start [8, 9] Mx rfl ?_
  have c1 := Chg.drew a4
  generalize World.drew a4 = n0 at c1 ⊢
  have h0 := h0.ext c1
  have h1 := h1.ext c1
  have a1 := a1.cn c1
  have a0 := a0.cn c1
  have f5 := f5.ext c1
  have f6 := f6.ext c1
  have hC := hC.ext c1
  have hO := hO.ext c1
  have hS := Chg.refl [] n0
  refine x_l 0 (.agg #[(.slice c5 c6 c7), (.slice c8 c9 d0), (.bool s58.2.2)]) rfl (by kernel_rfl)  (fun w' hw' => y_load rfl ((box_load Ag89 Sz89 a0 [] [(.slice c5 c6 c7), (.slice c8 c9 d0), (.bool s58.2.2)] [] rfl rfl (fun h => nomatch h)) w' hw')) hS ?_
  refine x_p 1 (.slice pa1 pn1 pc1) rfl (by kernel_rfl)  (fun _ => y_move rfl) (fun _ => hS) ?_
  refine x_p 2 (.int .i64 k60) rfl (by kernel_rfl)  (fun _ => y_move rfl) (fun _ => hS) ?_
  obtain ⟨x75, o4, hs⟩ := bind_some hs
  obtain ⟨o5, o6, o7, k0⟩ := rs_idx Sl47 Sz37 h1 o4
  refine x_p 3 (.pointer (some ⟨o5, o6, none⟩)) rfl (by kernel_rfl)  (fun _ => o7 _ _ _ _ _ _ _ _ _ rfl rfl) (fun _ => hS) ?_
  obtain ⟨t2, o8, b7⟩ := at_load Ag37 Sz37 (fun _ => rfl) k0
  obtain ⟨o9, p0, p1, rfl⟩ := rs_sl b7
  refine x_l 4 (.slice o9 p0 p1) rfl (by kernel_rfl)  (fun w' hw' => y_load rfl (o8 w' hw')) hS ?_
  refine x_p 5 (.int .i64 k60) rfl (by kernel_rfl)  (fun _ => y_move rfl) (fun _ => hS) ?_
  refine x_one (i := 6) (by kernel_rfl) ?_
  obtain ⟨f7, b4, p2, n1, b1, n2⟩ := new_block n0 [(.int .i64 k60)] 3
  refine xk_val (w' := f7) (b := false) (.slice (some ⟨b4, 0, none⟩) 1 1) rfl  (y_bslice rfl (by rw [p2, n1]; kernel_rfl)) rfl (fun _ => hS.ext b1) ?_
  have h0 := h0.ext b1
  have h1 := h1.ext b1
  have a1 := a1.cn b1
  have a0 := a0.cn b1
  have f5 := f5.ext b1
  have f6 := f6.ext b1
  have b7 := b7.ext b1
  have k0 := at_ext k0 b1
  have hC := hC.ext b1
  have hO := hO.new1 b1 n1 n2.lt
  have k1 := os_of_box (r := (RT.int .i64)) (M := a7) (css := [[(.int .i64 k60)]]) (fps := [([] : List Nat)]) (xs := ([k60] : List Int)) n2 ⟨⟨rfl, rfl⟩, trivial⟩ (Nat.le_of_ble_eq_true rfl) (List.nodup_cons.2 ⟨(fun h => nomatch h), List.nodup_nil⟩)
  have k1 : (RT.os 3 (RT.int .i64)).val a7 f7 (.slice (some ⟨b4, 0, none⟩) 1 1) [k60] [b4] := k1
  have hS := hS.ext b1
  refine x_p 7 (.agg #[(.int .i64 (-1)), (.slice (some ⟨b4, 0, none⟩) 1 1)]) rfl (by kernel_rfl)  (fun _ => y_build rfl (by kernel_rfl)) (fun _ => hS) ?_
  refine x_one (i := 8) (by kernel_rfl) ?_
  have hO := hO.fr2
  have hO := hO.fr2
  have p3 := hO
  have n3 := Own.lend (F := (a9 ++ (b0 ++ (([b4]) ++ ([]))))) (R := ([a2]) ++ (([a3]) ++ ([]))) (Own.perm (p3) (by simp))
  obtain ⟨r82, p4, hs⟩ := bind_some hs
  refine xk_call (b := true) rfl  Bd115 rfl (c_spec_l12Add__take02 (M := a7) (s58.1, s58.2.1, s58.2.2) x75 ((-1), [k60]) f5 f6 b7 k1 n3 n3.fut p4) rfl (fun h => nomatch h) ?_
  rintro _ h4 ⟨k2, k3, k4, f8, k5, k6, k7, f9, rfl, g0, k8, k9, p5⟩
  have hO := hO.fr2
  have hO := hO.fr2
  have hO := hO.fr2
  have hO := hO.perm (R := (a9 ++ (b0 ++ (([b4]) ++ ([])))) ++ (([a2]) ++ (([a3]) ++ ([])))) (by simp)
  have p6 := Own.pastL hO g0 p5
  have hK := hK.trans (show KeepsF w [] a7 (PastL a7 (a9 ++ (b0 ++ (([b4]) ++ ([])))) f7 h4 (f8 ++ (f9 ++ ([])))) from KeepsF.pastL hC.size (fun g hg => (hO.inN g hg)))
  have h0 := h0.mt g0 hO same_
  have h1 := h1.mt g0 hO same_
  have a1 := a1.ap g0 hO same_ (mem_r (mem_l (List.mem_singleton.2 rfl)))
  have a0 := a0.ap g0 hO same_ (mem_l (List.mem_singleton.2 rfl))
  have b7 := b7.mt g0 hO same_
  have hC := hC.st g0 hO same_
  have hO := p6
  have h0 := h0.sub (M' := (PastL a7 (a9 ++ (b0 ++ (([b4]) ++ ([])))) f7 h4 (f8 ++ (f9 ++ ([]))))) (fun g hg => .inl hg.1)
  have h1 := h1.sub (M' := (PastL a7 (a9 ++ (b0 ++ (([b4]) ++ ([])))) f7 h4 (f8 ++ (f9 ++ ([]))))) (fun g hg => .inl hg.1)
  have b7 := b7.sub (M' := (PastL a7 (a9 ++ (b0 ++ (([b4]) ++ ([])))) f7 h4 (f8 ++ (f9 ++ ([]))))) (fun g hg => .inl hg.1)
  have hO := hO.perm (R := f8 ++ (f9 ++ (([a2]) ++ (([a3]) ++ ([]))))) (by simp)
  refine x_one (i := 9) (by kernel_rfl) ?_
  obtain ⟨n4, p7, d2, l0⟩ := box_store (P := Try.prog) a0 [] [(.slice c5 c6 c7), (.slice c8 c9 d0), (.bool s58.2.2)] [] [(.slice k2 k3 k4), (.slice k5 k6 k7), (.bool r82.2.2)] rfl rfl (by intro u hu; simp only [List.mem_cons, List.not_mem_nil, or_false] at hu; rcases hu with rfl | rfl | rfl <;> rfl)
  refine xk_skip (w' := n4) (b := true) rfl (ys_store rfl rfl (p7 _ _ rfl Sz89)) rfl (fun h => nomatch h) ?_
  have hO := hO.fr2
  have h0 := h0.mt d2 hO same_
  have h1 := h1.mt d2 hO same_
  have a1 := a1.ap d2 hO same_ (mem_r (mem_r (mem_l (List.mem_singleton.2 rfl))))
  have b7 := b7.mt d2 hO same_
  have k8 := k8.ma d2 hO same_ (fun _ e => (mem_l (e)))
  have k9 := k9.ma d2 hO same_ (fun _ e => (mem_r (mem_l (e))))
  have hC := hC.st d2 hO same_
  have hO := hO.ext d2
  have l0 : BoxV n4 a2 89 [(.slice k2 k3 k4), (.slice k5 k6 k7), (.bool r82.2.2)] := l0
  refine x_end (by kernel_rfl) ?_
  clear hS
  refine c_region ?_
  refine pl_val (.int .i64 k60) (y_move rfl) ?_
  refine pl_val (.int .i64 (w64 (k60 + 1))) (y_add rfl rfl) ?_
  refine pl_val (.int .i64 (w64 (k60 + 1))) (y_assign rfl) ?_
  refine c_nil ?_
  cases hs
  have hO := hO.fr3
  have hO := hO.fr1
  have hO := hO.fr3
  have hO := hO.fr3
  exact ⟨_, (PastL a7 (a9 ++ (b0 ++ (([b4]) ++ ([])))) f7 h4 (f8 ++ (f9 ++ ([])))), k2, k3, k4, f8, k5, k6, k7, f9, fr_ovl 68 ⟨rfl, rfl, rfl, rfl, rfl, congrArg (Value.int .i64) hw, trivial⟩, hC, hO, hK, h0, h1, a1, l0, k8, k9⟩
 ·skip
  have hO := hO.fr1
  have hO := hO.fr1
  have hO := hO.nil
  have hO := hO.nil
  exact ⟨_, M, none, 0, 0, [], none, 0, 0, [], fr_ovl 68 ⟨rfl, rfl, rfl, rfl, rfl, rfl, trivial⟩, hC, hO, KeepsF.refl, h0, h1, a1, a0, os_nil, os_nil⟩
 cases o62 with
 | nx _ => exact True.intro
 | rt r_ =>
  have hs := after_rt hs
  intro g1 j9 hK
  cases hs
  exact hK
 | br s58 =>
  have hs := after_br hs
  rintro g1 a4 ⟨σ, d1, h8, h9, i0, i1, i2, i3, i4, i5, rfl, hC, hO, hK, h0, h1, a1, a0, p8, p9⟩
  refine c_sr ?_
  refine pl_val (.int .i64 0) (y_assign rfl) ?_
  refine c_nil ?_
  refine c_seq ?_
  obtain ⟨o261, q0, hs⟩ := bind_some hs
  refine wp_block ?_
  refine wp_iter (id := 2) (I := fun s257 a a5 => ∃ (σ : Nat → Value) (c2 : Nat → Prop) (b8 : Option Addr) (b9 : Nat) (c0 : Nat) (h5 : List Nat) (d3 : Option Addr) (d4 : Nat) (d5 : Nat) (h6 : List Nat), a = fr 68 (ovl σ [(0, (.int .i64 n)), (1, (.slice pa0 pn0 pc0)), (2, (.slice pa1 pn1 pc1)), (6, (.pointer (some ⟨a3, 0, none⟩))), (7, (.pointer (some ⟨a2, 0, none⟩))), (9, (.int .i64 s257.1))]) ∧ Chg [] w a5 ∧ Own (Nw w []) c2 a5 (h5 ++ (h6 ++ (([a2]) ++ (([a3]) ++ [])))) ∧ KeepsF w [] M c2 ∧ (RT.rs (RT.pr (RT.int .i64) (RT.rs (RT.int .i64)))).val c2 a5 (.slice pa0 pn0 pc0) ops ([]) ∧ (RT.rs (RT.rs (RT.int .i64))).val c2 a5 (.slice pa1 pn1 pc1) first ([]) ∧ BoxV a5 a3 89 [(.slice none 0 0), (.slice none 0 0), (.bool false)] ∧ BoxV a5 a2 89 [(.slice b8 b9 c0), (.slice d3 d4 d5), (.bool s257.2.2.2)] ∧ (RT.os 37 (RT.rs (RT.int .i64))).val c2 a5 (.slice b8 b9 c0) s257.2.1 h5 ∧ (RT.os 119 (RT.pr (RT.int .i64) (RT.os 3 (RT.int .i64)))).val c2 a5 (.slice d3 d4 d5) s257.2.2.1 h6) (J := fun s257 a a5 => ∃ (σ : Nat → Value) (g2 : Nat → Prop) (d6 : Option Addr) (d7 : Nat) (d8 : Nat) (i6 : List Nat) (d9 : Option Addr) (e0 : Nat) (e1 : Nat) (i7 : List Nat), a = fr 68 (ovl σ [(6, (.pointer (some ⟨a3, 0, none⟩))), (7, (.pointer (some ⟨a2, 0, none⟩)))]) ∧ Chg [] w a5 ∧ Own (Nw w []) g2 a5 (i6 ++ (i7 ++ (([a2]) ++ (([a3]) ++ [])))) ∧ KeepsF w [] M g2 ∧ (RT.rs (RT.pr (RT.int .i64) (RT.rs (RT.int .i64)))).val g2 a5 (.slice pa0 pn0 pc0) ops ([]) ∧ (RT.rs (RT.rs (RT.int .i64))).val g2 a5 (.slice pa1 pn1 pc1) first ([]) ∧ BoxV a5 a3 89 [(.slice none 0 0), (.slice none 0 0), (.bool false)] ∧ BoxV a5 a2 89 [(.slice d6 d7 d8), (.slice d9 e0 e1), (.bool s257.2.2.2)] ∧ (RT.os 37 (RT.rs (RT.int .i64))).val g2 a5 (.slice d6 d7 d8) s257.2.1 i6 ∧ (RT.os 119 (RT.pr (RT.int .i64) (RT.os 3 (RT.int .i64)))).val g2 a5 (.slice d9 e0 e1) s257.2.2.1 i7) (K := (k_spec_l12Rounds M w)) ?_ FU (0, s58.1, s58.2.1, s58.2.2) o261 _ _ ?_ q0 ?_
  ·rintro s257 o261 a a5 ⟨σ, c2, b8, b9, c0, h5, d3, d4, d5, h6, rfl, hC, hO, hK, h0, h1, a1, a0, g6, i9⟩ hs
   refine c_seq ?_
   refine c_seq ?_
   refine c_mid (I := fun a n5 => ∃ (σ : Nat → Value), a = fr 68 (ovl σ [(0, (.int .i64 n)), (1, (.slice pa0 pn0 pc0)), (2, (.slice pa1 pn1 pc1)), (6, (.pointer (some ⟨a3, 0, none⟩))), (7, (.pointer (some ⟨a2, 0, none⟩))), (9, (.int .i64 s257.1)), (37, (.bool ((decide (s257.1 < (s257.2.1.length : Int))) && (!s257.2.2.2))))]) ∧ Chg [] a5 n5) ?_ ?_
   ·have hMid := Chg.refl [] a5
    refine c_region ?_
    refine pl_val (.int .i64 s257.1) (y_move rfl) ?_
    refine pl_val (.pointer (some ⟨a2, 0, none⟩)) (y_faddr rfl Fa89x0) ?_
    refine pl_val (.slice b8 b9 c0) (y_load rfl ((box_load Ag47 Sz47 a0 [] [(.slice b8 b9 c0)] [(.slice d3 d4 d5), (.bool s257.2.2.2)] rfl rfl (fun _ => rfl)) _ (Chg.refl _ _))) ?_
    refine pl_val (.int .i64 (s257.2.1.length : Int)) (y_len' Sl47 (os_len g6) rfl) ?_
    refine pl_val (.bool (decide (s257.1 < (s257.2.1.length : Int)))) (y_lss rfl rfl) ?_
    refine pl_val (.bool (decide (s257.1 < (s257.2.1.length : Int)))) (y_move rfl) ?_
    rcases Bool.eq_false_or_eq_true ((decide (s257.1 < (s257.2.1.length : Int)))) with b5 | b5
    ·skip
     refine pl_yes (.pointer (some ⟨a2, 2, none⟩)) (tg := 33) (by kernel_rfl) (congrArg Value.bool b5) (y_faddr rfl Fa89x2) ?_
     refine pl_yes (.bool s257.2.2.2) (tg := 33) (by kernel_rfl) (congrArg Value.bool b5) (y_load rfl ((box_load Ag4 Sz4 a0 [(.slice b8 b9 c0), (.slice d3 d4 d5)] [(.bool s257.2.2.2)] [] rfl rfl (fun _ => rfl)) _ (Chg.refl _ _))) ?_
     refine pl_yes (.bool (!s257.2.2.2)) (tg := 33) (by kernel_rfl) (congrArg Value.bool b5) (y_not rfl) ?_
     refine pl_val (.bool ((decide (s257.1 < (s257.2.1.length : Int))) && (!s257.2.2.2))) (y_pick_t (congrArg Value.bool b5) (congrArg Value.bool (by rw [b5]; rfl))) ?_
     refine c_nil ?_
     exact ⟨_, fr_ovl 68 ⟨rfl, rfl, rfl, rfl, rfl, rfl, rfl, trivial⟩, hMid⟩
    refine pl_not (tg := 33) (by kernel_rfl) (congrArg Value.bool b5) ?_
    refine pl_not (tg := 33) (by kernel_rfl) (congrArg Value.bool b5) ?_
    refine pl_not (tg := 33) (by kernel_rfl) (congrArg Value.bool b5) ?_
    refine pl_val (.bool ((decide (s257.1 < (s257.2.1.length : Int))) && (!s257.2.2.2))) (y_pick_f (congrArg Value.bool b5) (congrArg Value.bool (by rw [b5]; rfl))) ?_
    refine c_nil ?_
    exact ⟨_, fr_ovl 68 ⟨rfl, rfl, rfl, rfl, rfl, rfl, rfl, trivial⟩, hMid⟩
   rintro g1 n5 ⟨σ, rfl, e2⟩
   have h0 := h0.ext e2
   have h1 := h1.ext e2
   have a1 := a1.cn e2
   have a0 := a0.cn e2
   have g6 := g6.ext e2
   have i9 := i9.ext e2
   have hC := hC.ext e2
   have hO := hO.ext e2
   rcases bif_some hs with ⟨l1, hs⟩ | ⟨l1, hs⟩
   ·refine c_condT (congrArg Value.bool l1) ?_
    refine wp_skip ?_
    refine wp_block ?_
    refine c_sr ?_
    refine pl_val (.pointer (some ⟨a2, 0, none⟩)) (y_faddr rfl Fa89x0) ?_
    refine pl_val (.slice b8 b9 c0) (y_load rfl ((box_load Ag47 Sz47 a0 [] [(.slice b8 b9 c0)] [(.slice d3 d4 d5), (.bool s257.2.2.2)] rfl rfl (fun _ => rfl)) _ (Chg.refl _ _))) ?_
    refine pl_val (.int .i64 (s257.2.1.length : Int)) (y_len' Sl47 (os_len g6) rfl) ?_
    refine pl_val (.int .i64 (s257.2.1.length : Int)) (y_assign rfl) ?_
    refine c_nil ?_
    refine c_seq ?_
    refine c_sr ?_
    refine pl_val (.int .i64 0) (y_assign rfl) ?_
    refine c_nil ?_
    obtain ⟨o325, q1, hs⟩ := bind_some hs
    refine wp_block ?_
    refine wp_iter (id := 4) (I := fun s321 a a6 => ∃ (σ : Nat → Value) (a8 : Nat → Prop) (e3 : Option Addr) (e4 : Nat) (e5 : Nat) (b2 : List Nat) (e6 : Option Addr) (e7 : Nat) (e8 : Nat) (b3 : List Nat), a = fr 68 (ovl σ [(0, (.int .i64 n)), (1, (.slice pa0 pn0 pc0)), (2, (.slice pa1 pn1 pc1)), (6, (.pointer (some ⟨a3, 0, none⟩))), (7, (.pointer (some ⟨a2, 0, none⟩))), (9, (.int .i64 s257.1)), (10, (.int .i64 (s257.2.1.length : Int))), (11, (.int .i64 s321.1))]) ∧ Chg [] w a6 ∧ Own (Nw w []) a8 a6 (b2 ++ (b3 ++ (([a2]) ++ (([a3]) ++ [])))) ∧ KeepsF w [] M a8 ∧ (RT.rs (RT.pr (RT.int .i64) (RT.rs (RT.int .i64)))).val a8 a6 (.slice pa0 pn0 pc0) ops ([]) ∧ (RT.rs (RT.rs (RT.int .i64))).val a8 a6 (.slice pa1 pn1 pc1) first ([]) ∧ BoxV a6 a3 89 [(.slice none 0 0), (.slice none 0 0), (.bool false)] ∧ BoxV a6 a2 89 [(.slice e3 e4 e5), (.slice e6 e7 e8), (.bool s321.2.2.2)] ∧ (RT.os 37 (RT.rs (RT.int .i64))).val a8 a6 (.slice e3 e4 e5) s321.2.1 b2 ∧ (RT.os 119 (RT.pr (RT.int .i64) (RT.os 3 (RT.int .i64)))).val a8 a6 (.slice e6 e7 e8) s321.2.2.1 b3) (J := fun s321 a a6 => ∃ (σ : Nat → Value) (e9 : Nat → Prop) (j0 : Option Addr) (j1 : Nat) (j2 : Nat) (j3 : List Nat) (j4 : Option Addr) (j5 : Nat) (j6 : Nat) (j7 : List Nat), a = fr 68 (ovl σ [(0, (.int .i64 n)), (1, (.slice pa0 pn0 pc0)), (2, (.slice pa1 pn1 pc1)), (6, (.pointer (some ⟨a3, 0, none⟩))), (7, (.pointer (some ⟨a2, 0, none⟩))), (9, (.int .i64 s257.1)), (10, (.int .i64 (s257.2.1.length : Int)))]) ∧ Chg [] w a6 ∧ Own (Nw w []) e9 a6 (j3 ++ (j7 ++ (([a2]) ++ (([a3]) ++ [])))) ∧ KeepsF w [] M e9 ∧ (RT.rs (RT.pr (RT.int .i64) (RT.rs (RT.int .i64)))).val e9 a6 (.slice pa0 pn0 pc0) ops ([]) ∧ (RT.rs (RT.rs (RT.int .i64))).val e9 a6 (.slice pa1 pn1 pc1) first ([]) ∧ BoxV a6 a3 89 [(.slice none 0 0), (.slice none 0 0), (.bool false)] ∧ BoxV a6 a2 89 [(.slice j0 j1 j2), (.slice j4 j5 j6), (.bool s321.2.2.2)] ∧ (RT.os 37 (RT.rs (RT.int .i64))).val e9 a6 (.slice j0 j1 j2) s321.2.1 j3 ∧ (RT.os 119 (RT.pr (RT.int .i64) (RT.os 3 (RT.int .i64)))).val e9 a6 (.slice j4 j5 j6) s321.2.2.1 j7) (K := (k_spec_l12Rounds M w)) ?_ FU (0, s257.2.1, s257.2.2.1, s257.2.2.2) o325 _ _ ?_ q1 ?_
    ·rintro s321 o325 a a6 ⟨σ, a8, e3, e4, e5, b2, e6, e7, e8, b3, rfl, hC, hO, hK, h0, h1, a1, a0, g7, g8⟩ hs
     refine c_seq ?_
     refine c_seq ?_
     refine c_mid (I := fun a j8 => ∃ (σ : Nat → Value), a = fr 68 (ovl σ [(0, (.int .i64 n)), (1, (.slice pa0 pn0 pc0)), (2, (.slice pa1 pn1 pc1)), (6, (.pointer (some ⟨a3, 0, none⟩))), (7, (.pointer (some ⟨a2, 0, none⟩))), (9, (.int .i64 s257.1)), (10, (.int .i64 (s257.2.1.length : Int))), (11, (.int .i64 s321.1)), (49, (.bool ((decide (s321.1 < (ops.length : Int))) && (!s321.2.2.2))))]) ∧ Chg [] a6 j8) ?_ ?_
     ·have hMid := Chg.refl [] a6
      refine c_region ?_
      refine pl_val (.int .i64 s321.1) (y_move rfl) ?_
      refine pl_val (.slice pa0 pn0 pc0) (y_move rfl) ?_
      refine pl_val (.int .i64 (ops.length : Int)) (y_len' Sl26 (rs_len h0) rfl) ?_
      refine pl_val (.bool (decide (s321.1 < (ops.length : Int)))) (y_lss rfl rfl) ?_
      refine pl_val (.bool (decide (s321.1 < (ops.length : Int)))) (y_move rfl) ?_
      rcases Bool.eq_false_or_eq_true ((decide (s321.1 < (ops.length : Int)))) with b6 | b6
      ·skip
       refine pl_yes (.pointer (some ⟨a2, 2, none⟩)) (tg := 45) (by kernel_rfl) (congrArg Value.bool b6) (y_faddr rfl Fa89x2) ?_
       refine pl_yes (.bool s321.2.2.2) (tg := 45) (by kernel_rfl) (congrArg Value.bool b6) (y_load rfl ((box_load Ag4 Sz4 a0 [(.slice e3 e4 e5), (.slice e6 e7 e8)] [(.bool s321.2.2.2)] [] rfl rfl (fun _ => rfl)) _ (Chg.refl _ _))) ?_
       refine pl_yes (.bool (!s321.2.2.2)) (tg := 45) (by kernel_rfl) (congrArg Value.bool b6) (y_not rfl) ?_
       refine pl_val (.bool ((decide (s321.1 < (ops.length : Int))) && (!s321.2.2.2))) (y_pick_t (congrArg Value.bool b6) (congrArg Value.bool (by rw [b6]; rfl))) ?_
       refine c_nil ?_
       exact ⟨_, fr_ovl 68 ⟨rfl, rfl, rfl, rfl, rfl, rfl, rfl, rfl, rfl, trivial⟩, hMid⟩
      refine pl_not (tg := 45) (by kernel_rfl) (congrArg Value.bool b6) ?_
      refine pl_not (tg := 45) (by kernel_rfl) (congrArg Value.bool b6) ?_
      refine pl_not (tg := 45) (by kernel_rfl) (congrArg Value.bool b6) ?_
      refine pl_val (.bool ((decide (s321.1 < (ops.length : Int))) && (!s321.2.2.2))) (y_pick_f (congrArg Value.bool b6) (congrArg Value.bool (by rw [b6]; rfl))) ?_
      refine c_nil ?_
      exact ⟨_, fr_ovl 68 ⟨rfl, rfl, rfl, rfl, rfl, rfl, rfl, rfl, rfl, trivial⟩, hMid⟩
     rintro g1 j8 ⟨σ, rfl, f0⟩
     have h0 := h0.ext f0
     have h1 := h1.ext f0
     have a1 := a1.cn f0
     have a0 := a0.cn f0
     have g7 := g7.ext f0
     have g8 := g8.ext f0
     have hC := hC.ext f0
     have hO := hO.ext f0
     rcases bif_some hs with ⟨l2, hs⟩ | ⟨l2, hs⟩
     ·refine c_condT (congrArg Value.bool l2) ?_
      refine wp_skip ?_
      refine c_seq ?_
      refine wp_block ?_
      refine x_start [13, 14] Mx rfl ?_
      have c3 := Chg.drew j8
      generalize World.drew j8 = g3 at c3 ⊢
      have h0 := h0.ext c3
      have h1 := h1.ext c3
      have a1 := a1.cn c3
      have a0 := a0.cn c3
      have g7 := g7.ext c3
      have g8 := g8.ext c3
      have hC := hC.ext c3
      have hO := hO.ext c3
      have hS := Chg.refl [] g3
      refine x_p 0 (.int .i64 n) rfl (by kernel_rfl)  (fun _ => y_move rfl) (fun _ => hS) ?_
      refine x_l 1 (.agg #[(.slice e3 e4 e5), (.slice e6 e7 e8), (.bool s321.2.2.2)]) rfl (by kernel_rfl)  (fun w' hw' => y_load rfl ((box_load Ag89 Sz89 a0 [] [(.slice e3 e4 e5), (.slice e6 e7 e8), (.bool s321.2.2.2)] [] rfl rfl (fun h => nomatch h)) w' hw')) hS ?_
      refine x_p 2 (.slice pa0 pn0 pc0) rfl (by kernel_rfl)  (fun _ => y_move rfl) (fun _ => hS) ?_
      refine x_p 3 (.int .i64 s321.1) rfl (by kernel_rfl)  (fun _ => y_move rfl) (fun _ => hS) ?_
      obtain ⟨x343, q2, hs⟩ := bind_some hs
      obtain ⟨q3, q4, q5, q6⟩ := rs_idx Sl26 Sz64 h0 q2
      refine x_p 4 (.pointer (some ⟨q3, q4, none⟩)) rfl (by kernel_rfl)  (fun _ => q5 _ _ _ _ _ _ _ _ _ rfl rfl) (fun _ => hS) ?_
      obtain ⟨t3, q7, q8⟩ := at_load Ag64 Sz64 (by intro h; cases h) q6
      obtain ⟨t4, rfl, q9⟩ := q8
      obtain ⟨t5, t6, rfl, r0, r1⟩ := pr_open q9
      obtain rfl := int_rel r0
      obtain ⟨r2, r3, r4, rfl, g4⟩ := rs_rel r1
      refine x_l 5 (.agg #[(.int .i64 x343.1), (.slice r2 r3 r4)]) rfl (by kernel_rfl)  (fun w' hw' => y_load rfl (q7 w' hw')) hS ?_
      refine x_p 6 (.int .i64 s321.1) rfl (by kernel_rfl)  (fun _ => y_move rfl) (fun _ => hS) ?_
      refine x_p 7 (.int .i64 (s257.2.1.length : Int)) rfl (by kernel_rfl)  (fun _ => y_move rfl) (fun _ => hS) ?_
      refine x_p 8 (.int .i64 s257.1) rfl (by kernel_rfl)  (fun _ => y_move rfl) (fun _ => hS) ?_
      refine x_p 9 (.slice pa1 pn1 pc1) rfl (by kernel_rfl)  (fun _ => y_move rfl) (fun _ => hS) ?_
      obtain ⟨x347, r5, hs⟩ := bind_some hs
      obtain ⟨r6, r7, r8, r9⟩ := rs_idx Sl47 Sz37 h1 r5
      refine x_p 10 (.pointer (some ⟨r6, r7, none⟩)) rfl (by kernel_rfl)  (fun _ => r8 _ _ _ _ _ _ _ _ _ rfl rfl) (fun _ => hS) ?_
      obtain ⟨t7, s0, f1⟩ := at_load Ag37 Sz37 (fun _ => rfl) r9
      obtain ⟨s1, s2, s3, rfl⟩ := rs_sl f1
      refine x_l 11 (.slice s1 s2 s3) rfl (by kernel_rfl)  (fun w' hw' => y_load rfl (s0 w' hw')) hS ?_
      refine x_p 12 (.int .i64 (x347.length : Int)) rfl (by kernel_rfl)  (fun _ => y_len' Sl37 (rs_len f1) rfl) (fun _ => hS) ?_
      refine x_one (i := 13) (by kernel_rfl) ?_
      have hO := hO.fr1
      have hO := hO.fr1
      have s4 := hO
      have n6 := Own.lend (F := (b2 ++ (b3 ++ ([])))) (R := ([a2]) ++ (([a3]) ++ ([]))) (Own.perm (s4) (by simp))
      obtain ⟨r352, s5, hs⟩ := bind_some hs
      refine xk_call (b := true) rfl  Bd116 rfl (c_spec_l12Round__take1 (M := a8) n (s321.2.1, s321.2.2.1, s321.2.2.2) (x343.1, x343.2) s321.1 (s257.2.1.length : Int) s257.1 (x347.length : Int) g7 g8 g4 n6 n6.fut s5) rfl (fun h => nomatch h) ?_
      rintro _ g9 ⟨l3, l4, l5, f2, l6, l7, l8, f3, rfl, f4, l9, m0, s6⟩
      have hO := hO.fr1
      have hO := hO.fr1
      have hO := hO.perm (R := (b2 ++ (b3 ++ ([]))) ++ (([a2]) ++ (([a3]) ++ ([])))) (by simp)
      have s7 := Own.pastL hO f4 s6
      have hK := hK.trans (show KeepsF w [] a8 (PastL a8 (b2 ++ (b3 ++ ([]))) g3 g9 (f2 ++ (f3 ++ ([])))) from KeepsF.pastL hC.size (fun g hg => (hO.inN g hg)))
      have h0 := h0.mt f4 hO same_
      have h1 := h1.mt f4 hO same_
      have a1 := a1.ap f4 hO same_ (mem_r (mem_l (List.mem_singleton.2 rfl)))
      have a0 := a0.ap f4 hO same_ (mem_l (List.mem_singleton.2 rfl))
      have g4 := g4.mt f4 hO same_
      have f1 := f1.mt f4 hO same_
      have hC := hC.st f4 hO same_
      have hO := s7
      have h0 := h0.sub (M' := (PastL a8 (b2 ++ (b3 ++ ([]))) g3 g9 (f2 ++ (f3 ++ ([]))))) (fun g hg => .inl hg.1)
      have h1 := h1.sub (M' := (PastL a8 (b2 ++ (b3 ++ ([]))) g3 g9 (f2 ++ (f3 ++ ([]))))) (fun g hg => .inl hg.1)
      have g4 := g4.sub (M' := (PastL a8 (b2 ++ (b3 ++ ([]))) g3 g9 (f2 ++ (f3 ++ ([]))))) (fun g hg => .inl hg.1)
      have f1 := f1.sub (M' := (PastL a8 (b2 ++ (b3 ++ ([]))) g3 g9 (f2 ++ (f3 ++ ([]))))) (fun g hg => .inl hg.1)
      have hO := hO.perm (R := f2 ++ (f3 ++ (([a2]) ++ (([a3]) ++ ([]))))) (by simp)
      refine x_one (i := 14) (by kernel_rfl) ?_
      obtain ⟨n7, s8, c4, m1⟩ := box_store (P := Try.prog) a0 [] [(.slice e3 e4 e5), (.slice e6 e7 e8), (.bool s321.2.2.2)] [] [(.slice l3 l4 l5), (.slice l6 l7 l8), (.bool r352.2.2)] rfl rfl (by intro u hu; simp only [List.mem_cons, List.not_mem_nil, or_false] at hu; rcases hu with rfl | rfl | rfl <;> rfl)
      refine xk_skip (w' := n7) (b := true) rfl (ys_store rfl rfl (s8 _ _ rfl Sz89)) rfl (fun h => nomatch h) ?_
      have hO := hO.fr2
      have h0 := h0.mt c4 hO same_
      have h1 := h1.mt c4 hO same_
      have a1 := a1.ap c4 hO same_ (mem_r (mem_r (mem_l (List.mem_singleton.2 rfl))))
      have g4 := g4.mt c4 hO same_
      have f1 := f1.mt c4 hO same_
      have l9 := l9.ma c4 hO same_ (fun _ e => (mem_l (e)))
      have m0 := m0.ma c4 hO same_ (fun _ e => (mem_r (mem_l (e))))
      have hC := hC.st c4 hO same_
      have hO := hO.ext c4
      have m1 : BoxV n7 a2 89 [(.slice l3 l4 l5), (.slice l6 l7 l8), (.bool r352.2.2)] := m1
      refine x_end (by kernel_rfl) ?_
      clear hS
      refine c_region ?_
      refine pl_val (.int .i64 s321.1) (y_move rfl) ?_
      refine pl_val (.int .i64 (w64 (s321.1 + 1))) (y_add rfl rfl) ?_
      refine pl_val (.int .i64 (w64 (s321.1 + 1))) (y_assign rfl) ?_
      refine c_nil ?_
      cases hs
      have hO := hO.fr3
      have hO := hO.fr1
      have hO := hO.fr3
      have hO := hO.fr3
      exact ⟨_, (PastL a8 (b2 ++ (b3 ++ ([]))) g3 g9 (f2 ++ (f3 ++ ([])))), l3, l4, l5, f2, l6, l7, l8, f3, fr_ovl 68 ⟨rfl, rfl, rfl, rfl, rfl, rfl, rfl, rfl, trivial⟩, hC, hO, hK, h0, h1, a1, m1, l9, m0⟩
     refine c_condF (congrArg Value.bool l2) ?_
     refine wp_exit ?_
     cases hs
     have hO := hO.fr3
     have hO := hO.fr3
     have hO := hO.fr3
     have hO := hO.fr3
     exact ⟨rfl, _, a8, e3, e4, e5, b2, e6, e7, e8, b3, fr_ovl 68 ⟨rfl, rfl, rfl, rfl, rfl, rfl, rfl, trivial⟩, hC, hO, hK, h0, h1, a1, a0, g7, g8⟩
    ·skip
     have hO := hO.fr3
     have hO := hO.fr3
     have hO := hO.fr3
     have hO := hO.fr3
     exact ⟨_, c2, b8, b9, c0, h5, d3, d4, d5, h6, fr_ovl 68 ⟨rfl, rfl, rfl, rfl, rfl, rfl, rfl, rfl, trivial⟩, hC, hO, hK, h0, h1, a1, a0, g6, i9⟩
    cases o325 with
    | nx _ => exact True.intro
    | rt r_ =>
     have hs := after_rt hs
     intro g1 j9 hK
     cases hs
     exact hK
    | br s321 =>
     have hs := after_br hs
     rintro g1 a6 ⟨σ, e9, j0, j1, j2, j3, j4, j5, j6, j7, rfl, hC, hO, hK, h0, h1, a1, a0, s9, t0⟩
     refine c_region ?_
     refine pl_val (.int .i64 (s257.2.1.length : Int)) (y_move rfl) ?_
     refine pl_val (.int .i64 (s257.2.1.length : Int)) (y_assign rfl) ?_
     refine c_nil ?_
     cases hs
     have hO := hO.fr3
     have hO := hO.fr3
     have hO := hO.fr3
     have hO := hO.fr3
     exact ⟨_, e9, j0, j1, j2, j3, j4, j5, j6, j7, fr_ovl 68 ⟨rfl, rfl, rfl, rfl, rfl, rfl, trivial⟩, hC, hO, hK, h0, h1, a1, a0, s9, t0⟩
   refine c_condF (congrArg Value.bool l1) ?_
   refine wp_exit ?_
   cases hs
   have hO := hO.fr3
   have hO := hO.fr3
   have hO := hO.fr3
   have hO := hO.fr3
   exact ⟨rfl, _, c2, b8, b9, c0, h5, d3, d4, d5, h6, fr_ovl 68 ⟨rfl, rfl, trivial⟩, hC, hO, hK, h0, h1, a1, a0, g6, i9⟩
  ·skip
   have hO := hO.fr3
   have hO := hO.fr3
   have hO := hO.fr3
   have hO := hO.fr3
   exact ⟨_, d1, h8, h9, i0, i1, i2, i3, i4, i5, fr_ovl 68 ⟨rfl, rfl, rfl, rfl, rfl, rfl, trivial⟩, hC, hO, hK, h0, h1, a1, a0, p8, p9⟩
  cases o261 with
  | nx _ => exact True.intro
  | rt r_ =>
   have hs := after_rt hs
   intro g1 j9 hK
   cases hs
   exact hK
  | br s257 =>
   have hs := after_br hs
   rintro g1 a5 ⟨σ, g2, d6, d7, d8, i6, d9, e0, e1, i7, rfl, hC, hO, hK, h0, h1, a1, a0, m2, m3⟩
   refine c_sr ?_
   refine pl_val (.agg #[(.slice d6 d7 d8), (.slice d9 e0 e1), (.bool s257.2.2.2)]) (y_load rfl ((box_load Ag89 Sz89 a0 [] [(.slice d6 d7 d8), (.slice d9 e0 e1), (.bool s257.2.2.2)] [] rfl rfl (fun h => nomatch h)) _ (Chg.refl _ _))) ?_
   obtain ⟨n8, t1, g5, m4⟩ := box_store (P := Try.prog) a1 [] [(.slice none 0 0), (.slice none 0 0), (.bool false)] [] [(.slice d6 d7 d8), (.slice d9 e0 e1), (.bool s257.2.2.2)] rfl rfl (by intro u hu; simp only [List.mem_cons, List.not_mem_nil, or_false] at hu; rcases hu with rfl | rfl | rfl <;> rfl)
   refine pl_skip (w' := n8) (ys_store rfl rfl (t1 _ _ rfl Sz89)) ?_
   have hO := hO.fr3
   have h0 := h0.mt g5 hO same_
   have h1 := h1.mt g5 hO same_
   have a0 := a0.ap g5 hO same_ (mem_r (mem_r (mem_l (List.mem_singleton.2 rfl))))
   have m2 := m2.ma g5 hO same_ (fun _ e => (mem_l (e)))
   have m3 := m3.ma g5 hO same_ (fun _ e => (mem_r (mem_l (e))))
   have hC := hC.st g5 hO same_
   have hO := hO.ext g5
   have m4 : BoxV n8 a3 89 [(.slice d6 d7 d8), (.slice d9 e0 e1), (.bool s257.2.2.2)] := m4
   refine c_nil ?_
   refine wp_ret ?_
   cases hs
   have hO := hO.drop
   have hO := hO.fr2
   have hO := hO.drop
   have hO := hO.fr1
   have hO := hO.fr1
   exact ⟨_, a3, d6, d7, d8, i6, d9, e0, e1, i7, fr_ovl 68 ⟨rfl, trivial⟩, m4, hC, (KeepsF.out hK hO.allM m2), (KeepsF.out hK hO.allM m3), hO.top⟩

theorem Bd57 : Bodied Try.prog 57 := bodied Try.func57 (by kernel_rfl) rfl

theorem Bd108 : Bodied Try.prog 108 := bodied Try.func108 (by kernel_rfl) rfl

def k_spec_l12Clone (M : Nat → Prop) (w0 : World) (r : ((List (List Int)) × (List (Int × (List Int))) × Bool)) (a : Act) (w : World) : Prop :=
  ∃ (σ : Nat → Value) (rg4 : Nat) (ra0 : Option Addr) (rn0 rc0 : Nat) (rf0 : List Nat) (ra1 : Option Addr) (rn1 rc1 : Nat) (rf1 : List Nat), a = fr 27 (ovl σ [(4, (.pointer (some ⟨rg4, 0, none⟩)))]) ∧ BoxV w rg4 89 [(.slice ra0 rn0 rc0), (.slice ra1 rn1 rc1), (.bool r.2.2)] ∧ Chg [] w0 w ∧ (RT.os 37 (RT.rs (RT.int .i64))).val (PastL M [] w0 w (rf0 ++ (rf1 ++ ([])))) w (.slice ra0 rn0 rc0) r.1 rf0 ∧ (RT.os 119 (RT.pr (RT.int .i64) (RT.os 3 (RT.int .i64)))).val (PastL M [] w0 w (rf0 ++ (rf1 ++ ([])))) w (.slice ra1 rn1 rc1) r.2.1 rf1 ∧ Own (Nw w0 []) (fun _ => True) w (rf0 ++ (rf1 ++ ([])))
def s_spec_l12Clone (a_ : Int × (List (Int × (List Int)))) (k : Int) : Option (((List (List Int)) × (List (Int × (List Int))) × Bool)) :=
  (forC (S := (List (List Int))) (R := ((List (List Int)) × (List (Int × (List Int))) × Bool)) (fun k18 s16 =>
  (s_spec_l12Projection a_.1 k k18).bind fun r27 =>
  (app s16 ([r27])).bind fun y32 =>
  some (.nx y32)) 0 k ([])).bind fun o20 => after o20 (fun r_ => some r_) (fun s16 =>
  (s_spec_l12Rounds a_.1 a_.2 s16).bind fun r37 =>
  some (r37.1, r37.2.1, r37.2.2))
set_option maxHeartbeats 4000000 in
theorem c_spec_l12Clone {M : Nat → Prop} {w : World} {pa0 : Option Addr} {pn0 pc0 : Nat} (a_ : Int × (List (Int × (List Int)))) (k : Int) (h0 : (RT.rs (RT.pr (RT.int .i64) (RT.rs (RT.int .i64)))).val M w (.slice pa0 pn0 pc0) a_.2 ([])) (hM : ∀ g, w.heap.size ≤ g → M g) {r : ((List (List Int)) × (List (Int × (List Int))) × Bool)} (hs : s_spec_l12Clone a_ k = some r) :
    Gives Try.prog 78 [(.agg #[(.int .i64 a_.1), (.slice pa0 pn0 pc0)]), (.int .i64 k)] w (fun v w' => ∃ (ra0 : Option Addr) (rn0 rc0 : Nat) (rf0 : List Nat) (ra1 : Option Addr) (rn1 rc1 : Nat) (rf1 : List Nat), v = (.agg #[(.slice ra0 rn0 rc0), (.slice ra1 rn1 rc1), (.bool r.2.2)]) ∧ Chg [] w w' ∧ (RT.os 37 (RT.rs (RT.int .i64))).val (PastL M [] w w' (rf0 ++ (rf1 ++ ([])))) w' (.slice ra0 rn0 rc0) r.1 rf0 ∧ (RT.os 119 (RT.pr (RT.int .i64) (RT.os 3 (RT.int .i64)))).val (PastL M [] w w' (rf0 ++ (rf1 ++ ([])))) w' (.slice ra1 rn1 rc1) r.2.1 rf1 ∧ Own (Nw w []) (fun _ => True) w' (rf0 ++ (rf1 ++ ([])))) := by
 refine calls_fr Try.func78 rfl Try.ntmps78 (Nat.le_of_ble_eq_true rfl) ?_
 have hO := Own.start (N := Nw w []) hM Nw.fut
 have hC := Chg.refl [] w
 unfold s_spec_l12Clone at hs
 refine wp_mono (Q := KPost (k_spec_l12Clone M w r)) ?_ (fun e a g1 h => ?_)
 rotate_left
 ·cases e
  case ret =>
   obtain ⟨σ, rg4, ra0, rn0, rc0, rf0, ra1, rn1, rc1, rf1, rfl, hbrg4, hrest⟩ := h
   exact ret1x Try.results78 (res_cell rfl (box_load Ag89 Sz89 hbrg4 [] _ [] rfl rfl (fun h => nomatch h))) ⟨ra0, rn0, rc0, rf0, ra1, rn1, rc1, rf1, rfl, hrest⟩
  all_goals exact (h : False).elim
 refine c_sr ?_
 obtain ⟨e7, a3, g2, e8, c8, a0⟩ := new_block w [(.int .i64 a_.1), (.slice pa0 pn0 pc0)] 30
 refine pl_val (w' := e7) (.pointer (some ⟨a3, 0, none⟩)) (y_box rfl (by rw [g2, e8]; kernel_rfl)) ?_
 have h0 := h0.ext c8
 have hC := hC.ext c8
 have hO := hO.new1 c8 e8 a0.lt
 obtain ⟨e9, a4, g3, f0, c1, a2⟩ := new_block e7 [(.slice none 0 0), (.slice none 0 0), (.bool false)] 89
 refine pl_val (w' := e9) (.pointer (some ⟨a4, 0, none⟩)) (y_alloc (by rw [g3, f0]; kernel_rfl)) ?_
 have h0 := h0.ext c1
 have a0 := a0.cn c1
 have hC := hC.ext c1
 have hO := hO.new1 c1 f0 a2.lt
 refine c_nil ?_
 refine c_sr ?_
 obtain ⟨f1, b0, g4, f2, b7, f3⟩ := new_block e9 [] 37
 refine pl_val (w' := f1) (.slice (some ⟨b0, 0, none⟩) 0 0) (y_bslice rfl (by rw [g4, f2]; kernel_rfl)) ?_
 have h0 := h0.ext b7
 have a0 := a0.cn b7
 have a2 := a2.cn b7
 have hC := hC.ext b7
 have hO := hO.new1 b7 f2 f3.lt
 have c9 := os_of_box (r := (RT.os 3 (RT.int .i64))) (M := M) (css := []) (fps := []) (xs := ([] : List (List Int))) f3 trivial (Nat.zero_le _) (List.nodup_cons.2 ⟨(fun h => nomatch h), List.nodup_nil⟩)
 have c9 : (RT.os 37 (RT.os 3 (RT.int .i64))).val M f1 (.slice (some ⟨b0, 0, none⟩) 0 0) [] [b0] := c9
 refine pl_val (.slice (some ⟨b0, 0, none⟩) 0 0) (y_assign rfl) ?_
 refine c_nil ?_
 refine c_seq ?_
 refine c_sr ?_
 refine pl_val (.int .i64 0) (y_assign rfl) ?_
 refine c_nil ?_
 obtain ⟨o20, g5, hs⟩ := bind_some hs
 refine wp_block ?_
 refine wp_forC (id := 0) k (I := fun k18 s16 a a1 => ∃ (σ : Nat → Value) (b1 : Option Addr) (b2 : Nat) (b3 : Nat) (a6 : List Nat), a = fr 27 (ovl σ [(1, (.int .i64 k)), (2, (.pointer (some ⟨a3, 0, none⟩))), (4, (.pointer (some ⟨a4, 0, none⟩))), (5, (.slice b1 b2 b3)), (6, (.int .i64 k18))]) ∧ Chg [] w a1 ∧ Own (Nw w []) M a1 (a6 ++ (([a4]) ++ (([a3]) ++ []))) ∧ (RT.rs (RT.pr (RT.int .i64) (RT.rs (RT.int .i64)))).val M a1 (.slice pa0 pn0 pc0) a_.2 ([]) ∧ BoxV a1 a3 30 [(.int .i64 a_.1), (.slice pa0 pn0 pc0)] ∧ BoxV a1 a4 89 [(.slice none 0 0), (.slice none 0 0), (.bool false)] ∧ (RT.os 37 (RT.os 3 (RT.int .i64))).val M a1 (.slice b1 b2 b3) s16 a6) (J := fun s16 a a1 => ∃ (σ : Nat → Value) (c2 : Option Addr) (c3 : Nat) (c4 : Nat) (d0 : List Nat), a = fr 27 (ovl σ [(2, (.pointer (some ⟨a3, 0, none⟩))), (4, (.pointer (some ⟨a4, 0, none⟩))), (5, (.slice c2 c3 c4))]) ∧ Chg [] w a1 ∧ Own (Nw w []) M a1 (d0 ++ (([a4]) ++ (([a3]) ++ []))) ∧ (RT.rs (RT.pr (RT.int .i64) (RT.rs (RT.int .i64)))).val M a1 (.slice pa0 pn0 pc0) a_.2 ([]) ∧ BoxV a1 a3 30 [(.int .i64 a_.1), (.slice pa0 pn0 pc0)] ∧ BoxV a1 a4 89 [(.slice none 0 0), (.slice none 0 0), (.bool false)] ∧ (RT.os 37 (RT.os 3 (RT.int .i64))).val M a1 (.slice c2 c3 c4) s16 d0) (K := (k_spec_l12Clone M w)) ?_ ?_ 0 ([]) o20 _ _ ?_ g5 ?_
 ·rintro k18 s16 a a1 ⟨σ, b1, b2, b3, a6, rfl, hC, hO, h0, a0, a2, a5⟩ hlt
  refine c_seq ?_
  refine c_sr ?_
  refine pl_val (.int .i64 k18) (y_move rfl) ?_
  refine pl_val (.int .i64 k) (y_move rfl) ?_
  refine pl_val (.bool (decide (k18 < k))) (y_lss rfl rfl) ?_
  refine c_nil ?_
  refine c_condF (congrArg Value.bool (decide_eq_false hlt)) ?_
  refine wp_exit ?_
  have hO := hO.fr2
  have hO := hO.fr2
  have hO := hO.fr2
  exact ⟨rfl, _, b1, b2, b3, a6, fr_ovl 27 ⟨rfl, rfl, rfl, trivial⟩, hC, hO, h0, a0, a2, a5⟩
 ·rintro k18 s16 o20 a a1 ⟨σ, b1, b2, b3, a6, rfl, hC, hO, h0, a0, a2, a5⟩ hlt hw hs
  refine c_seq ?_
  refine c_sr ?_
  refine pl_val (.int .i64 k18) (y_move rfl) ?_
  refine pl_val (.int .i64 k) (y_move rfl) ?_
  refine pl_val (.bool (decide (k18 < k))) (y_lss rfl rfl) ?_
  refine c_nil ?_
  refine c_condT (congrArg Value.bool (decide_eq_true hlt)) ?_
  refine wp_skip ?_
  refine c_seq ?_
  refine wp_block ?_
  refine c_region ?_
  refine pl_val (.slice b1 b2 b3) (y_move rfl) ?_
  refine pl_val (.pointer (some ⟨a3, 0, none⟩)) (y_faddr rfl Fa30x0) ?_
  refine pl_val (.int .i64 a_.1) (y_load rfl ((box_load Ag3 Sz3 a0 [] [(.int .i64 a_.1)] [(.slice pa0 pn0 pc0)] rfl rfl (fun _ => rfl)) _ (Chg.refl _ _))) ?_
  refine pl_val (.int .i64 k) (y_move rfl) ?_
  refine pl_val (.int .i64 k18) (y_move rfl) ?_
  obtain ⟨r27, g6, hs⟩ := bind_some hs
  refine pl_call Bd57 rfl (c_spec_l12Projection (M := M) a_.1 k k18  hO.fut g6) ?_
  rintro _ g7 ⟨f4, f5, f6, c5, rfl, b4, d1, g8⟩
  have h0 := h0.ext b4
  have a0 := a0.cn b4
  have a2 := a2.cn b4
  have a5 := a5.ext b4
  have hC := hC.ext b4
  have hO := Own.join0 hO b4 g8
  have hO := hO.perm (R := c5 ++ (a6 ++ (([a4]) ++ (([a3]) ++ ([]))))) (by simp)
  obtain ⟨f7, c6, g9, f8, a7, f9⟩ := new_block g7 [(.slice f4 f5 f6)] 37
  refine pl_val (w' := f7) (.slice (some ⟨c6, 0, none⟩) 1 1) (y_bslice rfl (by rw [g9, f8]; kernel_rfl)) ?_
  have h0 := h0.ext a7
  have a0 := a0.cn a7
  have a2 := a2.cn a7
  have a5 := a5.ext a7
  have d1 := d1.ext a7
  have hC := hC.ext a7
  have hO := hO.new1 a7 f8 f9.lt
  have hO := hO.perm (R := (c6 :: ((c5) ++ ([]))) ++ (a6 ++ (([a4]) ++ (([a3]) ++ ([]))))) (by simp)
  have h1 := hO.nd
  have d2 := os_of_box (r := (RT.os 3 (RT.int .i64))) (M := M) (css := [[(.slice f4 f5 f6)]]) (fps := [(c5 : List Nat)]) (xs := ([r27] : List (List Int))) f9 ⟨(os_unval d1), trivial⟩ (Nat.le_of_ble_eq_true rfl) h1
  have d2 : (RT.os 37 (RT.os 3 (RT.int .i64))).val M f7 (.slice (some ⟨c6, 0, none⟩) 1 1) [r27] (c6 :: ((c5) ++ ([]))) := d2
  obtain ⟨y32, h2, hs⟩ := bind_some hs
  have hO := hO.fr1
  obtain ⟨d3, d4, d5, h3, h4, h5, b8, h6, d6⟩ := app_os Rw47 h2 a5 d2 hO.inM (fun g hg hq => hO.apart g hq (mem_l hg))
  have c7 := os_block a5
  refine pl_val (w' := h3) (.slice d3 d4 d5) (y_append rfl rfl (h5 _)) ?_
  have hO := hO.fr1
  have hO := hO.fr1
  have h0 := h0.mt b8 hO c7
  have a0 := a0.ap b8 hO c7 (mem_r (mem_r (mem_l (List.mem_singleton.2 rfl))))
  have a2 := a2.ap b8 hO c7 (mem_r (mem_l (List.mem_singleton.2 rfl)))
  have hC := hC.st b8 hO c7
  have hO := hO.eat b8 h6 (os_nodup d6) d6.fpl
  refine pl_val (.slice d3 d4 d5) (y_assign rfl) ?_
  refine c_nil ?_
  refine c_region ?_
  refine pl_val (.int .i64 k18) (y_move rfl) ?_
  refine pl_val (.int .i64 (w64 (k18 + 1))) (y_add rfl rfl) ?_
  refine pl_val (.int .i64 (w64 (k18 + 1))) (y_assign rfl) ?_
  refine c_nil ?_
  cases hs
  have hO := hO.fr2
  have hO := hO.fr2
  have hO := hO.fr2
  exact ⟨_, d3, d4, d5, h4, fr_ovl 27 ⟨rfl, rfl, rfl, rfl, congrArg (Value.int .i64) hw, trivial⟩, hC, hO, h0, a0, a2, d6⟩
 ·skip
  have hO := hO.fr2
  have hO := hO.fr2
  have hO := hO.fr2
  exact ⟨_, (some ⟨b0, 0, none⟩), 0, 0, ([b0]), fr_ovl 27 ⟨rfl, rfl, rfl, rfl, rfl, trivial⟩, hC, hO, h0, a0, a2, c9⟩
 cases o20 with
 | nx _ => exact True.intro
 | rt r_ =>
  have hs := after_rt hs
  intro h7 g1 hK
  cases hs
  exact hK
 | br s16 =>
  have hs := after_br hs
  rintro h7 a1 ⟨σ, c2, c3, c4, d0, rfl, hC, hO, h0, a0, a2, h8⟩
  refine c_sr ?_
  refine pl_val (.pointer (some ⟨a3, 0, none⟩)) (y_faddr rfl Fa30x0) ?_
  refine pl_val (.int .i64 a_.1) (y_load rfl ((box_load Ag3 Sz3 a0 [] [(.int .i64 a_.1)] [(.slice pa0 pn0 pc0)] rfl rfl (fun _ => rfl)) _ (Chg.refl _ _))) ?_
  refine pl_val (.pointer (some ⟨a3, 1, none⟩)) (y_faddr rfl Fa30x1) ?_
  refine pl_val (.slice pa0 pn0 pc0) (y_load rfl ((box_load Ag26 Sz26 a0 [(.int .i64 a_.1)] [(.slice pa0 pn0 pc0)] [] rfl rfl (fun _ => rfl)) _ (Chg.refl _ _))) ?_
  refine pl_val (.slice c2 c3 c4) (y_move rfl) ?_
  obtain ⟨b5, i5, h9, i0, hO, a8⟩ := frzF_own (Frz.os (Frz.os Frz.int)) h8 hO
  have h0 := h0.sub (M' := b5) h9
  have hK := i0
  obtain ⟨r37, i1, hs⟩ := bind_some hs
  refine pl_call Bd108 rfl (c_spec_l12Rounds (M := b5) a_.1 a_.2 s16 h0 a8 hO.fut i1) ?_
  rintro _ d7 ⟨d8, d9, e0, b9, e1, e2, e3, c0, rfl, b6, e4, e5, i2⟩
  have hO := hO.perm (R := [] ++ (([a4]) ++ (([a3]) ++ ([])))) (by simp)
  have i3 := Own.pastL hO b6 i2
  have hK := hK.trans (show KeepsF w [] b5 (PastL b5 [] a1 d7 (b9 ++ (c0 ++ ([])))) from KeepsF.pastL hC.size (fun g hg => (hO.inN g hg)))
  have h0 := h0.ext b6
  have a0 := a0.cn b6
  have a2 := a2.cn b6
  have a8 := a8.ext b6
  have hC := hC.ext b6
  have hO := i3
  have h0 := h0.sub (M' := (PastL b5 [] a1 d7 (b9 ++ (c0 ++ ([]))))) (fun g hg => .inl hg.1)
  have a8 := a8.sub (M' := (PastL b5 [] a1 d7 (b9 ++ (c0 ++ ([]))))) (fun g hg => .inl hg.1)
  have hO := hO.perm (R := b9 ++ (c0 ++ (([a4]) ++ (([a3]) ++ ([]))))) (by simp)
  obtain ⟨g0, i4, a9, e6⟩ := box_store (P := Try.prog) a2 [] [(.slice none 0 0), (.slice none 0 0), (.bool false)] [] [(.slice d8 d9 e0), (.slice e1 e2 e3), (.bool r37.2.2)] rfl rfl (by intro u hu; simp only [List.mem_cons, List.not_mem_nil, or_false] at hu; rcases hu with rfl | rfl | rfl <;> rfl)
  refine pl_skip (w' := g0) (ys_store rfl rfl (i4 _ _ rfl Sz89)) ?_
  have hO := hO.fr2
  have h0 := h0.mt a9 hO same_
  have a0 := a0.ap a9 hO same_ (mem_r (mem_r (mem_l (List.mem_singleton.2 rfl))))
  have a8 := a8.mt a9 hO same_
  have e4 := e4.ma a9 hO same_ (fun _ e => (mem_l (e)))
  have e5 := e5.ma a9 hO same_ (fun _ e => (mem_r (mem_l (e))))
  have hC := hC.st a9 hO same_
  have hO := hO.ext a9
  have e6 : BoxV g0 a4 89 [(.slice d8 d9 e0), (.slice e1 e2 e3), (.bool r37.2.2)] := e6
  refine c_nil ?_
  refine wp_ret ?_
  cases hs
  have hO := hO.drop
  have hO := hO.fr2
  have hO := hO.drop
  have hO := hO.fr1
  have hO := hO.fr1
  exact ⟨_, a4, d8, d9, e0, b9, e1, e2, e3, c0, fr_ovl 27 ⟨rfl, trivial⟩, e6, hC, (KeepsF.out hK hO.allM e4), (KeepsF.out hK hO.allM e5), hO.top⟩

theorem Bd77 : Bodied Try.prog 77 := bodied Try.func77 (by kernel_rfl) rfl

theorem Bd78 : Bodied Try.prog 78 := bodied Try.func78 (by kernel_rfl) rfl

def k_spec_l17Clone (M : Nat → Prop) (w0 : World) (r : (List (List Int)) × Bool) (a : Act) (w : World) : Prop :=
  ∃ (σ : Nat → Value) (ra0 : Option Addr) (rn0 rc0 : Nat), a = fr 21 (ovl σ [(2, (.slice ra0 rn0 rc0)), (3, (.bool r.2))]) ∧ Chg [] w0 w ∧ (RT.rs (RT.rs (RT.int .i64))).val (Past M w0 w) w (.slice ra0 rn0 rc0) r.1 []
def s_spec_l17Clone (a_ : Int × (List (Int × (List Int)))) : Option ((List (List Int)) × Bool) :=
  ((s_spec_l2Good (a_.1, a_.2)).bind fun r7 =>
  (bif (!r7) then some true else some (decide (3 < a_.1)))).bind fun s3 =>
  (bif s3 then some ([], false) else (s_spec_l12Clone (a_.1, a_.2) 3).bind fun r14 =>
  some (r14.1, (!r14.2.2)))
set_option maxHeartbeats 4000000 in
theorem c_spec_l17Clone {M : Nat → Prop} {w : World} {pa0 : Option Addr} {pn0 pc0 : Nat} (a_ : Int × (List (Int × (List Int)))) (h0 : (RT.rs (RT.pr (RT.int .i64) (RT.rs (RT.int .i64)))).val M w (.slice pa0 pn0 pc0) a_.2 ([])) (hM : ∀ g, w.heap.size ≤ g → M g) {r : (List (List Int)) × Bool} (hs : s_spec_l17Clone a_ = some r) :
    Gives Try.prog 38 [(.agg #[(.int .i64 a_.1), (.slice pa0 pn0 pc0)])] w (fun v w' => ∃ (ra0 : Option Addr) (rn0 rc0 : Nat), v = (.tuple #[(.slice ra0 rn0 rc0), (.bool r.2)]) ∧ Chg [] w w' ∧ (RT.rs (RT.rs (RT.int .i64))).val (Past M w w') w' (.slice ra0 rn0 rc0) r.1 []) := by
 refine calls_fr Try.func38 rfl Try.ntmps38 (Nat.le_of_ble_eq_true rfl) ?_
 have hO := Own.start (N := Nw w []) hM Nw.fut
 have hC := Chg.refl [] w
 unfold s_spec_l17Clone at hs
 refine wp_mono (Q := KPost (k_spec_l17Clone M w r)) ?_ (fun e a f5 h => ?_)
 rotate_left
 ·cases e
  case ret =>
   obtain ⟨σ, ra0, rn0, rc0, rfl, hrest⟩ := h
   exact ret2x Try.results38 (res_tmp rfl) (res_tmp rfl) ⟨ra0, rn0, rc0, rfl, hrest⟩
  all_goals exact (h : False).elim
 refine c_sr ?_
 obtain ⟨c3, b1, d6, d0, c4, a0⟩ := new_block w [(.int .i64 a_.1), (.slice pa0 pn0 pc0)] 30
 refine pl_val (w' := c3) (.pointer (some ⟨b1, 0, none⟩)) (y_box rfl (by rw [d6, d0]; kernel_rfl)) ?_
 have h0 := h0.ext c4
 have hC := hC.ext c4
 have hO := hO.new1 c4 d0 a0.lt
 refine pl_val (.slice none 0 0) (y_assign rfl) ?_
 refine pl_val (.bool false) (y_assign rfl) ?_
 refine c_nil ?_
 refine c_seq ?_
 refine c_seq ?_
 obtain ⟨s3, d7, hs⟩ := bind_some hs
 refine c_mid (I := fun a b2 => ∃ (σ : Nat → Value), a = fr 21 (ovl σ [(1, (.pointer (some ⟨b1, 0, none⟩))), (2, (.slice none 0 0)), (3, (.bool false)), (12, (.bool s3))]) ∧ Chg [] c3 b2) ?_ ?_
 ·replace hs := d7
  have hMid := Chg.refl [] c3
  refine c_region ?_
  refine pl_val (.agg #[(.int .i64 a_.1), (.slice pa0 pn0 pc0)]) (y_load rfl ((box_load Ag30 Sz30 a0 [] [(.int .i64 a_.1), (.slice pa0 pn0 pc0)] [] rfl rfl (fun h => nomatch h)) _ (Chg.refl _ _))) ?_
  obtain ⟨r7, d8, hs⟩ := bind_some hs
  refine pl_call Bd77 rfl (c_spec_l2Good (M := M) (a_.1, a_.2) h0 hO.fut d8) ?_
  rintro _ f6 ⟨rfl, b3⟩
  have h0 := h0.ext b3
  have a0 := a0.cn b3
  have hMid := hMid.ext b3
  have hC := hC.ext b3
  have hO := hO.ext b3
  refine pl_val (.bool (!r7)) (y_not rfl) ?_
  refine pl_val (.bool (!r7)) (y_move rfl) ?_
  rcases bif_some hs with ⟨a1, hs⟩ | ⟨a1, hs⟩
  ·skip
   refine pl_not (tg := 8) (by kernel_rfl) (congrArg Value.bool a1) ?_
   refine pl_not (tg := 8) (by kernel_rfl) (congrArg Value.bool a1) ?_
   refine pl_not (tg := 8) (by kernel_rfl) (congrArg Value.bool a1) ?_
   refine pl_val (.bool true) (y_pick_t (congrArg Value.bool a1) rfl) ?_
   refine c_nil ?_
   cases hs
   exact ⟨_, fr_ovl 21 ⟨rfl, rfl, rfl, rfl, trivial⟩, hMid⟩
  refine pl_yes (.pointer (some ⟨b1, 0, none⟩)) (tg := 8) (by kernel_rfl) (congrArg Value.bool a1) (y_faddr rfl Fa30x0) ?_
  refine pl_yes (.int .i64 a_.1) (tg := 8) (by kernel_rfl) (congrArg Value.bool a1) (y_load rfl ((box_load Ag3 Sz3 a0 [] [(.int .i64 a_.1)] [(.slice pa0 pn0 pc0)] rfl rfl (fun _ => rfl)) _ (Chg.refl _ _))) ?_
  refine pl_yes (.bool (decide (3 < a_.1))) (tg := 8) (by kernel_rfl) (congrArg Value.bool a1) (y_gtr rfl rfl) ?_
  refine pl_val (.bool (decide (3 < a_.1))) (y_pick_f (congrArg Value.bool a1) rfl) ?_
  refine c_nil ?_
  cases hs
  exact ⟨_, fr_ovl 21 ⟨rfl, rfl, rfl, rfl, trivial⟩, hMid⟩
 rintro f7 b2 ⟨σ, rfl, b5⟩
 have h0 := h0.ext b5
 have a0 := a0.cn b5
 have hC := hC.ext b5
 have hO := hO.ext b5
 rcases bif_some hs with ⟨c5, hs⟩ | ⟨c5, hs⟩
 ·refine c_condT (congrArg Value.bool c5) ?_
  refine c_sr ?_
  obtain ⟨d1, b4, d9, d2, b6, d3⟩ := new_block b2 [] 37
  refine pl_val (w' := d1) (.slice (some ⟨b4, 0, none⟩) 0 0) (y_bslice rfl (by rw [d9, d2]; kernel_rfl)) ?_
  have h0 := h0.ext b6
  have a0 := a0.cn b6
  have hC := hC.ext b6
  have hO := hO.new1 b6 d2 d3.lt
  have c6 := os_of_box (r := (RT.os 3 (RT.int .i64))) (M := M) (css := []) (fps := []) (xs := ([] : List (List Int))) d3 trivial (Nat.zero_le _) (List.nodup_cons.2 ⟨(fun h => nomatch h), List.nodup_nil⟩)
  have c6 : (RT.os 37 (RT.os 3 (RT.int .i64))).val M d1 (.slice (some ⟨b4, 0, none⟩) 0 0) [] [b4] := c6
  refine pl_val (.slice (some ⟨b4, 0, none⟩) 0 0) (y_assign rfl) ?_
  refine pl_val (.bool false) (y_assign rfl) ?_
  refine c_nil ?_
  refine wp_ret ?_
  cases hs
  obtain ⟨e0, f8, e1, e2, hO, e3⟩ := frz_own (Frz.os (Frz.os Frz.int)) c6 hO
  have h0 := h0.sub (M' := e0) e1
  have hK := e2
  exact ⟨_, (some ⟨b4, 0, none⟩), 0, 0, fr_ovl 21 ⟨rfl, rfl, trivial⟩, hC, (Keeps.out hK e3)⟩
 refine c_condF (congrArg Value.bool c5) ?_
 refine wp_skip ?_
 refine c_sr ?_
 refine pl_val (.agg #[(.int .i64 a_.1), (.slice pa0 pn0 pc0)]) (y_load rfl ((box_load Ag30 Sz30 a0 [] [(.int .i64 a_.1), (.slice pa0 pn0 pc0)] [] rfl rfl (fun h => nomatch h)) _ (Chg.refl _ _))) ?_
 obtain ⟨r14, e4, hs⟩ := bind_some hs
 refine pl_call Bd78 rfl (c_spec_l12Clone (M := M) (a_.1, a_.2) 3 h0 hO.fut e4) ?_
 rintro _ c7 ⟨a3, a4, a5, c8, b7, b8, b9, c9, rfl, c0, a6, a2, e5⟩
 have hO := hO.perm (R := [] ++ (([b1]) ++ ([]))) (by simp)
 have e6 := Own.pastL hO c0 e5
 have hK := (show Keeps w M (PastL M [] b2 c7 (c8 ++ (c9 ++ ([])))) from Keeps.pastL hC.size (fun g hg => (hO.inN g hg).resolve_left (fun h => nomatch h)))
 have h0 := h0.ext c0
 have a0 := a0.cn c0
 have hC := hC.ext c0
 have hO := e6
 have h0 := h0.sub (M' := (PastL M [] b2 c7 (c8 ++ (c9 ++ ([]))))) (fun g hg => .inl hg.1)
 have hO := hO.perm (R := c8 ++ (c9 ++ (([b1]) ++ ([])))) (by simp)
 obtain ⟨e7, c1, e8, d4, a8, d5⟩ := new_block c7 [(.slice none 0 0), (.slice none 0 0), (.bool false)] 89
 refine pl_val (w' := e7) (.pointer (some ⟨c1, 0, none⟩)) (y_alloc (by rw [e8, d4]; kernel_rfl)) ?_
 have h0 := h0.ext a8
 have a0 := a0.cn a8
 have a6 := a6.ext a8
 have a2 := a2.ext a8
 have hC := hC.ext a8
 have hO := hO.new1 a8 d4 d5.lt
 obtain ⟨c2, e9, a9, b0⟩ := box_store (P := Try.prog) d5 [] [(.slice none 0 0), (.slice none 0 0), (.bool false)] [] [(.slice a3 a4 a5), (.slice b7 b8 b9), (.bool r14.2.2)] rfl rfl (by intro u hu; simp only [List.mem_cons, List.not_mem_nil, or_false] at hu; rcases hu with rfl | rfl | rfl <;> rfl)
 refine pl_skip (w' := c2) (ys_store rfl rfl (e9 _ _ rfl Sz89)) ?_
 have h0 := h0.mt a9 hO same_
 have a0 := a0.ap a9 hO same_ (mem_r (mem_r (mem_l (List.mem_singleton.2 rfl))))
 have a6 := a6.ma a9 hO same_ (fun _ e => (mem_l (e)))
 have a2 := a2.ma a9 hO same_ (fun _ e => (mem_r (mem_l (e))))
 have hC := hC.st a9 hO same_
 have hO := hO.ext a9
 have b0 : BoxV c2 c1 89 [(.slice a3 a4 a5), (.slice b7 b8 b9), (.bool r14.2.2)] := b0
 refine c_nil ?_
 refine c_seq ?_
 refine x_start [] Mx rfl ?_
 have a7 := Chg.drew c2
 generalize World.drew c2 = f0 at a7 ⊢
 have a0 := a0.cn a7
 have a6 := a6.ext a7
 have a2 := a2.ext a7
 have b0 := b0.cn a7
 have hC := hC.ext a7
 have hO := hO.ext a7
 have hS := Chg.refl [] f0
 refine x_p 0 (.pointer (some ⟨c1, 0, none⟩)) rfl (by kernel_rfl)  (fun _ => y_faddr rfl Fa89x0) (fun _ => hS) ?_
 refine x_l 1 (.slice a3 a4 a5) rfl (by kernel_rfl)  (fun w' hw' => y_load rfl ((box_load Ag47 Sz47 b0 [] [(.slice a3 a4 a5)] [(.slice b7 b8 b9), (.bool r14.2.2)] rfl rfl (fun _ => rfl)) w' hw')) hS ?_
 refine x_p 2 (.pointer (some ⟨c1, 2, none⟩)) rfl (by kernel_rfl)  (fun _ => y_faddr rfl Fa89x2) (fun _ => hS) ?_
 refine x_l 3 (.bool r14.2.2) rfl (by kernel_rfl)  (fun w' hw' => y_load rfl ((box_load Ag4 Sz4 b0 [(.slice a3 a4 a5), (.slice b7 b8 b9)] [(.bool r14.2.2)] [] rfl rfl (fun _ => rfl)) w' hw')) hS ?_
 refine x_p 4 (.bool (!r14.2.2)) rfl (by kernel_rfl)  (fun _ => y_not rfl) (fun _ => hS) ?_
 refine x_p 5 (.slice a3 a4 a5) rfl (by kernel_rfl)  (fun _ => y_assign rfl) (fun _ => hS) ?_
 refine x_p 6 (.bool (!r14.2.2)) rfl (by kernel_rfl)  (fun _ => y_assign rfl) (fun _ => hS) ?_
 refine x_end (by kernel_rfl) ?_
 clear hS
 refine wp_ret ?_
 cases hs
 have hO := hO.fr1
 obtain ⟨f1, f9, f2, f3, hO, f4⟩ := frz_own (Frz.os (Frz.rs Frz.int)) a6 hO
 have a2 := a2.sub (M' := f1) f2
 have hK := hK.trans f3
 exact ⟨_, a3, a4, a5, fr_ovl 21 ⟨rfl, rfl, trivial⟩, hC, (Keeps.out hK f4)⟩

def k_spec_l17Tables (M : Nat → Prop) (w0 : World) (r : (List (List Int)) × Bool) (a : Act) (w : World) : Prop :=
  ∃ (σ : Nat → Value) (ra0 : Option Addr) (rn0 rc0 : Nat), a = fr 44 (ovl σ [(4, (.slice ra0 rn0 rc0)), (5, (.bool r.2))]) ∧ Chg [] w0 w ∧ (RT.rs (RT.rs (RT.int .i64))).val (Past M w0 w) w (.slice ra0 rn0 rc0) r.1 []
def s_spec_l17Tables (n : Int) (list : List (Int × (List Int))) : Option ((List (List Int)) × Bool) :=
  (bif (decide (13 < (list.length : Int))) then some ([], false) else (forC (S := (List (List Int))) (R := (List (List Int)) × Bool) (fun k68 s66 =>
  ((idx list k68).bind fun x81 =>
  (bif (x81.1 != 3) then some true else (idx list k68).bind fun x85 =>
  (s_spec_l2Op n (x85.1, x85.2)).bind fun r90 =>
  some (!r90))).bind fun s78 =>
  (bif s78 then some (.rt ([], false)) else (idx list k68).bind fun x95 =>
  (app s66 ([x95.2])).bind fun y103 =>
  some (.nx y103))) 0 (list.length : Int) ([])).bind fun o70 => after o70 (fun r_ => some r_) (fun s66 =>
  some (s66, true)))
set_option maxHeartbeats 4000000 in
theorem c_spec_l17Tables {M : Nat → Prop} {w : World} {pa0 : Option Addr} {pn0 pc0 : Nat} (n : Int) (list : List (Int × (List Int))) (h0 : (RT.rs (RT.pr (RT.int .i64) (RT.rs (RT.int .i64)))).val M w (.slice pa0 pn0 pc0) list ([])) (hM : ∀ g, w.heap.size ≤ g → M g) {r : (List (List Int)) × Bool} (hs : s_spec_l17Tables n list = some r) :
    Gives Try.prog 64 [(.int .i64 n), (.slice pa0 pn0 pc0)] w (fun v w' => ∃ (ra0 : Option Addr) (rn0 rc0 : Nat), v = (.tuple #[(.slice ra0 rn0 rc0), (.bool r.2)]) ∧ Chg [] w w' ∧ (RT.rs (RT.rs (RT.int .i64))).val (Past M w w') w' (.slice ra0 rn0 rc0) r.1 []) := by
 refine calls_fr Try.func64 rfl Try.ntmps64 (Nat.le_of_ble_eq_true rfl) ?_
 have hO := Own.start (N := Nw w []) hM Nw.fut
 have hC := Chg.refl [] w
 unfold s_spec_l17Tables at hs
 refine wp_mono (Q := KPost (k_spec_l17Tables M w r)) ?_ (fun e a f9 h => ?_)
 rotate_left
 ·cases e
  case ret =>
   obtain ⟨σ, ra0, rn0, rc0, rfl, hrest⟩ := h
   exact ret2x Try.results64 (res_tmp rfl) (res_tmp rfl) ⟨ra0, rn0, rc0, rfl, hrest⟩
  all_goals exact (h : False).elim
 refine c_sr ?_
 refine pl_val (.slice none 0 0) (y_assign rfl) ?_
 refine pl_val (.bool false) (y_assign rfl) ?_
 refine c_nil ?_
 refine c_sr ?_
 obtain ⟨e2, a5, g0, e3, c2, e4⟩ := new_block w [] 37
 refine pl_val (w' := e2) (.slice (some ⟨a5, 0, none⟩) 0 0) (y_bslice rfl (by rw [g0, e3]; kernel_rfl)) ?_
 have h0 := h0.ext c2
 have hC := hC.ext c2
 have hO := hO.new1 c2 e3 e4.lt
 have b7 := os_of_box (r := (RT.os 3 (RT.int .i64))) (M := M) (css := []) (fps := []) (xs := ([] : List (List Int))) e4 trivial (Nat.zero_le _) (List.nodup_cons.2 ⟨(fun h => nomatch h), List.nodup_nil⟩)
 have b7 : (RT.os 37 (RT.os 3 (RT.int .i64))).val M e2 (.slice (some ⟨a5, 0, none⟩) 0 0) [] [a5] := b7
 refine pl_val (.slice (some ⟨a5, 0, none⟩) 0 0) (y_assign rfl) ?_
 refine c_nil ?_
 refine c_seq ?_
 refine c_sr ?_
 refine pl_val (.slice pa0 pn0 pc0) (y_move rfl) ?_
 refine pl_val (.int .i64 (list.length : Int)) (y_len' Sl26 (rs_len h0) rfl) ?_
 refine pl_val (.bool (decide (13 < (list.length : Int)))) (y_gtr rfl rfl) ?_
 refine c_nil ?_
 rcases bif_some hs with ⟨c3, hs⟩ | ⟨c3, hs⟩
 ·refine c_condT (congrArg Value.bool c3) ?_
  refine c_sr ?_
  refine pl_val (.slice (some ⟨a5, 0, none⟩) 0 0) (y_move rfl) ?_
  refine pl_val (.slice (some ⟨a5, 0, none⟩) 0 0) (y_assign rfl) ?_
  refine pl_val (.bool false) (y_assign rfl) ?_
  refine c_nil ?_
  refine wp_ret ?_
  cases hs
  obtain ⟨g1, k4, g2, g3, hO, g4⟩ := frz_own (Frz.os (Frz.os Frz.int)) b7 hO
  have h0 := h0.sub (M' := g1) g2
  have hK := g3
  exact ⟨_, (some ⟨a5, 0, none⟩), 0, 0, fr_ovl 44 ⟨rfl, rfl, trivial⟩, hC, (Keeps.out hK g4)⟩
 refine c_condF (congrArg Value.bool c3) ?_
 refine wp_skip ?_
 refine c_seq ?_
 refine c_sr ?_
 refine pl_val (.int .i64 0) (y_assign rfl) ?_
 refine c_nil ?_
 obtain ⟨e5, g5, g6, g7, hO, g8⟩ := os_inner (Frz.os Frz.int) b7 hO
 have h0 := h0.sub (M' := e5) g6
 have hK := g7
 obtain ⟨o70, g9, hs⟩ := bind_some hs
 refine wp_block ?_
 refine wp_forC (id := 0) (list.length : Int) (I := fun k68 s66 a a1 => ∃ (σ : Nat → Value) (a3 : Nat → Prop) (a6 : Option Addr) (a7 : Nat) (a8 : Nat) (b4 : List Nat), a = fr 44 (ovl σ [(0, (.int .i64 n)), (1, (.slice pa0 pn0 pc0)), (6, (.slice a6 a7 a8)), (7, (.int .i64 k68))]) ∧ Chg [] w a1 ∧ Own (Nw w []) a3 a1 (b4 ++ []) ∧ Keeps w M a3 ∧ (RT.rs (RT.pr (RT.int .i64) (RT.rs (RT.int .i64)))).val a3 a1 (.slice pa0 pn0 pc0) list ([]) ∧ (RT.os 37 (RT.rs (RT.int .i64))).val a3 a1 (.slice a6 a7 a8) s66 b4) (J := fun s66 a a1 => ∃ (σ : Nat → Value) (b5 : Nat → Prop) (a9 : Option Addr) (b0 : Nat) (b1 : Nat) (c4 : List Nat), a = fr 44 (ovl σ [(6, (.slice a9 b0 b1))]) ∧ Chg [] w a1 ∧ Own (Nw w []) b5 a1 (c4 ++ []) ∧ Keeps w M b5 ∧ (RT.rs (RT.pr (RT.int .i64) (RT.rs (RT.int .i64)))).val b5 a1 (.slice pa0 pn0 pc0) list ([]) ∧ (RT.os 37 (RT.rs (RT.int .i64))).val b5 a1 (.slice a9 b0 b1) s66 c4) (K := (k_spec_l17Tables M w)) ?_ ?_ 0 ([]) o70 _ _ ?_ g9 ?_
 ·rintro k68 s66 a a1 ⟨σ, a3, a6, a7, a8, b4, rfl, hC, hO, hK, h0, a2⟩ hlt
  refine c_seq ?_
  refine c_sr ?_
  refine pl_val (.int .i64 k68) (y_move rfl) ?_
  refine pl_val (.slice pa0 pn0 pc0) (y_move rfl) ?_
  refine pl_val (.int .i64 (list.length : Int)) (y_len' Sl26 (rs_len h0) rfl) ?_
  refine pl_val (.bool (decide (k68 < (list.length : Int)))) (y_lss rfl rfl) ?_
  refine c_nil ?_
  refine c_condF (congrArg Value.bool (decide_eq_false hlt)) ?_
  refine wp_exit ?_
  exact ⟨rfl, _, a3, a6, a7, a8, b4, fr_ovl 44 ⟨rfl, trivial⟩, hC, hO, hK, h0, a2⟩
 ·rintro k68 s66 o70 a a1 ⟨σ, a3, a6, a7, a8, b4, rfl, hC, hO, hK, h0, a2⟩ hlt hw hs
  refine c_seq ?_
  refine c_sr ?_
  refine pl_val (.int .i64 k68) (y_move rfl) ?_
  refine pl_val (.slice pa0 pn0 pc0) (y_move rfl) ?_
  refine pl_val (.int .i64 (list.length : Int)) (y_len' Sl26 (rs_len h0) rfl) ?_
  refine pl_val (.bool (decide (k68 < (list.length : Int)))) (y_lss rfl rfl) ?_
  refine c_nil ?_
  refine c_condT (congrArg Value.bool (decide_eq_true hlt)) ?_
  refine wp_skip ?_
  refine c_seq ?_
  refine wp_block ?_
  refine c_seq ?_
  refine c_seq ?_
  obtain ⟨s78, h1, hs⟩ := bind_some hs
  refine c_mid (I := fun a b8 => ∃ (σ : Nat → Value), a = fr 44 (ovl σ [(0, (.int .i64 n)), (1, (.slice pa0 pn0 pc0)), (6, (.slice a6 a7 a8)), (7, (.int .i64 k68)), (33, (.bool s78))]) ∧ Chg [] a1 b8) ?_ ?_
  ·replace hs := h1
   have hMid := Chg.refl [] a1
   refine c_region ?_
   refine pl_val (.slice pa0 pn0 pc0) (y_move rfl) ?_
   refine pl_val (.int .i64 k68) (y_move rfl) ?_
   obtain ⟨x81, h2, hs⟩ := bind_some hs
   obtain ⟨e6, e7, h3, c5⟩ := rs_idx Sl26 Sz64 h0 h2
   refine pl_val (.pointer (some ⟨e6, e7, none⟩)) (h3 _ _ _ _ _ _ _ _ _ rfl rfl) ?_
   obtain ⟨c6, _⟩ := pr_at c5
   refine pl_val (.pointer (some ⟨e6, e7 + 0, none⟩)) (y_faddr rfl Fa64x0) ?_
   refine pl_val (.int .i64 x81.1) (y_load rfl ((at_load_int Ag3 Sz3 c6) _ (Chg.refl _ _))) ?_
   refine pl_val (.bool (x81.1 != 3)) (y_neq rfl rfl) ?_
   refine pl_val (.bool (x81.1 != 3)) (y_move rfl) ?_
   rcases bif_some hs with ⟨a0, hs⟩ | ⟨a0, hs⟩
   ·skip
    refine pl_not (tg := 25) (by kernel_rfl) (congrArg Value.bool a0) ?_
    refine pl_not (tg := 25) (by kernel_rfl) (congrArg Value.bool a0) ?_
    refine pl_not (tg := 25) (by kernel_rfl) (congrArg Value.bool a0) ?_
    refine pl_not (tg := 25) (by kernel_rfl) (congrArg Value.bool a0) ?_
    refine pl_not (tg := 25) (by kernel_rfl) (congrArg Value.bool a0) ?_
    refine pl_not (tg := 25) (by kernel_rfl) (congrArg Value.bool a0) ?_
    refine pl_not (tg := 25) (by kernel_rfl) (congrArg Value.bool a0) ?_
    refine pl_val (.bool true) (y_pick_t (congrArg Value.bool a0) rfl) ?_
    refine c_nil ?_
    cases hs
    exact ⟨_, fr_ovl 44 ⟨rfl, rfl, rfl, rfl, rfl, trivial⟩, hMid⟩
   refine pl_yes (.int .i64 n) (tg := 25) (by kernel_rfl) (congrArg Value.bool a0) (y_move rfl) ?_
   refine pl_yes (.slice pa0 pn0 pc0) (tg := 25) (by kernel_rfl) (congrArg Value.bool a0) (y_move rfl) ?_
   refine pl_yes (.int .i64 k68) (tg := 25) (by kernel_rfl) (congrArg Value.bool a0) (y_move rfl) ?_
   obtain ⟨x85, h4, hs⟩ := bind_some hs
   obtain ⟨h5, h6, h7, c7⟩ := rs_idx Sl26 Sz64 h0 h4
   refine pl_yes (.pointer (some ⟨h5, h6, none⟩)) (tg := 25) (by kernel_rfl) (congrArg Value.bool a0) (h7 _ _ _ _ _ _ _ _ _ rfl rfl) ?_
   obtain ⟨k5, h8, h9⟩ := at_load Ag64 Sz64 (by intro h; cases h) c7
   obtain ⟨k6, rfl, i0⟩ := h9
   obtain ⟨k7, k8, rfl, i1, i2⟩ := pr_open i0
   obtain rfl := int_rel i1
   obtain ⟨i3, i4, i5, rfl, c8⟩ := rs_rel i2
   refine pl_yes (.agg #[(.int .i64 x85.1), (.slice i3 i4 i5)]) (tg := 25) (by kernel_rfl) (congrArg Value.bool a0) (y_load rfl (h8 _ (Chg.refl _ _))) ?_
   obtain ⟨r90, i6, hs⟩ := bind_some hs
   refine pl_cally (tg := 25) (by kernel_rfl) (congrArg Value.bool a0) Bd94 rfl (c_spec_l2Op (M := a3) n (x85.1, x85.2) c8 hO.fut i6) ?_
   rintro _ k9 ⟨rfl, a4⟩
   have h0 := h0.ext a4
   have a2 := a2.ext a4
   have c8 := c8.ext a4
   have hMid := hMid.ext a4
   have c5 := at_ext c5 a4
   have c6 := at_ext c6 a4
   have c7 := at_ext c7 a4
   have hC := hC.ext a4
   have hO := hO.ext a4
   refine pl_yes (.bool (!r90)) (tg := 25) (by kernel_rfl) (congrArg Value.bool a0) (y_not rfl) ?_
   refine pl_val (.bool (!r90)) (y_pick_f (congrArg Value.bool a0) rfl) ?_
   refine c_nil ?_
   cases hs
   exact ⟨_, fr_ovl 44 ⟨rfl, rfl, rfl, rfl, rfl, trivial⟩, hMid⟩
  rintro e8 b8 ⟨σ, rfl, b9⟩
  have h0 := h0.ext b9
  have a2 := a2.ext b9
  have hC := hC.ext b9
  have hO := hO.ext b9
  rcases bif_some hs with ⟨c9, hs⟩ | ⟨c9, hs⟩
  ·refine c_condT (congrArg Value.bool c9) ?_
   refine c_sr ?_
   obtain ⟨e9, b6, i7, f0, c0, f1⟩ := new_block b8 [] 37
   refine pl_val (w' := e9) (.slice (some ⟨b6, 0, none⟩) 0 0) (y_bslice rfl (by rw [i7, f0]; kernel_rfl)) ?_
   have h0 := h0.ext c0
   have a2 := a2.ext c0
   have hC := hC.ext c0
   have hO := hO.new1 c0 f0 f1.lt
   have d0 := os_of_box (r := (RT.os 3 (RT.int .i64))) (M := a3) (css := []) (fps := []) (xs := ([] : List (List Int))) f1 trivial (Nat.zero_le _) (List.nodup_cons.2 ⟨(fun h => nomatch h), List.nodup_nil⟩)
   have d0 : (RT.os 37 (RT.os 3 (RT.int .i64))).val a3 e9 (.slice (some ⟨b6, 0, none⟩) 0 0) [] [b6] := d0
   refine pl_val (.slice (some ⟨b6, 0, none⟩) 0 0) (y_assign rfl) ?_
   refine pl_val (.bool false) (y_assign rfl) ?_
   refine c_nil ?_
   refine wp_ret ?_
   cases hs
   obtain ⟨f2, l0, f3, i9, hO, j0⟩ := frz_own (Frz.os (Frz.os Frz.int)) d0 hO
   have h0 := h0.sub (M' := f2) f3
   have a2 := a2.sub (M' := f2) f3
   have hK := hK.trans i9
   exact ⟨_, (some ⟨b6, 0, none⟩), 0, 0, fr_ovl 44 ⟨rfl, rfl, trivial⟩, hC, (Keeps.out hK j0)⟩
  refine c_condF (congrArg Value.bool c9) ?_
  refine wp_skip ?_
  refine c_region ?_
  refine pl_val (.slice a6 a7 a8) (y_move rfl) ?_
  refine pl_val (.slice pa0 pn0 pc0) (y_move rfl) ?_
  refine pl_val (.int .i64 k68) (y_move rfl) ?_
  obtain ⟨x95, j1, hs⟩ := bind_some hs
  obtain ⟨f4, f5, j2, d1⟩ := rs_idx Sl26 Sz64 h0 j1
  refine pl_val (.pointer (some ⟨f4, f5, none⟩)) (j2 _ _ _ _ _ _ _ _ _ rfl rfl) ?_
  obtain ⟨_, j3⟩ := pr_at d1
  refine pl_val (.pointer (some ⟨f4, f5 + 1, none⟩)) (y_faddr rfl Fa64x1) ?_
  obtain ⟨l1, j4, b2⟩ := at_load Ag37 Sz37 (fun _ => rfl) j3
  obtain ⟨d2, d3, d4, rfl⟩ := rs_sl b2
  refine pl_val (.slice d2 d3 d4) (y_load rfl (j4 _ (Chg.refl _ _))) ?_
  obtain ⟨f6, d5, j5, f7, b3, f8⟩ := new_block b8 [(.slice d2 d3 d4)] 37
  refine pl_val (w' := f6) (.slice (some ⟨d5, 0, none⟩) 1 1) (y_bslice rfl (by rw [j5, f7]; kernel_rfl)) ?_
  have h0 := h0.ext b3
  have a2 := a2.ext b3
  have b2 := b2.ext b3
  have d1 := at_ext d1 b3
  have hC := hC.ext b3
  have hO := hO.new1 b3 f7 f8.lt
  have d6 := os_of_box (r := (RT.rs (RT.int .i64))) (M := a3) (css := [[(.slice d2 d3 d4)]]) (fps := [([] : List Nat)]) (xs := ([x95.2] : List (List Int))) f8 ⟨(rs_unval b2), trivial⟩ (Nat.le_of_ble_eq_true rfl) (List.nodup_cons.2 ⟨(fun h => nomatch h), List.nodup_nil⟩)
  have d6 : (RT.os 37 (RT.rs (RT.int .i64))).val a3 f6 (.slice (some ⟨d5, 0, none⟩) 1 1) [x95.2] [d5] := d6
  obtain ⟨y103, j6, hs⟩ := bind_some hs
  have hO := hO.fr1
  obtain ⟨d7, d8, d9, j7, j8, j9, c1, k0, e0⟩ := app_os Rw47 j6 a2 d6 hO.inM (fun g hg hq => hO.apart g hq (mem_l hg))
  have e1 := os_block a2
  refine pl_val (w' := j7) (.slice d7 d8 d9) (y_append rfl rfl (j9 _)) ?_
  have hO := hO.fr1
  have hO := hO.fr1
  have h0 := h0.mt c1 hO e1
  have b2 := b2.mt c1 hO e1
  have hC := hC.st c1 hO e1
  have hO := hO.eat c1 k0 (os_nodup e0) e0.fpl
  refine pl_val (.slice d7 d8 d9) (y_assign rfl) ?_
  refine c_nil ?_
  refine c_region ?_
  refine pl_val (.int .i64 k68) (y_move rfl) ?_
  refine pl_val (.int .i64 (w64 (k68 + 1))) (y_add rfl rfl) ?_
  refine pl_val (.int .i64 (w64 (k68 + 1))) (y_assign rfl) ?_
  refine c_nil ?_
  cases hs
  exact ⟨_, a3, d7, d8, d9, j8, fr_ovl 44 ⟨rfl, rfl, rfl, congrArg (Value.int .i64) hw, trivial⟩, hC, hO, hK, h0, e0⟩
 ·skip
  exact ⟨_, e5, (some ⟨a5, 0, none⟩), 0, 0, g5, fr_ovl 44 ⟨rfl, rfl, rfl, rfl, trivial⟩, hC, hO, hK, h0, g8⟩
 cases o70 with
 | nx _ => exact True.intro
 | rt r_ =>
  have hs := after_rt hs
  intro e8 f9 hK
  cases hs
  exact hK
 | br s66 =>
  have hs := after_br hs
  rintro e8 a1 ⟨σ, b5, a9, b0, b1, c4, rfl, hC, hO, hK, h0, k1⟩
  refine c_sr ?_
  refine pl_val (.slice a9 b0 b1) (y_move rfl) ?_
  refine pl_val (.slice a9 b0 b1) (y_assign rfl) ?_
  refine pl_val (.bool true) (y_assign rfl) ?_
  refine c_nil ?_
  refine wp_ret ?_
  cases hs
  obtain ⟨l2, l3, l4, k2, hO, k3⟩ := frz_own (Frz.os (Frz.rs Frz.int)) k1 hO
  have hK := hK.trans k2
  exact ⟨_, a9, b0, b1, fr_ovl 44 ⟨rfl, rfl, trivial⟩, hC, (Keeps.out hK k3)⟩

def k_spec_l17All (M : Nat → Prop) (w0 : World) (r : Bool) (a : Act) (w : World) : Prop :=
  ∃ (σ : Nat → Value) , a = fr 19 (ovl σ [(4, (.bool r))]) ∧ Chg [] w0 w
def s_spec_l17All (clone : List (List Int)) (tables : List (List Int)) : Option (Bool) :=
  (forC (S := Unit) (R := Bool) (fun k12 s10 =>
  (idx tables k12).bind fun x16 =>
  (s_spec_l12Place clone x16).bind fun r21 =>
  (bif (decide (r21 < 0)) then some (.rt false) else some (.nx ()))) 0 (tables.length : Int) ()).bind fun o14 => after o14 (fun r_ => some r_) (fun s10 =>
  some true)
set_option maxHeartbeats 4000000 in
theorem c_spec_l17All {M : Nat → Prop} {w : World} {pa0 : Option Addr} {pn0 pc0 : Nat} {pa1 : Option Addr} {pn1 pc1 : Nat} (clone : List (List Int)) (tables : List (List Int)) (h0 : (RT.rs (RT.rs (RT.int .i64))).val M w (.slice pa0 pn0 pc0) clone ([])) (h1 : (RT.rs (RT.rs (RT.int .i64))).val M w (.slice pa1 pn1 pc1) tables ([])) (hM : ∀ g, w.heap.size ≤ g → M g) {r : Bool} (hs : s_spec_l17All clone tables = some r) :
    Gives Try.prog 65 [(.slice pa0 pn0 pc0), (.slice pa1 pn1 pc1)] w (fun v w' => v = (.bool r) ∧ Chg [] w w') := by
 refine calls_fr Try.func65 rfl Try.ntmps65 (Nat.le_of_ble_eq_true rfl) ?_
 have hO := Own.start (N := Nw w []) hM Nw.fut
 have hC := Chg.refl [] w
 unfold s_spec_l17All at hs
 refine wp_mono (Q := KPost (k_spec_l17All M w r)) ?_ (fun e a a5 h => ?_)
 rotate_left
 ·cases e
  case ret =>
   obtain ⟨σ, rfl, hrest⟩ := h
   exact ret1x Try.results65 (res_tmp rfl) ⟨rfl, hrest⟩
  all_goals exact (h : False).elim
 refine c_sr ?_
 refine pl_val (.bool false) (y_assign rfl) ?_
 refine c_nil ?_
 refine c_seq ?_
 refine c_sr ?_
 refine pl_val (.int .i64 0) (y_assign rfl) ?_
 refine c_nil ?_
 obtain ⟨o14, a6, hs⟩ := bind_some hs
 refine wp_block ?_
 refine wp_forC (id := 0) (tables.length : Int) (I := fun k12 s10 a a0 => ∃ (σ : Nat → Value), a = fr 19 (ovl σ [(0, (.slice pa0 pn0 pc0)), (1, (.slice pa1 pn1 pc1)), (5, (.int .i64 k12))]) ∧ Chg [] w a0 ∧ Own (Nw w []) M a0 ([]) ∧ (RT.rs (RT.rs (RT.int .i64))).val M a0 (.slice pa0 pn0 pc0) clone ([]) ∧ (RT.rs (RT.rs (RT.int .i64))).val M a0 (.slice pa1 pn1 pc1) tables ([])) (J := fun s10 a a0 => ∃ (σ : Nat → Value), a = fr 19 (ovl σ []) ∧ Chg [] w a0 ∧ Own (Nw w []) M a0 ([]) ∧ (RT.rs (RT.rs (RT.int .i64))).val M a0 (.slice pa0 pn0 pc0) clone ([]) ∧ (RT.rs (RT.rs (RT.int .i64))).val M a0 (.slice pa1 pn1 pc1) tables ([])) (K := (k_spec_l17All M w)) ?_ ?_ 0 () o14 _ _ ?_ a6 ?_
 ·rintro k12 s10 a a0 ⟨σ, rfl, hC, hO, h0, h1⟩ hlt
  refine c_seq ?_
  refine c_sr ?_
  refine pl_val (.int .i64 k12) (y_move rfl) ?_
  refine pl_val (.slice pa1 pn1 pc1) (y_move rfl) ?_
  refine pl_val (.int .i64 (tables.length : Int)) (y_len' Sl47 (rs_len h1) rfl) ?_
  refine pl_val (.bool (decide (k12 < (tables.length : Int)))) (y_lss rfl rfl) ?_
  refine c_nil ?_
  refine c_condF (congrArg Value.bool (decide_eq_false hlt)) ?_
  refine wp_exit ?_
  exact ⟨rfl, _, fr_ovl 19 trivial, hC, hO, h0, h1⟩
 ·rintro k12 s10 o14 a a0 ⟨σ, rfl, hC, hO, h0, h1⟩ hlt hw hs
  refine c_seq ?_
  refine c_sr ?_
  refine pl_val (.int .i64 k12) (y_move rfl) ?_
  refine pl_val (.slice pa1 pn1 pc1) (y_move rfl) ?_
  refine pl_val (.int .i64 (tables.length : Int)) (y_len' Sl47 (rs_len h1) rfl) ?_
  refine pl_val (.bool (decide (k12 < (tables.length : Int)))) (y_lss rfl rfl) ?_
  refine c_nil ?_
  refine c_condT (congrArg Value.bool (decide_eq_true hlt)) ?_
  refine wp_skip ?_
  refine c_seq ?_
  refine wp_block ?_
  refine c_sr ?_
  refine pl_val (.slice pa0 pn0 pc0) (y_move rfl) ?_
  refine pl_val (.slice pa1 pn1 pc1) (y_move rfl) ?_
  refine pl_val (.int .i64 k12) (y_move rfl) ?_
  obtain ⟨x16, a7, hs⟩ := bind_some hs
  obtain ⟨a8, a9, b0, a3⟩ := rs_idx Sl47 Sz37 h1 a7
  refine pl_val (.pointer (some ⟨a8, a9, none⟩)) (b0 _ _ _ _ _ _ _ _ _ rfl rfl) ?_
  obtain ⟨b7, b1, a2⟩ := at_load Ag37 Sz37 (fun _ => rfl) a3
  obtain ⟨b2, b3, b4, rfl⟩ := rs_sl a2
  refine pl_val (.slice b2 b3 b4) (y_load rfl (b1 _ (Chg.refl _ _))) ?_
  obtain ⟨r21, b5, hs⟩ := bind_some hs
  refine pl_call Bd56 rfl (c_spec_l12Place (M := M) clone x16 h0 a2 hO.fut b5) ?_
  rintro _ b8 ⟨rfl, a1⟩
  have h0 := h0.ext a1
  have h1 := h1.ext a1
  have a2 := a2.ext a1
  have a3 := at_ext a3 a1
  have hC := hC.ext a1
  have hO := hO.ext a1
  refine pl_val (.bool (decide (r21 < 0))) (y_lss rfl rfl) ?_
  refine c_nil ?_
  rcases bif_some hs with ⟨a4, hs⟩ | ⟨a4, hs⟩
  ·refine c_condT (congrArg Value.bool a4) ?_
   refine c_sr ?_
   refine pl_val (.bool false) (y_assign rfl) ?_
   refine c_nil ?_
   refine wp_ret ?_
   cases hs
   exact ⟨_, fr_ovl 19 ⟨rfl, trivial⟩, hC⟩
  refine c_condF (congrArg Value.bool a4) ?_
  refine wp_skip ?_
  refine c_region ?_
  refine pl_val (.int .i64 k12) (y_move rfl) ?_
  refine pl_val (.int .i64 (w64 (k12 + 1))) (y_add rfl rfl) ?_
  refine pl_val (.int .i64 (w64 (k12 + 1))) (y_assign rfl) ?_
  refine c_nil ?_
  cases hs
  exact ⟨_, fr_ovl 19 ⟨rfl, rfl, congrArg (Value.int .i64) hw, trivial⟩, hC, hO, h0, h1⟩
 ·skip
  exact ⟨_, fr_ovl 19 ⟨rfl, rfl, rfl, trivial⟩, hC, hO, h0, h1⟩
 cases o14 with
 | nx _ => exact True.intro
 | rt r_ =>
  have hs := after_rt hs
  intro b6 a5 hK
  cases hs
  exact hK
 | br s10 =>
  have hs := after_br hs
  rintro b6 a0 ⟨σ, rfl, hC, hO, h0, h1⟩
  refine c_sr ?_
  refine pl_val (.bool true) (y_assign rfl) ?_
  refine c_nil ?_
  refine wp_ret ?_
  cases hs
  exact ⟨_, fr_ovl 19 ⟨rfl, trivial⟩, hC⟩

def k_spec_l17Value (M : Nat → Prop) (w0 : World) (r : Int) (a : Act) (w : World) : Prop :=
  ∃ (σ : Nat → Value) , a = fr 25 (ovl σ [(10, (.int .i64 r))]) ∧ Chg [] w0 w
def s_spec_l17Value (n : Int) (f : List Int) (x_ : Int) (y : Int) (z : Int) : Option (Int) :=
  (idx f (w64 ((w64 ((w64 ((w64 (x_ * n)) * n)) + (w64 (y * n)))) + z))).bind fun x2 =>
  some x2
set_option maxHeartbeats 4000000 in
theorem c_spec_l17Value {M : Nat → Prop} {w : World} {pa0 : Option Addr} {pn0 pc0 : Nat} (n : Int) (f : List Int) (x_ : Int) (y : Int) (z : Int) (h0 : (RT.rs (RT.int .i64)).val M w (.slice pa0 pn0 pc0) f ([])) (hM : ∀ g, w.heap.size ≤ g → M g) {r : Int} (hs : s_spec_l17Value n f x_ y z = some r) :
    Gives Try.prog 79 [(.int .i64 n), (.slice pa0 pn0 pc0), (.int .i64 x_), (.int .i64 y), (.int .i64 z)] w (fun v w' => v = (.int .i64 r) ∧ Chg [] w w') := by
 refine calls_fr Try.func79 rfl Try.ntmps79 (Nat.le_of_ble_eq_true rfl) ?_
 have hO := Own.start (N := Nw w []) hM Nw.fut
 have hC := Chg.refl [] w
 unfold s_spec_l17Value at hs
 refine wp_mono (Q := KPost (k_spec_l17Value M w r)) ?_ (fun e a a5 h => ?_)
 rotate_left
 ·cases e
  case ret =>
   obtain ⟨σ, rfl, hrest⟩ := h
   exact ret1x Try.results79 (res_tmp rfl) ⟨rfl, hrest⟩
  all_goals exact (h : False).elim
 refine c_sr ?_
 refine pl_val (.int .i64 0) (y_assign rfl) ?_
 refine c_nil ?_
 refine c_sr ?_
 refine pl_val (.slice pa0 pn0 pc0) (y_move rfl) ?_
 refine pl_val (.int .i64 x_) (y_move rfl) ?_
 refine pl_val (.int .i64 n) (y_move rfl) ?_
 refine pl_val (.int .i64 (w64 (x_ * n))) (y_mul rfl rfl) ?_
 refine pl_val (.int .i64 n) (y_move rfl) ?_
 refine pl_val (.int .i64 (w64 ((w64 (x_ * n)) * n))) (y_mul rfl rfl) ?_
 refine pl_val (.int .i64 y) (y_move rfl) ?_
 refine pl_val (.int .i64 n) (y_move rfl) ?_
 refine pl_val (.int .i64 (w64 (y * n))) (y_mul rfl rfl) ?_
 refine pl_val (.int .i64 (w64 ((w64 ((w64 (x_ * n)) * n)) + (w64 (y * n))))) (y_add rfl rfl) ?_
 refine pl_val (.int .i64 z) (y_move rfl) ?_
 refine pl_val (.int .i64 (w64 ((w64 ((w64 ((w64 (x_ * n)) * n)) + (w64 (y * n)))) + z))) (y_add rfl rfl) ?_
 obtain ⟨x2, a0, hs⟩ := bind_some hs
 obtain ⟨a1, a2, a3, a4⟩ := rs_idx Sl37 Sz3 h0 a0
 refine pl_val (.pointer (some ⟨a1, a2, none⟩)) (a3 _ _ _ _ _ _ _ _ _ rfl rfl) ?_
 refine pl_val (.int .i64 x2) (y_load rfl ((at_load_int Ag3 Sz3 a4) _ (Chg.refl _ _))) ?_
 refine pl_val (.int .i64 x2) (y_assign rfl) ?_
 refine c_nil ?_
 refine wp_ret ?_
 cases hs
 exact ⟨_, fr_ovl 25 ⟨rfl, trivial⟩, hC⟩

theorem Bd79 : Bodied Try.prog 79 := bodied Try.func79 (by kernel_rfl) rfl

def k_spec_l17Part (M : Nat → Prop) (w0 : World) (r : (List Int)) (a : Act) (w : World) : Prop :=
  ∃ (σ : Nat → Value) (ra0 : Option Addr) (rn0 rc0 : Nat) (rf0 : List Nat), a = fr 54 (ovl σ [(6, (.slice ra0 rn0 rc0))]) ∧ Chg [] w0 w ∧ (RT.os 3 (RT.int .i64)).val M w (.slice ra0 rn0 rc0) r rf0 ∧ Own (Nw w0 []) (fun _ => True) w (rf0 ++ ([]))
def s_spec_l17Part (n : Int) (f : List Int) (way : Int) : Option ((List Int)) :=
  (forC (S := (List Int)) (R := (List Int)) (fun k66 s64 =>
  (forC (S := (List Int)) (R := (List Int)) (fun k101 s99 =>
  (bif (way == 0) then (s_spec_l17Value n f k66 k101 k66).bind fun r111 =>
  (app s99 ([r111])).bind fun y115 =>
  some (.nx y115) else (bif (way == 1) then (s_spec_l17Value n f k66 k66 k101).bind fun r119 =>
  (app s99 ([r119])).bind fun y123 =>
  some (.nx y123) else (s_spec_l17Value n f k66 k101 k101).bind fun r126 =>
  (app s99 ([r126])).bind fun y130 =>
  some (.nx y130)))) 0 n s64).bind fun o103 => after o103 (fun r_ => some (.rt r_)) (fun s99 =>
  some (.nx s99))) 0 n ([])).bind fun o68 => after o68 (fun r_ => some r_) (fun s64 =>
  some s64)
set_option maxHeartbeats 4000000 in
theorem c_spec_l17Part {M : Nat → Prop} {w : World} {pa0 : Option Addr} {pn0 pc0 : Nat} (n : Int) (f : List Int) (way : Int) (h0 : (RT.rs (RT.int .i64)).val M w (.slice pa0 pn0 pc0) f ([])) (hM : ∀ g, w.heap.size ≤ g → M g) {r : (List Int)} (hs : s_spec_l17Part n f way = some r) :
    Gives Try.prog 67 [(.int .i64 n), (.slice pa0 pn0 pc0), (.int .i64 way)] w (fun v w' => ∃ (ra0 : Option Addr) (rn0 rc0 : Nat) (rf0 : List Nat), v = (.slice ra0 rn0 rc0) ∧ Chg [] w w' ∧ (RT.os 3 (RT.int .i64)).val M w' (.slice ra0 rn0 rc0) r rf0 ∧ Own (Nw w []) (fun _ => True) w' (rf0 ++ ([]))) := by
 refine calls_fr Try.func67 rfl Try.ntmps67 (Nat.le_of_ble_eq_true rfl) ?_
 have hO := Own.start (N := Nw w []) hM Nw.fut
 have hC := Chg.refl [] w
 unfold s_spec_l17Part at hs
 refine wp_mono (Q := KPost (k_spec_l17Part M w r)) ?_ (fun e a f3 h => ?_)
 rotate_left
 ·cases e
  case ret =>
   obtain ⟨σ, ra0, rn0, rc0, rf0, rfl, hrest⟩ := h
   exact ret1x Try.results67 (res_tmp rfl) ⟨ra0, rn0, rc0, rf0, rfl, hrest⟩
  all_goals exact (h : False).elim
 refine c_sr ?_
 refine pl_val (.slice none 0 0) (y_assign rfl) ?_
 refine c_nil ?_
 refine c_sr ?_
 obtain ⟨f4, a6, g9, f5, c6, f6⟩ := new_block w [] 3
 refine pl_val (w' := f4) (.slice (some ⟨a6, 0, none⟩) 0 0) (y_bslice rfl (by rw [g9, f5]; kernel_rfl)) ?_
 have h0 := h0.ext c6
 have hC := hC.ext c6
 have hO := hO.new1 c6 f5 f6.lt
 have c7 := os_of_box (r := (RT.int .i64)) (M := M) (css := []) (fps := []) (xs := ([] : List Int)) f6 trivial (Nat.zero_le _) (List.nodup_cons.2 ⟨(fun h => nomatch h), List.nodup_nil⟩)
 have c7 : (RT.os 3 (RT.int .i64)).val M f4 (.slice (some ⟨a6, 0, none⟩) 0 0) [] [a6] := c7
 refine pl_val (.slice (some ⟨a6, 0, none⟩) 0 0) (y_assign rfl) ?_
 refine c_nil ?_
 refine c_seq ?_
 refine c_sr ?_
 refine pl_val (.int .i64 0) (y_assign rfl) ?_
 refine c_nil ?_
 obtain ⟨o68, h1, hs⟩ := bind_some hs
 refine wp_block ?_
 refine wp_forC (id := 0) n (I := fun k66 s64 a a1 => ∃ (σ : Nat → Value) (a7 : Option Addr) (a8 : Nat) (a9 : Nat) (b0 : List Nat), a = fr 54 (ovl σ [(0, (.int .i64 n)), (1, (.slice pa0 pn0 pc0)), (2, (.int .i64 way)), (7, (.slice a7 a8 a9)), (8, (.int .i64 k66))]) ∧ Chg [] w a1 ∧ Own (Nw w []) M a1 (b0 ++ []) ∧ (RT.rs (RT.int .i64)).val M a1 (.slice pa0 pn0 pc0) f ([]) ∧ (RT.os 3 (RT.int .i64)).val M a1 (.slice a7 a8 a9) s64 b0) (J := fun s64 a a1 => ∃ (σ : Nat → Value) (b1 : Option Addr) (b2 : Nat) (b3 : Nat) (b5 : List Nat), a = fr 54 (ovl σ [(7, (.slice b1 b2 b3))]) ∧ Chg [] w a1 ∧ Own (Nw w []) M a1 (b5 ++ []) ∧ (RT.rs (RT.int .i64)).val M a1 (.slice pa0 pn0 pc0) f ([]) ∧ (RT.os 3 (RT.int .i64)).val M a1 (.slice b1 b2 b3) s64 b5) (K := (k_spec_l17Part M w)) ?_ ?_ 0 ([]) o68 _ _ ?_ h1 ?_
 ·rintro k66 s64 a a1 ⟨σ, a7, a8, a9, b0, rfl, hC, hO, h0, c8⟩ hlt
  refine c_seq ?_
  refine c_sr ?_
  refine pl_val (.int .i64 k66) (y_move rfl) ?_
  refine pl_val (.int .i64 n) (y_move rfl) ?_
  refine pl_val (.bool (decide (k66 < n))) (y_lss rfl rfl) ?_
  refine c_nil ?_
  refine c_condF (congrArg Value.bool (decide_eq_false hlt)) ?_
  refine wp_exit ?_
  exact ⟨rfl, _, a7, a8, a9, b0, fr_ovl 54 ⟨rfl, trivial⟩, hC, hO, h0, c8⟩
 ·rintro k66 s64 o68 a a1 ⟨σ, a7, a8, a9, b0, rfl, hC, hO, h0, c8⟩ hlt hw hs
  refine c_seq ?_
  refine c_sr ?_
  refine pl_val (.int .i64 k66) (y_move rfl) ?_
  refine pl_val (.int .i64 n) (y_move rfl) ?_
  refine pl_val (.bool (decide (k66 < n))) (y_lss rfl rfl) ?_
  refine c_nil ?_
  refine c_condT (congrArg Value.bool (decide_eq_true hlt)) ?_
  refine wp_skip ?_
  refine c_seq ?_
  refine wp_block ?_
  refine c_sr ?_
  refine pl_val (.int .i64 0) (y_assign rfl) ?_
  refine c_nil ?_
  obtain ⟨o103, h2, hs⟩ := bind_some hs
  refine wp_block ?_
  refine wp_forC (id := 2) n (I := fun k101 s99 a a2 => ∃ (σ : Nat → Value) (a3 : Option Addr) (a4 : Nat) (a5 : Nat) (b4 : List Nat), a = fr 54 (ovl σ [(0, (.int .i64 n)), (1, (.slice pa0 pn0 pc0)), (2, (.int .i64 way)), (7, (.slice a3 a4 a5)), (8, (.int .i64 k66)), (9, (.int .i64 k101))]) ∧ Chg [] w a2 ∧ Own (Nw w []) M a2 (b4 ++ []) ∧ (RT.rs (RT.int .i64)).val M a2 (.slice pa0 pn0 pc0) f ([]) ∧ (RT.os 3 (RT.int .i64)).val M a2 (.slice a3 a4 a5) s99 b4) (J := fun s99 a a2 => ∃ (σ : Nat → Value) (b6 : Option Addr) (b7 : Nat) (b8 : Nat) (b9 : List Nat), a = fr 54 (ovl σ [(0, (.int .i64 n)), (1, (.slice pa0 pn0 pc0)), (2, (.int .i64 way)), (7, (.slice b6 b7 b8)), (8, (.int .i64 k66))]) ∧ Chg [] w a2 ∧ Own (Nw w []) M a2 (b9 ++ []) ∧ (RT.rs (RT.int .i64)).val M a2 (.slice pa0 pn0 pc0) f ([]) ∧ (RT.os 3 (RT.int .i64)).val M a2 (.slice b6 b7 b8) s99 b9) (K := (k_spec_l17Part M w)) ?_ ?_ 0 s64 o103 _ _ ?_ h2 ?_
  ·rintro k101 s99 a a2 ⟨σ, a3, a4, a5, b4, rfl, hC, hO, h0, a0⟩ hlt
   refine c_seq ?_
   refine c_sr ?_
   refine pl_val (.int .i64 k101) (y_move rfl) ?_
   refine pl_val (.int .i64 n) (y_move rfl) ?_
   refine pl_val (.bool (decide (k101 < n))) (y_lss rfl rfl) ?_
   refine c_nil ?_
   refine c_condF (congrArg Value.bool (decide_eq_false hlt)) ?_
   refine wp_exit ?_
   exact ⟨rfl, _, a3, a4, a5, b4, fr_ovl 54 ⟨rfl, rfl, rfl, rfl, rfl, trivial⟩, hC, hO, h0, a0⟩
  ·rintro k101 s99 o103 a a2 ⟨σ, a3, a4, a5, b4, rfl, hC, hO, h0, a0⟩ hlt hw hs
   refine c_seq ?_
   refine c_sr ?_
   refine pl_val (.int .i64 k101) (y_move rfl) ?_
   refine pl_val (.int .i64 n) (y_move rfl) ?_
   refine pl_val (.bool (decide (k101 < n))) (y_lss rfl rfl) ?_
   refine c_nil ?_
   refine c_condT (congrArg Value.bool (decide_eq_true hlt)) ?_
   refine wp_skip ?_
   refine c_seq ?_
   refine wp_block ?_
   refine c_sr ?_
   refine pl_val (.int .i64 way) (y_move rfl) ?_
   refine c_nil ?_
   refine wp_block ?_
   refine c_sr ?_
   refine pl_val (.bool (way == 0)) (y_eql rfl rfl) ?_
   refine pl_val (.bool (way == 0)) (y_assign rfl) ?_
   refine c_nil ?_
   rcases bif_some hs with ⟨c9, hs⟩ | ⟨c9, hs⟩
   ·refine c_condT (congrArg Value.bool c9) ?_
    refine c_region ?_
    refine pl_val (.slice a3 a4 a5) (y_move rfl) ?_
    refine pl_val (.int .i64 n) (y_move rfl) ?_
    refine pl_val (.slice pa0 pn0 pc0) (y_move rfl) ?_
    refine pl_val (.int .i64 k66) (y_move rfl) ?_
    refine pl_val (.int .i64 k101) (y_move rfl) ?_
    refine pl_val (.int .i64 k66) (y_move rfl) ?_
    obtain ⟨r111, h3, hs⟩ := bind_some hs
    refine pl_call Bd79 rfl (c_spec_l17Value (M := M) n f k66 k101 k66 h0 hO.fut h3) ?_
    rintro _ h4 ⟨rfl, c0⟩
    have h0 := h0.ext c0
    have a0 := a0.ext c0
    have hC := hC.ext c0
    have hO := hO.ext c0
    obtain ⟨f7, d0, h5, f8, c1, f9⟩ := new_block h4 [(.int .i64 r111)] 3
    refine pl_val (w' := f7) (.slice (some ⟨d0, 0, none⟩) 1 1) (y_bslice rfl (by rw [h5, f8]; kernel_rfl)) ?_
    have h0 := h0.ext c1
    have a0 := a0.ext c1
    have hC := hC.ext c1
    have hO := hO.new1 c1 f8 f9.lt
    have d1 := os_of_box (r := (RT.int .i64)) (M := M) (css := [[(.int .i64 r111)]]) (fps := [([] : List Nat)]) (xs := ([r111] : List Int)) f9 ⟨⟨rfl, rfl⟩, trivial⟩ (Nat.le_of_ble_eq_true rfl) (List.nodup_cons.2 ⟨(fun h => nomatch h), List.nodup_nil⟩)
    have d1 : (RT.os 3 (RT.int .i64)).val M f7 (.slice (some ⟨d0, 0, none⟩) 1 1) [r111] [d0] := d1
    obtain ⟨y115, h6, hs⟩ := bind_some hs
    have hO := hO.fr1
    obtain ⟨d2, d3, d4, h7, h8, h9, d5, i0, d6⟩ := app_os Rw37 h6 a0 d1 hO.inM (fun g hg hq => hO.apart g hq (mem_l hg))
    have g0 := os_block a0
    refine pl_val (w' := h7) (.slice d2 d3 d4) (y_append rfl rfl (h9 _)) ?_
    have hO := hO.fr1
    have hO := hO.fr1
    have h0 := h0.mt d5 hO g0
    have hC := hC.st d5 hO g0
    have hO := hO.eat d5 i0 (os_nodup d6) d6.fpl
    refine pl_val (.slice d2 d3 d4) (y_assign rfl) ?_
    refine c_nil ?_
    refine c_region ?_
    refine pl_val (.int .i64 k101) (y_move rfl) ?_
    refine pl_val (.int .i64 (w64 (k101 + 1))) (y_add rfl rfl) ?_
    refine pl_val (.int .i64 (w64 (k101 + 1))) (y_assign rfl) ?_
    refine c_nil ?_
    cases hs
    exact ⟨_, d2, d3, d4, h8, fr_ovl 54 ⟨rfl, rfl, rfl, rfl, rfl, congrArg (Value.int .i64) hw, trivial⟩, hC, hO, h0, d6⟩
   refine c_condF (congrArg Value.bool c9) ?_
   refine c_sr ?_
   refine pl_val (.bool (way == 1)) (y_eql rfl rfl) ?_
   refine pl_val (.bool (way == 1)) (y_assign rfl) ?_
   refine c_nil ?_
   rcases bif_some hs with ⟨d7, hs⟩ | ⟨d7, hs⟩
   ·refine c_condT (congrArg Value.bool d7) ?_
    refine c_region ?_
    refine pl_val (.slice a3 a4 a5) (y_move rfl) ?_
    refine pl_val (.int .i64 n) (y_move rfl) ?_
    refine pl_val (.slice pa0 pn0 pc0) (y_move rfl) ?_
    refine pl_val (.int .i64 k66) (y_move rfl) ?_
    refine pl_val (.int .i64 k66) (y_move rfl) ?_
    refine pl_val (.int .i64 k101) (y_move rfl) ?_
    obtain ⟨r119, i1, hs⟩ := bind_some hs
    refine pl_call Bd79 rfl (c_spec_l17Value (M := M) n f k66 k66 k101 h0 hO.fut i1) ?_
    rintro _ i2 ⟨rfl, c2⟩
    have h0 := h0.ext c2
    have a0 := a0.ext c2
    have hC := hC.ext c2
    have hO := hO.ext c2
    obtain ⟨g1, d8, i3, g2, c3, g3⟩ := new_block i2 [(.int .i64 r119)] 3
    refine pl_val (w' := g1) (.slice (some ⟨d8, 0, none⟩) 1 1) (y_bslice rfl (by rw [i3, g2]; kernel_rfl)) ?_
    have h0 := h0.ext c3
    have a0 := a0.ext c3
    have hC := hC.ext c3
    have hO := hO.new1 c3 g2 g3.lt
    have d9 := os_of_box (r := (RT.int .i64)) (M := M) (css := [[(.int .i64 r119)]]) (fps := [([] : List Nat)]) (xs := ([r119] : List Int)) g3 ⟨⟨rfl, rfl⟩, trivial⟩ (Nat.le_of_ble_eq_true rfl) (List.nodup_cons.2 ⟨(fun h => nomatch h), List.nodup_nil⟩)
    have d9 : (RT.os 3 (RT.int .i64)).val M g1 (.slice (some ⟨d8, 0, none⟩) 1 1) [r119] [d8] := d9
    obtain ⟨y123, i4, hs⟩ := bind_some hs
    have hO := hO.fr1
    obtain ⟨e0, e1, e2, i5, i6, i7, e3, i9, e4⟩ := app_os Rw37 i4 a0 d9 hO.inM (fun g hg hq => hO.apart g hq (mem_l hg))
    have g4 := os_block a0
    refine pl_val (w' := i5) (.slice e0 e1 e2) (y_append rfl rfl (i7 _)) ?_
    have hO := hO.fr1
    have hO := hO.fr1
    have h0 := h0.mt e3 hO g4
    have hC := hC.st e3 hO g4
    have hO := hO.eat e3 i9 (os_nodup e4) e4.fpl
    refine pl_val (.slice e0 e1 e2) (y_assign rfl) ?_
    refine c_nil ?_
    refine c_region ?_
    refine pl_val (.int .i64 k101) (y_move rfl) ?_
    refine pl_val (.int .i64 (w64 (k101 + 1))) (y_add rfl rfl) ?_
    refine pl_val (.int .i64 (w64 (k101 + 1))) (y_assign rfl) ?_
    refine c_nil ?_
    cases hs
    exact ⟨_, e0, e1, e2, i6, fr_ovl 54 ⟨rfl, rfl, rfl, rfl, rfl, congrArg (Value.int .i64) hw, trivial⟩, hC, hO, h0, e4⟩
   refine c_condF (congrArg Value.bool d7) ?_
   refine c_region ?_
   refine pl_val (.slice a3 a4 a5) (y_move rfl) ?_
   refine pl_val (.int .i64 n) (y_move rfl) ?_
   refine pl_val (.slice pa0 pn0 pc0) (y_move rfl) ?_
   refine pl_val (.int .i64 k66) (y_move rfl) ?_
   refine pl_val (.int .i64 k101) (y_move rfl) ?_
   refine pl_val (.int .i64 k101) (y_move rfl) ?_
   obtain ⟨r126, j0, hs⟩ := bind_some hs
   refine pl_call Bd79 rfl (c_spec_l17Value (M := M) n f k66 k101 k101 h0 hO.fut j0) ?_
   rintro _ j1 ⟨rfl, c4⟩
   have h0 := h0.ext c4
   have a0 := a0.ext c4
   have hC := hC.ext c4
   have hO := hO.ext c4
   obtain ⟨g5, e5, j2, g6, c5, g7⟩ := new_block j1 [(.int .i64 r126)] 3
   refine pl_val (w' := g5) (.slice (some ⟨e5, 0, none⟩) 1 1) (y_bslice rfl (by rw [j2, g6]; kernel_rfl)) ?_
   have h0 := h0.ext c5
   have a0 := a0.ext c5
   have hC := hC.ext c5
   have hO := hO.new1 c5 g6 g7.lt
   have e6 := os_of_box (r := (RT.int .i64)) (M := M) (css := [[(.int .i64 r126)]]) (fps := [([] : List Nat)]) (xs := ([r126] : List Int)) g7 ⟨⟨rfl, rfl⟩, trivial⟩ (Nat.le_of_ble_eq_true rfl) (List.nodup_cons.2 ⟨(fun h => nomatch h), List.nodup_nil⟩)
   have e6 : (RT.os 3 (RT.int .i64)).val M g5 (.slice (some ⟨e5, 0, none⟩) 1 1) [r126] [e5] := e6
   obtain ⟨y130, j3, hs⟩ := bind_some hs
   have hO := hO.fr1
   obtain ⟨e7, e8, e9, j4, j5, j6, f0, j7, f1⟩ := app_os Rw37 j3 a0 e6 hO.inM (fun g hg hq => hO.apart g hq (mem_l hg))
   have g8 := os_block a0
   refine pl_val (w' := j4) (.slice e7 e8 e9) (y_append rfl rfl (j6 _)) ?_
   have hO := hO.fr1
   have hO := hO.fr1
   have h0 := h0.mt f0 hO g8
   have hC := hC.st f0 hO g8
   have hO := hO.eat f0 j7 (os_nodup f1) f1.fpl
   refine pl_val (.slice e7 e8 e9) (y_assign rfl) ?_
   refine c_nil ?_
   refine c_region ?_
   refine pl_val (.int .i64 k101) (y_move rfl) ?_
   refine pl_val (.int .i64 (w64 (k101 + 1))) (y_add rfl rfl) ?_
   refine pl_val (.int .i64 (w64 (k101 + 1))) (y_assign rfl) ?_
   refine c_nil ?_
   cases hs
   exact ⟨_, e7, e8, e9, j5, fr_ovl 54 ⟨rfl, rfl, rfl, rfl, rfl, congrArg (Value.int .i64) hw, trivial⟩, hC, hO, h0, f1⟩
  ·skip
   exact ⟨_, a7, a8, a9, b0, fr_ovl 54 ⟨rfl, rfl, rfl, rfl, rfl, rfl, trivial⟩, hC, hO, h0, c8⟩
  cases o103 with
  | nx _ => exact True.intro
  | rt r_ =>
   have hs := after_rt hs
   intro f2 f3 hK
   cases hs
   exact hK
  | br s99 =>
   have hs := after_br hs
   rintro f2 a2 ⟨σ, b6, b7, b8, b9, rfl, hC, hO, h0, j8⟩
   refine c_region ?_
   refine pl_val (.int .i64 k66) (y_move rfl) ?_
   refine pl_val (.int .i64 (w64 (k66 + 1))) (y_add rfl rfl) ?_
   refine pl_val (.int .i64 (w64 (k66 + 1))) (y_assign rfl) ?_
   refine c_nil ?_
   cases hs
   exact ⟨_, b6, b7, b8, b9, fr_ovl 54 ⟨rfl, rfl, rfl, rfl, congrArg (Value.int .i64) hw, trivial⟩, hC, hO, h0, j8⟩
 ·skip
  exact ⟨_, (some ⟨a6, 0, none⟩), 0, 0, ([a6]), fr_ovl 54 ⟨rfl, rfl, rfl, rfl, rfl, trivial⟩, hC, hO, h0, c7⟩
 cases o68 with
 | nx _ => exact True.intro
 | rt r_ =>
  have hs := after_rt hs
  intro f2 f3 hK
  cases hs
  exact hK
 | br s64 =>
  have hs := after_br hs
  rintro f2 a1 ⟨σ, b1, b2, b3, b5, rfl, hC, hO, h0, j9⟩
  refine c_sr ?_
  refine pl_val (.slice b1 b2 b3) (y_move rfl) ?_
  refine pl_val (.slice b1 b2 b3) (y_assign rfl) ?_
  refine c_nil ?_
  refine wp_ret ?_
  cases hs
  exact ⟨_, b1, b2, b3, b5, fr_ovl 54 ⟨rfl, trivial⟩, hC, j9, hO.top⟩

def k_spec_l17Xs (M : Nat → Prop) (w0 : World) (r : (List Int)) (a : Act) (w : World) : Prop :=
  ∃ (σ : Nat → Value) (ra0 : Option Addr) (rn0 rc0 : Nat) (rf0 : List Nat), a = fr 5 (ovl σ [(2, (.slice ra0 rn0 rc0))]) ∧ Chg [] w0 w ∧ (RT.os 3 (RT.int .i64)).val M w (.slice ra0 rn0 rc0) r rf0 ∧ Own (Nw w0 []) (fun _ => True) w (rf0 ++ ([]))
def s_spec_l17Xs (n : Int) : Option ((List Int)) :=
  (s_spec_l12Projection n 2 0).bind fun r2 =>
  some r2
set_option maxHeartbeats 4000000 in
theorem c_spec_l17Xs {M : Nat → Prop} {w : World}  (n : Int)  (hM : ∀ g, w.heap.size ≤ g → M g) {r : (List Int)} (hs : s_spec_l17Xs n = some r) :
    Gives Try.prog 71 [(.int .i64 n)] w (fun v w' => ∃ (ra0 : Option Addr) (rn0 rc0 : Nat) (rf0 : List Nat), v = (.slice ra0 rn0 rc0) ∧ Chg [] w w' ∧ (RT.os 3 (RT.int .i64)).val M w' (.slice ra0 rn0 rc0) r rf0 ∧ Own (Nw w []) (fun _ => True) w' (rf0 ++ ([]))) := by
 refine calls_fr Try.func71 rfl Try.ntmps71 (Nat.le_of_ble_eq_true rfl) ?_
 have hO := Own.start (N := Nw w []) hM Nw.fut
 have hC := Chg.refl [] w
 unfold s_spec_l17Xs at hs
 refine wp_mono (Q := KPost (k_spec_l17Xs M w r)) ?_ (fun e a a5 h => ?_)
 rotate_left
 ·cases e
  case ret =>
   obtain ⟨σ, ra0, rn0, rc0, rf0, rfl, hrest⟩ := h
   exact ret1x Try.results71 (res_tmp rfl) ⟨ra0, rn0, rc0, rf0, rfl, hrest⟩
  all_goals exact (h : False).elim
 refine c_sr ?_
 refine pl_val (.slice none 0 0) (y_assign rfl) ?_
 refine c_nil ?_
 refine c_sr ?_
 refine pl_val (.int .i64 n) (y_move rfl) ?_
 obtain ⟨r2, a6, hs⟩ := bind_some hs
 refine pl_call Bd57 rfl (c_spec_l12Projection (M := M) n 2 0  hO.fut a6) ?_
 rintro _ a5 ⟨a0, a1, a2, a3, rfl, a4, a7, a8⟩
 have hC := hC.ext a4
 have hO := Own.join0 hO a4 a8
 have hO := hO.perm (R := a3 ++ ([])) (by simp)
 refine pl_val (.slice a0 a1 a2) (y_assign rfl) ?_
 refine c_nil ?_
 refine wp_ret ?_
 cases hs
 exact ⟨_, a0, a1, a2, a3, fr_ovl 5 ⟨rfl, trivial⟩, hC, a7, hO.top⟩

theorem Bd67 : Bodied Try.prog 67 := bodied Try.func67 (by kernel_rfl) rfl

theorem Bd71 : Bodied Try.prog 71 := bodied Try.func71 (by kernel_rfl) rfl

def k_spec_l17Fixed (M : Nat → Prop) (w0 : World) (r : Bool) (a : Act) (w : World) : Prop :=
  ∃ (σ : Nat → Value) , a = fr 11 (ovl σ [(4, (.bool r))]) ∧ Chg [] w0 w
def s_spec_l17Fixed (n : Int) (f : List Int) : Option (Bool) :=
  (s_spec_l17Part n f 0).bind fun r3 =>
  (s_spec_l17Xs n).bind fun r6 =>
  (s_spec_l1Same r3 r6).bind fun r9 =>
  some r9
set_option maxHeartbeats 4000000 in
theorem c_spec_l17Fixed {M : Nat → Prop} {w : World} {pa0 : Option Addr} {pn0 pc0 : Nat} (n : Int) (f : List Int) (h0 : (RT.rs (RT.int .i64)).val M w (.slice pa0 pn0 pc0) f ([])) (hM : ∀ g, w.heap.size ≤ g → M g) {r : Bool} (hs : s_spec_l17Fixed n f = some r) :
    Gives Try.prog 52 [(.int .i64 n), (.slice pa0 pn0 pc0)] w (fun v w' => v = (.bool r) ∧ Chg [] w w') := by
 refine calls_fr Try.func52 rfl Try.ntmps52 (Nat.le_of_ble_eq_true rfl) ?_
 have hO := Own.start (N := Nw w []) hM Nw.fut
 have hC := Chg.refl [] w
 unfold s_spec_l17Fixed at hs
 refine wp_mono (Q := KPost (k_spec_l17Fixed M w r)) ?_ (fun e a b2 h => ?_)
 rotate_left
 ·cases e
  case ret =>
   obtain ⟨σ, rfl, hrest⟩ := h
   exact ret1x Try.results52 (res_tmp rfl) ⟨rfl, hrest⟩
  all_goals exact (h : False).elim
 refine c_sr ?_
 refine pl_val (.bool false) (y_assign rfl) ?_
 refine c_nil ?_
 refine c_sr ?_
 refine pl_val (.int .i64 n) (y_move rfl) ?_
 refine pl_val (.slice pa0 pn0 pc0) (y_move rfl) ?_
 obtain ⟨r3, a7, hs⟩ := bind_some hs
 refine pl_call Bd67 rfl (c_spec_l17Part (M := M) n f 0 h0 hO.fut a7) ?_
 rintro _ b3 ⟨b4, b5, b6, a3, rfl, a4, a0, a8⟩
 have h0 := h0.ext a4
 have hC := hC.ext a4
 have hO := Own.join0 hO a4 a8
 have hO := hO.perm (R := a3 ++ ([])) (by simp)
 refine pl_val (.int .i64 n) (y_move rfl) ?_
 obtain ⟨r6, a9, hs⟩ := bind_some hs
 refine pl_call Bd71 rfl (c_spec_l17Xs (M := M) n  hO.fut a9) ?_
 rintro _ b7 ⟨b8, b9, c0, a6, rfl, a2, a5, b0⟩
 have h0 := h0.ext a2
 have a0 := a0.ext a2
 have hC := hC.ext a2
 have hO := Own.join0 hO a2 b0
 have hO := hO.perm (R := a6 ++ (a3 ++ ([]))) (by simp)
 have hO := hO.fr1
 obtain ⟨r9, b1, hs⟩ := bind_some hs
 refine pl_call Bd66 rfl (c_spec_l1Same (M := (Less (Less M a3) a6)) r3 r6 ((((Frz.os Frz.int)).val a0 Less.sub Less.not).sub Less.sub) (((Frz.os Frz.int)).val (a5.sub Less.sub) Less.sub Less.not) (hO.less).less.fut b1) ?_
 rintro _ c1 ⟨rfl, a1⟩
 have h0 := h0.ext a1
 have a0 := a0.ext a1
 have a5 := a5.ext a1
 have hC := hC.ext a1
 have hO := hO.ext a1
 refine pl_val (.bool r9) (y_assign rfl) ?_
 refine c_nil ?_
 refine wp_ret ?_
 cases hs
 exact ⟨_, fr_ovl 11 ⟨rfl, trivial⟩, hC⟩

def k_spec_l17Ys (M : Nat → Prop) (w0 : World) (r : (List Int)) (a : Act) (w : World) : Prop :=
  ∃ (σ : Nat → Value) (ra0 : Option Addr) (rn0 rc0 : Nat) (rf0 : List Nat), a = fr 5 (ovl σ [(2, (.slice ra0 rn0 rc0))]) ∧ Chg [] w0 w ∧ (RT.os 3 (RT.int .i64)).val M w (.slice ra0 rn0 rc0) r rf0 ∧ Own (Nw w0 []) (fun _ => True) w (rf0 ++ ([]))
def s_spec_l17Ys (n : Int) : Option ((List Int)) :=
  (s_spec_l12Projection n 2 1).bind fun r2 =>
  some r2
set_option maxHeartbeats 4000000 in
theorem c_spec_l17Ys {M : Nat → Prop} {w : World}  (n : Int)  (hM : ∀ g, w.heap.size ≤ g → M g) {r : (List Int)} (hs : s_spec_l17Ys n = some r) :
    Gives Try.prog 72 [(.int .i64 n)] w (fun v w' => ∃ (ra0 : Option Addr) (rn0 rc0 : Nat) (rf0 : List Nat), v = (.slice ra0 rn0 rc0) ∧ Chg [] w w' ∧ (RT.os 3 (RT.int .i64)).val M w' (.slice ra0 rn0 rc0) r rf0 ∧ Own (Nw w []) (fun _ => True) w' (rf0 ++ ([]))) := by
 refine calls_fr Try.func72 rfl Try.ntmps72 (Nat.le_of_ble_eq_true rfl) ?_
 have hO := Own.start (N := Nw w []) hM Nw.fut
 have hC := Chg.refl [] w
 unfold s_spec_l17Ys at hs
 refine wp_mono (Q := KPost (k_spec_l17Ys M w r)) ?_ (fun e a a5 h => ?_)
 rotate_left
 ·cases e
  case ret =>
   obtain ⟨σ, ra0, rn0, rc0, rf0, rfl, hrest⟩ := h
   exact ret1x Try.results72 (res_tmp rfl) ⟨ra0, rn0, rc0, rf0, rfl, hrest⟩
  all_goals exact (h : False).elim
 refine c_sr ?_
 refine pl_val (.slice none 0 0) (y_assign rfl) ?_
 refine c_nil ?_
 refine c_sr ?_
 refine pl_val (.int .i64 n) (y_move rfl) ?_
 obtain ⟨r2, a6, hs⟩ := bind_some hs
 refine pl_call Bd57 rfl (c_spec_l12Projection (M := M) n 2 1  hO.fut a6) ?_
 rintro _ a5 ⟨a0, a1, a2, a3, rfl, a4, a7, a8⟩
 have hC := hC.ext a4
 have hO := Own.join0 hO a4 a8
 have hO := hO.perm (R := a3 ++ ([])) (by simp)
 refine pl_val (.slice a0 a1 a2) (y_assign rfl) ?_
 refine c_nil ?_
 refine wp_ret ?_
 cases hs
 exact ⟨_, a0, a1, a2, a3, fr_ovl 5 ⟨rfl, trivial⟩, hC, a7, hO.top⟩

theorem Bd38 : Bodied Try.prog 38 := bodied Try.func38 (by kernel_rfl) rfl

theorem Bd64 : Bodied Try.prog 64 := bodied Try.func64 (by kernel_rfl) rfl

theorem Bd65 : Bodied Try.prog 65 := bodied Try.func65 (by kernel_rfl) rfl

theorem Bd52 : Bodied Try.prog 52 := bodied Try.func52 (by kernel_rfl) rfl

theorem Bd72 : Bodied Try.prog 72 := bodied Try.func72 (by kernel_rfl) rfl

def k_spec_IsDirectChain (M : Nat → Prop) (w0 : World) (r : Bool × Bool) (a : Act) (w : World) : Prop :=
  ∃ (σ : Nat → Value) , a = fr 100 (ovl σ [(4, (.bool r.1)), (5, (.bool r.2))]) ∧ Chg [] w0 w
def s_spec_IsDirectChain (a_ : Int × (List (Int × (List Int)))) (list : List (Int × (List Int))) : Option (Bool × Bool) :=
  (s_spec_l17Clone (a_.1, a_.2)).bind fun r5 =>
  (bif (!r5.2) then some (false, false) else (s_spec_l17Tables a_.1 list).bind fun r9 =>
  (bif (!r9.2) then some (false, false) else ((bif (decide ((r9.1.length : Int) < 1)) then some true else (bif (decide (12 < (r9.1.length : Int))) then some true else (s_spec_l17All r5.1 r9.1).bind fun r18 =>
  some (!r18)))).bind fun s12 =>
  (bif s12 then some (false, true) else (forC (S := Unit) (R := Bool × Bool) (fun k73 s71 =>
  ((idx r9.1 k73).bind fun x81 =>
  (s_spec_l17Fixed a_.1 x81).bind fun r86 =>
  (bif (!r86) then some true else (bif (decide ((w64 (k73 + 1)) < (r9.1.length : Int))) then (idx r9.1 k73).bind fun x89 =>
  (idx r9.1 (w64 (k73 + 1))).bind fun x91 =>
  (s_spec_l17Part a_.1 x89 2).bind fun r96 =>
  (s_spec_l17Part a_.1 x91 1).bind fun r101 =>
  (s_spec_l1Same r96 r101).bind fun r104 =>
  some (!r104) else some false))).bind fun s77 =>
  (bif s77 then some (.rt (false, true)) else some (.nx ()))) 0 (r9.1.length : Int) ()).bind fun o75 => after o75 (fun r_ => some r_) (fun s71 =>
  (idx r9.1 0).bind fun x128 =>
  (s_spec_l17Part a_.1 x128 1).bind fun r133 =>
  (s_spec_l17Xs a_.1).bind fun r136 =>
  (s_spec_l1Same r133 r136).bind fun r139 =>
  (bif r139 then (idx r9.1 (w64 ((r9.1.length : Int) - 1))).bind fun x141 =>
  (s_spec_l17Part a_.1 x141 2).bind fun r146 =>
  (s_spec_l17Ys a_.1).bind fun r149 =>
  (s_spec_l1Same r146 r149).bind fun r152 =>
  some (r152, true) else some (false, true))))))
set_option maxHeartbeats 4000000 in
theorem c_spec_IsDirectChain {M : Nat → Prop} {w : World} {pa0 : Option Addr} {pn0 pc0 : Nat} {pa1 : Option Addr} {pn1 pc1 : Nat} (a_ : Int × (List (Int × (List Int)))) (list : List (Int × (List Int))) (h0 : (RT.rs (RT.pr (RT.int .i64) (RT.rs (RT.int .i64)))).val M w (.slice pa0 pn0 pc0) a_.2 ([])) (h1 : (RT.rs (RT.pr (RT.int .i64) (RT.rs (RT.int .i64)))).val M w (.slice pa1 pn1 pc1) list ([])) (hM : ∀ g, w.heap.size ≤ g → M g) {r : Bool × Bool} (hs : s_spec_IsDirectChain a_ list = some r) :
    Gives Try.prog 32 [(.agg #[(.int .i64 a_.1), (.slice pa0 pn0 pc0)]), (.slice pa1 pn1 pc1)] w (fun v w' => v = (.tuple #[(.bool r.1), (.bool r.2)]) ∧ Chg [] w w') := by
 refine calls_fr Try.func32 rfl Try.ntmps32 (Nat.le_of_ble_eq_true rfl) ?_
 have hO := Own.start (N := Nw w []) hM Nw.fut
 have hC := Chg.refl [] w
 unfold s_spec_IsDirectChain at hs
 refine wp_mono (Q := KPost (k_spec_IsDirectChain M w r)) ?_ (fun e a j5 h => ?_)
 rotate_left
 ·cases e
  case ret =>
   obtain ⟨σ, rfl, hrest⟩ := h
   exact ret2x Try.results32 (res_tmp rfl) (res_tmp rfl) ⟨rfl, hrest⟩
  all_goals exact (h : False).elim
 refine c_sr ?_
 obtain ⟨a3, h2, j6, i4, f8, c6⟩ := new_block w [(.int .i64 a_.1), (.slice pa0 pn0 pc0)] 30
 refine pl_val (w' := a3) (.pointer (some ⟨h2, 0, none⟩)) (y_box rfl (by rw [j6, i4]; kernel_rfl)) ?_
 have h0 := h0.ext f8
 have h1 := h1.ext f8
 have hC := hC.ext f8
 have hO := hO.new1 f8 i4 c6.lt
 refine pl_val (.bool false) (y_assign rfl) ?_
 refine pl_val (.bool false) (y_assign rfl) ?_
 refine c_nil ?_
 refine c_sr ?_
 refine pl_val (.agg #[(.int .i64 a_.1), (.slice pa0 pn0 pc0)]) (y_load rfl ((box_load Ag30 Sz30 c6 [] [(.int .i64 a_.1), (.slice pa0 pn0 pc0)] [] rfl rfl (fun h => nomatch h)) _ (Chg.refl _ _))) ?_
 obtain ⟨r5, j7, hs⟩ := bind_some hs
 refine pl_call Bd38 rfl (c_spec_l17Clone (M := M) (a_.1, a_.2) h0 hO.fut j7) ?_
 rintro _ a0 ⟨f9, g0, g1, rfl, f0, d9⟩
 have hK := (show Keeps w M (Past M a3 a0) from Keeps.past hC.size)
 have h0 := h0.ext f0
 have h1 := h1.ext f0
 have c6 := c6.cn f0
 have hC := hC.ext f0
 have hO := hO.past f0
 have h0 := h0.sub (M' := (Past M a3 a0)) (fun g hg => .inl hg.1)
 have h1 := h1.sub (M' := (Past M a3 a0)) (fun g hg => .inl hg.1)
 refine pl_val (.tuple #[(.slice f9 g0 g1), (.bool r5.2)]) (y_move rfl) ?_
 refine pl_val (.slice f9 g0 g1) (y_extract rfl (by kernel_rfl)) ?_
 refine pl_val (.bool r5.2) (y_extract rfl (by kernel_rfl)) ?_
 refine pl_val (.slice f9 g0 g1) (y_assign rfl) ?_
 refine pl_val (.bool r5.2) (y_assign rfl) ?_
 refine c_nil ?_
 refine c_seq ?_
 refine c_sr ?_
 refine pl_val (.bool r5.2) (y_move rfl) ?_
 refine pl_val (.bool (!r5.2)) (y_not rfl) ?_
 refine c_nil ?_
 rcases bif_some hs with ⟨h3, hs⟩ | ⟨h3, hs⟩
 ·refine c_condT (congrArg Value.bool h3) ?_
  refine c_sr ?_
  refine pl_val (.bool false) (y_assign rfl) ?_
  refine pl_val (.bool false) (y_assign rfl) ?_
  refine c_nil ?_
  refine wp_ret ?_
  cases hs
  exact ⟨_, fr_ovl 100 ⟨rfl, rfl, trivial⟩, hC⟩
 refine c_condF (congrArg Value.bool h3) ?_
 refine wp_skip ?_
 refine c_sr ?_
 refine pl_val (.pointer (some ⟨h2, 0, none⟩)) (y_faddr rfl Fa30x0) ?_
 refine pl_val (.int .i64 a_.1) (y_load rfl ((box_load Ag3 Sz3 c6 [] [(.int .i64 a_.1)] [(.slice pa0 pn0 pc0)] rfl rfl (fun _ => rfl)) _ (Chg.refl _ _))) ?_
 refine pl_val (.slice pa1 pn1 pc1) (y_move rfl) ?_
 obtain ⟨r9, j8, hs⟩ := bind_some hs
 refine pl_call Bd64 rfl (c_spec_l17Tables (M := (Past M a3 a0)) a_.1 list h1 hO.fut j8) ?_
 rintro _ a4 ⟨b1, b2, b3, rfl, e3, a1⟩
 have hK := hK.trans (show Keeps w (Past M a3 a0) (Past (Past M a3 a0) a0 a4) from Keeps.past hC.size)
 have h0 := h0.ext e3
 have h1 := h1.ext e3
 have c6 := c6.cn e3
 have d9 := d9.ext e3
 have hC := hC.ext e3
 have hO := hO.past e3
 have h0 := h0.sub (M' := (Past (Past M a3 a0) a0 a4)) (fun g hg => .inl hg.1)
 have h1 := h1.sub (M' := (Past (Past M a3 a0) a0 a4)) (fun g hg => .inl hg.1)
 have d9 := d9.sub (M' := (Past (Past M a3 a0) a0 a4)) (fun g hg => .inl hg.1)
 refine pl_val (.tuple #[(.slice b1 b2 b3), (.bool r9.2)]) (y_move rfl) ?_
 refine pl_val (.slice b1 b2 b3) (y_extract rfl (by kernel_rfl)) ?_
 refine pl_val (.bool r9.2) (y_extract rfl (by kernel_rfl)) ?_
 refine pl_val (.slice b1 b2 b3) (y_assign rfl) ?_
 refine pl_val (.bool r9.2) (y_assign rfl) ?_
 refine c_nil ?_
 refine c_seq ?_
 refine c_sr ?_
 refine pl_val (.bool r9.2) (y_move rfl) ?_
 refine pl_val (.bool (!r9.2)) (y_not rfl) ?_
 refine c_nil ?_
 rcases bif_some hs with ⟨h4, hs⟩ | ⟨h4, hs⟩
 ·refine c_condT (congrArg Value.bool h4) ?_
  refine c_sr ?_
  refine pl_val (.bool false) (y_assign rfl) ?_
  refine pl_val (.bool false) (y_assign rfl) ?_
  refine c_nil ?_
  refine wp_ret ?_
  cases hs
  exact ⟨_, fr_ovl 100 ⟨rfl, rfl, trivial⟩, hC⟩
 refine c_condF (congrArg Value.bool h4) ?_
 refine wp_skip ?_
 refine c_sr ?_
 refine pl_val (.pointer (some ⟨h2, 0, none⟩)) (y_faddr rfl Fa30x0) ?_
 refine pl_val (.int .i64 a_.1) (y_load rfl ((box_load Ag3 Sz3 c6 [] [(.int .i64 a_.1)] [(.slice pa0 pn0 pc0)] rfl rfl (fun _ => rfl)) _ (Chg.refl _ _))) ?_
 refine pl_val (.slice b1 b2 b3) (y_move rfl) ?_
 refine pl_val (.int .i64 (r9.1.length : Int)) (y_len' Sl47 (rs_len a1) rfl) ?_
 refine pl_val (.int .i64 a_.1) (y_assign rfl) ?_
 refine pl_val (.int .i64 (r9.1.length : Int)) (y_assign rfl) ?_
 refine c_nil ?_
 refine c_seq ?_
 refine c_seq ?_
 obtain ⟨s12, j9, hs⟩ := bind_some hs
 refine c_mid (I := fun a i5 => ∃ (σ : Nat → Value), a = fr 100 (ovl σ [(4, (.bool false)), (5, (.bool false)), (8, (.slice b1 b2 b3)), (10, (.int .i64 a_.1)), (11, (.int .i64 (r9.1.length : Int))), (44, (.bool s12))]) ∧ Chg [] a4 i5) ?_ ?_
 ·replace hs := j9
  have hMid := Chg.refl [] a4
  refine c_region ?_
  refine pl_val (.int .i64 (r9.1.length : Int)) (y_move rfl) ?_
  refine pl_val (.bool (decide ((r9.1.length : Int) < 1))) (y_lss rfl rfl) ?_
  refine pl_val (.bool (decide ((r9.1.length : Int) < 1))) (y_move rfl) ?_
  rcases bif_some hs with ⟨e0, hs⟩ | ⟨e0, hs⟩
  ·skip
   refine pl_not (tg := 35) (by kernel_rfl) (congrArg Value.bool e0) ?_
   refine pl_not (tg := 35) (by kernel_rfl) (congrArg Value.bool e0) ?_
   refine pl_val (.bool true) (y_pick_t (congrArg Value.bool e0) rfl) ?_
   refine pl_val (.bool true) (y_move rfl) ?_
   refine pl_not (tg := 39) (by kernel_rfl) (by rfl) ?_
   refine pl_not (tg := 39) (by kernel_rfl) (by rfl) ?_
   refine pl_not (tg := 39) (by kernel_rfl) (by rfl) ?_
   refine pl_not (tg := 39) (by kernel_rfl) (by rfl) ?_
   refine pl_val (.bool true) (y_pick_t (by rfl) rfl) ?_
   refine c_nil ?_
   cases hs
   exact ⟨_, fr_ovl 100 ⟨rfl, rfl, rfl, rfl, rfl, rfl, trivial⟩, hMid⟩
  refine pl_yes (.int .i64 (r9.1.length : Int)) (tg := 35) (by kernel_rfl) (congrArg Value.bool e0) (y_move rfl) ?_
  refine pl_yes (.bool (decide (12 < (r9.1.length : Int)))) (tg := 35) (by kernel_rfl) (congrArg Value.bool e0) (y_gtr rfl rfl) ?_
  refine pl_val (.bool (decide (12 < (r9.1.length : Int)))) (y_pick_f (congrArg Value.bool e0) rfl) ?_
  refine pl_val (.bool (decide (12 < (r9.1.length : Int)))) (y_move rfl) ?_
  rcases bif_some hs with ⟨c8, hs⟩ | ⟨c8, hs⟩
  ·skip
   refine pl_not (tg := 39) (by kernel_rfl) (congrArg Value.bool c8) ?_
   refine pl_not (tg := 39) (by kernel_rfl) (congrArg Value.bool c8) ?_
   refine pl_not (tg := 39) (by kernel_rfl) (congrArg Value.bool c8) ?_
   refine pl_not (tg := 39) (by kernel_rfl) (congrArg Value.bool c8) ?_
   refine pl_val (.bool true) (y_pick_t (congrArg Value.bool c8) rfl) ?_
   refine c_nil ?_
   cases hs
   exact ⟨_, fr_ovl 100 ⟨rfl, rfl, rfl, rfl, rfl, rfl, trivial⟩, hMid⟩
  refine pl_yes (.slice f9 g0 g1) (tg := 39) (by kernel_rfl) (congrArg Value.bool c8) (y_move rfl) ?_
  refine pl_yes (.slice b1 b2 b3) (tg := 39) (by kernel_rfl) (congrArg Value.bool c8) (y_move rfl) ?_
  obtain ⟨r18, k0, hs⟩ := bind_some hs
  refine pl_cally (tg := 39) (by kernel_rfl) (congrArg Value.bool c8) Bd65 rfl (c_spec_l17All (M := (Past (Past M a3 a0) a0 a4)) r5.1 r9.1 d9 a1 hO.fut k0) ?_
  rintro _ s7 ⟨rfl, e4⟩
  have c6 := c6.cn e4
  have d9 := d9.ext e4
  have a1 := a1.ext e4
  have hMid := hMid.ext e4
  have hC := hC.ext e4
  have hO := hO.ext e4
  refine pl_yes (.bool (!r18)) (tg := 39) (by kernel_rfl) (congrArg Value.bool c8) (y_not rfl) ?_
  refine pl_val (.bool (!r18)) (y_pick_f (congrArg Value.bool c8) rfl) ?_
  refine c_nil ?_
  cases hs
  exact ⟨_, fr_ovl 100 ⟨rfl, rfl, rfl, rfl, rfl, rfl, trivial⟩, hMid⟩
 rintro h5 i5 ⟨σ, rfl, g2⟩
 have c6 := c6.cn g2
 have a1 := a1.ext g2
 have hC := hC.ext g2
 have hO := hO.ext g2
 rcases bif_some hs with ⟨h6, hs⟩ | ⟨h6, hs⟩
 ·refine c_condT (congrArg Value.bool h6) ?_
  refine c_sr ?_
  refine pl_val (.bool false) (y_assign rfl) ?_
  refine pl_val (.bool true) (y_assign rfl) ?_
  refine c_nil ?_
  refine wp_ret ?_
  cases hs
  exact ⟨_, fr_ovl 100 ⟨rfl, rfl, trivial⟩, hC⟩
 refine c_condF (congrArg Value.bool h6) ?_
 refine wp_skip ?_
 refine c_seq ?_
 refine c_sr ?_
 refine pl_val (.int .i64 0) (y_assign rfl) ?_
 refine c_nil ?_
 have hO := hO.drop
 obtain ⟨o75, k1, hs⟩ := bind_some hs
 refine wp_block ?_
 refine wp_forC (id := 0) (r9.1.length : Int) (I := fun k73 s71 a b8 => ∃ (σ : Nat → Value), a = fr 100 (ovl σ [(8, (.slice b1 b2 b3)), (10, (.int .i64 a_.1)), (11, (.int .i64 (r9.1.length : Int))), (12, (.int .i64 k73))]) ∧ Chg [] w b8 ∧ Own (Nw w []) (Past (Past M a3 a0) a0 a4) b8 ([]) ∧ (RT.rs (RT.rs (RT.int .i64))).val (Past (Past M a3 a0) a0 a4) b8 (.slice b1 b2 b3) r9.1 ([])) (J := fun s71 a b8 => ∃ (σ : Nat → Value), a = fr 100 (ovl σ [(8, (.slice b1 b2 b3)), (10, (.int .i64 a_.1)), (11, (.int .i64 (r9.1.length : Int)))]) ∧ Chg [] w b8 ∧ Own (Nw w []) (Past (Past M a3 a0) a0 a4) b8 ([]) ∧ (RT.rs (RT.rs (RT.int .i64))).val (Past (Past M a3 a0) a0 a4) b8 (.slice b1 b2 b3) r9.1 ([])) (K := (k_spec_IsDirectChain M w)) ?_ ?_ 0 () o75 _ _ ?_ k1 ?_
 ·rintro k73 s71 a b8 ⟨σ, rfl, hC, hO, a1⟩ hlt
  refine c_seq ?_
  refine c_sr ?_
  refine pl_val (.int .i64 k73) (y_move rfl) ?_
  refine pl_val (.int .i64 (r9.1.length : Int)) (y_move rfl) ?_
  refine pl_val (.bool (decide (k73 < (r9.1.length : Int)))) (y_lss rfl rfl) ?_
  refine c_nil ?_
  refine c_condF (congrArg Value.bool (decide_eq_false hlt)) ?_
  refine wp_exit ?_
  exact ⟨rfl, _, fr_ovl 100 ⟨rfl, rfl, rfl, trivial⟩, hC, hO, a1⟩
 ·rintro k73 s71 o75 a b8 ⟨σ, rfl, hC, hO, a1⟩ hlt hw hs
  refine c_seq ?_
  refine c_sr ?_
  refine pl_val (.int .i64 k73) (y_move rfl) ?_
  refine pl_val (.int .i64 (r9.1.length : Int)) (y_move rfl) ?_
  refine pl_val (.bool (decide (k73 < (r9.1.length : Int)))) (y_lss rfl rfl) ?_
  refine c_nil ?_
  refine c_condT (congrArg Value.bool (decide_eq_true hlt)) ?_
  refine wp_skip ?_
  refine c_seq ?_
  refine wp_block ?_
  refine c_seq ?_
  obtain ⟨s77, k2, hs⟩ := bind_some hs
  refine c_mid (I := fun a i6 => ∃ (σ : Nat → Value), a = fr 100 (ovl σ [(8, (.slice b1 b2 b3)), (10, (.int .i64 a_.1)), (11, (.int .i64 (r9.1.length : Int))), (12, (.int .i64 k73)), (79, (.bool s77))]) ∧ Chg [] b8 i6) ?_ ?_
  ·replace hs := k2
   have hMid := Chg.refl [] b8
   refine x_start [] Mx rfl ?_
   have f1 := Chg.drew b8
   generalize World.drew b8 = k3 at f1 ⊢
   have a1 := a1.ext f1
   have hMid := hMid.ext f1
   have hC := hC.ext f1
   have hO := hO.ext f1
   have hS := Chg.refl [] k3
   refine x_p 0 (.int .i64 a_.1) rfl (by kernel_rfl)  (fun _ => y_move rfl) (fun _ => hS) ?_
   refine x_p 1 (.slice b1 b2 b3) rfl (by kernel_rfl)  (fun _ => y_move rfl) (fun _ => hS) ?_
   refine x_p 2 (.int .i64 k73) rfl (by kernel_rfl)  (fun _ => y_move rfl) (fun _ => hS) ?_
   obtain ⟨x81, k4, hs⟩ := bind_some hs
   obtain ⟨k5, k6, k7, a7⟩ := rs_idx Sl47 Sz37 a1 k4
   refine x_p 3 (.pointer (some ⟨k5, k6, none⟩)) rfl (by kernel_rfl)  (fun _ => k7 _ _ _ _ _ _ _ _ _ rfl rfl) (fun _ => hS) ?_
   obtain ⟨s8, k8, a6⟩ := at_load Ag37 Sz37 (fun _ => rfl) a7
   obtain ⟨k9, l0, l1, rfl⟩ := rs_sl a6
   refine x_l 4 (.slice k9 l0 l1) rfl (by kernel_rfl)  (fun w' hw' => y_load rfl (k8 w' hw')) hS ?_
   refine x_one (i := 5) (by kernel_rfl) ?_
   obtain ⟨r86, l2, hs⟩ := bind_some hs
   refine xk_call (b := false) rfl  Bd52 rfl (c_spec_l17Fixed (M := (Past (Past M a3 a0) a0 a4)) a_.1 x81 a6 hO.fut l2) rfl (by rintro _ _ _ ⟨rfl, d2⟩; exact hS.ext d2) ?_
   rintro _ s9 ⟨rfl, d2⟩
   have a1 := a1.ext d2
   have a6 := a6.ext d2
   have hMid := hMid.ext d2
   have a7 := at_ext a7 d2
   have hC := hC.ext d2
   have hO := hO.ext d2
   have hS := hS.ext d2
   refine x_p 6 (.bool (!r86)) rfl (by kernel_rfl)  (fun _ => y_not rfl) (fun _ => hS) ?_
   refine x_p 7 (.bool (!r86)) rfl (by kernel_rfl)  (fun _ => y_move rfl) (fun _ => hS) ?_
   rcases bif_some hs with ⟨a8, hs⟩ | ⟨a8, hs⟩
   ·skip
    refine x_pn 8 rfl (by kernel_rfl) (tg := 57) (by kernel_rfl) (congrArg Value.bool a8) (fun _ => hS) ?_
    refine x_pn 9 rfl (by kernel_rfl) (tg := 57) (by kernel_rfl) (congrArg Value.bool a8) (fun _ => hS) ?_
    refine x_pn 10 rfl (by kernel_rfl) (tg := 57) (by kernel_rfl) (congrArg Value.bool a8) (fun _ => hS) ?_
    refine x_pn 11 rfl (by kernel_rfl) (tg := 57) (by kernel_rfl) (congrArg Value.bool a8) (fun _ => hS) ?_
    refine x_pn 12 rfl (by kernel_rfl) (tg := 57) (by kernel_rfl) (congrArg Value.bool a8) (fun _ => hS) ?_
    refine x_pnu 13 rfl (by kernel_rfl) (tg := 62) (by kernel_rfl) rfl (fun _ => hS) ?_
    refine x_pnu 14 rfl (by kernel_rfl) (tg := 62) (by kernel_rfl) rfl (fun _ => hS) ?_
    refine x_pnu 15 rfl (by kernel_rfl) (tg := 62) (by kernel_rfl) rfl (fun _ => hS) ?_
    refine x_pnu 16 rfl (by kernel_rfl) (tg := 62) (by kernel_rfl) rfl (fun _ => hS) ?_
    refine x_pnu 17 rfl (by kernel_rfl) (tg := 62) (by kernel_rfl) rfl (fun _ => hS) ?_
    refine x_pnu 18 rfl (by kernel_rfl) (tg := 62) (by kernel_rfl) rfl (fun _ => hS) ?_
    refine x_pnu 19 rfl (by kernel_rfl) (tg := 62) (by kernel_rfl) rfl (fun _ => hS) ?_
    refine x_pnu 20 rfl (by kernel_rfl) (tg := 62) (by kernel_rfl) rfl (fun _ => hS) ?_
    refine x_pnu 21 rfl (by kernel_rfl) (tg := 62) (by kernel_rfl) rfl (fun _ => hS) ?_
    refine x_pnu 22 rfl (by kernel_rfl) (tg := 62) (by kernel_rfl) rfl (fun _ => hS) ?_
    refine x_pnu 23 rfl (by kernel_rfl) (tg := 62) (by kernel_rfl) rfl (fun _ => hS) ?_
    refine x_pnu 24 rfl (by kernel_rfl) (tg := 62) (by kernel_rfl) rfl (fun _ => hS) ?_
    refine x_pnu 25 rfl (by kernel_rfl) (tg := 62) (by kernel_rfl) rfl (fun _ => hS) ?_
    refine x_pnu 26 rfl (by kernel_rfl) (tg := 62) (by kernel_rfl) rfl (fun _ => hS) ?_
    refine x_pnu 27 rfl (by kernel_rfl) (tg := 62) (by kernel_rfl) rfl (fun _ => hS) ?_
    refine x_pn 28 rfl (by kernel_rfl) (tg := 57) (by kernel_rfl) (congrArg Value.bool a8) (fun _ => hS) ?_
    refine x_p 29 (.bool true) rfl (by kernel_rfl)  (fun _ => y_pick_t (congrArg Value.bool a8) rfl) (fun _ => hS) ?_
    refine x_end (by kernel_rfl) ?_
    clear hS
    cases hs
    exact ⟨_, fr_ovl 100 ⟨rfl, rfl, rfl, rfl, rfl, trivial⟩, hMid⟩
   refine x_py 8 (.int .i64 k73) rfl (by kernel_rfl) (tg := 57) (by kernel_rfl) (congrArg Value.bool a8) (fun _ => y_move rfl) (fun _ => hS) ?_
   refine x_py 9 (.int .i64 (w64 (k73 + 1))) rfl (by kernel_rfl) (tg := 57) (by kernel_rfl) (congrArg Value.bool a8) (fun _ => y_add rfl rfl) (fun _ => hS) ?_
   refine x_py 10 (.int .i64 (r9.1.length : Int)) rfl (by kernel_rfl) (tg := 57) (by kernel_rfl) (congrArg Value.bool a8) (fun _ => y_move rfl) (fun _ => hS) ?_
   refine x_py 11 (.bool (decide ((w64 (k73 + 1)) < (r9.1.length : Int)))) rfl (by kernel_rfl) (tg := 57) (by kernel_rfl) (congrArg Value.bool a8) (fun _ => y_lss rfl rfl) (fun _ => hS) ?_
   refine x_py 12 (.bool (decide ((w64 (k73 + 1)) < (r9.1.length : Int)))) rfl (by kernel_rfl) (tg := 57) (by kernel_rfl) (congrArg Value.bool a8) (fun _ => y_move rfl) (fun _ => hS) ?_
   rcases bif_some hs with ⟨a2, hs⟩ | ⟨a2, hs⟩
   ·skip
    refine x_py 13 (.int .i64 a_.1) rfl (by kernel_rfl) (tg := 62) (by kernel_rfl) (congrArg Value.bool a2) (fun _ => y_move rfl) (fun _ => hS) ?_
    refine x_py 14 (.slice b1 b2 b3) rfl (by kernel_rfl) (tg := 62) (by kernel_rfl) (congrArg Value.bool a2) (fun _ => y_move rfl) (fun _ => hS) ?_
    refine x_py 15 (.int .i64 k73) rfl (by kernel_rfl) (tg := 62) (by kernel_rfl) (congrArg Value.bool a2) (fun _ => y_move rfl) (fun _ => hS) ?_
    obtain ⟨x89, l3, hs⟩ := bind_some hs
    obtain ⟨l4, l5, l6, b0⟩ := rs_idx Sl47 Sz37 a1 l3
    refine x_py 16 (.pointer (some ⟨l4, l5, none⟩)) rfl (by kernel_rfl) (tg := 62) (by kernel_rfl) (congrArg Value.bool a2) (fun _ => l6 _ _ _ _ _ _ _ _ _ rfl rfl) (fun _ => hS) ?_
    refine x_py 19 (.int .i64 a_.1) rfl (by kernel_rfl) (tg := 62) (by kernel_rfl) (congrArg Value.bool a2) (fun _ => y_move rfl) (fun _ => hS) ?_
    refine x_py 20 (.slice b1 b2 b3) rfl (by kernel_rfl) (tg := 62) (by kernel_rfl) (congrArg Value.bool a2) (fun _ => y_move rfl) (fun _ => hS) ?_
    refine x_py 21 (.int .i64 k73) rfl (by kernel_rfl) (tg := 62) (by kernel_rfl) (congrArg Value.bool a2) (fun _ => y_move rfl) (fun _ => hS) ?_
    refine x_py 22 (.int .i64 (w64 (k73 + 1))) rfl (by kernel_rfl) (tg := 62) (by kernel_rfl) (congrArg Value.bool a2) (fun _ => y_add rfl rfl) (fun _ => hS) ?_
    obtain ⟨x91, l7, hs⟩ := bind_some hs
    obtain ⟨l8, l9, m0, a9⟩ := rs_idx Sl47 Sz37 a1 l7
    refine x_py 23 (.pointer (some ⟨l8, l9, none⟩)) rfl (by kernel_rfl) (tg := 62) (by kernel_rfl) (congrArg Value.bool a2) (fun _ => m0 _ _ _ _ _ _ _ _ _ rfl rfl) (fun _ => hS) ?_
    refine x_two (i := 17) (j := 24) (by kernel_rfl) ?_ ?_
    ·skip
     obtain ⟨t0, m1, b4⟩ := at_load Ag37 Sz37 (fun _ => rfl) b0
     obtain ⟨m2, m3, m4, rfl⟩ := rs_sl b4
     refine xk_valy (b := false) (.slice m2 m3 m4) rfl (tg := 62) (by kernel_rfl) (congrArg Value.bool a2) (y_load rfl (m1 _ (Chg.refl _ _))) rfl (fun _ => hS) ?_
     refine x_two (i := 18) (j := 24) (by kernel_rfl) ?_ ?_
     ·skip
      obtain ⟨r96, f2, hs⟩ := bind_some hs
      refine xk_cally (b := false) rfl (tg := 62) (by kernel_rfl) (congrArg Value.bool a2) Bd67 rfl (c_spec_l17Part (M := (Past (Past M a3 a0) a0 a4)) a_.1 x89 2 b4 hO.fut f2) rfl (by rintro _ _ _ ⟨m5, m6, m7, g3, rfl, c7, e5, i7⟩; exact hS.ext c7) ?_
      rintro _ t1 ⟨m5, m6, m7, g3, rfl, c7, e5, i7⟩
      have a1 := a1.ext c7
      have a6 := a6.ext c7
      have b4 := b4.ext c7
      have hMid := hMid.ext c7
      have a7 := at_ext a7 c7
      have b0 := at_ext b0 c7
      have a9 := at_ext a9 c7
      have hC := hC.ext c7
      have hO := Own.join0 hO c7 i7
      have hO := hO.perm (R := g3 ++ ([])) (by simp)
      have hS := hS.ext c7
      refine x_one (i := 24) (by kernel_rfl) ?_
      obtain ⟨t2, m8, e6⟩ := at_load Ag37 Sz37 (fun _ => rfl) a9
      obtain ⟨m9, n0, n1, rfl⟩ := rs_sl e6
      refine xk_valy (b := false) (.slice m9 n0 n1) rfl (tg := 62) (by kernel_rfl) (congrArg Value.bool a2) (y_load rfl (m8 _ (Chg.refl _ _))) rfl (fun _ => hS) ?_
      refine x_one (i := 25) (by kernel_rfl) ?_
      obtain ⟨r101, f3, hs⟩ := bind_some hs
      refine xk_cally (b := false) rfl (tg := 62) (by kernel_rfl) (congrArg Value.bool a2) Bd67 rfl (c_spec_l17Part (M := (Past (Past M a3 a0) a0 a4)) a_.1 x91 1 e6 hO.fut f3) rfl (by rintro _ _ _ ⟨n2, n3, n4, h7, rfl, b9, g4, i9⟩; exact hS.ext b9) ?_
      rintro _ t3 ⟨n2, n3, n4, h7, rfl, b9, g4, i9⟩
      have a1 := a1.ext b9
      have a6 := a6.ext b9
      have b4 := b4.ext b9
      have e5 := e5.ext b9
      have e6 := e6.ext b9
      have hMid := hMid.ext b9
      have a7 := at_ext a7 b9
      have b0 := at_ext b0 b9
      have a9 := at_ext a9 b9
      have hC := hC.ext b9
      have hO := Own.join0 hO b9 i9
      have hO := hO.perm (R := h7 ++ (g3 ++ ([]))) (by simp)
      have hS := hS.ext b9
      refine x_one (i := 26) (by kernel_rfl) ?_
      have hO := hO.fr1
      obtain ⟨r104, f4, hs⟩ := bind_some hs
      refine xk_cally (b := false) rfl (tg := 62) (by kernel_rfl) (congrArg Value.bool a2) Bd66 rfl (c_spec_l1Same (M := (Less (Less (Past (Past M a3 a0) a0 a4) g3) h7)) r96 r101 ((((Frz.os Frz.int)).val e5 Less.sub Less.not).sub Less.sub) (((Frz.os Frz.int)).val (g4.sub Less.sub) Less.sub Less.not) (hO.less).less.fut f4) rfl (by rintro _ _ _ ⟨rfl, b5⟩; exact hS.ext b5) ?_
      rintro _ t4 ⟨rfl, b5⟩
      have a1 := a1.ext b5
      have a6 := a6.ext b5
      have b4 := b4.ext b5
      have e5 := e5.ext b5
      have e6 := e6.ext b5
      have g4 := g4.ext b5
      have hMid := hMid.ext b5
      have a7 := at_ext a7 b5
      have b0 := at_ext b0 b5
      have a9 := at_ext a9 b5
      have hC := hC.ext b5
      have hO := hO.ext b5
      have hS := hS.ext b5
      refine x_py 27 (.bool (!r104)) rfl (by kernel_rfl) (tg := 62) (by kernel_rfl) (congrArg Value.bool a2) (fun _ => y_not rfl) (fun _ => hS) ?_
      refine x_py 28 (.bool (!r104)) rfl (by kernel_rfl) (tg := 57) (by kernel_rfl) (congrArg Value.bool a8) (fun _ => y_pick_t (congrArg Value.bool a2) rfl) (fun _ => hS) ?_
      refine x_p 29 (.bool (!r104)) rfl (by kernel_rfl)  (fun _ => y_pick_f (congrArg Value.bool a8) rfl) (fun _ => hS) ?_
      refine x_end (by kernel_rfl) ?_
      clear hS
      cases hs
      exact ⟨_, fr_ovl 100 ⟨rfl, rfl, rfl, rfl, rfl, trivial⟩, hMid⟩
     ·skip
      obtain ⟨t5, n5, d5⟩ := at_load Ag37 Sz37 (fun _ => rfl) a9
      obtain ⟨n6, n7, n8, rfl⟩ := rs_sl d5
      refine xk_valy (b := false) (.slice n6 n7 n8) rfl (tg := 62) (by kernel_rfl) (congrArg Value.bool a2) (y_load rfl (n5 _ (Chg.refl _ _))) rfl (fun _ => hS) ?_
      refine x_one (i := 18) (by kernel_rfl) ?_
      obtain ⟨r96, f2, hs⟩ := bind_some hs
      refine xk_cally (b := false) rfl (tg := 62) (by kernel_rfl) (congrArg Value.bool a2) Bd67 rfl (c_spec_l17Part (M := (Past (Past M a3 a0) a0 a4)) a_.1 x89 2 b4 hO.fut f2) rfl (by rintro _ _ _ ⟨n9, o0, o1, g5, rfl, c3, e7, j0⟩; exact hS.ext c3) ?_
      rintro _ t6 ⟨n9, o0, o1, g5, rfl, c3, e7, j0⟩
      have a1 := a1.ext c3
      have a6 := a6.ext c3
      have b4 := b4.ext c3
      have d5 := d5.ext c3
      have hMid := hMid.ext c3
      have a7 := at_ext a7 c3
      have b0 := at_ext b0 c3
      have a9 := at_ext a9 c3
      have hC := hC.ext c3
      have hO := Own.join0 hO c3 j0
      have hO := hO.perm (R := g5 ++ ([])) (by simp)
      have hS := hS.ext c3
      refine x_one (i := 25) (by kernel_rfl) ?_
      obtain ⟨r101, f3, hs⟩ := bind_some hs
      refine xk_cally (b := false) rfl (tg := 62) (by kernel_rfl) (congrArg Value.bool a2) Bd67 rfl (c_spec_l17Part (M := (Past (Past M a3 a0) a0 a4)) a_.1 x91 1 d5 hO.fut f3) rfl (by rintro _ _ _ ⟨o2, o3, o4, h8, rfl, c0, g6, j1⟩; exact hS.ext c0) ?_
      rintro _ t7 ⟨o2, o3, o4, h8, rfl, c0, g6, j1⟩
      have a1 := a1.ext c0
      have a6 := a6.ext c0
      have b4 := b4.ext c0
      have d5 := d5.ext c0
      have e7 := e7.ext c0
      have hMid := hMid.ext c0
      have a7 := at_ext a7 c0
      have b0 := at_ext b0 c0
      have a9 := at_ext a9 c0
      have hC := hC.ext c0
      have hO := Own.join0 hO c0 j1
      have hO := hO.perm (R := h8 ++ (g5 ++ ([]))) (by simp)
      have hS := hS.ext c0
      refine x_one (i := 26) (by kernel_rfl) ?_
      have hO := hO.fr1
      obtain ⟨r104, f4, hs⟩ := bind_some hs
      refine xk_cally (b := false) rfl (tg := 62) (by kernel_rfl) (congrArg Value.bool a2) Bd66 rfl (c_spec_l1Same (M := (Less (Less (Past (Past M a3 a0) a0 a4) g5) h8)) r96 r101 ((((Frz.os Frz.int)).val e7 Less.sub Less.not).sub Less.sub) (((Frz.os Frz.int)).val (g6.sub Less.sub) Less.sub Less.not) (hO.less).less.fut f4) rfl (by rintro _ _ _ ⟨rfl, b6⟩; exact hS.ext b6) ?_
      rintro _ t8 ⟨rfl, b6⟩
      have a1 := a1.ext b6
      have a6 := a6.ext b6
      have b4 := b4.ext b6
      have d5 := d5.ext b6
      have e7 := e7.ext b6
      have g6 := g6.ext b6
      have hMid := hMid.ext b6
      have a7 := at_ext a7 b6
      have b0 := at_ext b0 b6
      have a9 := at_ext a9 b6
      have hC := hC.ext b6
      have hO := hO.ext b6
      have hS := hS.ext b6
      refine x_py 27 (.bool (!r104)) rfl (by kernel_rfl) (tg := 62) (by kernel_rfl) (congrArg Value.bool a2) (fun _ => y_not rfl) (fun _ => hS) ?_
      refine x_py 28 (.bool (!r104)) rfl (by kernel_rfl) (tg := 57) (by kernel_rfl) (congrArg Value.bool a8) (fun _ => y_pick_t (congrArg Value.bool a2) rfl) (fun _ => hS) ?_
      refine x_p 29 (.bool (!r104)) rfl (by kernel_rfl)  (fun _ => y_pick_f (congrArg Value.bool a8) rfl) (fun _ => hS) ?_
      refine x_end (by kernel_rfl) ?_
      clear hS
      cases hs
      exact ⟨_, fr_ovl 100 ⟨rfl, rfl, rfl, rfl, rfl, trivial⟩, hMid⟩
    ·skip
     obtain ⟨t9, o5, d6⟩ := at_load Ag37 Sz37 (fun _ => rfl) a9
     obtain ⟨o6, o7, o8, rfl⟩ := rs_sl d6
     refine xk_valy (b := false) (.slice o6 o7 o8) rfl (tg := 62) (by kernel_rfl) (congrArg Value.bool a2) (y_load rfl (o5 _ (Chg.refl _ _))) rfl (fun _ => hS) ?_
     refine x_one (i := 17) (by kernel_rfl) ?_
     obtain ⟨u0, o9, d7⟩ := at_load Ag37 Sz37 (fun _ => rfl) b0
     obtain ⟨p0, p1, p2, rfl⟩ := rs_sl d7
     refine xk_valy (b := false) (.slice p0 p1 p2) rfl (tg := 62) (by kernel_rfl) (congrArg Value.bool a2) (y_load rfl (o9 _ (Chg.refl _ _))) rfl (fun _ => hS) ?_
     refine x_one (i := 18) (by kernel_rfl) ?_
     obtain ⟨r96, f2, hs⟩ := bind_some hs
     refine xk_cally (b := false) rfl (tg := 62) (by kernel_rfl) (congrArg Value.bool a2) Bd67 rfl (c_spec_l17Part (M := (Past (Past M a3 a0) a0 a4)) a_.1 x89 2 d7 hO.fut f2) rfl (by rintro _ _ _ ⟨p3, p4, p5, g7, rfl, c4, e8, j2⟩; exact hS.ext c4) ?_
     rintro _ u1 ⟨p3, p4, p5, g7, rfl, c4, e8, j2⟩
     have a1 := a1.ext c4
     have a6 := a6.ext c4
     have d6 := d6.ext c4
     have d7 := d7.ext c4
     have hMid := hMid.ext c4
     have a7 := at_ext a7 c4
     have b0 := at_ext b0 c4
     have a9 := at_ext a9 c4
     have hC := hC.ext c4
     have hO := Own.join0 hO c4 j2
     have hO := hO.perm (R := g7 ++ ([])) (by simp)
     have hS := hS.ext c4
     refine x_one (i := 25) (by kernel_rfl) ?_
     obtain ⟨r101, f3, hs⟩ := bind_some hs
     refine xk_cally (b := false) rfl (tg := 62) (by kernel_rfl) (congrArg Value.bool a2) Bd67 rfl (c_spec_l17Part (M := (Past (Past M a3 a0) a0 a4)) a_.1 x91 1 d6 hO.fut f3) rfl (by rintro _ _ _ ⟨p6, p7, p8, h9, rfl, c1, g8, j3⟩; exact hS.ext c1) ?_
     rintro _ u2 ⟨p6, p7, p8, h9, rfl, c1, g8, j3⟩
     have a1 := a1.ext c1
     have a6 := a6.ext c1
     have d6 := d6.ext c1
     have d7 := d7.ext c1
     have e8 := e8.ext c1
     have hMid := hMid.ext c1
     have a7 := at_ext a7 c1
     have b0 := at_ext b0 c1
     have a9 := at_ext a9 c1
     have hC := hC.ext c1
     have hO := Own.join0 hO c1 j3
     have hO := hO.perm (R := h9 ++ (g7 ++ ([]))) (by simp)
     have hS := hS.ext c1
     refine x_one (i := 26) (by kernel_rfl) ?_
     have hO := hO.fr1
     obtain ⟨r104, f4, hs⟩ := bind_some hs
     refine xk_cally (b := false) rfl (tg := 62) (by kernel_rfl) (congrArg Value.bool a2) Bd66 rfl (c_spec_l1Same (M := (Less (Less (Past (Past M a3 a0) a0 a4) g7) h9)) r96 r101 ((((Frz.os Frz.int)).val e8 Less.sub Less.not).sub Less.sub) (((Frz.os Frz.int)).val (g8.sub Less.sub) Less.sub Less.not) (hO.less).less.fut f4) rfl (by rintro _ _ _ ⟨rfl, b7⟩; exact hS.ext b7) ?_
     rintro _ u3 ⟨rfl, b7⟩
     have a1 := a1.ext b7
     have a6 := a6.ext b7
     have d6 := d6.ext b7
     have d7 := d7.ext b7
     have e8 := e8.ext b7
     have g8 := g8.ext b7
     have hMid := hMid.ext b7
     have a7 := at_ext a7 b7
     have b0 := at_ext b0 b7
     have a9 := at_ext a9 b7
     have hC := hC.ext b7
     have hO := hO.ext b7
     have hS := hS.ext b7
     refine x_py 27 (.bool (!r104)) rfl (by kernel_rfl) (tg := 62) (by kernel_rfl) (congrArg Value.bool a2) (fun _ => y_not rfl) (fun _ => hS) ?_
     refine x_py 28 (.bool (!r104)) rfl (by kernel_rfl) (tg := 57) (by kernel_rfl) (congrArg Value.bool a8) (fun _ => y_pick_t (congrArg Value.bool a2) rfl) (fun _ => hS) ?_
     refine x_p 29 (.bool (!r104)) rfl (by kernel_rfl)  (fun _ => y_pick_f (congrArg Value.bool a8) rfl) (fun _ => hS) ?_
     refine x_end (by kernel_rfl) ?_
     clear hS
     cases hs
     exact ⟨_, fr_ovl 100 ⟨rfl, rfl, rfl, rfl, rfl, trivial⟩, hMid⟩
   refine x_pn 13 rfl (by kernel_rfl) (tg := 62) (by kernel_rfl) (congrArg Value.bool a2) (fun _ => hS) ?_
   refine x_pn 14 rfl (by kernel_rfl) (tg := 62) (by kernel_rfl) (congrArg Value.bool a2) (fun _ => hS) ?_
   refine x_pn 15 rfl (by kernel_rfl) (tg := 62) (by kernel_rfl) (congrArg Value.bool a2) (fun _ => hS) ?_
   refine x_pn 16 rfl (by kernel_rfl) (tg := 62) (by kernel_rfl) (congrArg Value.bool a2) (fun _ => hS) ?_
   refine x_pn 17 rfl (by kernel_rfl) (tg := 62) (by kernel_rfl) (congrArg Value.bool a2) (fun _ => hS) ?_
   refine x_pn 18 rfl (by kernel_rfl) (tg := 62) (by kernel_rfl) (congrArg Value.bool a2) (fun _ => hS) ?_
   refine x_pn 19 rfl (by kernel_rfl) (tg := 62) (by kernel_rfl) (congrArg Value.bool a2) (fun _ => hS) ?_
   refine x_pn 20 rfl (by kernel_rfl) (tg := 62) (by kernel_rfl) (congrArg Value.bool a2) (fun _ => hS) ?_
   refine x_pn 21 rfl (by kernel_rfl) (tg := 62) (by kernel_rfl) (congrArg Value.bool a2) (fun _ => hS) ?_
   refine x_pn 22 rfl (by kernel_rfl) (tg := 62) (by kernel_rfl) (congrArg Value.bool a2) (fun _ => hS) ?_
   refine x_pn 23 rfl (by kernel_rfl) (tg := 62) (by kernel_rfl) (congrArg Value.bool a2) (fun _ => hS) ?_
   refine x_pn 24 rfl (by kernel_rfl) (tg := 62) (by kernel_rfl) (congrArg Value.bool a2) (fun _ => hS) ?_
   refine x_pn 25 rfl (by kernel_rfl) (tg := 62) (by kernel_rfl) (congrArg Value.bool a2) (fun _ => hS) ?_
   refine x_pn 26 rfl (by kernel_rfl) (tg := 62) (by kernel_rfl) (congrArg Value.bool a2) (fun _ => hS) ?_
   refine x_pn 27 rfl (by kernel_rfl) (tg := 62) (by kernel_rfl) (congrArg Value.bool a2) (fun _ => hS) ?_
   refine x_py 28 (.bool false) rfl (by kernel_rfl) (tg := 57) (by kernel_rfl) (congrArg Value.bool a8) (fun _ => y_pick_f (congrArg Value.bool a2) rfl) (fun _ => hS) ?_
   refine x_p 29 (.bool false) rfl (by kernel_rfl)  (fun _ => y_pick_f (congrArg Value.bool a8) rfl) (fun _ => hS) ?_
   refine x_end (by kernel_rfl) ?_
   clear hS
   cases hs
   exact ⟨_, fr_ovl 100 ⟨rfl, rfl, rfl, rfl, rfl, trivial⟩, hMid⟩
  rintro h5 i6 ⟨σ, rfl, i0⟩
  have a1 := a1.ext i0
  have hC := hC.ext i0
  have hO := hO.ext i0
  rcases bif_some hs with ⟨i1, hs⟩ | ⟨i1, hs⟩
  ·refine c_condT (congrArg Value.bool i1) ?_
   refine c_sr ?_
   refine pl_val (.bool false) (y_assign rfl) ?_
   refine pl_val (.bool true) (y_assign rfl) ?_
   refine c_nil ?_
   refine wp_ret ?_
   cases hs
   exact ⟨_, fr_ovl 100 ⟨rfl, rfl, trivial⟩, hC⟩
  refine c_condF (congrArg Value.bool i1) ?_
  refine wp_skip ?_
  refine c_region ?_
  refine pl_val (.int .i64 k73) (y_move rfl) ?_
  refine pl_val (.int .i64 (w64 (k73 + 1))) (y_add rfl rfl) ?_
  refine pl_val (.int .i64 (w64 (k73 + 1))) (y_assign rfl) ?_
  refine c_nil ?_
  cases hs
  exact ⟨_, fr_ovl 100 ⟨rfl, rfl, rfl, congrArg (Value.int .i64) hw, trivial⟩, hC, hO, a1⟩
 ·skip
  exact ⟨_, fr_ovl 100 ⟨rfl, rfl, rfl, rfl, trivial⟩, hC, hO, a1⟩
 cases o75 with
 | nx _ => exact True.intro
 | rt r_ =>
  have hs := after_rt hs
  intro h5 j5 hK
  cases hs
  exact hK
 | br s71 =>
  have hs := after_br hs
  rintro h5 b8 ⟨σ, rfl, hC, hO, a1⟩
  refine c_sr ?_
  refine pl_val (.int .i64 a_.1) (y_move rfl) ?_
  refine pl_val (.slice b1 b2 b3) (y_move rfl) ?_
  obtain ⟨x128, p9, hs⟩ := bind_some hs
  obtain ⟨q0, q1, q2, c5⟩ := rs_idx Sl47 Sz37 a1 p9
  refine pl_val (.pointer (some ⟨q0, q1, none⟩)) (q2 _ _ _ _ _ _ _ _ _ rfl rfl) ?_
  obtain ⟨u4, q3, c2⟩ := at_load Ag37 Sz37 (fun _ => rfl) c5
  obtain ⟨q4, q5, q6, rfl⟩ := rs_sl c2
  refine pl_val (.slice q4 q5 q6) (y_load rfl (q3 _ (Chg.refl _ _))) ?_
  obtain ⟨r133, q7, hs⟩ := bind_some hs
  refine pl_call Bd67 rfl (c_spec_l17Part (M := (Past (Past M a3 a0) a0 a4)) a_.1 x128 1 c2 hO.fut q7) ?_
  rintro _ u5 ⟨u6, u7, u9, f5, rfl, f6, c9, q8⟩
  have a1 := a1.ext f6
  have c2 := c2.ext f6
  have c5 := at_ext c5 f6
  have hC := hC.ext f6
  have hO := Own.join0 hO f6 q8
  have hO := hO.perm (R := f5 ++ ([])) (by simp)
  refine pl_val (.int .i64 a_.1) (y_move rfl) ?_
  obtain ⟨r136, q9, hs⟩ := bind_some hs
  refine pl_call Bd71 rfl (c_spec_l17Xs (M := (Past (Past M a3 a0) a0 a4)) a_.1  hO.fut q9) ?_
  rintro _ v0 ⟨v1, v2, v3, g9, rfl, e9, d3, r0⟩
  have a1 := a1.ext e9
  have c2 := c2.ext e9
  have c9 := c9.ext e9
  have c5 := at_ext c5 e9
  have hC := hC.ext e9
  have hO := Own.join0 hO e9 r0
  have hO := hO.perm (R := g9 ++ (f5 ++ ([]))) (by simp)
  have hO := hO.fr1
  obtain ⟨r139, r1, hs⟩ := bind_some hs
  refine pl_call Bd66 rfl (c_spec_l1Same (M := (Less (Less (Past (Past M a3 a0) a0 a4) f5) g9)) r133 r136 ((((Frz.os Frz.int)).val c9 Less.sub Less.not).sub Less.sub) (((Frz.os Frz.int)).val (d3.sub Less.sub) Less.sub Less.not) (hO.less).less.fut r1) ?_
  rintro _ v4 ⟨rfl, e1⟩
  have a1 := a1.ext e1
  have c2 := c2.ext e1
  have c9 := c9.ext e1
  have d3 := d3.ext e1
  have c5 := at_ext c5 e1
  have hC := hC.ext e1
  have hO := hO.ext e1
  refine pl_val (.bool r139) (y_move rfl) ?_
  rcases bif_some hs with ⟨a5, hs⟩ | ⟨a5, hs⟩
  ·skip
   refine pl_yes (.int .i64 a_.1) (tg := 88) (by kernel_rfl) (congrArg Value.bool a5) (y_move rfl) ?_
   refine pl_yes (.slice b1 b2 b3) (tg := 88) (by kernel_rfl) (congrArg Value.bool a5) (y_move rfl) ?_
   refine pl_yes (.int .i64 (r9.1.length : Int)) (tg := 88) (by kernel_rfl) (congrArg Value.bool a5) (y_move rfl) ?_
   refine pl_yes (.int .i64 (w64 ((r9.1.length : Int) - 1))) (tg := 88) (by kernel_rfl) (congrArg Value.bool a5) (y_sub rfl rfl) ?_
   obtain ⟨x141, r2, hs⟩ := bind_some hs
   obtain ⟨r3, r4, r6, e2⟩ := rs_idx Sl47 Sz37 a1 r2
   refine pl_yes (.pointer (some ⟨r3, r4, none⟩)) (tg := 88) (by kernel_rfl) (congrArg Value.bool a5) (r6 _ _ _ _ _ _ _ _ _ rfl rfl) ?_
   obtain ⟨v5, r7, d8⟩ := at_load Ag37 Sz37 (fun _ => rfl) e2
   obtain ⟨r8, s0, s1, rfl⟩ := rs_sl d8
   refine pl_yes (.slice r8 s0 s1) (tg := 88) (by kernel_rfl) (congrArg Value.bool a5) (y_load rfl (r7 _ (Chg.refl _ _))) ?_
   obtain ⟨r146, s2, hs⟩ := bind_some hs
   refine pl_cally (tg := 88) (by kernel_rfl) (congrArg Value.bool a5) Bd67 rfl (c_spec_l17Part (M := (Past (Past M a3 a0) a0 a4)) a_.1 x141 2 d8 hO.fut s2) ?_
   rintro _ v6 ⟨v7, v8, v9, i2, rfl, d4, f7, s3⟩
   have a1 := a1.ext d4
   have c2 := c2.ext d4
   have c9 := c9.ext d4
   have d3 := d3.ext d4
   have d8 := d8.ext d4
   have c5 := at_ext c5 d4
   have e2 := at_ext e2 d4
   have hC := hC.ext d4
   have hO := Own.join0 hO d4 s3
   have hO := hO.perm (R := i2 ++ (f5 ++ (g9 ++ ([])))) (by simp)
   refine pl_yes (.int .i64 a_.1) (tg := 88) (by kernel_rfl) (congrArg Value.bool a5) (y_move rfl) ?_
   obtain ⟨r149, s4, hs⟩ := bind_some hs
   refine pl_cally (tg := 88) (by kernel_rfl) (congrArg Value.bool a5) Bd72 rfl (c_spec_l17Ys (M := (Past (Past M a3 a0) a0 a4)) a_.1  hO.fut s4) ?_
   rintro _ w1 ⟨w2, w3, w4, j4, rfl, d1, i3, s5⟩
   have a1 := a1.ext d1
   have c2 := c2.ext d1
   have c9 := c9.ext d1
   have d3 := d3.ext d1
   have d8 := d8.ext d1
   have f7 := f7.ext d1
   have c5 := at_ext c5 d1
   have e2 := at_ext e2 d1
   have hC := hC.ext d1
   have hO := Own.join0 hO d1 s5
   have hO := hO.perm (R := j4 ++ (i2 ++ (f5 ++ (g9 ++ ([]))))) (by simp)
   have hO := hO.fr1
   obtain ⟨r152, s6, hs⟩ := bind_some hs
   refine pl_cally (tg := 88) (by kernel_rfl) (congrArg Value.bool a5) Bd66 rfl (c_spec_l1Same (M := (Less (Less (Past (Past M a3 a0) a0 a4) i2) j4)) r146 r149 ((((Frz.os Frz.int)).val f7 Less.sub Less.not).sub Less.sub) (((Frz.os Frz.int)).val (i3.sub Less.sub) Less.sub Less.not) (hO.less).less.fut s6) ?_
   rintro _ w5 ⟨rfl, d0⟩
   have a1 := a1.ext d0
   have c2 := c2.ext d0
   have c9 := c9.ext d0
   have d3 := d3.ext d0
   have d8 := d8.ext d0
   have f7 := f7.ext d0
   have i3 := i3.ext d0
   have c5 := at_ext c5 d0
   have e2 := at_ext e2 d0
   have hC := hC.ext d0
   have hO := hO.ext d0
   refine pl_val (.bool r152) (y_pick_t (congrArg Value.bool a5) rfl) ?_
   refine pl_val (.bool r152) (y_assign rfl) ?_
   refine pl_val (.bool true) (y_assign rfl) ?_
   refine c_nil ?_
   refine wp_ret ?_
   cases hs
   exact ⟨_, fr_ovl 100 ⟨rfl, rfl, trivial⟩, hC⟩
  refine pl_not (tg := 88) (by kernel_rfl) (congrArg Value.bool a5) ?_
  refine pl_not (tg := 88) (by kernel_rfl) (congrArg Value.bool a5) ?_
  refine pl_not (tg := 88) (by kernel_rfl) (congrArg Value.bool a5) ?_
  refine pl_not (tg := 88) (by kernel_rfl) (congrArg Value.bool a5) ?_
  refine pl_not (tg := 88) (by kernel_rfl) (congrArg Value.bool a5) ?_
  refine pl_not (tg := 88) (by kernel_rfl) (congrArg Value.bool a5) ?_
  refine pl_not (tg := 88) (by kernel_rfl) (congrArg Value.bool a5) ?_
  refine pl_not (tg := 88) (by kernel_rfl) (congrArg Value.bool a5) ?_
  refine pl_not (tg := 88) (by kernel_rfl) (congrArg Value.bool a5) ?_
  refine pl_not (tg := 88) (by kernel_rfl) (congrArg Value.bool a5) ?_
  refine pl_val (.bool false) (y_pick_f (congrArg Value.bool a5) rfl) ?_
  refine pl_val (.bool false) (y_assign rfl) ?_
  refine pl_val (.bool true) (y_assign rfl) ?_
  refine c_nil ?_
  refine wp_ret ?_
  cases hs
  exact ⟨_, fr_ovl 100 ⟨rfl, rfl, trivial⟩, hC⟩

def k_impl_power (M : Nat → Prop) (w0 : World) (r : Int) (a : Act) (w : World) : Prop :=
  ∃ (σ : Nat → Value) , a = fr 14 (ovl σ [(4, (.int .i64 r))]) ∧ Chg [] w0 w
def s_impl_power (n : Int) (k : Int) : Option (Int) :=
  (iter (S := Int × Int) (R := Int) (fun s2 =>
  (bif (decide (0 < s2.1)) then some (.nx (w64 (s2.1 - 1), w64 (s2.2 * n))) else some (.br (s2.1, s2.2)))) FU (k, 1)).bind fun o6 => after o6 (fun r_ => some r_) (fun s2 =>
  some s2.2)
set_option maxHeartbeats 4000000 in
theorem c_impl_power {M : Nat → Prop} {w : World}  (n : Int) (k : Int)  (hM : ∀ g, w.heap.size ≤ g → M g) {r : Int} (hs : s_impl_power n k = some r) :
    Gives Try.prog 112 [(.int .i64 n), (.int .i64 k)] w (fun v w' => v = (.int .i64 r) ∧ Chg [] w w') := by
 refine calls_fr Try.func112 rfl Try.ntmps112 (Nat.le_of_ble_eq_true rfl) ?_
 have hO := Own.start (N := Nw w []) hM Nw.fut
 have hC := Chg.refl [] w
 unfold s_impl_power at hs
 refine wp_mono (Q := KPost (k_impl_power M w r)) ?_ (fun e a a2 h => ?_)
 rotate_left
 ·cases e
  case ret =>
   obtain ⟨σ, rfl, hrest⟩ := h
   exact ret1x Try.results112 (res_tmp rfl) ⟨rfl, hrest⟩
  all_goals exact (h : False).elim
 refine c_sr ?_
 refine pl_val (.int .i64 0) (y_assign rfl) ?_
 refine c_nil ?_
 refine c_sr ?_
 refine pl_val (.int .i64 1) (y_assign rfl) ?_
 refine c_nil ?_
 refine c_seq ?_
 obtain ⟨o6, a3, hs⟩ := bind_some hs
 refine wp_block ?_
 refine wp_iter (id := 0) (I := fun s2 a a0 => ∃ (σ : Nat → Value), a = fr 14 (ovl σ [(0, (.int .i64 n)), (1, (.int .i64 s2.1)), (5, (.int .i64 s2.2))]) ∧ Chg [] w a0 ∧ Own (Nw w []) M a0 ([])) (J := fun s2 a a0 => ∃ (σ : Nat → Value), a = fr 14 (ovl σ [(5, (.int .i64 s2.2))]) ∧ Chg [] w a0 ∧ Own (Nw w []) M a0 ([])) (K := (k_impl_power M w)) ?_ FU (k, 1) o6 _ _ ?_ a3 ?_
 ·rintro s2 o6 a a0 ⟨σ, rfl, hC, hO⟩ hs
  refine c_seq ?_
  refine c_sr ?_
  refine pl_val (.int .i64 s2.1) (y_move rfl) ?_
  refine pl_val (.bool (decide (0 < s2.1))) (y_gtr rfl rfl) ?_
  refine c_nil ?_
  rcases bif_some hs with ⟨a1, hs⟩ | ⟨a1, hs⟩
  ·refine c_condT (congrArg Value.bool a1) ?_
   refine wp_skip ?_
   refine c_seq ?_
   refine wp_block ?_
   refine c_region ?_
   refine pl_val (.int .i64 s2.2) (y_move rfl) ?_
   refine pl_val (.int .i64 n) (y_move rfl) ?_
   refine pl_val (.int .i64 (w64 (s2.2 * n))) (y_mul rfl rfl) ?_
   refine pl_val (.int .i64 (w64 (s2.2 * n))) (y_assign rfl) ?_
   refine c_nil ?_
   refine c_region ?_
   refine pl_val (.int .i64 s2.1) (y_move rfl) ?_
   refine pl_val (.int .i64 (w64 (s2.1 - 1))) (y_sub rfl rfl) ?_
   refine pl_val (.int .i64 (w64 (s2.1 - 1))) (y_assign rfl) ?_
   refine c_nil ?_
   cases hs
   exact ⟨_, fr_ovl 14 ⟨rfl, rfl, rfl, trivial⟩, hC, hO⟩
  refine c_condF (congrArg Value.bool a1) ?_
  refine wp_exit ?_
  cases hs
  exact ⟨rfl, _, fr_ovl 14 ⟨rfl, trivial⟩, hC, hO⟩
 ·skip
  exact ⟨_, fr_ovl 14 ⟨rfl, rfl, rfl, trivial⟩, hC, hO⟩
 cases o6 with
 | nx _ => exact True.intro
 | rt r_ =>
  have hs := after_rt hs
  intro a4 a2 hK
  cases hs
  exact hK
 | br s2 =>
  have hs := after_br hs
  rintro a4 a0 ⟨σ, rfl, hC, hO⟩
  refine c_sr ?_
  refine pl_val (.int .i64 s2.2) (y_move rfl) ?_
  refine pl_val (.int .i64 s2.2) (y_assign rfl) ?_
  refine c_nil ?_
  refine wp_ret ?_
  cases hs
  exact ⟨_, fr_ovl 14 ⟨rfl, trivial⟩, hC⟩

def k_impl_inSize (M : Nat → Prop) (w0 : World) (r : Bool) (a : Act) (w : World) : Prop :=
  ∃ (σ : Nat → Value) , a = fr 21 (ovl σ [(4, (.bool r))]) ∧ Chg [] w0 w
def s_impl_inSize (list : List Int) (n : Int) : Option (Bool) :=
  (forR (S := Unit) (R := Bool) (fun _ x8 s5 =>
  (bif (decide (x8 < 0)) then some (.rt false) else (bif (decide (n ≤ x8)) then some (.rt false) else some (.nx ())))) 0 list ()).bind fun o9 => after o9 (fun r_ => some r_) (fun s5 =>
  some true)
set_option maxHeartbeats 4000000 in
theorem c_impl_inSize {M : Nat → Prop} {w : World} {pa0 : Option Addr} {pn0 pc0 : Nat} (list : List Int) (n : Int) (h0 : (RT.rs (RT.int .i64)).val M w (.slice pa0 pn0 pc0) list ([])) (hM : ∀ g, w.heap.size ≤ g → M g) {r : Bool} (hs : s_impl_inSize list n = some r) :
    Gives Try.prog 60 [(.slice pa0 pn0 pc0), (.int .i64 n)] w (fun v w' => v = (.bool r) ∧ Chg [] w w') := by
 refine calls_fr Try.func60 rfl Try.ntmps60 (Nat.le_of_ble_eq_true rfl) ?_
 have hO := Own.start (N := Nw w []) hM Nw.fut
 have hC := Chg.refl [] w
 unfold s_impl_inSize at hs
 refine wp_mono (Q := KPost (k_impl_inSize M w r)) ?_ (fun e a a4 h => ?_)
 rotate_left
 ·cases e
  case ret =>
   obtain ⟨σ, rfl, hrest⟩ := h
   exact ret1x Try.results60 (res_tmp rfl) ⟨rfl, hrest⟩
  all_goals exact (h : False).elim
 refine c_sr ?_
 refine pl_val (.bool false) (y_assign rfl) ?_
 refine c_nil ?_
 refine c_seq ?_
 refine c_sr ?_
 refine pl_val (.slice pa0 pn0 pc0) (y_move rfl) ?_
 refine pl_val (.int .i64 (list.length : Int)) (y_len' Sl37 (rs_len h0) rfl) ?_
 refine pl_val (.int .i64 0) (y_move rfl) ?_
 refine c_nil ?_
 obtain ⟨o9, a5, hs⟩ := bind_some hs
 refine wp_block ?_
 refine wp_forR (id := 0) (I := fun i_ xs_ s5 a a0 => ∃ a1 : Nat, i_ = (a1 : Int) ∧ List.drop a1 list = xs_ ∧ (∃ (σ : Nat → Value), a = fr 21 (ovl σ [(1, (.int .i64 n)), (7, (.slice pa0 pn0 pc0)), (8, (.int .i64 (list.length : Int))), (9, (.int .i64 (a1 : Int)))]) ∧ Chg [] w a0 ∧ Own (Nw w []) M a0 ([]) ∧ (RT.rs (RT.int .i64)).val M a0 (.slice pa0 pn0 pc0) list ([]))) (J := fun s5 a a0 => ∃ (σ : Nat → Value), a = fr 21 (ovl σ []) ∧ Chg [] w a0 ∧ Own (Nw w []) M a0 ([]) ∧ (RT.rs (RT.int .i64)).val M a0 (.slice pa0 pn0 pc0) list ([])) (K := (k_impl_inSize M w)) ?_ ?_ list 0 () o9 _ _ ?_ a5 ?_
 ·rintro _ s5 a a0 ⟨a1, rfl, hd, σ, rfl, hC, hO, h0⟩
  have hlt := drop_nil_ge hd
  refine c_sr ?_
  refine pl_val (.bool (decide ((a1 : Int) < (list.length : Int)))) (y_lss rfl rfl) ?_
  refine c_nil ?_
  refine c_seq ?_
  refine c_condF (congrArg Value.bool (decide_eq_false hlt)) ?_
  refine wp_exit ?_
  exact ⟨rfl, _, fr_ovl 21 trivial, hC, hO, h0⟩
 ·rintro _ x8 xs_ s5 o9 a a0 ⟨a1, rfl, hd, σ, rfl, hC, hO, h0⟩ hs
  have hlt := drop_cons_lt hd
  have a6 := drop_cons_idx hd
  refine c_sr ?_
  refine pl_val (.bool (decide ((a1 : Int) < (list.length : Int)))) (y_lss rfl rfl) ?_
  refine c_nil ?_
  refine c_seq ?_
  refine c_condT (congrArg Value.bool (decide_eq_true hlt)) ?_
  refine wp_skip ?_
  refine c_seq ?_
  refine wp_block ?_
  refine c_sr ?_
  obtain ⟨a7, a8, a9, b0⟩ := rs_idx Sl37 Sz3 h0 a6
  refine pl_val (.pointer (some ⟨a7, a8, none⟩)) (a9 _ _ _ _ _ _ _ _ _ rfl rfl) ?_
  refine pl_val (.int .i64 x8) (y_load rfl ((at_load_int Ag3 Sz3 b0) _ (Chg.refl _ _))) ?_
  refine pl_val (.int .i64 x8) (y_assign rfl) ?_
  refine c_nil ?_
  refine c_sr ?_
  refine pl_val (.int .i64 x8) (y_move rfl) ?_
  refine pl_val (.bool (decide (x8 < 0))) (y_lss rfl rfl) ?_
  refine pl_val (.bool (decide (x8 < 0))) (y_move rfl) ?_
  rcases bif_some hs with ⟨a2, hs⟩ | ⟨a2, hs⟩
  ·skip
   refine pl_not (tg := 15) (by kernel_rfl) (congrArg Value.bool a2) ?_
   refine pl_not (tg := 15) (by kernel_rfl) (congrArg Value.bool a2) ?_
   refine pl_not (tg := 15) (by kernel_rfl) (congrArg Value.bool a2) ?_
   refine pl_val (.bool true) (y_pick_t (congrArg Value.bool a2) rfl) ?_
   refine c_nil ?_
   refine c_condT (by rfl) ?_
   refine c_sr ?_
   refine pl_val (.bool false) (y_assign rfl) ?_
   refine c_nil ?_
   refine wp_ret ?_
   cases hs
   exact ⟨_, fr_ovl 21 ⟨rfl, trivial⟩, hC⟩
  refine pl_yes (.int .i64 x8) (tg := 15) (by kernel_rfl) (congrArg Value.bool a2) (y_move rfl) ?_
  refine pl_yes (.int .i64 n) (tg := 15) (by kernel_rfl) (congrArg Value.bool a2) (y_move rfl) ?_
  refine pl_yes (.bool (decide (n ≤ x8))) (tg := 15) (by kernel_rfl) (congrArg Value.bool a2) (y_geq rfl rfl) ?_
  refine pl_val (.bool (decide (n ≤ x8))) (y_pick_f (congrArg Value.bool a2) rfl) ?_
  refine c_nil ?_
  rcases bif_some hs with ⟨a3, hs⟩ | ⟨a3, hs⟩
  ·refine c_condT (congrArg Value.bool a3) ?_
   refine c_sr ?_
   refine pl_val (.bool false) (y_assign rfl) ?_
   refine c_nil ?_
   refine wp_ret ?_
   cases hs
   exact ⟨_, fr_ovl 21 ⟨rfl, trivial⟩, hC⟩
  refine c_condF (congrArg Value.bool a3) ?_
  refine wp_skip ?_
  refine c_region ?_
  refine pl_val (.int .i64 (w64 ((a1 : Int) + 1))) (y_add rfl rfl) ?_
  refine pl_val (.int .i64 (w64 ((a1 : Int) + 1))) (y_move rfl) ?_
  refine c_nil ?_
  cases hs
  exact ⟨_, rfl, drop_cons_next hd, _, fr_ovl 21 ⟨rfl, rfl, rfl, congrArg (Value.int .i64) (w64_succ hlt (Int.natCast_nonneg _) (rs_max h0)), trivial⟩, hC, hO, h0⟩
 ·skip
  exact ⟨0, rfl, rfl, _, fr_ovl 21 ⟨rfl, rfl, rfl, rfl, trivial⟩, hC, hO, h0⟩
 cases o9 with
 | nx _ => exact True.intro
 | rt r_ =>
  have hs := after_rt hs
  intro b1 a4 hK
  cases hs
  exact hK
 | br s5 =>
  have hs := after_br hs
  rintro b1 a0 ⟨σ, rfl, hC, hO, h0⟩
  refine c_sr ?_
  refine pl_val (.bool true) (y_assign rfl) ?_
  refine c_nil ?_
  refine wp_ret ?_
  cases hs
  exact ⟨_, fr_ovl 21 ⟨rfl, trivial⟩, hC⟩

theorem Bd112 : Bodied Try.prog 112 := bodied Try.func112 (by kernel_rfl) rfl

theorem Bd60 : Bodied Try.prog 60 := bodied Try.func60 (by kernel_rfl) rfl

def k_impl_isOp (M : Nat → Prop) (w0 : World) (r : Bool) (a : Act) (w : World) : Prop :=
  ∃ (σ : Nat → Value) , a = fr 29 (ovl σ [(4, (.bool r))]) ∧ Chg [] w0 w
def s_impl_isOp (f : Int × (List Int)) (n : Int) : Option (Bool) :=
  (bif (decide (0 ≤ f.1)) then (bif (decide (f.1 ≤ 3)) then (s_impl_power n f.1).bind fun r7 =>
  (bif ((f.2.length : Int) == r7) then (s_impl_inSize f.2 n).bind fun r10 =>
  some r10 else some false) else some false) else some false)
set_option maxHeartbeats 4000000 in
theorem c_impl_isOp {M : Nat → Prop} {w : World} {pa0 : Option Addr} {pn0 pc0 : Nat} (f : Int × (List Int)) (n : Int) (h0 : (RT.rs (RT.int .i64)).val M w (.slice pa0 pn0 pc0) f.2 ([])) (hM : ∀ g, w.heap.size ≤ g → M g) {r : Bool} (hs : s_impl_isOp f n = some r) :
    Gives Try.prog 109 [(.agg #[(.int .i64 f.1), (.slice pa0 pn0 pc0)]), (.int .i64 n)] w (fun v w' => v = (.bool r) ∧ Chg [] w w') := by
 refine calls_fr Try.func109 rfl Try.ntmps109 (Nat.le_of_ble_eq_true rfl) ?_
 have hO := Own.start (N := Nw w []) hM Nw.fut
 have hC := Chg.refl [] w
 unfold s_impl_isOp at hs
 refine wp_mono (Q := KPost (k_impl_isOp M w r)) ?_ (fun e a b5 h => ?_)
 rotate_left
 ·cases e
  case ret =>
   obtain ⟨σ, rfl, hrest⟩ := h
   exact ret1x Try.results109 (res_tmp rfl) ⟨rfl, hrest⟩
  all_goals exact (h : False).elim
 refine c_sr ?_
 obtain ⟨a8, a6, b1, b0, a9, a1⟩ := new_block w [(.int .i64 f.1), (.slice pa0 pn0 pc0)] 64
 refine pl_val (w' := a8) (.pointer (some ⟨a6, 0, none⟩)) (y_box rfl (by rw [b1, b0]; kernel_rfl)) ?_
 have h0 := h0.ext a9
 have hC := hC.ext a9
 have hO := hO.new1 a9 b0 a1.lt
 refine pl_val (.bool false) (y_assign rfl) ?_
 refine c_nil ?_
 refine c_seq ?_
 refine x_start [] Mx rfl ?_
 have a7 := Chg.drew a8
 generalize World.drew a8 = b2 at a7 ⊢
 have h0 := h0.ext a7
 have a1 := a1.cn a7
 have hC := hC.ext a7
 have hO := hO.ext a7
 have hS := Chg.refl [] b2
 refine x_p 0 (.pointer (some ⟨a6, 0, none⟩)) rfl (by kernel_rfl)  (fun _ => y_faddr rfl Fa64x0) (fun _ => hS) ?_
 refine x_l 1 (.int .i64 f.1) rfl (by kernel_rfl)  (fun w' hw' => y_load rfl ((box_load Ag3 Sz3 a1 [] [(.int .i64 f.1)] [(.slice pa0 pn0 pc0)] rfl rfl (fun _ => rfl)) w' hw')) hS ?_
 refine x_p 2 (.bool (decide (0 ≤ f.1))) rfl (by kernel_rfl)  (fun _ => y_geq rfl rfl) (fun _ => hS) ?_
 refine x_p 3 (.bool (decide (0 ≤ f.1))) rfl (by kernel_rfl)  (fun _ => y_move rfl) (fun _ => hS) ?_
 rcases bif_some hs with ⟨a3, hs⟩ | ⟨a3, hs⟩
 ·skip
  refine x_py 4 (.pointer (some ⟨a6, 0, none⟩)) rfl (by kernel_rfl) (tg := 8) (by kernel_rfl) (congrArg Value.bool a3) (fun _ => y_faddr rfl Fa64x0) (fun _ => hS) ?_
  refine x_ly 5 (.int .i64 f.1) rfl (by kernel_rfl) (tg := 8) (by kernel_rfl) (congrArg Value.bool a3) (fun w' hw' => y_load rfl ((box_load Ag3 Sz3 a1 [] [(.int .i64 f.1)] [(.slice pa0 pn0 pc0)] rfl rfl (fun _ => rfl)) w' hw')) hS ?_
  refine x_py 6 (.bool (decide (f.1 ≤ 3))) rfl (by kernel_rfl) (tg := 8) (by kernel_rfl) (congrArg Value.bool a3) (fun _ => y_leq rfl rfl) (fun _ => hS) ?_
  refine x_p 7 (.bool (decide (f.1 ≤ 3))) rfl (by kernel_rfl)  (fun _ => y_pick_t (congrArg Value.bool a3) rfl) (fun _ => hS) ?_
  refine x_p 8 (.bool (decide (f.1 ≤ 3))) rfl (by kernel_rfl)  (fun _ => y_move rfl) (fun _ => hS) ?_
  rcases bif_some hs with ⟨a0, hs⟩ | ⟨a0, hs⟩
  ·skip
   refine x_py 9 (.pointer (some ⟨a6, 1, none⟩)) rfl (by kernel_rfl) (tg := 13) (by kernel_rfl) (congrArg Value.bool a0) (fun _ => y_faddr rfl Fa64x1) (fun _ => hS) ?_
   refine x_ly 10 (.slice pa0 pn0 pc0) rfl (by kernel_rfl) (tg := 13) (by kernel_rfl) (congrArg Value.bool a0) (fun w' hw' => y_load rfl ((box_load Ag37 Sz37 a1 [(.int .i64 f.1)] [(.slice pa0 pn0 pc0)] [] rfl rfl (fun _ => rfl)) w' hw')) hS ?_
   refine x_py 11 (.int .i64 (f.2.length : Int)) rfl (by kernel_rfl) (tg := 13) (by kernel_rfl) (congrArg Value.bool a0) (fun _ => y_len' Sl37 (rs_len h0) rfl) (fun _ => hS) ?_
   refine x_py 12 (.int .i64 n) rfl (by kernel_rfl) (tg := 13) (by kernel_rfl) (congrArg Value.bool a0) (fun _ => y_move rfl) (fun _ => hS) ?_
   refine x_py 13 (.pointer (some ⟨a6, 0, none⟩)) rfl (by kernel_rfl) (tg := 13) (by kernel_rfl) (congrArg Value.bool a0) (fun _ => y_faddr rfl Fa64x0) (fun _ => hS) ?_
   refine x_ly 14 (.int .i64 f.1) rfl (by kernel_rfl) (tg := 13) (by kernel_rfl) (congrArg Value.bool a0) (fun w' hw' => y_load rfl ((box_load Ag3 Sz3 a1 [] [(.int .i64 f.1)] [(.slice pa0 pn0 pc0)] rfl rfl (fun _ => rfl)) w' hw')) hS ?_
   refine x_one (i := 15) (by kernel_rfl) ?_
   obtain ⟨r7, b3, hs⟩ := bind_some hs
   refine xk_cally (b := false) rfl (tg := 13) (by kernel_rfl) (congrArg Value.bool a0) Bd112 rfl (c_impl_power (M := M) n f.1  hO.fut b3) rfl (by rintro _ _ _ ⟨rfl, a4⟩; exact hS.ext a4) ?_
   rintro _ b6 ⟨rfl, a4⟩
   have h0 := h0.ext a4
   have a1 := a1.cn a4
   have hC := hC.ext a4
   have hO := hO.ext a4
   have hS := hS.ext a4
   refine x_py 16 (.bool ((f.2.length : Int) == r7)) rfl (by kernel_rfl) (tg := 13) (by kernel_rfl) (congrArg Value.bool a0) (fun _ => y_eql rfl rfl) (fun _ => hS) ?_
   refine x_p 17 (.bool ((f.2.length : Int) == r7)) rfl (by kernel_rfl)  (fun _ => y_pick_t (congrArg Value.bool a0) rfl) (fun _ => hS) ?_
   refine x_p 18 (.bool ((f.2.length : Int) == r7)) rfl (by kernel_rfl)  (fun _ => y_move rfl) (fun _ => hS) ?_
   rcases bif_some hs with ⟨a2, hs⟩ | ⟨a2, hs⟩
   ·skip
    refine x_py 19 (.pointer (some ⟨a6, 1, none⟩)) rfl (by kernel_rfl) (tg := 23) (by kernel_rfl) (congrArg Value.bool a2) (fun _ => y_faddr rfl Fa64x1) (fun _ => hS) ?_
    refine x_py 21 (.int .i64 n) rfl (by kernel_rfl) (tg := 23) (by kernel_rfl) (congrArg Value.bool a2) (fun _ => y_move rfl) (fun _ => hS) ?_
    refine x_one (i := 20) (by kernel_rfl) ?_
    refine xk_valy (b := false) (.slice pa0 pn0 pc0) rfl (tg := 23) (by kernel_rfl) (congrArg Value.bool a2) (y_load rfl ((box_load Ag37 Sz37 a1 [(.int .i64 f.1)] [(.slice pa0 pn0 pc0)] [] rfl rfl (fun _ => rfl)) _ (Chg.refl _ _))) rfl (fun _ => hS) ?_
    refine x_one (i := 22) (by kernel_rfl) ?_
    obtain ⟨r10, b4, hs⟩ := bind_some hs
    refine xk_cally (b := false) rfl (tg := 23) (by kernel_rfl) (congrArg Value.bool a2) Bd60 rfl (c_impl_inSize (M := M) f.2 n h0 hO.fut b4) rfl (by rintro _ _ _ ⟨rfl, a5⟩; exact hS.ext a5) ?_
    rintro _ b7 ⟨rfl, a5⟩
    have h0 := h0.ext a5
    have a1 := a1.cn a5
    have hC := hC.ext a5
    have hO := hO.ext a5
    have hS := hS.ext a5
    refine x_p 23 (.bool r10) rfl (by kernel_rfl)  (fun _ => y_pick_t (congrArg Value.bool a2) rfl) (fun _ => hS) ?_
    refine x_p 24 (.bool r10) rfl (by kernel_rfl)  (fun _ => y_assign rfl) (fun _ => hS) ?_
    refine x_end (by kernel_rfl) ?_
    clear hS
    refine wp_ret ?_
    cases hs
    exact ⟨_, fr_ovl 29 ⟨rfl, trivial⟩, hC⟩
   refine x_pn 19 rfl (by kernel_rfl) (tg := 23) (by kernel_rfl) (congrArg Value.bool a2) (fun _ => hS) ?_
   refine x_pn 20 rfl (by kernel_rfl) (tg := 23) (by kernel_rfl) (congrArg Value.bool a2) (fun _ => hS) ?_
   refine x_pn 21 rfl (by kernel_rfl) (tg := 23) (by kernel_rfl) (congrArg Value.bool a2) (fun _ => hS) ?_
   refine x_pn 22 rfl (by kernel_rfl) (tg := 23) (by kernel_rfl) (congrArg Value.bool a2) (fun _ => hS) ?_
   refine x_p 23 (.bool false) rfl (by kernel_rfl)  (fun _ => y_pick_f (congrArg Value.bool a2) rfl) (fun _ => hS) ?_
   refine x_p 24 (.bool false) rfl (by kernel_rfl)  (fun _ => y_assign rfl) (fun _ => hS) ?_
   refine x_end (by kernel_rfl) ?_
   clear hS
   refine wp_ret ?_
   cases hs
   exact ⟨_, fr_ovl 29 ⟨rfl, trivial⟩, hC⟩
  refine x_pn 9 rfl (by kernel_rfl) (tg := 13) (by kernel_rfl) (congrArg Value.bool a0) (fun _ => hS) ?_
  refine x_pn 10 rfl (by kernel_rfl) (tg := 13) (by kernel_rfl) (congrArg Value.bool a0) (fun _ => hS) ?_
  refine x_pn 11 rfl (by kernel_rfl) (tg := 13) (by kernel_rfl) (congrArg Value.bool a0) (fun _ => hS) ?_
  refine x_pn 12 rfl (by kernel_rfl) (tg := 13) (by kernel_rfl) (congrArg Value.bool a0) (fun _ => hS) ?_
  refine x_pn 13 rfl (by kernel_rfl) (tg := 13) (by kernel_rfl) (congrArg Value.bool a0) (fun _ => hS) ?_
  refine x_pn 14 rfl (by kernel_rfl) (tg := 13) (by kernel_rfl) (congrArg Value.bool a0) (fun _ => hS) ?_
  refine x_pn 15 rfl (by kernel_rfl) (tg := 13) (by kernel_rfl) (congrArg Value.bool a0) (fun _ => hS) ?_
  refine x_pn 16 rfl (by kernel_rfl) (tg := 13) (by kernel_rfl) (congrArg Value.bool a0) (fun _ => hS) ?_
  refine x_p 17 (.bool false) rfl (by kernel_rfl)  (fun _ => y_pick_f (congrArg Value.bool a0) rfl) (fun _ => hS) ?_
  refine x_p 18 (.bool false) rfl (by kernel_rfl)  (fun _ => y_move rfl) (fun _ => hS) ?_
  refine x_pn 19 rfl (by kernel_rfl) (tg := 23) (by kernel_rfl) (by rfl) (fun _ => hS) ?_
  refine x_pn 20 rfl (by kernel_rfl) (tg := 23) (by kernel_rfl) (by rfl) (fun _ => hS) ?_
  refine x_pn 21 rfl (by kernel_rfl) (tg := 23) (by kernel_rfl) (by rfl) (fun _ => hS) ?_
  refine x_pn 22 rfl (by kernel_rfl) (tg := 23) (by kernel_rfl) (by rfl) (fun _ => hS) ?_
  refine x_p 23 (.bool false) rfl (by kernel_rfl)  (fun _ => y_pick_f (by rfl) rfl) (fun _ => hS) ?_
  refine x_p 24 (.bool false) rfl (by kernel_rfl)  (fun _ => y_assign rfl) (fun _ => hS) ?_
  refine x_end (by kernel_rfl) ?_
  clear hS
  refine wp_ret ?_
  cases hs
  exact ⟨_, fr_ovl 29 ⟨rfl, trivial⟩, hC⟩
 refine x_pn 4 rfl (by kernel_rfl) (tg := 8) (by kernel_rfl) (congrArg Value.bool a3) (fun _ => hS) ?_
 refine x_pn 5 rfl (by kernel_rfl) (tg := 8) (by kernel_rfl) (congrArg Value.bool a3) (fun _ => hS) ?_
 refine x_pn 6 rfl (by kernel_rfl) (tg := 8) (by kernel_rfl) (congrArg Value.bool a3) (fun _ => hS) ?_
 refine x_p 7 (.bool false) rfl (by kernel_rfl)  (fun _ => y_pick_f (congrArg Value.bool a3) rfl) (fun _ => hS) ?_
 refine x_p 8 (.bool false) rfl (by kernel_rfl)  (fun _ => y_move rfl) (fun _ => hS) ?_
 refine x_pn 9 rfl (by kernel_rfl) (tg := 13) (by kernel_rfl) (by rfl) (fun _ => hS) ?_
 refine x_pn 10 rfl (by kernel_rfl) (tg := 13) (by kernel_rfl) (by rfl) (fun _ => hS) ?_
 refine x_pn 11 rfl (by kernel_rfl) (tg := 13) (by kernel_rfl) (by rfl) (fun _ => hS) ?_
 refine x_pn 12 rfl (by kernel_rfl) (tg := 13) (by kernel_rfl) (by rfl) (fun _ => hS) ?_
 refine x_pn 13 rfl (by kernel_rfl) (tg := 13) (by kernel_rfl) (by rfl) (fun _ => hS) ?_
 refine x_pn 14 rfl (by kernel_rfl) (tg := 13) (by kernel_rfl) (by rfl) (fun _ => hS) ?_
 refine x_pn 15 rfl (by kernel_rfl) (tg := 13) (by kernel_rfl) (by rfl) (fun _ => hS) ?_
 refine x_pn 16 rfl (by kernel_rfl) (tg := 13) (by kernel_rfl) (by rfl) (fun _ => hS) ?_
 refine x_p 17 (.bool false) rfl (by kernel_rfl)  (fun _ => y_pick_f (by rfl) rfl) (fun _ => hS) ?_
 refine x_p 18 (.bool false) rfl (by kernel_rfl)  (fun _ => y_move rfl) (fun _ => hS) ?_
 refine x_pn 19 rfl (by kernel_rfl) (tg := 23) (by kernel_rfl) (by rfl) (fun _ => hS) ?_
 refine x_pn 20 rfl (by kernel_rfl) (tg := 23) (by kernel_rfl) (by rfl) (fun _ => hS) ?_
 refine x_pn 21 rfl (by kernel_rfl) (tg := 23) (by kernel_rfl) (by rfl) (fun _ => hS) ?_
 refine x_pn 22 rfl (by kernel_rfl) (tg := 23) (by kernel_rfl) (by rfl) (fun _ => hS) ?_
 refine x_p 23 (.bool false) rfl (by kernel_rfl)  (fun _ => y_pick_f (by rfl) rfl) (fun _ => hS) ?_
 refine x_p 24 (.bool false) rfl (by kernel_rfl)  (fun _ => y_assign rfl) (fun _ => hS) ?_
 refine x_end (by kernel_rfl) ?_
 clear hS
 refine wp_ret ?_
 cases hs
 exact ⟨_, fr_ovl 29 ⟨rfl, trivial⟩, hC⟩

theorem Bd109 : Bodied Try.prog 109 := bodied Try.func109 (by kernel_rfl) rfl

def k_impl_IsAlgebra (M : Nat → Prop) (w0 : World) (r : Bool) (a : Act) (w : World) : Prop :=
  ∃ (σ : Nat → Value) , a = fr 32 (ovl σ [(2, (.bool r))]) ∧ Chg [] w0 w
def s_impl_IsAlgebra (a_ : Int × (List (Int × (List Int)))) : Option (Bool) :=
  (bif (((decide (a_.1 < 1)) || (decide (8 < a_.1))) || (decide (4 < (a_.2.length : Int)))) then some false else (forR (S := Unit) (R := Bool) (fun _ x21 s18 =>
  (s_impl_isOp (x21.1, x21.2) a_.1).bind fun r30 =>
  (bif (!r30) then some (.rt false) else some (.nx ()))) 0 a_.2 ()).bind fun o22 => after o22 (fun r_ => some r_) (fun s18 =>
  some true))
set_option maxHeartbeats 4000000 in
theorem c_impl_IsAlgebra {M : Nat → Prop} {w : World} {pa0 : Option Addr} {pn0 pc0 : Nat} (a_ : Int × (List (Int × (List Int)))) (h0 : (RT.rs (RT.pr (RT.int .i64) (RT.rs (RT.int .i64)))).val M w (.slice pa0 pn0 pc0) a_.2 ([])) (hM : ∀ g, w.heap.size ≤ g → M g) {r : Bool} (hs : s_impl_IsAlgebra a_ = some r) :
    Gives Try.prog 81 [(.agg #[(.int .i64 a_.1), (.slice pa0 pn0 pc0)])] w (fun v w' => v = (.bool r) ∧ Chg [] w w') := by
 refine calls_fr Try.func81 rfl Try.ntmps81 (Nat.le_of_ble_eq_true rfl) ?_
 have hO := Own.start (N := Nw w []) hM Nw.fut
 have hC := Chg.refl [] w
 unfold s_impl_IsAlgebra at hs
 refine wp_mono (Q := KPost (k_impl_IsAlgebra M w r)) ?_ (fun e a c8 h => ?_)
 rotate_left
 ·cases e
  case ret =>
   obtain ⟨σ, rfl, hrest⟩ := h
   exact ret1x Try.results81 (res_tmp rfl) ⟨rfl, hrest⟩
  all_goals exact (h : False).elim
 refine c_sr ?_
 obtain ⟨b6, a1, c9, c1, b7, a0⟩ := new_block w [(.int .i64 a_.1), (.slice pa0 pn0 pc0)] 30
 refine pl_val (w' := b6) (.pointer (some ⟨a1, 0, none⟩)) (y_box rfl (by rw [c9, c1]; kernel_rfl)) ?_
 have h0 := h0.ext b7
 have hC := hC.ext b7
 have hO := hO.new1 b7 c1 a0.lt
 refine pl_val (.bool false) (y_assign rfl) ?_
 refine c_nil ?_
 refine c_seq ?_
 refine c_seq ?_
 refine c_mid (I := fun a c2 => ∃ (σ : Nat → Value), a = fr 32 (ovl σ [(1, (.pointer (some ⟨a1, 0, none⟩))), (2, (.bool false)), (18, (.bool (((decide (a_.1 < 1)) || (decide (8 < a_.1))) || (decide (4 < (a_.2.length : Int))))))]) ∧ Chg [] b6 c2) ?_ ?_
 ·have hMid := Chg.refl [] b6
  refine c_region ?_
  refine pl_val (.pointer (some ⟨a1, 0, none⟩)) (y_faddr rfl Fa30x0) ?_
  refine pl_val (.int .i64 a_.1) (y_load rfl ((box_load Ag3 Sz3 a0 [] [(.int .i64 a_.1)] [(.slice pa0 pn0 pc0)] rfl rfl (fun _ => rfl)) _ (Chg.refl _ _))) ?_
  refine pl_val (.bool (decide (a_.1 < 1))) (y_lss rfl rfl) ?_
  refine pl_val (.bool (decide (a_.1 < 1))) (y_move rfl) ?_
  rcases Bool.eq_false_or_eq_true ((decide (a_.1 < 1))) with a5 | a5
  ·skip
   refine pl_not (tg := 8) (by kernel_rfl) (congrArg Value.bool a5) ?_
   refine pl_not (tg := 8) (by kernel_rfl) (congrArg Value.bool a5) ?_
   refine pl_not (tg := 8) (by kernel_rfl) (congrArg Value.bool a5) ?_
   refine pl_val (.bool ((decide (a_.1 < 1)) || (decide (8 < a_.1)))) (y_pick_t (congrArg Value.bool a5) (congrArg Value.bool (by rw [a5]; rfl))) ?_
   refine pl_val (.bool ((decide (a_.1 < 1)) || (decide (8 < a_.1)))) (y_move rfl) ?_
   rcases Bool.eq_false_or_eq_true (((decide (a_.1 < 1)) || (decide (8 < a_.1)))) with a2 | a2
   ·skip
    refine pl_not (tg := 13) (by kernel_rfl) (congrArg Value.bool a2) ?_
    refine pl_not (tg := 13) (by kernel_rfl) (congrArg Value.bool a2) ?_
    refine pl_not (tg := 13) (by kernel_rfl) (congrArg Value.bool a2) ?_
    refine pl_not (tg := 13) (by kernel_rfl) (congrArg Value.bool a2) ?_
    refine pl_val (.bool (((decide (a_.1 < 1)) || (decide (8 < a_.1))) || (decide (4 < (a_.2.length : Int))))) (y_pick_t (congrArg Value.bool a2) (congrArg Value.bool (by rw [a2]; rfl))) ?_
    refine c_nil ?_
    exact ⟨_, fr_ovl 32 ⟨rfl, rfl, rfl, trivial⟩, hMid⟩
   refine pl_yes (.pointer (some ⟨a1, 1, none⟩)) (tg := 13) (by kernel_rfl) (congrArg Value.bool a2) (y_faddr rfl Fa30x1) ?_
   refine pl_yes (.slice pa0 pn0 pc0) (tg := 13) (by kernel_rfl) (congrArg Value.bool a2) (y_load rfl ((box_load Ag26 Sz26 a0 [(.int .i64 a_.1)] [(.slice pa0 pn0 pc0)] [] rfl rfl (fun _ => rfl)) _ (Chg.refl _ _))) ?_
   refine pl_yes (.int .i64 (a_.2.length : Int)) (tg := 13) (by kernel_rfl) (congrArg Value.bool a2) (y_len' Sl26 (rs_len h0) rfl) ?_
   refine pl_yes (.bool (decide (4 < (a_.2.length : Int)))) (tg := 13) (by kernel_rfl) (congrArg Value.bool a2) (y_gtr rfl rfl) ?_
   refine pl_val (.bool (((decide (a_.1 < 1)) || (decide (8 < a_.1))) || (decide (4 < (a_.2.length : Int))))) (y_pick_f (congrArg Value.bool a2) (congrArg Value.bool (by rw [a2]; rfl))) ?_
   refine c_nil ?_
   exact ⟨_, fr_ovl 32 ⟨rfl, rfl, rfl, trivial⟩, hMid⟩
  refine pl_yes (.pointer (some ⟨a1, 0, none⟩)) (tg := 8) (by kernel_rfl) (congrArg Value.bool a5) (y_faddr rfl Fa30x0) ?_
  refine pl_yes (.int .i64 a_.1) (tg := 8) (by kernel_rfl) (congrArg Value.bool a5) (y_load rfl ((box_load Ag3 Sz3 a0 [] [(.int .i64 a_.1)] [(.slice pa0 pn0 pc0)] rfl rfl (fun _ => rfl)) _ (Chg.refl _ _))) ?_
  refine pl_yes (.bool (decide (8 < a_.1))) (tg := 8) (by kernel_rfl) (congrArg Value.bool a5) (y_gtr rfl rfl) ?_
  refine pl_val (.bool ((decide (a_.1 < 1)) || (decide (8 < a_.1)))) (y_pick_f (congrArg Value.bool a5) (congrArg Value.bool (by rw [a5]; rfl))) ?_
  refine pl_val (.bool ((decide (a_.1 < 1)) || (decide (8 < a_.1)))) (y_move rfl) ?_
  rcases Bool.eq_false_or_eq_true (((decide (a_.1 < 1)) || (decide (8 < a_.1)))) with a3 | a3
  ·skip
   refine pl_not (tg := 13) (by kernel_rfl) (congrArg Value.bool a3) ?_
   refine pl_not (tg := 13) (by kernel_rfl) (congrArg Value.bool a3) ?_
   refine pl_not (tg := 13) (by kernel_rfl) (congrArg Value.bool a3) ?_
   refine pl_not (tg := 13) (by kernel_rfl) (congrArg Value.bool a3) ?_
   refine pl_val (.bool (((decide (a_.1 < 1)) || (decide (8 < a_.1))) || (decide (4 < (a_.2.length : Int))))) (y_pick_t (congrArg Value.bool a3) (congrArg Value.bool (by rw [a3]; rfl))) ?_
   refine c_nil ?_
   exact ⟨_, fr_ovl 32 ⟨rfl, rfl, rfl, trivial⟩, hMid⟩
  refine pl_yes (.pointer (some ⟨a1, 1, none⟩)) (tg := 13) (by kernel_rfl) (congrArg Value.bool a3) (y_faddr rfl Fa30x1) ?_
  refine pl_yes (.slice pa0 pn0 pc0) (tg := 13) (by kernel_rfl) (congrArg Value.bool a3) (y_load rfl ((box_load Ag26 Sz26 a0 [(.int .i64 a_.1)] [(.slice pa0 pn0 pc0)] [] rfl rfl (fun _ => rfl)) _ (Chg.refl _ _))) ?_
  refine pl_yes (.int .i64 (a_.2.length : Int)) (tg := 13) (by kernel_rfl) (congrArg Value.bool a3) (y_len' Sl26 (rs_len h0) rfl) ?_
  refine pl_yes (.bool (decide (4 < (a_.2.length : Int)))) (tg := 13) (by kernel_rfl) (congrArg Value.bool a3) (y_gtr rfl rfl) ?_
  refine pl_val (.bool (((decide (a_.1 < 1)) || (decide (8 < a_.1))) || (decide (4 < (a_.2.length : Int))))) (y_pick_f (congrArg Value.bool a3) (congrArg Value.bool (by rw [a3]; rfl))) ?_
  refine c_nil ?_
  exact ⟨_, fr_ovl 32 ⟨rfl, rfl, rfl, trivial⟩, hMid⟩
 rintro c3 c2 ⟨σ, rfl, b5⟩
 have h0 := h0.ext b5
 have a0 := a0.cn b5
 have hC := hC.ext b5
 have hO := hO.ext b5
 rcases bif_some hs with ⟨b8, hs⟩ | ⟨b8, hs⟩
 ·refine c_condT (congrArg Value.bool b8) ?_
  refine c_sr ?_
  refine pl_val (.bool false) (y_assign rfl) ?_
  refine c_nil ?_
  refine wp_ret ?_
  cases hs
  exact ⟨_, fr_ovl 32 ⟨rfl, trivial⟩, hC⟩
 refine c_condF (congrArg Value.bool b8) ?_
 refine wp_skip ?_
 refine c_seq ?_
 refine c_sr ?_
 refine pl_val (.pointer (some ⟨a1, 1, none⟩)) (y_faddr rfl Fa30x1) ?_
 refine pl_val (.slice pa0 pn0 pc0) (y_load rfl ((box_load Ag26 Sz26 a0 [(.int .i64 a_.1)] [(.slice pa0 pn0 pc0)] [] rfl rfl (fun _ => rfl)) _ (Chg.refl _ _))) ?_
 refine pl_val (.int .i64 (a_.2.length : Int)) (y_len' Sl26 (rs_len h0) rfl) ?_
 refine pl_val (.int .i64 0) (y_move rfl) ?_
 refine c_nil ?_
 obtain ⟨o22, d0, hs⟩ := bind_some hs
 refine wp_block ?_
 refine wp_forR (id := 0) (I := fun i_ xs_ s18 a a4 => ∃ a6 : Nat, i_ = (a6 : Int) ∧ List.drop a6 a_.2 = xs_ ∧ (∃ (σ : Nat → Value), a = fr 32 (ovl σ [(1, (.pointer (some ⟨a1, 0, none⟩))), (20, (.slice pa0 pn0 pc0)), (21, (.int .i64 (a_.2.length : Int))), (22, (.int .i64 (a6 : Int)))]) ∧ Chg [] w a4 ∧ Own (Nw w []) M a4 (([a1]) ++ []) ∧ (RT.rs (RT.pr (RT.int .i64) (RT.rs (RT.int .i64)))).val M a4 (.slice pa0 pn0 pc0) a_.2 ([]) ∧ BoxV a4 a1 30 [(.int .i64 a_.1), (.slice pa0 pn0 pc0)])) (J := fun s18 a a4 => ∃ (σ : Nat → Value), a = fr 32 (ovl σ []) ∧ Chg [] w a4 ∧ Own (Nw w []) M a4 (([a1]) ++ []) ∧ (RT.rs (RT.pr (RT.int .i64) (RT.rs (RT.int .i64)))).val M a4 (.slice pa0 pn0 pc0) a_.2 ([]) ∧ BoxV a4 a1 30 [(.int .i64 a_.1), (.slice pa0 pn0 pc0)]) (K := (k_impl_IsAlgebra M w)) ?_ ?_ a_.2 0 () o22 _ _ ?_ d0 ?_
 ·rintro _ s18 a a4 ⟨a6, rfl, hd, σ, rfl, hC, hO, h0, a0⟩
  have hlt := drop_nil_ge hd
  refine c_sr ?_
  refine pl_val (.bool (decide ((a6 : Int) < (a_.2.length : Int)))) (y_lss rfl rfl) ?_
  refine c_nil ?_
  refine c_seq ?_
  refine c_condF (congrArg Value.bool (decide_eq_false hlt)) ?_
  refine wp_exit ?_
  exact ⟨rfl, _, fr_ovl 32 trivial, hC, hO, h0, a0⟩
 ·rintro _ x21 xs_ s18 o22 a a4 ⟨a6, rfl, hd, σ, rfl, hC, hO, h0, a0⟩ hs
  have hlt := drop_cons_lt hd
  have d1 := drop_cons_idx hd
  refine c_sr ?_
  refine pl_val (.bool (decide ((a6 : Int) < (a_.2.length : Int)))) (y_lss rfl rfl) ?_
  refine c_nil ?_
  refine c_seq ?_
  refine c_condT (congrArg Value.bool (decide_eq_true hlt)) ?_
  refine wp_skip ?_
  refine c_seq ?_
  refine wp_block ?_
  refine c_sr ?_
  obtain ⟨d2, d3, d4, b9⟩ := rs_idx Sl26 Sz64 h0 d1
  refine pl_val (.pointer (some ⟨d2, d3, none⟩)) (d4 _ _ _ _ _ _ _ _ _ rfl rfl) ?_
  obtain ⟨e4, d5, d6⟩ := at_load Ag64 Sz64 (by intro h; cases h) b9
  obtain ⟨e5, rfl, d7⟩ := d6
  obtain ⟨e6, e7, rfl, d8, d9⟩ := pr_open d7
  obtain rfl := int_rel d8
  obtain ⟨b0, b1, b2, rfl, a7⟩ := rs_rel d9
  refine pl_val (.agg #[(.int .i64 x21.1), (.slice b0 b1 b2)]) (y_load rfl (d5 _ (Chg.refl _ _))) ?_
  obtain ⟨e0, c4, e1, c5, a8, c6⟩ := new_block a4 [(.int .i64 0), (.slice none 0 0)] 64
  refine pl_val (w' := e0) (.pointer (some ⟨c4, 0, none⟩)) (y_alloc (by rw [e1, c5]; kernel_rfl)) ?_
  have h0 := h0.ext a8
  have a0 := a0.cn a8
  have a7 := a7.ext a8
  have b9 := at_ext b9 a8
  have hC := hC.ext a8
  have hO := hO.new1 a8 c5 c6.lt
  obtain ⟨c7, e2, b3, b4⟩ := box_store (P := Try.prog) c6 [] [(.int .i64 0), (.slice none 0 0)] [] [(.int .i64 x21.1), (.slice b0 b1 b2)] rfl rfl (by intro u hu; simp only [List.mem_cons, List.not_mem_nil, or_false] at hu; rcases hu with rfl | rfl <;> rfl)
  refine pl_skip (w' := c7) (ys_store rfl rfl (e2 _ _ rfl Sz64)) ?_
  have h0 := h0.mt b3 hO same_
  have a0 := a0.ap b3 hO same_ (mem_l (List.mem_singleton.2 rfl))
  have a7 := a7.mt b3 hO same_
  have hC := hC.st b3 hO same_
  have hO := hO.ext b3
  have b4 : BoxV c7 c4 64 [(.int .i64 x21.1), (.slice b0 b1 b2)] := b4
  refine c_nil ?_
  refine c_sr ?_
  refine pl_val (.agg #[(.int .i64 x21.1), (.slice b0 b1 b2)]) (y_load rfl ((box_load Ag64 Sz64 b4 [] [(.int .i64 x21.1), (.slice b0 b1 b2)] [] rfl rfl (fun h => nomatch h)) _ (Chg.refl _ _))) ?_
  refine pl_val (.pointer (some ⟨a1, 0, none⟩)) (y_faddr rfl Fa30x0) ?_
  refine pl_val (.int .i64 a_.1) (y_load rfl ((box_load Ag3 Sz3 a0 [] [(.int .i64 a_.1)] [(.slice pa0 pn0 pc0)] rfl rfl (fun _ => rfl)) _ (Chg.refl _ _))) ?_
  obtain ⟨r30, e3, hs⟩ := bind_some hs
  refine pl_call Bd109 rfl (c_impl_isOp (M := M) (x21.1, x21.2) a_.1 a7 hO.fut e3) ?_
  rintro _ e8 ⟨rfl, a9⟩
  have h0 := h0.ext a9
  have a0 := a0.cn a9
  have a7 := a7.ext a9
  have b4 := b4.cn a9
  have hC := hC.ext a9
  have hO := hO.ext a9
  refine pl_val (.bool (!r30)) (y_not rfl) ?_
  refine c_nil ?_
  rcases bif_some hs with ⟨c0, hs⟩ | ⟨c0, hs⟩
  ·refine c_condT (congrArg Value.bool c0) ?_
   refine c_sr ?_
   refine pl_val (.bool false) (y_assign rfl) ?_
   refine c_nil ?_
   refine wp_ret ?_
   cases hs
   exact ⟨_, fr_ovl 32 ⟨rfl, trivial⟩, hC⟩
  refine c_condF (congrArg Value.bool c0) ?_
  refine wp_skip ?_
  refine c_region ?_
  refine pl_val (.int .i64 (w64 ((a6 : Int) + 1))) (y_add rfl rfl) ?_
  refine pl_val (.int .i64 (w64 ((a6 : Int) + 1))) (y_move rfl) ?_
  refine c_nil ?_
  cases hs
  have hO := hO.drop
  exact ⟨_, rfl, drop_cons_next hd, _, fr_ovl 32 ⟨rfl, rfl, rfl, congrArg (Value.int .i64) (w64_succ hlt (Int.natCast_nonneg _) (rs_max h0)), trivial⟩, hC, hO, h0, a0⟩
 ·skip
  exact ⟨0, rfl, rfl, _, fr_ovl 32 ⟨rfl, rfl, rfl, rfl, trivial⟩, hC, hO, h0, a0⟩
 cases o22 with
 | nx _ => exact True.intro
 | rt r_ =>
  have hs := after_rt hs
  intro c3 c8 hK
  cases hs
  exact hK
 | br s18 =>
  have hs := after_br hs
  rintro c3 a4 ⟨σ, rfl, hC, hO, h0, a0⟩
  refine c_sr ?_
  refine pl_val (.bool true) (y_assign rfl) ?_
  refine c_nil ?_
  refine wp_ret ?_
  cases hs
  exact ⟨_, fr_ovl 32 ⟨rfl, trivial⟩, hC⟩

def k_impl_isCloneRange (M : Nat → Prop) (w0 : World) (r : Bool) (a : Act) (w : World) : Prop :=
  ∃ (σ : Nat → Value) , a = fr 17 (ovl σ [(4, (.bool r))]) ∧ Chg [] w0 w
def s_impl_isCloneRange (n : Int) (k : Int) : Option (Bool) :=
  (bif (decide (1 ≤ k)) then (bif (decide (k ≤ 3)) then (s_impl_power n k).bind fun r4 =>
  some (decide (r4 ≤ 27)) else some false) else some false)
set_option maxHeartbeats 4000000 in
theorem c_impl_isCloneRange {M : Nat → Prop} {w : World}  (n : Int) (k : Int)  (hM : ∀ g, w.heap.size ≤ g → M g) {r : Bool} (hs : s_impl_isCloneRange n k = some r) :
    Gives Try.prog 110 [(.int .i64 n), (.int .i64 k)] w (fun v w' => v = (.bool r) ∧ Chg [] w w') := by
 refine calls_fr Try.func110 rfl Try.ntmps110 (Nat.le_of_ble_eq_true rfl) ?_
 have hO := Own.start (N := Nw w []) hM Nw.fut
 have hC := Chg.refl [] w
 unfold s_impl_isCloneRange at hs
 refine wp_mono (Q := KPost (k_impl_isCloneRange M w r)) ?_ (fun e a a4 h => ?_)
 rotate_left
 ·cases e
  case ret =>
   obtain ⟨σ, rfl, hrest⟩ := h
   exact ret1x Try.results110 (res_tmp rfl) ⟨rfl, hrest⟩
  all_goals exact (h : False).elim
 refine c_sr ?_
 refine pl_val (.bool false) (y_assign rfl) ?_
 refine c_nil ?_
 refine c_sr ?_
 refine pl_val (.int .i64 k) (y_move rfl) ?_
 refine pl_val (.bool (decide (1 ≤ k))) (y_geq rfl rfl) ?_
 refine pl_val (.bool (decide (1 ≤ k))) (y_move rfl) ?_
 rcases bif_some hs with ⟨a1, hs⟩ | ⟨a1, hs⟩
 ·skip
  refine pl_yes (.int .i64 k) (tg := 7) (by kernel_rfl) (congrArg Value.bool a1) (y_move rfl) ?_
  refine pl_yes (.bool (decide (k ≤ 3))) (tg := 7) (by kernel_rfl) (congrArg Value.bool a1) (y_leq rfl rfl) ?_
  refine pl_val (.bool (decide (k ≤ 3))) (y_pick_t (congrArg Value.bool a1) rfl) ?_
  refine pl_val (.bool (decide (k ≤ 3))) (y_move rfl) ?_
  rcases bif_some hs with ⟨a0, hs⟩ | ⟨a0, hs⟩
  ·skip
   refine pl_yes (.int .i64 n) (tg := 11) (by kernel_rfl) (congrArg Value.bool a0) (y_move rfl) ?_
   refine pl_yes (.int .i64 k) (tg := 11) (by kernel_rfl) (congrArg Value.bool a0) (y_move rfl) ?_
   obtain ⟨r4, a3, hs⟩ := bind_some hs
   refine pl_cally (tg := 11) (by kernel_rfl) (congrArg Value.bool a0) Bd112 rfl (c_impl_power (M := M) n k  hO.fut a3) ?_
   rintro _ a5 ⟨rfl, a2⟩
   have hC := hC.ext a2
   have hO := hO.ext a2
   refine pl_yes (.bool (decide (r4 ≤ 27))) (tg := 11) (by kernel_rfl) (congrArg Value.bool a0) (y_leq rfl rfl) ?_
   refine pl_val (.bool (decide (r4 ≤ 27))) (y_pick_t (congrArg Value.bool a0) rfl) ?_
   refine pl_val (.bool (decide (r4 ≤ 27))) (y_assign rfl) ?_
   refine c_nil ?_
   refine wp_ret ?_
   cases hs
   exact ⟨_, fr_ovl 17 ⟨rfl, trivial⟩, hC⟩
  refine pl_not (tg := 11) (by kernel_rfl) (congrArg Value.bool a0) ?_
  refine pl_not (tg := 11) (by kernel_rfl) (congrArg Value.bool a0) ?_
  refine pl_not (tg := 11) (by kernel_rfl) (congrArg Value.bool a0) ?_
  refine pl_not (tg := 11) (by kernel_rfl) (congrArg Value.bool a0) ?_
  refine pl_val (.bool false) (y_pick_f (congrArg Value.bool a0) rfl) ?_
  refine pl_val (.bool false) (y_assign rfl) ?_
  refine c_nil ?_
  refine wp_ret ?_
  cases hs
  exact ⟨_, fr_ovl 17 ⟨rfl, trivial⟩, hC⟩
 refine pl_not (tg := 7) (by kernel_rfl) (congrArg Value.bool a1) ?_
 refine pl_not (tg := 7) (by kernel_rfl) (congrArg Value.bool a1) ?_
 refine pl_val (.bool false) (y_pick_f (congrArg Value.bool a1) rfl) ?_
 refine pl_val (.bool false) (y_move rfl) ?_
 refine pl_not (tg := 11) (by kernel_rfl) (by rfl) ?_
 refine pl_not (tg := 11) (by kernel_rfl) (by rfl) ?_
 refine pl_not (tg := 11) (by kernel_rfl) (by rfl) ?_
 refine pl_not (tg := 11) (by kernel_rfl) (by rfl) ?_
 refine pl_val (.bool false) (y_pick_f (by rfl) rfl) ?_
 refine pl_val (.bool false) (y_assign rfl) ?_
 refine c_nil ?_
 refine wp_ret ?_
 cases hs
 exact ⟨_, fr_ovl 17 ⟨rfl, trivial⟩, hC⟩

def k_impl_argsAt (M : Nat → Prop) (w0 : World) (r : (List Int)) (a : Act) (w : World) : Prop :=
  ∃ (σ : Nat → Value) (ra0 : Option Addr) (rn0 rc0 : Nat) (rf0 : List Nat), a = fr 27 (ovl σ [(6, (.slice ra0 rn0 rc0))]) ∧ Chg [] w0 w ∧ (RT.os 3 (RT.int .i64)).val M w (.slice ra0 rn0 rc0) r rf0 ∧ Own (Nw w0 []) (fun _ => True) w (rf0 ++ ([]))
def s_impl_argsAt (i : Int) (k : Int) (n : Int) : Option ((List Int)) :=
  (mks k (0 : Int)).bind fun y2 =>
  (iter (S := Int × Int × (List Int)) (R := (List Int)) (fun s17 =>
  (bif (decide (0 ≤ s17.2.1)) then (nz n).bind fun u26 =>
  (idx s17.2.2 s17.2.1).bind fun x27 =>
  (nz n).bind fun u30 =>
  some (.nx (w64 (Int.tdiv s17.1 n), w64 (s17.2.1 - 1), List.set s17.2.2 (Int.toNat s17.2.1) (Int.tmod s17.1 n))) else some (.br (s17.1, s17.2.1, s17.2.2)))) FU (i, w64 (k - 1), y2)).bind fun o21 => after o21 (fun r_ => some r_) (fun s17 =>
  some s17.2.2)
set_option maxHeartbeats 4000000 in
theorem c_impl_argsAt {M : Nat → Prop} {w : World}  (i : Int) (k : Int) (n : Int)  (hM : ∀ g, w.heap.size ≤ g → M g) {r : (List Int)} (hs : s_impl_argsAt i k n = some r) :
    Gives Try.prog 88 [(.int .i64 i), (.int .i64 k), (.int .i64 n)] w (fun v w' => ∃ (ra0 : Option Addr) (rn0 rc0 : Nat) (rf0 : List Nat), v = (.slice ra0 rn0 rc0) ∧ Chg [] w w' ∧ (RT.os 3 (RT.int .i64)).val M w' (.slice ra0 rn0 rc0) r rf0 ∧ Own (Nw w []) (fun _ => True) w' (rf0 ++ ([]))) := by
 refine calls_fr Try.func88 rfl Try.ntmps88 (Nat.le_of_ble_eq_true rfl) ?_
 have hO := Own.start (N := Nw w []) hM Nw.fut
 have hC := Chg.refl [] w
 unfold s_impl_argsAt at hs
 refine wp_mono (Q := KPost (k_impl_argsAt M w r)) ?_ (fun e a a7 h => ?_)
 rotate_left
 ·cases e
  case ret =>
   obtain ⟨σ, ra0, rn0, rc0, rf0, rfl, hrest⟩ := h
   exact ret1x Try.results88 (res_tmp rfl) ⟨ra0, rn0, rc0, rf0, rfl, hrest⟩
  all_goals exact (h : False).elim
 refine c_sr ?_
 refine pl_val (.slice none 0 0) (y_assign rfl) ?_
 refine c_nil ?_
 refine c_sr ?_
 refine pl_val (.int .i64 k) (y_move rfl) ?_
 obtain ⟨y2, b5, hs⟩ := bind_some hs
 obtain ⟨a0, a1, a2, a7, b6, b7, b1, b8, a8⟩ := mk_os (M := M) (w := w) (r := (RT.int .i64)) Rw37 b5 (fun _ _ => ⟨rfl, rfl⟩)
 refine pl_val (w' := a7) (.slice a0 a1 a2) (y_make rfl rfl b7) ?_
 have hC := hC.ext b1
 have hO := hO.new b1 b8 (os_nodup a8) a8.fpl
 refine pl_val (.slice a0 a1 a2) (y_assign rfl) ?_
 refine c_nil ?_
 refine c_seq ?_
 refine c_sr ?_
 refine pl_val (.int .i64 k) (y_move rfl) ?_
 refine pl_val (.int .i64 (w64 (k - 1))) (y_sub rfl rfl) ?_
 refine pl_val (.int .i64 (w64 (k - 1))) (y_assign rfl) ?_
 refine c_nil ?_
 obtain ⟨o21, b9, hs⟩ := bind_some hs
 refine wp_block ?_
 refine wp_iter (id := 0) (I := fun s17 a a3 => ∃ (σ : Nat → Value) (a4 : List Nat), a = fr 27 (ovl σ [(0, (.int .i64 s17.1)), (2, (.int .i64 n)), (7, (.slice a0 a1 a2)), (8, (.int .i64 s17.2.1))]) ∧ Chg [] w a3 ∧ Own (Nw w []) M a3 (a4 ++ []) ∧ (RT.os 3 (RT.int .i64)).val M a3 (.slice a0 a1 a2) s17.2.2 a4) (J := fun s17 a a3 => ∃ (σ : Nat → Value) (a6 : List Nat), a = fr 27 (ovl σ [(7, (.slice a0 a1 a2))]) ∧ Chg [] w a3 ∧ Own (Nw w []) M a3 (a6 ++ []) ∧ (RT.os 3 (RT.int .i64)).val M a3 (.slice a0 a1 a2) s17.2.2 a6) (K := (k_impl_argsAt M w)) ?_ FU (i, w64 (k - 1), y2) o21 _ _ ?_ b9 ?_
 ·rintro s17 o21 a a3 ⟨σ, a4, rfl, hC, hO, a5⟩ hs
  refine c_seq ?_
  refine c_sr ?_
  refine pl_val (.int .i64 s17.2.1) (y_move rfl) ?_
  refine pl_val (.bool (decide (0 ≤ s17.2.1))) (y_geq rfl rfl) ?_
  refine c_nil ?_
  rcases bif_some hs with ⟨a9, hs⟩ | ⟨a9, hs⟩
  ·refine c_condT (congrArg Value.bool a9) ?_
   refine wp_skip ?_
   refine c_seq ?_
   refine wp_block ?_
   refine c_sr ?_
   refine pl_val (.slice a0 a1 a2) (y_move rfl) ?_
   refine pl_val (.int .i64 s17.2.1) (y_move rfl) ?_
   refine pl_val (.int .i64 s17.1) (y_move rfl) ?_
   refine pl_val (.int .i64 n) (y_move rfl) ?_
   obtain ⟨u26, c0, hs⟩ := bind_some hs
   refine pl_val (.int .i64 (Int.tmod s17.1 n)) (y_rem rfl rfl (nz_ne c0)) ?_
   obtain ⟨x27, c1, hs⟩ := bind_some hs
   obtain ⟨b2, d1, b3, c2, c3, d2, d3⟩ := os_idx Sl37 Sz3 a5 c1
   refine pl_val (.pointer (some ⟨b2, 0 + Int.toNat s17.2.1 * 1, none⟩)) (c3 _ _ _ _ _ _ _ _ _ rfl rfl) ?_
   obtain ⟨c4, c5, c6, b4, c7, b0⟩ := os_store (P := Try.prog) (c' := [(.int .i64 (Int.tmod s17.1 n))]) b3 a5 c2 (fun g hg => hO.inM g (os_block a5 g (by simpa using hg))) ⟨rfl, rfl⟩ List.nodup_nil (fun _ h => nomatch h) (fun _ h => .inl h)
   have c8 : ∀ q ∈ [b2], q ∈ a4 := fun q hq => os_block a5 q (by rw [b3]; exact hq)
   refine pl_skip (w' := c4) (ys_store rfl rfl (c6 _ _ rfl Sz3)) ?_
   have hC := hC.st b4 hO c8
   have hO := hO.grow b4 (fun q hq => .inl ((c7 q hq).resolve_right (fun h => nomatch h))) (os_nodup b0) b0.fpl
   refine c_nil ?_
   refine c_region ?_
   refine pl_val (.int .i64 s17.1) (y_move rfl) ?_
   refine pl_val (.int .i64 n) (y_move rfl) ?_
   obtain ⟨u30, c9, hs⟩ := bind_some hs
   refine pl_val (.int .i64 (w64 (Int.tdiv s17.1 n))) (y_quo rfl rfl (nz_ne c9)) ?_
   refine pl_val (.int .i64 (w64 (Int.tdiv s17.1 n))) (y_assign rfl) ?_
   refine c_nil ?_
   refine c_region ?_
   refine pl_val (.int .i64 s17.2.1) (y_move rfl) ?_
   refine pl_val (.int .i64 (w64 (s17.2.1 - 1))) (y_sub rfl rfl) ?_
   refine pl_val (.int .i64 (w64 (s17.2.1 - 1))) (y_assign rfl) ?_
   refine c_nil ?_
   cases hs
   exact ⟨_, c5, fr_ovl 27 ⟨rfl, rfl, rfl, rfl, trivial⟩, hC, hO, b0⟩
  refine c_condF (congrArg Value.bool a9) ?_
  refine wp_exit ?_
  cases hs
  exact ⟨rfl, _, a4, fr_ovl 27 ⟨rfl, trivial⟩, hC, hO, a5⟩
 ·skip
  exact ⟨_, b6, fr_ovl 27 ⟨rfl, rfl, rfl, rfl, trivial⟩, hC, hO, a8⟩
 cases o21 with
 | nx _ => exact True.intro
 | rt r_ =>
  have hs := after_rt hs
  intro a0 a7 hK
  cases hs
  exact hK
 | br s17 =>
  have hs := after_br hs
  rintro a0 a3 ⟨σ, a6, rfl, hC, hO, d0⟩
  refine c_sr ?_
  refine pl_val (.slice a0 a1 a2) (y_move rfl) ?_
  refine pl_val (.slice a0 a1 a2) (y_assign rfl) ?_
  refine c_nil ?_
  refine wp_ret ?_
  cases hs
  exact ⟨_, a0, a1, a2, a6, fr_ovl 27 ⟨rfl, trivial⟩, hC, d0, hO.top⟩

theorem Bd88 : Bodied Try.prog 88 := bodied Try.func88 (by kernel_rfl) rfl

def k_impl_projection (M : Nat → Prop) (w0 : World) (r : (List Int)) (a : Act) (w : World) : Prop :=
  ∃ (σ : Nat → Value) (ra0 : Option Addr) (rn0 rc0 : Nat) (rf0 : List Nat), a = fr 30 (ovl σ [(6, (.slice ra0 rn0 rc0))]) ∧ Chg [] w0 w ∧ (RT.os 3 (RT.int .i64)).val M w (.slice ra0 rn0 rc0) r rf0 ∧ Own (Nw w0 []) (fun _ => True) w (rf0 ++ ([]))
def s_impl_projection (n : Int) (k : Int) (place : Int) : Option ((List Int)) :=
  (s_impl_power n k).bind fun r2 =>
  (mks r2 (0 : Int)).bind fun y4 =>
  (forC (S := (List Int)) (R := (List Int)) (fun k25 s23 =>
  (s_impl_argsAt k25 k n).bind fun r32 =>
  (idx r32 place).bind fun x34 =>
  (idx s23 k25).bind fun x36 =>
  some (.nx (List.set s23 (Int.toNat k25) x34))) 0 (y4.length : Int) y4).bind fun o27 => after o27 (fun r_ => some r_) (fun s23 =>
  some s23)
set_option maxHeartbeats 4000000 in
theorem c_impl_projection {M : Nat → Prop} {w : World}  (n : Int) (k : Int) (place : Int)  (hM : ∀ g, w.heap.size ≤ g → M g) {r : (List Int)} (hs : s_impl_projection n k place = some r) :
    Gives Try.prog 84 [(.int .i64 n), (.int .i64 k), (.int .i64 place)] w (fun v w' => ∃ (ra0 : Option Addr) (rn0 rc0 : Nat) (rf0 : List Nat), v = (.slice ra0 rn0 rc0) ∧ Chg [] w w' ∧ (RT.os 3 (RT.int .i64)).val M w' (.slice ra0 rn0 rc0) r rf0 ∧ Own (Nw w []) (fun _ => True) w' (rf0 ++ ([]))) := by
 refine calls_fr Try.func84 rfl Try.ntmps84 (Nat.le_of_ble_eq_true rfl) ?_
 have hO := Own.start (N := Nw w []) hM Nw.fut
 have hC := Chg.refl [] w
 unfold s_impl_projection at hs
 refine wp_mono (Q := KPost (k_impl_projection M w r)) ?_ (fun e a a8 h => ?_)
 rotate_left
 ·cases e
  case ret =>
   obtain ⟨σ, ra0, rn0, rc0, rf0, rfl, hrest⟩ := h
   exact ret1x Try.results84 (res_tmp rfl) ⟨ra0, rn0, rc0, rf0, rfl, hrest⟩
  all_goals exact (h : False).elim
 refine c_sr ?_
 refine pl_val (.slice none 0 0) (y_assign rfl) ?_
 refine c_nil ?_
 refine c_sr ?_
 refine pl_val (.int .i64 n) (y_move rfl) ?_
 refine pl_val (.int .i64 k) (y_move rfl) ?_
 obtain ⟨r2, b8, hs⟩ := bind_some hs
 refine pl_call Bd112 rfl (c_impl_power (M := M) n k  hO.fut b8) ?_
 rintro _ a8 ⟨rfl, b3⟩
 have hC := hC.ext b3
 have hO := hO.ext b3
 obtain ⟨y4, b9, hs⟩ := bind_some hs
 obtain ⟨a0, a1, a2, c0, c1, c2, b4, c3, a6⟩ := mk_os (M := M) (w := a8) (r := (RT.int .i64)) Rw37 b9 (fun _ _ => ⟨rfl, rfl⟩)
 refine pl_val (w' := c0) (.slice a0 a1 a2) (y_make rfl rfl c2) ?_
 have hC := hC.ext b4
 have hO := hO.new b4 c3 (os_nodup a6) a6.fpl
 refine pl_val (.slice a0 a1 a2) (y_assign rfl) ?_
 refine c_nil ?_
 refine c_seq ?_
 refine c_sr ?_
 refine pl_val (.slice a0 a1 a2) (y_move rfl) ?_
 refine pl_val (.int .i64 (y4.length : Int)) (y_len' Sl37 (os_len a6) rfl) ?_
 refine pl_val (.int .i64 0) (y_move rfl) ?_
 refine c_nil ?_
 obtain ⟨o27, c4, hs⟩ := bind_some hs
 refine wp_block ?_
 refine wp_forC (id := 0) (y4.length : Int) (I := fun k25 s23 a a3 => ∃ (σ : Nat → Value) (a5 : List Nat), a = fr 30 (ovl σ [(0, (.int .i64 n)), (1, (.int .i64 k)), (2, (.int .i64 place)), (7, (.slice a0 a1 a2)), (14, (.int .i64 (y4.length : Int))), (15, (.int .i64 k25))]) ∧ Chg [] w a3 ∧ Own (Nw w []) M a3 (a5 ++ []) ∧ (RT.os 3 (RT.int .i64)).val M a3 (.slice a0 a1 a2) s23 a5) (J := fun s23 a a3 => ∃ (σ : Nat → Value) (a7 : List Nat), a = fr 30 (ovl σ [(7, (.slice a0 a1 a2))]) ∧ Chg [] w a3 ∧ Own (Nw w []) M a3 (a7 ++ []) ∧ (RT.os 3 (RT.int .i64)).val M a3 (.slice a0 a1 a2) s23 a7) (K := (k_impl_projection M w)) ?_ ?_ 0 y4 o27 _ _ ?_ c4 ?_
 ·rintro k25 s23 a a3 ⟨σ, a5, rfl, hC, hO, a4⟩ hlt
  refine c_sr ?_
  refine pl_val (.bool (decide (k25 < (y4.length : Int)))) (y_lss rfl rfl) ?_
  refine c_nil ?_
  refine c_seq ?_
  refine c_condF (congrArg Value.bool (decide_eq_false hlt)) ?_
  refine wp_exit ?_
  exact ⟨rfl, _, a5, fr_ovl 30 ⟨rfl, trivial⟩, hC, hO, a4⟩
 ·rintro k25 s23 o27 a a3 ⟨σ, a5, rfl, hC, hO, a4⟩ hlt hw hs
  refine c_sr ?_
  refine pl_val (.bool (decide (k25 < (y4.length : Int)))) (y_lss rfl rfl) ?_
  refine c_nil ?_
  refine c_seq ?_
  refine c_condT (congrArg Value.bool (decide_eq_true hlt)) ?_
  refine wp_skip ?_
  refine c_seq ?_
  refine wp_block ?_
  refine c_sr ?_
  refine pl_val (.int .i64 k25) (y_move rfl) ?_
  refine pl_val (.int .i64 k25) (y_assign rfl) ?_
  refine c_nil ?_
  refine c_region ?_
  refine pl_val (.slice a0 a1 a2) (y_move rfl) ?_
  refine pl_val (.int .i64 k25) (y_move rfl) ?_
  refine pl_val (.int .i64 k25) (y_move rfl) ?_
  refine pl_val (.int .i64 k) (y_move rfl) ?_
  refine pl_val (.int .i64 n) (y_move rfl) ?_
  obtain ⟨r32, c5, hs⟩ := bind_some hs
  refine pl_call Bd88 rfl (c_impl_argsAt (M := M) k25 k n  hO.fut c5) ?_
  rintro _ e1 ⟨e2, e3, e4, c6, rfl, a9, b0, c7⟩
  have a4 := a4.ext a9
  have hC := hC.ext a9
  have hO := Own.join0 hO a9 c7
  have hO := hO.perm (R := c6 ++ (a5 ++ ([]))) (by simp)
  refine pl_val (.int .i64 place) (y_move rfl) ?_
  obtain ⟨x34, c8, hs⟩ := bind_some hs
  obtain ⟨c9, e5, e6, e7, d0, d1, e8⟩ := os_idx Sl37 Sz3 b0 c8
  refine pl_val (.pointer (some ⟨c9, 0 + Int.toNat place * 1, none⟩)) (d0 _ _ _ _ _ _ _ _ _ rfl rfl) ?_
  refine pl_val (.int .i64 x34) (y_load rfl ((at_load_int Ag3 Sz3 d1) _ (Chg.refl _ _))) ?_
  obtain ⟨x36, d2, hs⟩ := bind_some hs
  obtain ⟨b5, e9, b6, d3, d4, f0, f1⟩ := os_idx Sl37 Sz3 a4 d2
  refine pl_val (.pointer (some ⟨b5, 0 + Int.toNat k25 * 1, none⟩)) (d4 _ _ _ _ _ _ _ _ _ rfl rfl) ?_
  have hO := hO.fr1
  obtain ⟨d5, d6, d7, b1, d8, b2⟩ := os_store (P := Try.prog) (c' := [(.int .i64 x34)]) b6 a4 d3 (fun g hg => hO.inM g (os_block a4 g (by simpa using hg))) ⟨rfl, rfl⟩ List.nodup_nil (fun _ h => nomatch h) (fun _ h => .inl h)
  have b7 : ∀ q ∈ [b5], q ∈ a5 := fun q hq => os_block a4 q (by rw [b6]; exact hq)
  refine pl_skip (w' := d5) (ys_store rfl rfl (d7 _ _ rfl Sz3)) ?_
  have b0 := b0.ma b1 hO b7 (fun _ e => (mem_l (e)))
  have hC := hC.st b1 hO b7
  have hO := hO.grow b1 (fun q hq => .inl ((d8 q hq).resolve_right (fun h => nomatch h))) (os_nodup b2) b2.fpl
  refine c_nil ?_
  refine c_region ?_
  refine pl_val (.int .i64 (w64 (k25 + 1))) (y_add rfl rfl) ?_
  refine pl_val (.int .i64 (w64 (k25 + 1))) (y_move rfl) ?_
  refine c_nil ?_
  cases hs
  have hO := hO.fr1
  have hO := hO.drop
  exact ⟨_, d6, fr_ovl 30 ⟨rfl, rfl, rfl, rfl, rfl, congrArg (Value.int .i64) hw, trivial⟩, hC, hO, b2⟩
 ·skip
  exact ⟨_, c1, fr_ovl 30 ⟨rfl, rfl, rfl, rfl, rfl, rfl, trivial⟩, hC, hO, a6⟩
 cases o27 with
 | nx _ => exact True.intro
 | rt r_ =>
  have hs := after_rt hs
  intro d9 a8 hK
  cases hs
  exact hK
 | br s23 =>
  have hs := after_br hs
  rintro d9 a3 ⟨σ, a7, rfl, hC, hO, e0⟩
  refine c_sr ?_
  refine pl_val (.slice a0 a1 a2) (y_move rfl) ?_
  refine pl_val (.slice a0 a1 a2) (y_assign rfl) ?_
  refine c_nil ?_
  refine wp_ret ?_
  cases hs
  exact ⟨_, a0, a1, a2, a7, fr_ovl 30 ⟨rfl, trivial⟩, hC, e0, hO.top⟩

theorem Rw125 : RowT Try.prog 125 5 1 [(.int .u8 0)] := ⟨Try.underlying125, ⟨_, _, rfl, rfl, rfl, rfl, by decide⟩, rfl, by decide⟩

def k_impl_keyOf (M : Nat → Prop) (w0 : World) (r : ByteArray) (a : Act) (w : World) : Prop :=
  ∃ (σ : Nat → Value) , a = fr 27 (ovl σ [(2, (.string r))]) ∧ Chg [] w0 w
def s_impl_keyOf (list : List Int) : Option (ByteArray) :=
  (mkc 0 (w64 (2 * (list.length : Int)))).bind fun u3 =>
  (forR (S := (List Int)) (R := ByteArray) (fun _ x16 s13 =>
  (app s13 ([IntKind.u8.wrap (ishr .i64 x16 8), IntKind.u8.wrap x16])).bind fun y27 =>
  some (.nx y27)) 0 list (List.replicate (Int.toNat 0) (0 : Int))).bind fun o17 => after o17 (fun r_ => some r_) (fun s13 =>
  some (bstr s13))
set_option maxHeartbeats 4000000 in
theorem c_impl_keyOf {M : Nat → Prop} {w : World} {pa0 : Option Addr} {pn0 pc0 : Nat} (list : List Int) (h0 : (RT.rs (RT.int .i64)).val M w (.slice pa0 pn0 pc0) list ([])) (hM : ∀ g, w.heap.size ≤ g → M g) {r : ByteArray} (hs : s_impl_keyOf list = some r) :
    Gives Try.prog 121 [(.slice pa0 pn0 pc0)] w (fun v w' => v = (.string r) ∧ Chg [] w w') := by
 refine calls_fr Try.func121 rfl Try.ntmps121 (Nat.le_of_ble_eq_true rfl) ?_
 have hO := Own.start (N := Nw w []) hM Nw.fut
 have hC := Chg.refl [] w
 unfold s_impl_keyOf at hs
 refine wp_mono (Q := KPost (k_impl_keyOf M w r)) ?_ (fun e a c8 h => ?_)
 rotate_left
 ·cases e
  case ret =>
   obtain ⟨σ, rfl, hrest⟩ := h
   exact ret1x Try.results121 (res_tmp rfl) ⟨rfl, hrest⟩
  all_goals exact (h : False).elim
 refine c_sr ?_
 refine pl_val (.string ByteArray.empty) (y_assign rfl) ?_
 refine c_nil ?_
 refine c_sr ?_
 refine pl_val (.slice pa0 pn0 pc0) (y_move rfl) ?_
 refine pl_val (.int .i64 (list.length : Int)) (y_len' Sl37 (rs_len h0) rfl) ?_
 refine pl_val (.int .i64 (w64 (2 * (list.length : Int)))) (y_mul rfl rfl) ?_
 obtain ⟨u3, c9, hs⟩ := bind_some hs
 obtain ⟨b1, b2, b3, d0, d1, d2, b4, d3, b5⟩ := mk_cap (M := M) (w := w) (r := (RT.int .u8)) (x := (0 : Int)) Rw125 c9 (fun _ _ => ⟨rfl, rfl⟩)
 refine pl_val (w' := d0) (.slice b1 b2 b3) (y_make rfl rfl d2) ?_
 have h0 := h0.ext b4
 have hC := hC.ext b4
 have hO := hO.new b4 d3 (os_nodup b5) b5.fpl
 refine pl_val (.slice b1 b2 b3) (y_assign rfl) ?_
 refine c_nil ?_
 refine c_seq ?_
 refine c_sr ?_
 refine pl_val (.slice pa0 pn0 pc0) (y_move rfl) ?_
 refine pl_val (.int .i64 (list.length : Int)) (y_len' Sl37 (rs_len h0) rfl) ?_
 refine pl_val (.int .i64 0) (y_move rfl) ?_
 refine c_nil ?_
 obtain ⟨o17, d4, hs⟩ := bind_some hs
 refine wp_block ?_
 refine wp_forR (id := 0) (I := fun i_ xs_ s13 a a0 => ∃ a1 : Nat, i_ = (a1 : Int) ∧ List.drop a1 list = xs_ ∧ (∃ (σ : Nat → Value) (a2 : Option Addr) (a3 : Nat) (a4 : Nat) (a6 : List Nat), a = fr 27 (ovl σ [(3, (.slice a2 a3 a4)), (10, (.slice pa0 pn0 pc0)), (11, (.int .i64 (list.length : Int))), (12, (.int .i64 (a1 : Int)))]) ∧ Chg [] w a0 ∧ Own (Nw w []) M a0 (a6 ++ []) ∧ (RT.rs (RT.int .i64)).val M a0 (.slice pa0 pn0 pc0) list ([]) ∧ (RT.os 5 (RT.int .u8)).val M a0 (.slice a2 a3 a4) s13 a6)) (J := fun s13 a a0 => ∃ (σ : Nat → Value) (a7 : Option Addr) (a8 : Nat) (a9 : Nat) (b6 : List Nat), a = fr 27 (ovl σ [(3, (.slice a7 a8 a9))]) ∧ Chg [] w a0 ∧ Own (Nw w []) M a0 (b6 ++ []) ∧ (RT.rs (RT.int .i64)).val M a0 (.slice pa0 pn0 pc0) list ([]) ∧ (RT.os 5 (RT.int .u8)).val M a0 (.slice a7 a8 a9) s13 b6) (K := (k_impl_keyOf M w)) ?_ ?_ list 0 (List.replicate (Int.toNat 0) (0 : Int)) o17 _ _ ?_ d4 ?_
 ·rintro _ s13 a a0 ⟨a1, rfl, hd, σ, a2, a3, a4, a6, rfl, hC, hO, h0, a5⟩
  have hlt := drop_nil_ge hd
  refine c_sr ?_
  refine pl_val (.bool (decide ((a1 : Int) < (list.length : Int)))) (y_lss rfl rfl) ?_
  refine c_nil ?_
  refine c_seq ?_
  refine c_condF (congrArg Value.bool (decide_eq_false hlt)) ?_
  refine wp_exit ?_
  exact ⟨rfl, _, a2, a3, a4, a6, fr_ovl 27 ⟨rfl, trivial⟩, hC, hO, h0, a5⟩
 ·rintro _ x16 xs_ s13 o17 a a0 ⟨a1, rfl, hd, σ, a2, a3, a4, a6, rfl, hC, hO, h0, a5⟩ hs
  have hlt := drop_cons_lt hd
  have d5 := drop_cons_idx hd
  refine c_sr ?_
  refine pl_val (.bool (decide ((a1 : Int) < (list.length : Int)))) (y_lss rfl rfl) ?_
  refine c_nil ?_
  refine c_seq ?_
  refine c_condT (congrArg Value.bool (decide_eq_true hlt)) ?_
  refine wp_skip ?_
  refine c_seq ?_
  refine wp_block ?_
  refine c_sr ?_
  obtain ⟨d6, d7, d8, d9⟩ := rs_idx Sl37 Sz3 h0 d5
  refine pl_val (.pointer (some ⟨d6, d7, none⟩)) (d8 _ _ _ _ _ _ _ _ _ rfl rfl) ?_
  refine pl_val (.int .i64 x16) (y_load rfl ((at_load_int Ag3 Sz3 d9) _ (Chg.refl _ _))) ?_
  refine pl_val (.int .i64 x16) (y_assign rfl) ?_
  refine c_nil ?_
  refine c_region ?_
  refine pl_val (.slice a2 a3 a4) (y_move rfl) ?_
  refine pl_val (.int .i64 x16) (y_move rfl) ?_
  refine pl_val (.int .i64 (ishr .i64 x16 8)) (y_shr rfl rfl (by decide)) ?_
  refine pl_val (.int .u8 (IntKind.u8.wrap (ishr .i64 x16 8))) (y_conv_int Try.underlying3 Try.underlying5 rfl) ?_
  refine pl_val (.int .i64 x16) (y_move rfl) ?_
  refine pl_val (.int .u8 (IntKind.u8.wrap x16)) (y_conv_int Try.underlying3 Try.underlying5 rfl) ?_
  obtain ⟨c4, b7, e0, c5, b0, c6⟩ := new_block a0 [(.int .u8 (IntKind.u8.wrap (ishr .i64 x16 8))), (.int .u8 (IntKind.u8.wrap x16))] 5
  refine pl_val (w' := c4) (.slice (some ⟨b7, 0, none⟩) 2 2) (y_bslice rfl (by rw [e0, c5]; kernel_rfl)) ?_
  have h0 := h0.ext b0
  have a5 := a5.ext b0
  have hC := hC.ext b0
  have hO := hO.new1 b0 c5 c6.lt
  have b8 := os_of_box (r := (RT.int .u8)) (M := M) (css := [[(.int .u8 (IntKind.u8.wrap (ishr .i64 x16 8)))], [(.int .u8 (IntKind.u8.wrap x16))]]) (fps := [([] : List Nat), ([] : List Nat)]) (xs := ([IntKind.u8.wrap (ishr .i64 x16 8), IntKind.u8.wrap x16] : List Int)) c6 ⟨⟨rfl, rfl⟩, ⟨⟨rfl, rfl⟩, trivial⟩⟩ (Nat.le_of_ble_eq_true rfl) (List.nodup_cons.2 ⟨(fun h => nomatch h), List.nodup_nil⟩)
  have b8 : (RT.os 5 (RT.int .u8)).val M c4 (.slice (some ⟨b7, 0, none⟩) 2 2) [IntKind.u8.wrap (ishr .i64 x16 8), IntKind.u8.wrap x16] [b7] := b8
  obtain ⟨y27, e1, hs⟩ := bind_some hs
  have hO := hO.fr1
  obtain ⟨b9, c0, c1, e2, e3, e4, c2, e5, c3⟩ := app_os Rw125 e1 a5 b8 hO.inM (fun g hg hq => hO.apart g hq (mem_l hg))
  have c7 := os_block a5
  refine pl_val (w' := e2) (.slice b9 c0 c1) (y_append rfl rfl (e4 _)) ?_
  have hO := hO.fr1
  have hO := hO.fr1
  have h0 := h0.mt c2 hO c7
  have hC := hC.st c2 hO c7
  have hO := hO.eat c2 e5 (os_nodup c3) c3.fpl
  refine pl_val (.slice b9 c0 c1) (y_assign rfl) ?_
  refine c_nil ?_
  refine c_region ?_
  refine pl_val (.int .i64 (w64 ((a1 : Int) + 1))) (y_add rfl rfl) ?_
  refine pl_val (.int .i64 (w64 ((a1 : Int) + 1))) (y_move rfl) ?_
  refine c_nil ?_
  cases hs
  exact ⟨_, rfl, drop_cons_next hd, _, b9, c0, c1, e3, fr_ovl 27 ⟨rfl, rfl, rfl, congrArg (Value.int .i64) (w64_succ hlt (Int.natCast_nonneg _) (rs_max h0)), trivial⟩, hC, hO, h0, c3⟩
 ·skip
  exact ⟨0, rfl, rfl, _, b1, b2, b3, d1, fr_ovl 27 ⟨rfl, rfl, rfl, rfl, trivial⟩, hC, hO, h0, b5⟩
 cases o17 with
 | nx _ => exact True.intro
 | rt r_ =>
  have hs := after_rt hs
  intro e6 c8 hK
  cases hs
  exact hK
 | br s13 =>
  have hs := after_br hs
  rintro e6 a0 ⟨σ, a7, a8, a9, b6, rfl, hC, hO, h0, e7⟩
  refine c_sr ?_
  refine pl_val (.slice a7 a8 a9) (y_move rfl) ?_
  refine pl_val (.string (bstr s13)) (y_str Try.underlying125 Try.underlying9 Try.underlying5 e7 rfl) ?_
  refine pl_val (.string (bstr s13)) (y_assign rfl) ?_
  refine c_nil ?_
  refine wp_ret ?_
  cases hs
  exact ⟨_, fr_ovl 27 ⟨rfl, trivial⟩, hC⟩

end Go.Proofs
