/- What functions of the program compute, as plain functions, and that a call gives just that. Conditions: those named in each theorem. -/
import Derived.Test.YtmghggenjagioaaF0
set_option linter.unusedVariables false
namespace Go.Proofs
open Go.G Go.RowKit
set_option maxRecDepth 100000

def k_spec_l12Rounds (M : Nat → Prop) (w0 : World) (r : ((List (List Int)) × (List (Int × (List Int))) × Bool)) (a : Act) (w : World) : Prop :=
  ∃ (σ : Nat → Value) (rg6 : Nat) (ra0 : Option Addr) (rn0 rc0 : Nat) (rf0 : List Nat) (ra1 : Option Addr) (rn1 rc1 : Nat) (rf1 : List Nat), a = fr 68 (ovl σ [(6, (.pointer (some ⟨rg6, 0, none⟩)))]) ∧ BoxV w rg6 89 [(.slice ra0 rn0 rc0), (.slice ra1 rn1 rc1), (.bool r.2.2)] ∧ Chg [] w0 w ∧ (RT.os 37 (RT.rs (RT.int .i64))).val (PastL M [] w0 w (rf0 ++ (rf1 ++ ([])))) w (.slice ra0 rn0 rc0) r.1 rf0 ∧ (RT.os 119 (RT.pr (RT.int .i64) (RT.os 3 (RT.int .i64)))).val (PastL M [] w0 w (rf0 ++ (rf1 ++ ([])))) w (.slice ra1 rn1 rc1) r.2.1 rf1 ∧ Own (Nw w0 []) (fun _ => True) w (rf0 ++ (rf1 ++ ([])))
def s_spec_l12Rounds (n : Int) (ops : List (Int × (List Int))) (first : List (List Int)) : Option (((List (List Int)) × (List (Int × (List Int))) × Bool)) :=
  (forC (S := (List (List Int)) × (List (Int × (List Int))) × Bool) (R := ((List (List Int)) × (List (Int × (List Int))) × Bool)) (fun k60 s58 =>
  (idx first k60).bind fun x75 =>
  (s_spec_l12Add__take02 (s58.1, s58.2.1, s58.2.2) x75 ((-1), [k60])).bind fun r82 =>
  some (.nx (r82.1, r82.2.1, r82.2.2))) 0 (first.length : Int) ([], [], false)).bind fun o62 => after o62 (fun r_ => some r_) (fun s58 =>
  (iter (S := Int × (List (List Int)) × (List (Int × (List Int))) × Bool) (R := ((List (List Int)) × (List (Int × (List Int))) × Bool)) (fun s257 =>
  (bif ((decide (s257.1 < (s257.2.1.length : Int))) && (!s257.2.2.2)) then (iter (S := Int × (List (List Int)) × (List (Int × (List Int))) × Bool) (R := ((List (List Int)) × (List (Int × (List Int))) × Bool)) (fun s321 =>
  (bif ((decide (s321.1 < (ops.length : Int))) && (!s321.2.2.2)) then (idx ops s321.1).bind fun x343 =>
  (idx first 0).bind fun x347 =>
  (s_spec_l12Round__take1 n (s321.2.1, s321.2.2.1, s321.2.2.2) (x343.1, x343.2) s321.1 (s257.2.1.length : Int) s257.1 (x347.length : Int)).bind fun r352 =>
  some (.nx (w64 (s321.1 + 1), r352.1, r352.2.1, r352.2.2)) else some (.br (s321.1, s321.2.1, s321.2.2.1, s321.2.2.2)))) FU (0, s257.2.1, s257.2.2.1, s257.2.2.2)).bind fun o325 => after o325 (fun r_ => some (.rt r_)) (fun s321 =>
  some (.nx ((s257.2.1.length : Int), s321.2.1, s321.2.2.1, s321.2.2.2))) else some (.br (s257.1, s257.2.1, s257.2.2.1, s257.2.2.2)))) FU (0, s58.1, s58.2.1, s58.2.2)).bind fun o261 => after o261 (fun r_ => some r_) (fun s257 =>
  some (s257.2.1, s257.2.2.1, s257.2.2.2)))
set_option maxHeartbeats 4000000 in
theorem c_spec_l12Rounds {M : Nat → Prop} {w : World} {pa0 : Option Addr} {pn0 pc0 : Nat} {pa1 : Option Addr} {pn1 pc1 : Nat} (n : Int) (ops : List (Int × (List Int))) (first : List (List Int)) (h0 : (RT.rs (RT.pr (RT.int .i64) (RT.rs (RT.int .i64)))).val M w (.slice pa0 pn0 pc0) ops ([])) (h1 : (RT.rs (RT.rs (RT.int .i64))).val M w (.slice pa1 pn1 pc1) first ([])) (hM : ∀ g, w.heap.size ≤ g → M g) {r : ((List (List Int)) × (List (Int × (List Int))) × Bool)} (hs : s_spec_l12Rounds n ops first = some r) :
    Gives Try.prog 108 [(.int .i64 n), (.slice pa0 pn0 pc0), (.slice pa1 pn1 pc1)] w (fun v w' => ∃ (ra0 : Option Addr) (rn0 rc0 : Nat) (rf0 : List Nat) (ra1 : Option Addr) (rn1 rc1 : Nat) (rf1 : List Nat), v = (.agg #[(.slice ra0 rn0 rc0), (.slice ra1 rn1 rc1), (.bool r.2.2)]) ∧ Chg [] w w' ∧ (RT.os 37 (RT.rs (RT.int .i64))).val (PastL M [] w w' (rf0 ++ (rf1 ++ ([])))) w' (.slice ra0 rn0 rc0) r.1 rf0 ∧ (RT.os 119 (RT.pr (RT.int .i64) (RT.os 3 (RT.int .i64)))).val (PastL M [] w w' (rf0 ++ (rf1 ++ ([])))) w' (.slice ra1 rn1 rc1) r.2.1 rf1 ∧ Own (Nw w []) (fun _ => True) w' (rf0 ++ (rf1 ++ ([])))) := by
 refine calls_fr Try.func108 rfl Try.ntmps108 (Nat.le_of_ble_eq_true rfl) ?_
 have hO := Own.start (N := Nw w []) hM Nw.fut
 have hC := Chg.refl [] w
 unfold s_spec_l12Rounds at hs
 refine wp_mono (Q := KPost (k_spec_l12Rounds M w r)) ?_ (fun e a j9 h => ?_)
 rotate_left
 ·cases e
  case ret =>
   obtain ⟨σ, rg6, ra0, rn0, rc0, rf0, ra1, rn1, rc1, rf1, rfl, hbrg6, hrest⟩ := h
   exact ret1x Try.results108 (res_cell rfl (box_load Ag89 Sz89 hbrg6 [] _ [] rfl rfl (fun h => nomatch h))) ⟨ra0, rn0, rc0, rf0, ra1, rn1, rc1, rf1, rfl, hrest⟩
  all_goals exact (h : False).elim
 refine c_sr ?_
 obtain ⟨m5, a3, n9, m6, h7, a1⟩ := new_block w [(.slice none 0 0), (.slice none 0 0), (.bool false)] 89
 refine pl_val (w' := m5) (.pointer (some ⟨a3, 0, none⟩)) (y_alloc (by rw [n9, m6]; kernel_rfl)) ?_
 have h0 := h0.ext h7
 have h1 := h1.ext h7
 have hC := hC.ext h7
 have hO := hO.new1 h7 m6 a1.lt
 refine c_nil ?_
 refine c_sr ?_
 refine pl_val (.agg #[(.slice none 0 0), (.slice none 0 0), (.bool false)]) (y_build rfl (by kernel_rfl)) ?_
 obtain ⟨o0, a2, o1, m7, h2, m8⟩ := new_block m5 [(.slice none 0 0), (.slice none 0 0), (.bool false)] 89
 refine pl_val (w' := o0) (.pointer (some ⟨a2, 0, none⟩)) (y_alloc (by rw [o1, m7]; kernel_rfl)) ?_
 have h0 := h0.ext h2
 have h1 := h1.ext h2
 have a1 := a1.cn h2
 have hC := hC.ext h2
 have hO := hO.new1 h2 m7 m8.lt
 obtain ⟨m9, o2, h3, a0⟩ := box_store (P := Try.prog) m8 [] [(.slice none 0 0), (.slice none 0 0), (.bool false)] [] [(.slice none 0 0), (.slice none 0 0), (.bool false)] rfl rfl (by intro u hu; simp only [List.mem_cons, List.not_mem_nil, or_false] at hu; rcases hu with rfl | rfl | rfl <;> rfl)
 refine pl_skip (w' := m9) (ys_store rfl rfl (o2 _ _ rfl Sz89)) ?_
 have h0 := h0.mt h3 hO same_
 have h1 := h1.mt h3 hO same_
 have a1 := a1.ap h3 hO same_ (mem_l (List.mem_singleton.2 rfl))
 have hC := hC.st h3 hO same_
 have hO := hO.ext h3
 have a0 : BoxV m9 a2 89 [(.slice none 0 0), (.slice none 0 0), (.bool false)] := a0
 refine c_nil ?_
 refine c_seq ?_
 refine c_sr ?_
 refine pl_val (.int .i64 0) (y_assign rfl) ?_
 refine c_nil ?_
 obtain ⟨o62, o3, hs⟩ := bind_some hs
 refine wp_block ?_
 refine wp_forC (id := 0) (first.length : Int) (I := fun k60 s58 a a4 => ∃ (σ : Nat → Value) (a7 : Nat → Prop) (c5 : Option Addr) (c6 : Nat) (c7 : Nat) (a9 : List Nat) (c8 : Option Addr) (c9 : Nat) (d0 : Nat) (b0 : List Nat), a = fr 68 (ovl σ [(0, (.int .i64 n)), (1, (.slice pa0 pn0 pc0)), (2, (.slice pa1 pn1 pc1)), (6, (.pointer (some ⟨a3, 0, none⟩))), (7, (.pointer (some ⟨a2, 0, none⟩))), (8, (.int .i64 k60))]) ∧ Chg [] w a4 ∧ Own (Nw w []) a7 a4 (a9 ++ (b0 ++ (([a2]) ++ (([a3]) ++ [])))) ∧ KeepsF w [] M a7 ∧ (RT.rs (RT.pr (RT.int .i64) (RT.rs (RT.int .i64)))).val a7 a4 (.slice pa0 pn0 pc0) ops ([]) ∧ (RT.rs (RT.rs (RT.int .i64))).val a7 a4 (.slice pa1 pn1 pc1) first ([]) ∧ BoxV a4 a3 89 [(.slice none 0 0), (.slice none 0 0), (.bool false)] ∧ BoxV a4 a2 89 [(.slice c5 c6 c7), (.slice c8 c9 d0), (.bool s58.2.2)] ∧ (RT.os 37 (RT.rs (RT.int .i64))).val a7 a4 (.slice c5 c6 c7) s58.1 a9 ∧ (RT.os 119 (RT.pr (RT.int .i64) (RT.os 3 (RT.int .i64)))).val a7 a4 (.slice c8 c9 d0) s58.2.1 b0) (J := fun s58 a a4 => ∃ (σ : Nat → Value) (d1 : Nat → Prop) (h8 : Option Addr) (h9 : Nat) (i0 : Nat) (i1 : List Nat) (i2 : Option Addr) (i3 : Nat) (i4 : Nat) (i5 : List Nat), a = fr 68 (ovl σ [(0, (.int .i64 n)), (1, (.slice pa0 pn0 pc0)), (2, (.slice pa1 pn1 pc1)), (6, (.pointer (some ⟨a3, 0, none⟩))), (7, (.pointer (some ⟨a2, 0, none⟩)))]) ∧ Chg [] w a4 ∧ Own (Nw w []) d1 a4 (i1 ++ (i5 ++ (([a2]) ++ (([a3]) ++ [])))) ∧ KeepsF w [] M d1 ∧ (RT.rs (RT.pr (RT.int .i64) (RT.rs (RT.int .i64)))).val d1 a4 (.slice pa0 pn0 pc0) ops ([]) ∧ (RT.rs (RT.rs (RT.int .i64))).val d1 a4 (.slice pa1 pn1 pc1) first ([]) ∧ BoxV a4 a3 89 [(.slice none 0 0), (.slice none 0 0), (.bool false)] ∧ BoxV a4 a2 89 [(.slice h8 h9 i0), (.slice i2 i3 i4), (.bool s58.2.2)] ∧ (RT.os 37 (RT.rs (RT.int .i64))).val d1 a4 (.slice h8 h9 i0) s58.1 i1 ∧ (RT.os 119 (RT.pr (RT.int .i64) (RT.os 3 (RT.int .i64)))).val d1 a4 (.slice i2 i3 i4) s58.2.1 i5) (K := (k_spec_l12Rounds M w)) ?_ ?_ 0 ([], [], false) o62 _ _ ?_ o3 ?_
 ·rintro k60 s58 a a4 ⟨σ, a7, c5, c6, c7, a9, c8, c9, d0, b0, rfl, hC, hO, hK, h0, h1, a1, a0, f5, f6⟩ hlt
  refine c_seq ?_
  refine c_sr ?_
  refine pl_val (.int .i64 k60) (y_move rfl) ?_
  refine pl_val (.slice pa1 pn1 pc1) (y_move rfl) ?_
  refine pl_val (.int .i64 (first.length : Int)) (y_len' Sl47 (rs_len h1) rfl) ?_
  refine pl_val (.bool (decide (k60 < (first.length : Int)))) (y_lss rfl rfl) ?_
  refine c_nil ?_
  refine c_condF (congrArg Value.bool (decide_eq_false hlt)) ?_
  refine wp_exit ?_
  have hO := hO.fr3
  have hO := hO.fr3
  have hO := hO.fr3
  have hO := hO.fr3
  exact ⟨rfl, _, a7, c5, c6, c7, a9, c8, c9, d0, b0, fr_ovl 68 ⟨rfl, rfl, rfl, rfl, rfl, trivial⟩, hC, hO, hK, h0, h1, a1, a0, f5, f6⟩
 ·rintro k60 s58 o62 a a4 ⟨σ, a7, c5, c6, c7, a9, c8, c9, d0, b0, rfl, hC, hO, hK, h0, h1, a1, a0, f5, f6⟩ hlt hw hs
  refine c_seq ?_
  refine c_sr ?_
  refine pl_val (.int .i64 k60) (y_move rfl) ?_
  refine pl_val (.slice pa1 pn1 pc1) (y_move rfl) ?_
  refine pl_val (.int .i64 (first.length : Int)) (y_len' Sl47 (rs_len h1) rfl) ?_
  refine pl_val (.bool (decide (k60 < (first.length : Int)))) (y_lss rfl rfl) ?_
  refine c_nil ?_
  refine c_condT (congrArg Value.bool (decide_eq_true hlt)) ?_
  refine wp_skip ?_
  refine c_seq ?_
  refine wp_block ?_
  refine x_start [8, 9] Mx rfl ?_
  have c1 := Chg.drew a4
  generalize World.drew a4 = n0 at c1 ⊢
  have h0 := h0.ext c1
  have h1 := h1.ext c1
  have a1 := a1.cn c1
  have a0 := a0.cn c1
  have f5 := f5.ext c1
  have f6 := f6.ext c1
  have hC := hC.ext c1
  have hO := hO.ext c1
  have hS := Chg.refl [] n0
  refine x_l 0 (.agg #[(.slice c5 c6 c7), (.slice c8 c9 d0), (.bool s58.2.2)]) rfl (by kernel_rfl)  (fun w' hw' => y_load rfl ((box_load Ag89 Sz89 a0 [] [(.slice c5 c6 c7), (.slice c8 c9 d0), (.bool s58.2.2)] [] rfl rfl (fun h => nomatch h)) w' hw')) hS ?_
  refine x_p 1 (.slice pa1 pn1 pc1) rfl (by kernel_rfl)  (fun _ => y_move rfl) (fun _ => hS) ?_
  refine x_p 2 (.int .i64 k60) rfl (by kernel_rfl)  (fun _ => y_move rfl) (fun _ => hS) ?_
  obtain ⟨x75, o4, hs⟩ := bind_some hs
  obtain ⟨o5, o6, o7, k0⟩ := rs_idx Sl47 Sz37 h1 o4
  refine x_p 3 (.pointer (some ⟨o5, o6, none⟩)) rfl (by kernel_rfl)  (fun _ => o7 _ _ _ _ _ _ _ _ _ rfl rfl) (fun _ => hS) ?_
  obtain ⟨t2, o8, b7⟩ := at_load Ag37 Sz37 (fun _ => rfl) k0
  obtain ⟨o9, p0, p1, rfl⟩ := rs_sl b7
  refine x_l 4 (.slice o9 p0 p1) rfl (by kernel_rfl)  (fun w' hw' => y_load rfl (o8 w' hw')) hS ?_
  refine x_p 5 (.int .i64 k60) rfl (by kernel_rfl)  (fun _ => y_move rfl) (fun _ => hS) ?_
  refine x_one (i := 6) (by kernel_rfl) ?_
  obtain ⟨f7, b4, p2, n1, b1, n2⟩ := new_block n0 [(.int .i64 k60)] 3
  refine xk_val (w' := f7) (b := false) (.slice (some ⟨b4, 0, none⟩) 1 1) rfl  (y_bslice rfl (by rw [p2, n1]; kernel_rfl)) rfl (fun _ => hS.ext b1) ?_
  have h0 := h0.ext b1
  have h1 := h1.ext b1
  have a1 := a1.cn b1
  have a0 := a0.cn b1
  have f5 := f5.ext b1
  have f6 := f6.ext b1
  have b7 := b7.ext b1
  have k0 := at_ext k0 b1
  have hC := hC.ext b1
  have hO := hO.new1 b1 n1 n2.lt
  have k1 := os_of_box (r := (RT.int .i64)) (M := a7) (css := [[(.int .i64 k60)]]) (fps := [([] : List Nat)]) (xs := ([k60] : List Int)) n2 ⟨⟨rfl, rfl⟩, trivial⟩ (Nat.le_of_ble_eq_true rfl) (List.nodup_cons.2 ⟨(fun h => nomatch h), List.nodup_nil⟩)
  have k1 : (RT.os 3 (RT.int .i64)).val a7 f7 (.slice (some ⟨b4, 0, none⟩) 1 1) [k60] [b4] := k1
  have hS := hS.ext b1
  refine x_p 7 (.agg #[(.int .i64 (-1)), (.slice (some ⟨b4, 0, none⟩) 1 1)]) rfl (by kernel_rfl)  (fun _ => y_build rfl (by kernel_rfl)) (fun _ => hS) ?_
  refine x_one (i := 8) (by kernel_rfl) ?_
  have hO := hO.fr2
  have hO := hO.fr2
  have p3 := hO
  have n3 := Own.lend (F := (a9 ++ (b0 ++ (([b4]) ++ ([]))))) (R := ([a2]) ++ (([a3]) ++ ([]))) (Own.perm (p3) (by simp))
  obtain ⟨r82, p4, hs⟩ := bind_some hs
  refine xk_call (b := true) rfl  Bd115 rfl (c_spec_l12Add__take02 (M := a7) (s58.1, s58.2.1, s58.2.2) x75 ((-1), [k60]) f5 f6 b7 k1 n3 n3.fut p4) rfl (fun h => nomatch h) ?_
  rintro _ h4 ⟨k2, k3, k4, f8, k5, k6, k7, f9, rfl, g0, k8, k9, p5⟩
  have hO := hO.fr2
  have hO := hO.fr2
  have hO := hO.fr2
  have hO := hO.perm (R := (a9 ++ (b0 ++ (([b4]) ++ ([])))) ++ (([a2]) ++ (([a3]) ++ ([])))) (by simp)
  have p6 := Own.pastL hO g0 p5
  have hK := hK.trans (show KeepsF w [] a7 (PastL a7 (a9 ++ (b0 ++ (([b4]) ++ ([])))) f7 h4 (f8 ++ (f9 ++ ([])))) from KeepsF.pastL hC.size (fun g hg => (hO.inN g hg)))
  have h0 := h0.mt g0 hO same_
  have h1 := h1.mt g0 hO same_
  have a1 := a1.ap g0 hO same_ (mem_r (mem_l (List.mem_singleton.2 rfl)))
  have a0 := a0.ap g0 hO same_ (mem_l (List.mem_singleton.2 rfl))
  have b7 := b7.mt g0 hO same_
  have hC := hC.st g0 hO same_
  have hO := p6
  have h0 := h0.sub (M' := (PastL a7 (a9 ++ (b0 ++ (([b4]) ++ ([])))) f7 h4 (f8 ++ (f9 ++ ([]))))) (fun g hg => .inl hg.1)
  have h1 := h1.sub (M' := (PastL a7 (a9 ++ (b0 ++ (([b4]) ++ ([])))) f7 h4 (f8 ++ (f9 ++ ([]))))) (fun g hg => .inl hg.1)
  have b7 := b7.sub (M' := (PastL a7 (a9 ++ (b0 ++ (([b4]) ++ ([])))) f7 h4 (f8 ++ (f9 ++ ([]))))) (fun g hg => .inl hg.1)
  have hO := hO.perm (R := f8 ++ (f9 ++ (([a2]) ++ (([a3]) ++ ([]))))) (by simp)
  refine x_one (i := 9) (by kernel_rfl) ?_
  obtain ⟨n4, p7, d2, l0⟩ := box_store (P := Try.prog) a0 [] [(.slice c5 c6 c7), (.slice c8 c9 d0), (.bool s58.2.2)] [] [(.slice k2 k3 k4), (.slice k5 k6 k7), (.bool r82.2.2)] rfl rfl (by intro u hu; simp only [List.mem_cons, List.not_mem_nil, or_false] at hu; rcases hu with rfl | rfl | rfl <;> rfl)
  refine xk_skip (w' := n4) (b := true) rfl (ys_store rfl rfl (p7 _ _ rfl Sz89)) rfl (fun h => nomatch h) ?_
  have hO := hO.fr2
  have h0 := h0.mt d2 hO same_
  have h1 := h1.mt d2 hO same_
  have a1 := a1.ap d2 hO same_ (mem_r (mem_r (mem_l (List.mem_singleton.2 rfl))))
  have b7 := b7.mt d2 hO same_
  have k8 := k8.ma d2 hO same_ (fun _ e => (mem_l (e)))
  have k9 := k9.ma d2 hO same_ (fun _ e => (mem_r (mem_l (e))))
  have hC := hC.st d2 hO same_
  have hO := hO.ext d2
  have l0 : BoxV n4 a2 89 [(.slice k2 k3 k4), (.slice k5 k6 k7), (.bool r82.2.2)] := l0
  refine x_end (by kernel_rfl) ?_
  clear hS
  refine c_region ?_
  refine pl_val (.int .i64 k60) (y_move rfl) ?_
  refine pl_val (.int .i64 (w64 (k60 + 1))) (y_add rfl rfl) ?_
  refine pl_val (.int .i64 (w64 (k60 + 1))) (y_assign rfl) ?_
  refine c_nil ?_
  cases hs
  have hO := hO.fr3
  have hO := hO.fr1
  have hO := hO.fr3
  have hO := hO.fr3
  exact ⟨_, (PastL a7 (a9 ++ (b0 ++ (([b4]) ++ ([])))) f7 h4 (f8 ++ (f9 ++ ([])))), k2, k3, k4, f8, k5, k6, k7, f9, fr_ovl 68 ⟨rfl, rfl, rfl, rfl, rfl, congrArg (Value.int .i64) hw, trivial⟩, hC, hO, hK, h0, h1, a1, l0, k8, k9⟩
 ·skip
  have hO := hO.fr1
  have hO := hO.fr1
  have hO := hO.nil
  have hO := hO.nil
  exact ⟨_, M, none, 0, 0, [], none, 0, 0, [], fr_ovl 68 ⟨rfl, rfl, rfl, rfl, rfl, rfl, trivial⟩, hC, hO, KeepsF.refl, h0, h1, a1, a0, os_nil, os_nil⟩
 cases o62 with
 | nx _ => exact True.intro
 | rt r_ =>
  have hs := after_rt hs
  intro g1 j9 hK
  cases hs
  exact hK
 | br s58 =>
  have hs := after_br hs
  rintro g1 a4 ⟨σ, d1, h8, h9, i0, i1, i2, i3, i4, i5, rfl, hC, hO, hK, h0, h1, a1, a0, p8, p9⟩
  refine c_sr ?_
  refine pl_val (.int .i64 0) (y_assign rfl) ?_
  refine c_nil ?_
  refine c_seq ?_
  obtain ⟨o261, q0, hs⟩ := bind_some hs
  refine wp_block ?_
  refine wp_iter (id := 2) (I := fun s257 a a5 => ∃ (σ : Nat → Value) (c2 : Nat → Prop) (b8 : Option Addr) (b9 : Nat) (c0 : Nat) (h5 : List Nat) (d3 : Option Addr) (d4 : Nat) (d5 : Nat) (h6 : List Nat), a = fr 68 (ovl σ [(0, (.int .i64 n)), (1, (.slice pa0 pn0 pc0)), (2, (.slice pa1 pn1 pc1)), (6, (.pointer (some ⟨a3, 0, none⟩))), (7, (.pointer (some ⟨a2, 0, none⟩))), (9, (.int .i64 s257.1))]) ∧ Chg [] w a5 ∧ Own (Nw w []) c2 a5 (h5 ++ (h6 ++ (([a2]) ++ (([a3]) ++ [])))) ∧ KeepsF w [] M c2 ∧ (RT.rs (RT.pr (RT.int .i64) (RT.rs (RT.int .i64)))).val c2 a5 (.slice pa0 pn0 pc0) ops ([]) ∧ (RT.rs (RT.rs (RT.int .i64))).val c2 a5 (.slice pa1 pn1 pc1) first ([]) ∧ BoxV a5 a3 89 [(.slice none 0 0), (.slice none 0 0), (.bool false)] ∧ BoxV a5 a2 89 [(.slice b8 b9 c0), (.slice d3 d4 d5), (.bool s257.2.2.2)] ∧ (RT.os 37 (RT.rs (RT.int .i64))).val c2 a5 (.slice b8 b9 c0) s257.2.1 h5 ∧ (RT.os 119 (RT.pr (RT.int .i64) (RT.os 3 (RT.int .i64)))).val c2 a5 (.slice d3 d4 d5) s257.2.2.1 h6) (J := fun s257 a a5 => ∃ (σ : Nat → Value) (g2 : Nat → Prop) (d6 : Option Addr) (d7 : Nat) (d8 : Nat) (i6 : List Nat) (d9 : Option Addr) (e0 : Nat) (e1 : Nat) (i7 : List Nat), a = fr 68 (ovl σ [(6, (.pointer (some ⟨a3, 0, none⟩))), (7, (.pointer (some ⟨a2, 0, none⟩)))]) ∧ Chg [] w a5 ∧ Own (Nw w []) g2 a5 (i6 ++ (i7 ++ (([a2]) ++ (([a3]) ++ [])))) ∧ KeepsF w [] M g2 ∧ (RT.rs (RT.pr (RT.int .i64) (RT.rs (RT.int .i64)))).val g2 a5 (.slice pa0 pn0 pc0) ops ([]) ∧ (RT.rs (RT.rs (RT.int .i64))).val g2 a5 (.slice pa1 pn1 pc1) first ([]) ∧ BoxV a5 a3 89 [(.slice none 0 0), (.slice none 0 0), (.bool false)] ∧ BoxV a5 a2 89 [(.slice d6 d7 d8), (.slice d9 e0 e1), (.bool s257.2.2.2)] ∧ (RT.os 37 (RT.rs (RT.int .i64))).val g2 a5 (.slice d6 d7 d8) s257.2.1 i6 ∧ (RT.os 119 (RT.pr (RT.int .i64) (RT.os 3 (RT.int .i64)))).val g2 a5 (.slice d9 e0 e1) s257.2.2.1 i7) (K := (k_spec_l12Rounds M w)) ?_ FU (0, s58.1, s58.2.1, s58.2.2) o261 _ _ ?_ q0 ?_
  ·rintro s257 o261 a a5 ⟨σ, c2, b8, b9, c0, h5, d3, d4, d5, h6, rfl, hC, hO, hK, h0, h1, a1, a0, g6, i9⟩ hs
   refine c_seq ?_
   refine c_seq ?_
   refine c_mid (I := fun a n5 => ∃ (σ : Nat → Value), a = fr 68 (ovl σ [(0, (.int .i64 n)), (1, (.slice pa0 pn0 pc0)), (2, (.slice pa1 pn1 pc1)), (6, (.pointer (some ⟨a3, 0, none⟩))), (7, (.pointer (some ⟨a2, 0, none⟩))), (9, (.int .i64 s257.1)), (37, (.bool ((decide (s257.1 < (s257.2.1.length : Int))) && (!s257.2.2.2))))]) ∧ Chg [] a5 n5) ?_ ?_
   ·have hMid := Chg.refl [] a5
    refine c_region ?_
    refine pl_val (.int .i64 s257.1) (y_move rfl) ?_
    refine pl_val (.pointer (some ⟨a2, 0, none⟩)) (y_faddr rfl Fa89x0) ?_
    refine pl_val (.slice b8 b9 c0) (y_load rfl ((box_load Ag47 Sz47 a0 [] [(.slice b8 b9 c0)] [(.slice d3 d4 d5), (.bool s257.2.2.2)] rfl rfl (fun _ => rfl)) _ (Chg.refl _ _))) ?_
    refine pl_val (.int .i64 (s257.2.1.length : Int)) (y_len' Sl47 (os_len g6) rfl) ?_
    refine pl_val (.bool (decide (s257.1 < (s257.2.1.length : Int)))) (y_lss rfl rfl) ?_
    refine pl_val (.bool (decide (s257.1 < (s257.2.1.length : Int)))) (y_move rfl) ?_
    rcases Bool.eq_false_or_eq_true ((decide (s257.1 < (s257.2.1.length : Int)))) with b5 | b5
    ·skip
     refine pl_yes (.pointer (some ⟨a2, 2, none⟩)) (tg := 33) (by kernel_rfl) (congrArg Value.bool b5) (y_faddr rfl Fa89x2) ?_
     refine pl_yes (.bool s257.2.2.2) (tg := 33) (by kernel_rfl) (congrArg Value.bool b5) (y_load rfl ((box_load Ag4 Sz4 a0 [(.slice b8 b9 c0), (.slice d3 d4 d5)] [(.bool s257.2.2.2)] [] rfl rfl (fun _ => rfl)) _ (Chg.refl _ _))) ?_
     refine pl_yes (.bool (!s257.2.2.2)) (tg := 33) (by kernel_rfl) (congrArg Value.bool b5) (y_not rfl) ?_
     refine pl_val (.bool ((decide (s257.1 < (s257.2.1.length : Int))) && (!s257.2.2.2))) (y_pick_t (congrArg Value.bool b5) (congrArg Value.bool (by rw [b5]; rfl))) ?_
     refine c_nil ?_
     exact ⟨_, fr_ovl 68 ⟨rfl, rfl, rfl, rfl, rfl, rfl, rfl, trivial⟩, hMid⟩
    refine pl_not (tg := 33) (by kernel_rfl) (congrArg Value.bool b5) ?_
    refine pl_not (tg := 33) (by kernel_rfl) (congrArg Value.bool b5) ?_
    refine pl_not (tg := 33) (by kernel_rfl) (congrArg Value.bool b5) ?_
    refine pl_val (.bool ((decide (s257.1 < (s257.2.1.length : Int))) && (!s257.2.2.2))) (y_pick_f (congrArg Value.bool b5) (congrArg Value.bool (by rw [b5]; rfl))) ?_
    refine c_nil ?_
    exact ⟨_, fr_ovl 68 ⟨rfl, rfl, rfl, rfl, rfl, rfl, rfl, trivial⟩, hMid⟩
   rintro g1 n5 ⟨σ, rfl, e2⟩
   have h0 := h0.ext e2
   have h1 := h1.ext e2
   have a1 := a1.cn e2
   have a0 := a0.cn e2
   have g6 := g6.ext e2
   have i9 := i9.ext e2
   have hC := hC.ext e2
   have hO := hO.ext e2
   rcases bif_some hs with ⟨l1, hs⟩ | ⟨l1, hs⟩
   ·refine c_condT (congrArg Value.bool l1) ?_
    refine wp_skip ?_
    refine wp_block ?_
    refine c_sr ?_
    refine pl_val (.pointer (some ⟨a2, 0, none⟩)) (y_faddr rfl Fa89x0) ?_
    refine pl_val (.slice b8 b9 c0) (y_load rfl ((box_load Ag47 Sz47 a0 [] [(.slice b8 b9 c0)] [(.slice d3 d4 d5), (.bool s257.2.2.2)] rfl rfl (fun _ => rfl)) _ (Chg.refl _ _))) ?_
    refine pl_val (.int .i64 (s257.2.1.length : Int)) (y_len' Sl47 (os_len g6) rfl) ?_
    refine pl_val (.int .i64 (s257.2.1.length : Int)) (y_assign rfl) ?_
    refine c_nil ?_
    refine c_seq ?_
    refine c_sr ?_
    refine pl_val (.int .i64 0) (y_assign rfl) ?_
    refine c_nil ?_
    obtain ⟨o325, q1, hs⟩ := bind_some hs
    refine wp_block ?_
    refine wp_iter (id := 4) (I := fun s321 a a6 => ∃ (σ : Nat → Value) (a8 : Nat → Prop) (e3 : Option Addr) (e4 : Nat) (e5 : Nat) (b2 : List Nat) (e6 : Option Addr) (e7 : Nat) (e8 : Nat) (b3 : List Nat), a = fr 68 (ovl σ [(0, (.int .i64 n)), (1, (.slice pa0 pn0 pc0)), (2, (.slice pa1 pn1 pc1)), (6, (.pointer (some ⟨a3, 0, none⟩))), (7, (.pointer (some ⟨a2, 0, none⟩))), (9, (.int .i64 s257.1)), (10, (.int .i64 (s257.2.1.length : Int))), (11, (.int .i64 s321.1))]) ∧ Chg [] w a6 ∧ Own (Nw w []) a8 a6 (b2 ++ (b3 ++ (([a2]) ++ (([a3]) ++ [])))) ∧ KeepsF w [] M a8 ∧ (RT.rs (RT.pr (RT.int .i64) (RT.rs (RT.int .i64)))).val a8 a6 (.slice pa0 pn0 pc0) ops ([]) ∧ (RT.rs (RT.rs (RT.int .i64))).val a8 a6 (.slice pa1 pn1 pc1) first ([]) ∧ BoxV a6 a3 89 [(.slice none 0 0), (.slice none 0 0), (.bool false)] ∧ BoxV a6 a2 89 [(.slice e3 e4 e5), (.slice e6 e7 e8), (.bool s321.2.2.2)] ∧ (RT.os 37 (RT.rs (RT.int .i64))).val a8 a6 (.slice e3 e4 e5) s321.2.1 b2 ∧ (RT.os 119 (RT.pr (RT.int .i64) (RT.os 3 (RT.int .i64)))).val a8 a6 (.slice e6 e7 e8) s321.2.2.1 b3) (J := fun s321 a a6 => ∃ (σ : Nat → Value) (e9 : Nat → Prop) (j0 : Option Addr) (j1 : Nat) (j2 : Nat) (j3 : List Nat) (j4 : Option Addr) (j5 : Nat) (j6 : Nat) (j7 : List Nat), a = fr 68 (ovl σ [(0, (.int .i64 n)), (1, (.slice pa0 pn0 pc0)), (2, (.slice pa1 pn1 pc1)), (6, (.pointer (some ⟨a3, 0, none⟩))), (7, (.pointer (some ⟨a2, 0, none⟩))), (9, (.int .i64 s257.1)), (10, (.int .i64 (s257.2.1.length : Int)))]) ∧ Chg [] w a6 ∧ Own (Nw w []) e9 a6 (j3 ++ (j7 ++ (([a2]) ++ (([a3]) ++ [])))) ∧ KeepsF w [] M e9 ∧ (RT.rs (RT.pr (RT.int .i64) (RT.rs (RT.int .i64)))).val e9 a6 (.slice pa0 pn0 pc0) ops ([]) ∧ (RT.rs (RT.rs (RT.int .i64))).val e9 a6 (.slice pa1 pn1 pc1) first ([]) ∧ BoxV a6 a3 89 [(.slice none 0 0), (.slice none 0 0), (.bool false)] ∧ BoxV a6 a2 89 [(.slice j0 j1 j2), (.slice j4 j5 j6), (.bool s321.2.2.2)] ∧ (RT.os 37 (RT.rs (RT.int .i64))).val e9 a6 (.slice j0 j1 j2) s321.2.1 j3 ∧ (RT.os 119 (RT.pr (RT.int .i64) (RT.os 3 (RT.int .i64)))).val e9 a6 (.slice j4 j5 j6) s321.2.2.1 j7) (K := (k_spec_l12Rounds M w)) ?_ FU (0, s257.2.1, s257.2.2.1, s257.2.2.2) o325 _ _ ?_ q1 ?_
    ·rintro s321 o325 a a6 ⟨σ, a8, e3, e4, e5, b2, e6, e7, e8, b3, rfl, hC, hO, hK, h0, h1, a1, a0, g7, g8⟩ hs
     refine c_seq ?_
     refine c_seq ?_
     refine c_mid (I := fun a j8 => ∃ (σ : Nat → Value), a = fr 68 (ovl σ [(0, (.int .i64 n)), (1, (.slice pa0 pn0 pc0)), (2, (.slice pa1 pn1 pc1)), (6, (.pointer (some ⟨a3, 0, none⟩))), (7, (.pointer (some ⟨a2, 0, none⟩))), (9, (.int .i64 s257.1)), (10, (.int .i64 (s257.2.1.length : Int))), (11, (.int .i64 s321.1)), (49, (.bool ((decide (s321.1 < (ops.length : Int))) && (!s321.2.2.2))))]) ∧ Chg [] a6 j8) ?_ ?_
     ·have hMid := Chg.refl [] a6
      refine c_region ?_
      refine pl_val (.int .i64 s321.1) (y_move rfl) ?_
      refine pl_val (.slice pa0 pn0 pc0) (y_move rfl) ?_
      refine pl_val (.int .i64 (ops.length : Int)) (y_len' Sl26 (rs_len h0) rfl) ?_
      refine pl_val (.bool (decide (s321.1 < (ops.length : Int)))) (y_lss rfl rfl) ?_
      refine pl_val (.bool (decide (s321.1 < (ops.length : Int)))) (y_move rfl) ?_
      rcases Bool.eq_false_or_eq_true ((decide (s321.1 < (ops.length : Int)))) with b6 | b6
      ·skip
       refine pl_yes (.pointer (some ⟨a2, 2, none⟩)) (tg := 45) (by kernel_rfl) (congrArg Value.bool b6) (y_faddr rfl Fa89x2) ?_
       refine pl_yes (.bool s321.2.2.2) (tg := 45) (by kernel_rfl) (congrArg Value.bool b6) (y_load rfl ((box_load Ag4 Sz4 a0 [(.slice e3 e4 e5), (.slice e6 e7 e8)] [(.bool s321.2.2.2)] [] rfl rfl (fun _ => rfl)) _ (Chg.refl _ _))) ?_
       refine pl_yes (.bool (!s321.2.2.2)) (tg := 45) (by kernel_rfl) (congrArg Value.bool b6) (y_not rfl) ?_
       refine pl_val (.bool ((decide (s321.1 < (ops.length : Int))) && (!s321.2.2.2))) (y_pick_t (congrArg Value.bool b6) (congrArg Value.bool (by rw [b6]; rfl))) ?_
       refine c_nil ?_
       exact ⟨_, fr_ovl 68 ⟨rfl, rfl, rfl, rfl, rfl, rfl, rfl, rfl, rfl, trivial⟩, hMid⟩
      refine pl_not (tg := 45) (by kernel_rfl) (congrArg Value.bool b6) ?_
      refine pl_not (tg := 45) (by kernel_rfl) (congrArg Value.bool b6) ?_
      refine pl_not (tg := 45) (by kernel_rfl) (congrArg Value.bool b6) ?_
      refine pl_val (.bool ((decide (s321.1 < (ops.length : Int))) && (!s321.2.2.2))) (y_pick_f (congrArg Value.bool b6) (congrArg Value.bool (by rw [b6]; rfl))) ?_
      refine c_nil ?_
      exact ⟨_, fr_ovl 68 ⟨rfl, rfl, rfl, rfl, rfl, rfl, rfl, rfl, rfl, trivial⟩, hMid⟩
     rintro g1 j8 ⟨σ, rfl, f0⟩
     have h0 := h0.ext f0
     have h1 := h1.ext f0
     have a1 := a1.cn f0
     have a0 := a0.cn f0
     have g7 := g7.ext f0
     have g8 := g8.ext f0
     have hC := hC.ext f0
     have hO := hO.ext f0
     rcases bif_some hs with ⟨l2, hs⟩ | ⟨l2, hs⟩
     ·refine c_condT (congrArg Value.bool l2) ?_
      refine wp_skip ?_
      refine c_seq ?_
      refine wp_block ?_
      refine x_start [13, 14] Mx rfl ?_
      have c3 := Chg.drew j8
      generalize World.drew j8 = g3 at c3 ⊢
      have h0 := h0.ext c3
      have h1 := h1.ext c3
      have a1 := a1.cn c3
      have a0 := a0.cn c3
      have g7 := g7.ext c3
      have g8 := g8.ext c3
      have hC := hC.ext c3
      have hO := hO.ext c3
      have hS := Chg.refl [] g3
      refine x_p 0 (.int .i64 n) rfl (by kernel_rfl)  (fun _ => y_move rfl) (fun _ => hS) ?_
      refine x_l 1 (.agg #[(.slice e3 e4 e5), (.slice e6 e7 e8), (.bool s321.2.2.2)]) rfl (by kernel_rfl)  (fun w' hw' => y_load rfl ((box_load Ag89 Sz89 a0 [] [(.slice e3 e4 e5), (.slice e6 e7 e8), (.bool s321.2.2.2)] [] rfl rfl (fun h => nomatch h)) w' hw')) hS ?_
      refine x_p 2 (.slice pa0 pn0 pc0) rfl (by kernel_rfl)  (fun _ => y_move rfl) (fun _ => hS) ?_
      refine x_p 3 (.int .i64 s321.1) rfl (by kernel_rfl)  (fun _ => y_move rfl) (fun _ => hS) ?_
      obtain ⟨x343, q2, hs⟩ := bind_some hs
      obtain ⟨q3, q4, q5, q6⟩ := rs_idx Sl26 Sz64 h0 q2
      refine x_p 4 (.pointer (some ⟨q3, q4, none⟩)) rfl (by kernel_rfl)  (fun _ => q5 _ _ _ _ _ _ _ _ _ rfl rfl) (fun _ => hS) ?_
      obtain ⟨t3, q7, q8⟩ := at_load Ag64 Sz64 (by intro h; cases h) q6
      obtain ⟨t4, rfl, q9⟩ := q8
      obtain ⟨t5, t6, rfl, r0, r1⟩ := pr_open q9
      obtain rfl := int_rel r0
      obtain ⟨r2, r3, r4, rfl, g4⟩ := rs_rel r1
      refine x_l 5 (.agg #[(.int .i64 x343.1), (.slice r2 r3 r4)]) rfl (by kernel_rfl)  (fun w' hw' => y_load rfl (q7 w' hw')) hS ?_
      refine x_p 6 (.int .i64 s321.1) rfl (by kernel_rfl)  (fun _ => y_move rfl) (fun _ => hS) ?_
      refine x_p 7 (.int .i64 (s257.2.1.length : Int)) rfl (by kernel_rfl)  (fun _ => y_move rfl) (fun _ => hS) ?_
      refine x_p 8 (.int .i64 s257.1) rfl (by kernel_rfl)  (fun _ => y_move rfl) (fun _ => hS) ?_
      refine x_p 9 (.slice pa1 pn1 pc1) rfl (by kernel_rfl)  (fun _ => y_move rfl) (fun _ => hS) ?_
      obtain ⟨x347, r5, hs⟩ := bind_some hs
      obtain ⟨r6, r7, r8, r9⟩ := rs_idx Sl47 Sz37 h1 r5
      refine x_p 10 (.pointer (some ⟨r6, r7, none⟩)) rfl (by kernel_rfl)  (fun _ => r8 _ _ _ _ _ _ _ _ _ rfl rfl) (fun _ => hS) ?_
      obtain ⟨t7, s0, f1⟩ := at_load Ag37 Sz37 (fun _ => rfl) r9
      obtain ⟨s1, s2, s3, rfl⟩ := rs_sl f1
      refine x_l 11 (.slice s1 s2 s3) rfl (by kernel_rfl)  (fun w' hw' => y_load rfl (s0 w' hw')) hS ?_
      refine x_p 12 (.int .i64 (x347.length : Int)) rfl (by kernel_rfl)  (fun _ => y_len' Sl37 (rs_len f1) rfl) (fun _ => hS) ?_
      refine x_one (i := 13) (by kernel_rfl) ?_
      have hO := hO.fr1
      have hO := hO.fr1
      have s4 := hO
      have n6 := Own.lend (F := (b2 ++ (b3 ++ ([])))) (R := ([a2]) ++ (([a3]) ++ ([]))) (Own.perm (s4) (by simp))
      obtain ⟨r352, s5, hs⟩ := bind_some hs
      refine xk_call (b := true) rfl  Bd116 rfl (c_spec_l12Round__take1 (M := a8) n (s321.2.1, s321.2.2.1, s321.2.2.2) (x343.1, x343.2) s321.1 (s257.2.1.length : Int) s257.1 (x347.length : Int) g7 g8 g4 n6 n6.fut s5) rfl (fun h => nomatch h) ?_
      rintro _ g9 ⟨l3, l4, l5, f2, l6, l7, l8, f3, rfl, f4, l9, m0, s6⟩
      have hO := hO.fr1
      have hO := hO.fr1
      have hO := hO.perm (R := (b2 ++ (b3 ++ ([]))) ++ (([a2]) ++ (([a3]) ++ ([])))) (by simp)
      have s7 := Own.pastL hO f4 s6
      have hK := hK.trans (show KeepsF w [] a8 (PastL a8 (b2 ++ (b3 ++ ([]))) g3 g9 (f2 ++ (f3 ++ ([])))) from KeepsF.pastL hC.size (fun g hg => (hO.inN g hg)))
      have h0 := h0.mt f4 hO same_
      have h1 := h1.mt f4 hO same_
      have a1 := a1.ap f4 hO same_ (mem_r (mem_l (List.mem_singleton.2 rfl)))
      have a0 := a0.ap f4 hO same_ (mem_l (List.mem_singleton.2 rfl))
      have g4 := g4.mt f4 hO same_
      have f1 := f1.mt f4 hO same_
      have hC := hC.st f4 hO same_
      have hO := s7
      have h0 := h0.sub (M' := (PastL a8 (b2 ++ (b3 ++ ([]))) g3 g9 (f2 ++ (f3 ++ ([]))))) (fun g hg => .inl hg.1)
      have h1 := h1.sub (M' := (PastL a8 (b2 ++ (b3 ++ ([]))) g3 g9 (f2 ++ (f3 ++ ([]))))) (fun g hg => .inl hg.1)
      have g4 := g4.sub (M' := (PastL a8 (b2 ++ (b3 ++ ([]))) g3 g9 (f2 ++ (f3 ++ ([]))))) (fun g hg => .inl hg.1)
      have f1 := f1.sub (M' := (PastL a8 (b2 ++ (b3 ++ ([]))) g3 g9 (f2 ++ (f3 ++ ([]))))) (fun g hg => .inl hg.1)
      have hO := hO.perm (R := f2 ++ (f3 ++ (([a2]) ++ (([a3]) ++ ([]))))) (by simp)
      refine x_one (i := 14) (by kernel_rfl) ?_
      obtain ⟨n7, s8, c4, m1⟩ := box_store (P := Try.prog) a0 [] [(.slice e3 e4 e5), (.slice e6 e7 e8), (.bool s321.2.2.2)] [] [(.slice l3 l4 l5), (.slice l6 l7 l8), (.bool r352.2.2)] rfl rfl (by intro u hu; simp only [List.mem_cons, List.not_mem_nil, or_false] at hu; rcases hu with rfl | rfl | rfl <;> rfl)
      refine xk_skip (w' := n7) (b := true) rfl (ys_store rfl rfl (s8 _ _ rfl Sz89)) rfl (fun h => nomatch h) ?_
      have hO := hO.fr2
      have h0 := h0.mt c4 hO same_
      have h1 := h1.mt c4 hO same_
      have a1 := a1.ap c4 hO same_ (mem_r (mem_r (mem_l (List.mem_singleton.2 rfl))))
      have g4 := g4.mt c4 hO same_
      have f1 := f1.mt c4 hO same_
      have l9 := l9.ma c4 hO same_ (fun _ e => (mem_l (e)))
      have m0 := m0.ma c4 hO same_ (fun _ e => (mem_r (mem_l (e))))
      have hC := hC.st c4 hO same_
      have hO := hO.ext c4
      have m1 : BoxV n7 a2 89 [(.slice l3 l4 l5), (.slice l6 l7 l8), (.bool r352.2.2)] := m1
      refine x_end (by kernel_rfl) ?_
      clear hS
      refine c_region ?_
      refine pl_val (.int .i64 s321.1) (y_move rfl) ?_
      refine pl_val (.int .i64 (w64 (s321.1 + 1))) (y_add rfl rfl) ?_
      refine pl_val (.int .i64 (w64 (s321.1 + 1))) (y_assign rfl) ?_
      refine c_nil ?_
      cases hs
      have hO := hO.fr3
      have hO := hO.fr1
      have hO := hO.fr3
      have hO := hO.fr3
      exact ⟨_, (PastL a8 (b2 ++ (b3 ++ ([]))) g3 g9 (f2 ++ (f3 ++ ([])))), l3, l4, l5, f2, l6, l7, l8, f3, fr_ovl 68 ⟨rfl, rfl, rfl, rfl, rfl, rfl, rfl, rfl, trivial⟩, hC, hO, hK, h0, h1, a1, m1, l9, m0⟩
     refine c_condF (congrArg Value.bool l2) ?_
     refine wp_exit ?_
     cases hs
     have hO := hO.fr3
     have hO := hO.fr3
     have hO := hO.fr3
     have hO := hO.fr3
     exact ⟨rfl, _, a8, e3, e4, e5, b2, e6, e7, e8, b3, fr_ovl 68 ⟨rfl, rfl, rfl, rfl, rfl, rfl, rfl, trivial⟩, hC, hO, hK, h0, h1, a1, a0, g7, g8⟩
    ·skip
     have hO := hO.fr3
     have hO := hO.fr3
     have hO := hO.fr3
     have hO := hO.fr3
     exact ⟨_, c2, b8, b9, c0, h5, d3, d4, d5, h6, fr_ovl 68 ⟨rfl, rfl, rfl, rfl, rfl, rfl, rfl, rfl, trivial⟩, hC, hO, hK, h0, h1, a1, a0, g6, i9⟩
    cases o325 with
    | nx _ => exact True.intro
    | rt r_ =>
     have hs := after_rt hs
     intro g1 j9 hK
     cases hs
     exact hK
    | br s321 =>
     have hs := after_br hs
     rintro g1 a6 ⟨σ, e9, j0, j1, j2, j3, j4, j5, j6, j7, rfl, hC, hO, hK, h0, h1, a1, a0, s9, t0⟩
     refine c_region ?_
     refine pl_val (.int .i64 (s257.2.1.length : Int)) (y_move rfl) ?_
     refine pl_val (.int .i64 (s257.2.1.length : Int)) (y_assign rfl) ?_
     refine c_nil ?_
     cases hs
     have hO := hO.fr3
     have hO := hO.fr3
     have hO := hO.fr3
     have hO := hO.fr3
     exact ⟨_, e9, j0, j1, j2, j3, j4, j5, j6, j7, fr_ovl 68 ⟨rfl, rfl, rfl, rfl, rfl, rfl, trivial⟩, hC, hO, hK, h0, h1, a1, a0, s9, t0⟩
   refine c_condF (congrArg Value.bool l1) ?_
   refine wp_exit ?_
   cases hs
   have hO := hO.fr3
   have hO := hO.fr3
   have hO := hO.fr3
   have hO := hO.fr3
   exact ⟨rfl, _, c2, b8, b9, c0, h5, d3, d4, d5, h6, fr_ovl 68 ⟨rfl, rfl, trivial⟩, hC, hO, hK, h0, h1, a1, a0, g6, i9⟩
  ·skip
   have hO := hO.fr3
   have hO := hO.fr3
   have hO := hO.fr3
   have hO := hO.fr3
   exact ⟨_, d1, h8, h9, i0, i1, i2, i3, i4, i5, fr_ovl 68 ⟨rfl, rfl, rfl, rfl, rfl, rfl, trivial⟩, hC, hO, hK, h0, h1, a1, a0, p8, p9⟩
  cases o261 with
  | nx _ => exact True.intro
  | rt r_ =>
   have hs := after_rt hs
   intro g1 j9 hK
   cases hs
   exact hK
  | br s257 =>
   have hs := after_br hs
   rintro g1 a5 ⟨σ, g2, d6, d7, d8, i6, d9, e0, e1, i7, rfl, hC, hO, hK, h0, h1, a1, a0, m2, m3⟩
   refine c_sr ?_
   refine pl_val (.agg #[(.slice d6 d7 d8), (.slice d9 e0 e1), (.bool s257.2.2.2)]) (y_load rfl ((box_load Ag89 Sz89 a0 [] [(.slice d6 d7 d8), (.slice d9 e0 e1), (.bool s257.2.2.2)] [] rfl rfl (fun h => nomatch h)) _ (Chg.refl _ _))) ?_
   obtain ⟨n8, t1, g5, m4⟩ := box_store (P := Try.prog) a1 [] [(.slice none 0 0), (.slice none 0 0), (.bool false)] [] [(.slice d6 d7 d8), (.slice d9 e0 e1), (.bool s257.2.2.2)] rfl rfl (by intro u hu; simp only [List.mem_cons, List.not_mem_nil, or_false] at hu; rcases hu with rfl | rfl | rfl <;> rfl)
   refine pl_skip (w' := n8) (ys_store rfl rfl (t1 _ _ rfl Sz89)) ?_
   have hO := hO.fr3
   have h0 := h0.mt g5 hO same_
   have h1 := h1.mt g5 hO same_
   have a0 := a0.ap g5 hO same_ (mem_r (mem_r (mem_l (List.mem_singleton.2 rfl))))
   have m2 := m2.ma g5 hO same_ (fun _ e => (mem_l (e)))
   have m3 := m3.ma g5 hO same_ (fun _ e => (mem_r (mem_l (e))))
   have hC := hC.st g5 hO same_
   have hO := hO.ext g5
   have m4 : BoxV n8 a3 89 [(.slice d6 d7 d8), (.slice d9 e0 e1), (.bool s257.2.2.2)] := m4
   refine c_nil ?_
   refine wp_ret ?_
   cases hs
   have hO := hO.drop
   have hO := hO.fr2
   have hO := hO.drop
   have hO := hO.fr1
   have hO := hO.fr1
   exact ⟨_, a3, d6, d7, d8, i6, d9, e0, e1, i7, fr_ovl 68 ⟨rfl, trivial⟩, m4, hC, (KeepsF.out hK hO.allM m2), (KeepsF.out hK hO.allM m3), hO.top⟩

theorem Bd57 : Bodied Try.prog 57 := bodied Try.func57 (by kernel_rfl) rfl

theorem Bd108 : Bodied Try.prog 108 := bodied Try.func108 (by kernel_rfl) rfl

def k_spec_l12Clone (M : Nat → Prop) (w0 : World) (r : ((List (List Int)) × (List (Int × (List Int))) × Bool)) (a : Act) (w : World) : Prop :=
  ∃ (σ : Nat → Value) (rg4 : Nat) (ra0 : Option Addr) (rn0 rc0 : Nat) (rf0 : List Nat) (ra1 : Option Addr) (rn1 rc1 : Nat) (rf1 : List Nat), a = fr 27 (ovl σ [(4, (.pointer (some ⟨rg4, 0, none⟩)))]) ∧ BoxV w rg4 89 [(.slice ra0 rn0 rc0), (.slice ra1 rn1 rc1), (.bool r.2.2)] ∧ Chg [] w0 w ∧ (RT.os 37 (RT.rs (RT.int .i64))).val (PastL M [] w0 w (rf0 ++ (rf1 ++ ([])))) w (.slice ra0 rn0 rc0) r.1 rf0 ∧ (RT.os 119 (RT.pr (RT.int .i64) (RT.os 3 (RT.int .i64)))).val (PastL M [] w0 w (rf0 ++ (rf1 ++ ([])))) w (.slice ra1 rn1 rc1) r.2.1 rf1 ∧ Own (Nw w0 []) (fun _ => True) w (rf0 ++ (rf1 ++ ([])))
def s_spec_l12Clone (a_ : Int × (List (Int × (List Int)))) (k : Int) : Option (((List (List Int)) × (List (Int × (List Int))) × Bool)) :=
  (forC (S := (List (List Int))) (R := ((List (List Int)) × (List (Int × (List Int))) × Bool)) (fun k18 s16 =>
  (s_spec_l12Projection a_.1 k k18).bind fun r27 =>
  (app s16 ([r27])).bind fun y32 =>
  some (.nx y32)) 0 k ([])).bind fun o20 => after o20 (fun r_ => some r_) (fun s16 =>
  (s_spec_l12Rounds a_.1 a_.2 s16).bind fun r37 =>
  some (r37.1, r37.2.1, r37.2.2))
set_option maxHeartbeats 4000000 in
theorem c_spec_l12Clone {M : Nat → Prop} {w : World} {pa0 : Option Addr} {pn0 pc0 : Nat} (a_ : Int × (List (Int × (List Int)))) (k : Int) (h0 : (RT.rs (RT.pr (RT.int .i64) (RT.rs (RT.int .i64)))).val M w (.slice pa0 pn0 pc0) a_.2 ([])) (hM : ∀ g, w.heap.size ≤ g → M g) {r : ((List (List Int)) × (List (Int × (List Int))) × Bool)} (hs : s_spec_l12Clone a_ k = some r) :
    Gives Try.prog 78 [(.agg #[(.int .i64 a_.1), (.slice pa0 pn0 pc0)]), (.int .i64 k)] w (fun v w' => ∃ (ra0 : Option Addr) (rn0 rc0 : Nat) (rf0 : List Nat) (ra1 : Option Addr) (rn1 rc1 : Nat) (rf1 : List Nat), v = (.agg #[(.slice ra0 rn0 rc0), (.slice ra1 rn1 rc1), (.bool r.2.2)]) ∧ Chg [] w w' ∧ (RT.os 37 (RT.rs (RT.int .i64))).val (PastL M [] w w' (rf0 ++ (rf1 ++ ([])))) w' (.slice ra0 rn0 rc0) r.1 rf0 ∧ (RT.os 119 (RT.pr (RT.int .i64) (RT.os 3 (RT.int .i64)))).val (PastL M [] w w' (rf0 ++ (rf1 ++ ([])))) w' (.slice ra1 rn1 rc1) r.2.1 rf1 ∧ Own (Nw w []) (fun _ => True) w' (rf0 ++ (rf1 ++ ([])))) := by
 refine calls_fr Try.func78 rfl Try.ntmps78 (Nat.le_of_ble_eq_true rfl) ?_
 have hO := Own.start (N := Nw w []) hM Nw.fut
 have hC := Chg.refl [] w
 unfold s_spec_l12Clone at hs
 refine wp_mono (Q := KPost (k_spec_l12Clone M w r)) ?_ (fun e a g1 h => ?_)
 rotate_left
 ·cases e
  case ret =>
   obtain ⟨σ, rg4, ra0, rn0, rc0, rf0, ra1, rn1, rc1, rf1, rfl, hbrg4, hrest⟩ := h
   exact ret1x Try.results78 (res_cell rfl (box_load Ag89 Sz89 hbrg4 [] _ [] rfl rfl (fun h => nomatch h))) ⟨ra0, rn0, rc0, rf0, ra1, rn1, rc1, rf1, rfl, hrest⟩
  all_goals exact (h : False).elim
 refine c_sr ?_
 obtain ⟨e7, a3, g2, e8, c8, a0⟩ := new_block w [(.int .i64 a_.1), (.slice pa0 pn0 pc0)] 30
 refine pl_val (w' := e7) (.pointer (some ⟨a3, 0, none⟩)) (y_box rfl (by rw [g2, e8]; kernel_rfl)) ?_
 have h0 := h0.ext c8
 have hC := hC.ext c8
 have hO := hO.new1 c8 e8 a0.lt
 obtain ⟨e9, a4, g3, f0, c1, a2⟩ := new_block e7 [(.slice none 0 0), (.slice none 0 0), (.bool false)] 89
 refine pl_val (w' := e9) (.pointer (some ⟨a4, 0, none⟩)) (y_alloc (by rw [g3, f0]; kernel_rfl)) ?_
 have h0 := h0.ext c1
 have a0 := a0.cn c1
 have hC := hC.ext c1
 have hO := hO.new1 c1 f0 a2.lt
 refine c_nil ?_
 refine c_sr ?_
 obtain ⟨f1, b0, g4, f2, b7, f3⟩ := new_block e9 [] 37
 refine pl_val (w' := f1) (.slice (some ⟨b0, 0, none⟩) 0 0) (y_bslice rfl (by rw [g4, f2]; kernel_rfl)) ?_
 have h0 := h0.ext b7
 have a0 := a0.cn b7
 have a2 := a2.cn b7
 have hC := hC.ext b7
 have hO := hO.new1 b7 f2 f3.lt
 have c9 := os_of_box (r := (RT.os 3 (RT.int .i64))) (M := M) (css := []) (fps := []) (xs := ([] : List (List Int))) f3 trivial (Nat.zero_le _) (List.nodup_cons.2 ⟨(fun h => nomatch h), List.nodup_nil⟩)
 have c9 : (RT.os 37 (RT.os 3 (RT.int .i64))).val M f1 (.slice (some ⟨b0, 0, none⟩) 0 0) [] [b0] := c9
 refine pl_val (.slice (some ⟨b0, 0, none⟩) 0 0) (y_assign rfl) ?_
 refine c_nil ?_
 refine c_seq ?_
 refine c_sr ?_
 refine pl_val (.int .i64 0) (y_assign rfl) ?_
 refine c_nil ?_
 obtain ⟨o20, g5, hs⟩ := bind_some hs
 refine wp_block ?_
 refine wp_forC (id := 0) k (I := fun k18 s16 a a1 => ∃ (σ : Nat → Value) (b1 : Option Addr) (b2 : Nat) (b3 : Nat) (a6 : List Nat), a = fr 27 (ovl σ [(1, (.int .i64 k)), (2, (.pointer (some ⟨a3, 0, none⟩))), (4, (.pointer (some ⟨a4, 0, none⟩))), (5, (.slice b1 b2 b3)), (6, (.int .i64 k18))]) ∧ Chg [] w a1 ∧ Own (Nw w []) M a1 (a6 ++ (([a4]) ++ (([a3]) ++ []))) ∧ (RT.rs (RT.pr (RT.int .i64) (RT.rs (RT.int .i64)))).val M a1 (.slice pa0 pn0 pc0) a_.2 ([]) ∧ BoxV a1 a3 30 [(.int .i64 a_.1), (.slice pa0 pn0 pc0)] ∧ BoxV a1 a4 89 [(.slice none 0 0), (.slice none 0 0), (.bool false)] ∧ (RT.os 37 (RT.os 3 (RT.int .i64))).val M a1 (.slice b1 b2 b3) s16 a6) (J := fun s16 a a1 => ∃ (σ : Nat → Value) (c2 : Option Addr) (c3 : Nat) (c4 : Nat) (d0 : List Nat), a = fr 27 (ovl σ [(2, (.pointer (some ⟨a3, 0, none⟩))), (4, (.pointer (some ⟨a4, 0, none⟩))), (5, (.slice c2 c3 c4))]) ∧ Chg [] w a1 ∧ Own (Nw w []) M a1 (d0 ++ (([a4]) ++ (([a3]) ++ []))) ∧ (RT.rs (RT.pr (RT.int .i64) (RT.rs (RT.int .i64)))).val M a1 (.slice pa0 pn0 pc0) a_.2 ([]) ∧ BoxV a1 a3 30 [(.int .i64 a_.1), (.slice pa0 pn0 pc0)] ∧ BoxV a1 a4 89 [(.slice none 0 0), (.slice none 0 0), (.bool false)] ∧ (RT.os 37 (RT.os 3 (RT.int .i64))).val M a1 (.slice c2 c3 c4) s16 d0) (K := (k_spec_l12Clone M w)) ?_ ?_ 0 ([]) o20 _ _ ?_ g5 ?_
 ·rintro k18 s16 a a1 ⟨σ, b1, b2, b3, a6, rfl, hC, hO, h0, a0, a2, a5⟩ hlt
  refine c_seq ?_
  refine c_sr ?_
  refine pl_val (.int .i64 k18) (y_move rfl) ?_
  refine pl_val (.int .i64 k) (y_move rfl) ?_
  refine pl_val (.bool (decide (k18 < k))) (y_lss rfl rfl) ?_
  refine c_nil ?_
  refine c_condF (congrArg Value.bool (decide_eq_false hlt)) ?_
  refine wp_exit ?_
  have hO := hO.fr2
  have hO := hO.fr2
  have hO := hO.fr2
  exact ⟨rfl, _, b1, b2, b3, a6, fr_ovl 27 ⟨rfl, rfl, rfl, trivial⟩, hC, hO, h0, a0, a2, a5⟩
 ·rintro k18 s16 o20 a a1 ⟨σ, b1, b2, b3, a6, rfl, hC, hO, h0, a0, a2, a5⟩ hlt hw hs
  refine c_seq ?_
  refine c_sr ?_
  refine pl_val (.int .i64 k18) (y_move rfl) ?_
  refine pl_val (.int .i64 k) (y_move rfl) ?_
  refine pl_val (.bool (decide (k18 < k))) (y_lss rfl rfl) ?_
  refine c_nil ?_
  refine c_condT (congrArg Value.bool (decide_eq_true hlt)) ?_
  refine wp_skip ?_
  refine c_seq ?_
  refine wp_block ?_
  refine c_region ?_
  refine pl_val (.slice b1 b2 b3) (y_move rfl) ?_
  refine pl_val (.pointer (some ⟨a3, 0, none⟩)) (y_faddr rfl Fa30x0) ?_
  refine pl_val (.int .i64 a_.1) (y_load rfl ((box_load Ag3 Sz3 a0 [] [(.int .i64 a_.1)] [(.slice pa0 pn0 pc0)] rfl rfl (fun _ => rfl)) _ (Chg.refl _ _))) ?_
  refine pl_val (.int .i64 k) (y_move rfl) ?_
  refine pl_val (.int .i64 k18) (y_move rfl) ?_
  obtain ⟨r27, g6, hs⟩ := bind_some hs
  refine pl_call Bd57 rfl (c_spec_l12Projection (M := M) a_.1 k k18  hO.fut g6) ?_
  rintro _ g7 ⟨f4, f5, f6, c5, rfl, b4, d1, g8⟩
  have h0 := h0.ext b4
  have a0 := a0.cn b4
  have a2 := a2.cn b4
  have a5 := a5.ext b4
  have hC := hC.ext b4
  have hO := Own.join0 hO b4 g8
  have hO := hO.perm (R := c5 ++ (a6 ++ (([a4]) ++ (([a3]) ++ ([]))))) (by simp)
  obtain ⟨f7, c6, g9, f8, a7, f9⟩ := new_block g7 [(.slice f4 f5 f6)] 37
  refine pl_val (w' := f7) (.slice (some ⟨c6, 0, none⟩) 1 1) (y_bslice rfl (by rw [g9, f8]; kernel_rfl)) ?_
  have h0 := h0.ext a7
  have a0 := a0.cn a7
  have a2 := a2.cn a7
  have a5 := a5.ext a7
  have d1 := d1.ext a7
  have hC := hC.ext a7
  have hO := hO.new1 a7 f8 f9.lt
  have hO := hO.perm (R := (c6 :: ((c5) ++ ([]))) ++ (a6 ++ (([a4]) ++ (([a3]) ++ ([]))))) (by simp)
  have h1 := hO.nd
  have d2 := os_of_box (r := (RT.os 3 (RT.int .i64))) (M := M) (css := [[(.slice f4 f5 f6)]]) (fps := [(c5 : List Nat)]) (xs := ([r27] : List (List Int))) f9 ⟨(os_unval d1), trivial⟩ (Nat.le_of_ble_eq_true rfl) h1
  have d2 : (RT.os 37 (RT.os 3 (RT.int .i64))).val M f7 (.slice (some ⟨c6, 0, none⟩) 1 1) [r27] (c6 :: ((c5) ++ ([]))) := d2
  obtain ⟨y32, h2, hs⟩ := bind_some hs
  have hO := hO.fr1
  obtain ⟨d3, d4, d5, h3, h4, h5, b8, h6, d6⟩ := app_os Rw47 h2 a5 d2 hO.inM (fun g hg hq => hO.apart g hq (mem_l hg))
  have c7 := os_block a5
  refine pl_val (w' := h3) (.slice d3 d4 d5) (y_append rfl rfl (h5 _)) ?_
  have hO := hO.fr1
  have hO := hO.fr1
  have h0 := h0.mt b8 hO c7
  have a0 := a0.ap b8 hO c7 (mem_r (mem_r (mem_l (List.mem_singleton.2 rfl))))
  have a2 := a2.ap b8 hO c7 (mem_r (mem_l (List.mem_singleton.2 rfl)))
  have hC := hC.st b8 hO c7
  have hO := hO.eat b8 h6 (os_nodup d6) d6.fpl
  refine pl_val (.slice d3 d4 d5) (y_assign rfl) ?_
  refine c_nil ?_
  refine c_region ?_
  refine pl_val (.int .i64 k18) (y_move rfl) ?_
  refine pl_val (.int .i64 (w64 (k18 + 1))) (y_add rfl rfl) ?_
  refine pl_val (.int .i64 (w64 (k18 + 1))) (y_assign rfl) ?_
  refine c_nil ?_
  cases hs
  have hO := hO.fr2
  have hO := hO.fr2
  have hO := hO.fr2
  exact ⟨_, d3, d4, d5, h4, fr_ovl 27 ⟨rfl, rfl, rfl, rfl, congrArg (Value.int .i64) hw, trivial⟩, hC, hO, h0, a0, a2, d6⟩
 ·skip
  have hO := hO.fr2
  have hO := hO.fr2
  have hO := hO.fr2
  exact ⟨_, (some ⟨b0, 0, none⟩), 0, 0, ([b0]), fr_ovl 27 ⟨rfl, rfl, rfl, rfl, rfl, trivial⟩, hC, hO, h0, a0, a2, c9⟩
 cases o20 with
 | nx _ => exact True.intro
 | rt r_ =>
  have hs := after_rt hs
  intro h7 g1 hK
  cases hs
  exact hK
 | br s16 =>
  have hs := after_br hs
  rintro h7 a1 ⟨σ, c2, c3, c4, d0, rfl, hC, hO, h0, a0, a2, h8⟩
  refine c_sr ?_
  refine pl_val (.pointer (some ⟨a3, 0, none⟩)) (y_faddr rfl Fa30x0) ?_
  refine pl_val (.int .i64 a_.1) (y_load rfl ((box_load Ag3 Sz3 a0 [] [(.int .i64 a_.1)] [(.slice pa0 pn0 pc0)] rfl rfl (fun _ => rfl)) _ (Chg.refl _ _))) ?_
  refine pl_val (.pointer (some ⟨a3, 1, none⟩)) (y_faddr rfl Fa30x1) ?_
  refine pl_val (.slice pa0 pn0 pc0) (y_load rfl ((box_load Ag26 Sz26 a0 [(.int .i64 a_.1)] [(.slice pa0 pn0 pc0)] [] rfl rfl (fun _ => rfl)) _ (Chg.refl _ _))) ?_
  refine pl_val (.slice c2 c3 c4) (y_move rfl) ?_
  obtain ⟨b5, i5, h9, i0, hO, a8⟩ := frzF_own (Frz.os (Frz.os Frz.int)) h8 hO
  have h0 := h0.sub (M' := b5) h9
  have hK := i0
  obtain ⟨r37, i1, hs⟩ := bind_some hs
  refine pl_call Bd108 rfl (c_spec_l12Rounds (M := b5) a_.1 a_.2 s16 h0 a8 hO.fut i1) ?_
  rintro _ d7 ⟨d8, d9, e0, b9, e1, e2, e3, c0, rfl, b6, e4, e5, i2⟩
  have hO := hO.perm (R := [] ++ (([a4]) ++ (([a3]) ++ ([])))) (by simp)
  have i3 := Own.pastL hO b6 i2
  have hK := hK.trans (show KeepsF w [] b5 (PastL b5 [] a1 d7 (b9 ++ (c0 ++ ([])))) from KeepsF.pastL hC.size (fun g hg => (hO.inN g hg)))
  have h0 := h0.ext b6
  have a0 := a0.cn b6
  have a2 := a2.cn b6
  have a8 := a8.ext b6
  have hC := hC.ext b6
  have hO := i3
  have h0 := h0.sub (M' := (PastL b5 [] a1 d7 (b9 ++ (c0 ++ ([]))))) (fun g hg => .inl hg.1)
  have a8 := a8.sub (M' := (PastL b5 [] a1 d7 (b9 ++ (c0 ++ ([]))))) (fun g hg => .inl hg.1)
  have hO := hO.perm (R := b9 ++ (c0 ++ (([a4]) ++ (([a3]) ++ ([]))))) (by simp)
  obtain ⟨g0, i4, a9, e6⟩ := box_store (P := Try.prog) a2 [] [(.slice none 0 0), (.slice none 0 0), (.bool false)] [] [(.slice d8 d9 e0), (.slice e1 e2 e3), (.bool r37.2.2)] rfl rfl (by intro u hu; simp only [List.mem_cons, List.not_mem_nil, or_false] at hu; rcases hu with rfl | rfl | rfl <;> rfl)
  refine pl_skip (w' := g0) (ys_store rfl rfl (i4 _ _ rfl Sz89)) ?_
  have hO := hO.fr2
  have h0 := h0.mt a9 hO same_
  have a0 := a0.ap a9 hO same_ (mem_r (mem_r (mem_l (List.mem_singleton.2 rfl))))
  have a8 := a8.mt a9 hO same_
  have e4 := e4.ma a9 hO same_ (fun _ e => (mem_l (e)))
  have e5 := e5.ma a9 hO same_ (fun _ e => (mem_r (mem_l (e))))
  have hC := hC.st a9 hO same_
  have hO := hO.ext a9
  have e6 : BoxV g0 a4 89 [(.slice d8 d9 e0), (.slice e1 e2 e3), (.bool r37.2.2)] := e6
  refine c_nil ?_
  refine wp_ret ?_
  cases hs
  have hO := hO.drop
  have hO := hO.fr2
  have hO := hO.drop
  have hO := hO.fr1
  have hO := hO.fr1
  exact ⟨_, a4, d8, d9, e0, b9, e1, e2, e3, c0, fr_ovl 27 ⟨rfl, trivial⟩, e6, hC, (KeepsF.out hK hO.allM e4), (KeepsF.out hK hO.allM e5), hO.top⟩

theorem Bd77 : Bodied Try.prog 77 := bodied Try.func77 (by kernel_rfl) rfl

theorem Bd78 : Bodied Try.prog 78 := bodied Try.func78 (by kernel_rfl) rfl

def k_spec_l17Clone (M : Nat → Prop) (w0 : World) (r : (List (List Int)) × Bool) (a : Act) (w : World) : Prop :=
  ∃ (σ : Nat → Value) (ra0 : Option Addr) (rn0 rc0 : Nat), a = fr 21 (ovl σ [(2, (.slice ra0 rn0 rc0)), (3, (.bool r.2))]) ∧ Chg [] w0 w ∧ (RT.rs (RT.rs (RT.int .i64))).val (Past M w0 w) w (.slice ra0 rn0 rc0) r.1 []
def s_spec_l17Clone (a_ : Int × (List (Int × (List Int)))) : Option ((List (List Int)) × Bool) :=
  ((s_spec_l2Good (a_.1, a_.2)).bind fun r7 =>
  (bif (!r7) then some true else some (decide (3 < a_.1)))).bind fun s3 =>
  (bif s3 then some ([], false) else (s_spec_l12Clone (a_.1, a_.2) 3).bind fun r14 =>
  some (r14.1, (!r14.2.2)))
set_option maxHeartbeats 4000000 in
theorem c_spec_l17Clone {M : Nat → Prop} {w : World} {pa0 : Option Addr} {pn0 pc0 : Nat} (a_ : Int × (List (Int × (List Int)))) (h0 : (RT.rs (RT.pr (RT.int .i64) (RT.rs (RT.int .i64)))).val M w (.slice pa0 pn0 pc0) a_.2 ([])) (hM : ∀ g, w.heap.size ≤ g → M g) {r : (List (List Int)) × Bool} (hs : s_spec_l17Clone a_ = some r) :
    Gives Try.prog 38 [(.agg #[(.int .i64 a_.1), (.slice pa0 pn0 pc0)])] w (fun v w' => ∃ (ra0 : Option Addr) (rn0 rc0 : Nat), v = (.tuple #[(.slice ra0 rn0 rc0), (.bool r.2)]) ∧ Chg [] w w' ∧ (RT.rs (RT.rs (RT.int .i64))).val (Past M w w') w' (.slice ra0 rn0 rc0) r.1 []) := by
 refine calls_fr Try.func38 rfl Try.ntmps38 (Nat.le_of_ble_eq_true rfl) ?_
 have hO := Own.start (N := Nw w []) hM Nw.fut
 have hC := Chg.refl [] w
 unfold s_spec_l17Clone at hs
 refine wp_mono (Q := KPost (k_spec_l17Clone M w r)) ?_ (fun e a f5 h => ?_)
 rotate_left
 ·cases e
  case ret =>
   obtain ⟨σ, ra0, rn0, rc0, rfl, hrest⟩ := h
   exact ret2x Try.results38 (res_tmp rfl) (res_tmp rfl) ⟨ra0, rn0, rc0, rfl, hrest⟩
  all_goals exact (h : False).elim
 refine c_sr ?_
 obtain ⟨c3, b1, d6, d0, c4, a0⟩ := new_block w [(.int .i64 a_.1), (.slice pa0 pn0 pc0)] 30
 refine pl_val (w' := c3) (.pointer (some ⟨b1, 0, none⟩)) (y_box rfl (by rw [d6, d0]; kernel_rfl)) ?_
 have h0 := h0.ext c4
 have hC := hC.ext c4
 have hO := hO.new1 c4 d0 a0.lt
 refine pl_val (.slice none 0 0) (y_assign rfl) ?_
 refine pl_val (.bool false) (y_assign rfl) ?_
 refine c_nil ?_
 refine c_seq ?_
 refine c_seq ?_
 obtain ⟨s3, d7, hs⟩ := bind_some hs
 refine c_mid (I := fun a b2 => ∃ (σ : Nat → Value), a = fr 21 (ovl σ [(1, (.pointer (some ⟨b1, 0, none⟩))), (2, (.slice none 0 0)), (3, (.bool false)), (12, (.bool s3))]) ∧ Chg [] c3 b2) ?_ ?_
 ·replace hs := d7
  have hMid := Chg.refl [] c3
  refine c_region ?_
  refine pl_val (.agg #[(.int .i64 a_.1), (.slice pa0 pn0 pc0)]) (y_load rfl ((box_load Ag30 Sz30 a0 [] [(.int .i64 a_.1), (.slice pa0 pn0 pc0)] [] rfl rfl (fun h => nomatch h)) _ (Chg.refl _ _))) ?_
  obtain ⟨r7, d8, hs⟩ := bind_some hs
  refine pl_call Bd77 rfl (c_spec_l2Good (M := M) (a_.1, a_.2) h0 hO.fut d8) ?_
  rintro _ f6 ⟨rfl, b3⟩
  have h0 := h0.ext b3
  have a0 := a0.cn b3
  have hMid := hMid.ext b3
  have hC := hC.ext b3
  have hO := hO.ext b3
  refine pl_val (.bool (!r7)) (y_not rfl) ?_
  refine pl_val (.bool (!r7)) (y_move rfl) ?_
  rcases bif_some hs with ⟨a1, hs⟩ | ⟨a1, hs⟩
  ·skip
   refine pl_not (tg := 8) (by kernel_rfl) (congrArg Value.bool a1) ?_
   refine pl_not (tg := 8) (by kernel_rfl) (congrArg Value.bool a1) ?_
   refine pl_not (tg := 8) (by kernel_rfl) (congrArg Value.bool a1) ?_
   refine pl_val (.bool true) (y_pick_t (congrArg Value.bool a1) rfl) ?_
   refine c_nil ?_
   cases hs
   exact ⟨_, fr_ovl 21 ⟨rfl, rfl, rfl, rfl, trivial⟩, hMid⟩
  refine pl_yes (.pointer (some ⟨b1, 0, none⟩)) (tg := 8) (by kernel_rfl) (congrArg Value.bool a1) (y_faddr rfl Fa30x0) ?_
  refine pl_yes (.int .i64 a_.1) (tg := 8) (by kernel_rfl) (congrArg Value.bool a1) (y_load rfl ((box_load Ag3 Sz3 a0 [] [(.int .i64 a_.1)] [(.slice pa0 pn0 pc0)] rfl rfl (fun _ => rfl)) _ (Chg.refl _ _))) ?_
  refine pl_yes (.bool (decide (3 < a_.1))) (tg := 8) (by kernel_rfl) (congrArg Value.bool a1) (y_gtr rfl rfl) ?_
  refine pl_val (.bool (decide (3 < a_.1))) (y_pick_f (congrArg Value.bool a1) rfl) ?_
  refine c_nil ?_
  cases hs
  exact ⟨_, fr_ovl 21 ⟨rfl, rfl, rfl, rfl, trivial⟩, hMid⟩
 rintro f7 b2 ⟨σ, rfl, b5⟩
 have h0 := h0.ext b5
 have a0 := a0.cn b5
 have hC := hC.ext b5
 have hO := hO.ext b5
 rcases bif_some hs with ⟨c5, hs⟩ | ⟨c5, hs⟩
 ·refine c_condT (congrArg Value.bool c5) ?_
  refine c_sr ?_
  obtain ⟨d1, b4, d9, d2, b6, d3⟩ := new_block b2 [] 37
  refine pl_val (w' := d1) (.slice (some ⟨b4, 0, none⟩) 0 0) (y_bslice rfl (by rw [d9, d2]; kernel_rfl)) ?_
  have h0 := h0.ext b6
  have a0 := a0.cn b6
  have hC := hC.ext b6
  have hO := hO.new1 b6 d2 d3.lt
  have c6 := os_of_box (r := (RT.os 3 (RT.int .i64))) (M := M) (css := []) (fps := []) (xs := ([] : List (List Int))) d3 trivial (Nat.zero_le _) (List.nodup_cons.2 ⟨(fun h => nomatch h), List.nodup_nil⟩)
  have c6 : (RT.os 37 (RT.os 3 (RT.int .i64))).val M d1 (.slice (some ⟨b4, 0, none⟩) 0 0) [] [b4] := c6
  refine pl_val (.slice (some ⟨b4, 0, none⟩) 0 0) (y_assign rfl) ?_
  refine pl_val (.bool false) (y_assign rfl) ?_
  refine c_nil ?_
  refine wp_ret ?_
  cases hs
  obtain ⟨e0, f8, e1, e2, hO, e3⟩ := frz_own (Frz.os (Frz.os Frz.int)) c6 hO
  have h0 := h0.sub (M' := e0) e1
  have hK := e2
  exact ⟨_, (some ⟨b4, 0, none⟩), 0, 0, fr_ovl 21 ⟨rfl, rfl, trivial⟩, hC, (Keeps.out hK e3)⟩
 refine c_condF (congrArg Value.bool c5) ?_
 refine wp_skip ?_
 refine c_sr ?_
 refine pl_val (.agg #[(.int .i64 a_.1), (.slice pa0 pn0 pc0)]) (y_load rfl ((box_load Ag30 Sz30 a0 [] [(.int .i64 a_.1), (.slice pa0 pn0 pc0)] [] rfl rfl (fun h => nomatch h)) _ (Chg.refl _ _))) ?_
 obtain ⟨r14, e4, hs⟩ := bind_some hs
 refine pl_call Bd78 rfl (c_spec_l12Clone (M := M) (a_.1, a_.2) 3 h0 hO.fut e4) ?_
 rintro _ c7 ⟨a3, a4, a5, c8, b7, b8, b9, c9, rfl, c0, a6, a2, e5⟩
 have hO := hO.perm (R := [] ++ (([b1]) ++ ([]))) (by simp)
 have e6 := Own.pastL hO c0 e5
 have hK := (show Keeps w M (PastL M [] b2 c7 (c8 ++ (c9 ++ ([])))) from Keeps.pastL hC.size (fun g hg => (hO.inN g hg).resolve_left (fun h => nomatch h)))
 have h0 := h0.ext c0
 have a0 := a0.cn c0
 have hC := hC.ext c0
 have hO := e6
 have h0 := h0.sub (M' := (PastL M [] b2 c7 (c8 ++ (c9 ++ ([]))))) (fun g hg => .inl hg.1)
 have hO := hO.perm (R := c8 ++ (c9 ++ (([b1]) ++ ([])))) (by simp)
 obtain ⟨e7, c1, e8, d4, a8, d5⟩ := new_block c7 [(.slice none 0 0), (.slice none 0 0), (.bool false)] 89
 refine pl_val (w' := e7) (.pointer (some ⟨c1, 0, none⟩)) (y_alloc (by rw [e8, d4]; kernel_rfl)) ?_
 have h0 := h0.ext a8
 have a0 := a0.cn a8
 have a6 := a6.ext a8
 have a2 := a2.ext a8
 have hC := hC.ext a8
 have hO := hO.new1 a8 d4 d5.lt
 obtain ⟨c2, e9, a9, b0⟩ := box_store (P := Try.prog) d5 [] [(.slice none 0 0), (.slice none 0 0), (.bool false)] [] [(.slice a3 a4 a5), (.slice b7 b8 b9), (.bool r14.2.2)] rfl rfl (by intro u hu; simp only [List.mem_cons, List.not_mem_nil, or_false] at hu; rcases hu with rfl | rfl | rfl <;> rfl)
 refine pl_skip (w' := c2) (ys_store rfl rfl (e9 _ _ rfl Sz89)) ?_
 have h0 := h0.mt a9 hO same_
 have a0 := a0.ap a9 hO same_ (mem_r (mem_r (mem_l (List.mem_singleton.2 rfl))))
 have a6 := a6.ma a9 hO same_ (fun _ e => (mem_l (e)))
 have a2 := a2.ma a9 hO same_ (fun _ e => (mem_r (mem_l (e))))
 have hC := hC.st a9 hO same_
 have hO := hO.ext a9
 have b0 : BoxV c2 c1 89 [(.slice a3 a4 a5), (.slice b7 b8 b9), (.bool r14.2.2)] := b0
 refine c_nil ?_
 refine c_seq ?_
 refine x_start [] Mx rfl ?_
 have a7 := Chg.drew c2
 generalize World.drew c2 = f0 at a7 ⊢
 have a0 := a0.cn a7
 have a6 := a6.ext a7
 have a2 := a2.ext a7
 have b0 := b0.cn a7
 have hC := hC.ext a7
 have hO := hO.ext a7
 have hS := Chg.refl [] f0
 refine x_p 0 (.pointer (some ⟨c1, 0, none⟩)) rfl (by kernel_rfl)  (fun _ => y_faddr rfl Fa89x0) (fun _ => hS) ?_
 refine x_l 1 (.slice a3 a4 a5) rfl (by kernel_rfl)  (fun w' hw' => y_load rfl ((box_load Ag47 Sz47 b0 [] [(.slice a3 a4 a5)] [(.slice b7 b8 b9), (.bool r14.2.2)] rfl rfl (fun _ => rfl)) w' hw')) hS ?_
 refine x_p 2 (.pointer (some ⟨c1, 2, none⟩)) rfl (by kernel_rfl)  (fun _ => y_faddr rfl Fa89x2) (fun _ => hS) ?_
 refine x_l 3 (.bool r14.2.2) rfl (by kernel_rfl)  (fun w' hw' => y_load rfl ((box_load Ag4 Sz4 b0 [(.slice a3 a4 a5), (.slice b7 b8 b9)] [(.bool r14.2.2)] [] rfl rfl (fun _ => rfl)) w' hw')) hS ?_
 refine x_p 4 (.bool (!r14.2.2)) rfl (by kernel_rfl)  (fun _ => y_not rfl) (fun _ => hS) ?_
 refine x_p 5 (.slice a3 a4 a5) rfl (by kernel_rfl)  (fun _ => y_assign rfl) (fun _ => hS) ?_
 refine x_p 6 (.bool (!r14.2.2)) rfl (by kernel_rfl)  (fun _ => y_assign rfl) (fun _ => hS) ?_
 refine x_end (by kernel_rfl) ?_
 clear hS
 refine wp_ret ?_
 cases hs
 have hO := hO.fr1
 obtain ⟨f1, f9, f2, f3, hO, f4⟩ := frz_own (Frz.os (Frz.rs Frz.int)) a6 hO
 have a2 := a2.sub (M' := f1) f2
 have hK := hK.trans f3
 exact ⟨_, a3, a4, a5, fr_ovl 21 ⟨rfl, rfl, trivial⟩, hC, (Keeps.out hK f4)⟩

def k_spec_l1Rising (M : Nat → Prop) (w0 : World) (r : Bool) (a : Act) (w : World) : Prop :=
  ∃ (σ : Nat → Value) , a = fr 38 (ovl σ [(6, (.bool r))]) ∧ Chg [] w0 w
def s_spec_l1Rising (l : List Int) (lo : Int) (hi : Int) : Option (Bool) :=
  (forC (S := Unit) (R := Bool) (fun k17 s15 =>
  (idx l k17).bind fun x22 =>
  (s_spec_l1In x22 lo hi).bind fun r25 =>
  (bif (!r25) then some (.rt false) else (bif (decide (0 < k17)) then (idx l (w64 (k17 - 1))).bind fun x28 =>
  (idx l k17).bind fun x30 =>
  (bif (decide (x30 ≤ x28)) then some (.rt false) else some (.nx ())) else some (.nx ())))) 0 (l.length : Int) ()).bind fun o19 => after o19 (fun r_ => some r_) (fun s15 =>
  some true)
set_option maxHeartbeats 4000000 in
theorem c_spec_l1Rising {M : Nat → Prop} {w : World} {pa0 : Option Addr} {pn0 pc0 : Nat} (l : List Int) (lo : Int) (hi : Int) (h0 : (RT.rs (RT.int .i64)).val M w (.slice pa0 pn0 pc0) l ([])) (hM : ∀ g, w.heap.size ≤ g → M g) {r : Bool} (hs : s_spec_l1Rising l lo hi = some r) :
    Gives Try.prog 54 [(.slice pa0 pn0 pc0), (.int .i64 lo), (.int .i64 hi)] w (fun v w' => v = (.bool r) ∧ Chg [] w w') := by
 refine calls_fr Try.func54 rfl Try.ntmps54 (Nat.le_of_ble_eq_true rfl) ?_
 have hO := Own.start (N := Nw w []) hM Nw.fut
 have hC := Chg.refl [] w
 unfold s_spec_l1Rising at hs
 refine wp_mono (Q := KPost (k_spec_l1Rising M w r)) ?_ (fun e a b0 h => ?_)
 rotate_left
 ·cases e
  case ret =>
   obtain ⟨σ, rfl, hrest⟩ := h
   exact ret1x Try.results54 (res_tmp rfl) ⟨rfl, hrest⟩
  all_goals exact (h : False).elim
 refine c_sr ?_
 refine pl_val (.bool false) (y_assign rfl) ?_
 refine c_nil ?_
 refine c_seq ?_
 refine c_sr ?_
 refine pl_val (.int .i64 0) (y_assign rfl) ?_
 refine c_nil ?_
 obtain ⟨o19, b1, hs⟩ := bind_some hs
 refine wp_block ?_
 refine wp_forC (id := 0) (l.length : Int) (I := fun k17 s15 a a2 => ∃ (σ : Nat → Value), a = fr 38 (ovl σ [(0, (.slice pa0 pn0 pc0)), (1, (.int .i64 lo)), (2, (.int .i64 hi)), (7, (.int .i64 k17))]) ∧ Chg [] w a2 ∧ Own (Nw w []) M a2 ([]) ∧ (RT.rs (RT.int .i64)).val M a2 (.slice pa0 pn0 pc0) l ([])) (J := fun s15 a a2 => ∃ (σ : Nat → Value), a = fr 38 (ovl σ []) ∧ Chg [] w a2 ∧ Own (Nw w []) M a2 ([]) ∧ (RT.rs (RT.int .i64)).val M a2 (.slice pa0 pn0 pc0) l ([])) (K := (k_spec_l1Rising M w)) ?_ ?_ 0 () o19 _ _ ?_ b1 ?_
 ·rintro k17 s15 a a2 ⟨σ, rfl, hC, hO, h0⟩ hlt
  refine c_seq ?_
  refine c_sr ?_
  refine pl_val (.int .i64 k17) (y_move rfl) ?_
  refine pl_val (.slice pa0 pn0 pc0) (y_move rfl) ?_
  refine pl_val (.int .i64 (l.length : Int)) (y_len' Sl37 (rs_len h0) rfl) ?_
  refine pl_val (.bool (decide (k17 < (l.length : Int)))) (y_lss rfl rfl) ?_
  refine c_nil ?_
  refine c_condF (congrArg Value.bool (decide_eq_false hlt)) ?_
  refine wp_exit ?_
  exact ⟨rfl, _, fr_ovl 38 trivial, hC, hO, h0⟩
 ·rintro k17 s15 o19 a a2 ⟨σ, rfl, hC, hO, h0⟩ hlt hw hs
  refine c_seq ?_
  refine c_sr ?_
  refine pl_val (.int .i64 k17) (y_move rfl) ?_
  refine pl_val (.slice pa0 pn0 pc0) (y_move rfl) ?_
  refine pl_val (.int .i64 (l.length : Int)) (y_len' Sl37 (rs_len h0) rfl) ?_
  refine pl_val (.bool (decide (k17 < (l.length : Int)))) (y_lss rfl rfl) ?_
  refine c_nil ?_
  refine c_condT (congrArg Value.bool (decide_eq_true hlt)) ?_
  refine wp_skip ?_
  refine c_seq ?_
  refine wp_block ?_
  refine c_seq ?_
  refine x_start [] Mx rfl ?_
  have a4 := Chg.drew a2
  generalize World.drew a2 = b2 at a4 ⊢
  have h0 := h0.ext a4
  have hC := hC.ext a4
  have hO := hO.ext a4
  have hS := Chg.refl [] b2
  refine x_p 0 (.slice pa0 pn0 pc0) rfl (by kernel_rfl)  (fun _ => y_move rfl) (fun _ => hS) ?_
  refine x_p 1 (.int .i64 k17) rfl (by kernel_rfl)  (fun _ => y_move rfl) (fun _ => hS) ?_
  obtain ⟨x22, b3, hs⟩ := bind_some hs
  obtain ⟨b4, b5, b6, a5⟩ := rs_idx Sl37 Sz3 h0 b3
  refine x_p 2 (.pointer (some ⟨b4, b5, none⟩)) rfl (by kernel_rfl)  (fun _ => b6 _ _ _ _ _ _ _ _ _ rfl rfl) (fun _ => hS) ?_
  refine x_l 3 (.int .i64 x22) rfl (by kernel_rfl)  (fun w' hw' => y_load rfl ((at_load_int Ag3 Sz3 a5) w' hw')) hS ?_
  refine x_p 4 (.int .i64 lo) rfl (by kernel_rfl)  (fun _ => y_move rfl) (fun _ => hS) ?_
  refine x_p 5 (.int .i64 hi) rfl (by kernel_rfl)  (fun _ => y_move rfl) (fun _ => hS) ?_
  refine x_one (i := 6) (by kernel_rfl) ?_
  obtain ⟨r25, b7, hs⟩ := bind_some hs
  refine xk_call (b := false) rfl  Bd90 rfl (c_spec_l1In (M := M) x22 lo hi  hO.fut b7) rfl (by rintro _ _ _ ⟨rfl, a3⟩; exact hS.ext a3) ?_
  rintro _ c7 ⟨rfl, a3⟩
  have h0 := h0.ext a3
  have a5 := at_ext a5 a3
  have hC := hC.ext a3
  have hO := hO.ext a3
  have hS := hS.ext a3
  refine x_p 7 (.bool (!r25)) rfl (by kernel_rfl)  (fun _ => y_not rfl) (fun _ => hS) ?_
  refine x_p 8 (.bool (!r25)) rfl (by kernel_rfl)  (fun _ => y_move rfl) (fun _ => hS) ?_
  rcases bif_some hs with ⟨a1, hs⟩ | ⟨a1, hs⟩
  ·skip
   refine x_pn 9 rfl (by kernel_rfl) (tg := 22) (by kernel_rfl) (congrArg Value.bool a1) (fun _ => hS) ?_
   refine x_pn 10 rfl (by kernel_rfl) (tg := 22) (by kernel_rfl) (congrArg Value.bool a1) (fun _ => hS) ?_
   refine x_pn 11 rfl (by kernel_rfl) (tg := 22) (by kernel_rfl) (congrArg Value.bool a1) (fun _ => hS) ?_
   refine x_pnu 12 rfl (by kernel_rfl) (tg := 25) (by kernel_rfl) rfl (fun _ => hS) ?_
   refine x_pnu 13 rfl (by kernel_rfl) (tg := 25) (by kernel_rfl) rfl (fun _ => hS) ?_
   refine x_pnu 14 rfl (by kernel_rfl) (tg := 25) (by kernel_rfl) rfl (fun _ => hS) ?_
   refine x_pnu 15 rfl (by kernel_rfl) (tg := 25) (by kernel_rfl) rfl (fun _ => hS) ?_
   refine x_pnu 16 rfl (by kernel_rfl) (tg := 25) (by kernel_rfl) rfl (fun _ => hS) ?_
   refine x_pnu 17 rfl (by kernel_rfl) (tg := 25) (by kernel_rfl) rfl (fun _ => hS) ?_
   refine x_pnu 18 rfl (by kernel_rfl) (tg := 25) (by kernel_rfl) rfl (fun _ => hS) ?_
   refine x_pnu 19 rfl (by kernel_rfl) (tg := 25) (by kernel_rfl) rfl (fun _ => hS) ?_
   refine x_pnu 20 rfl (by kernel_rfl) (tg := 25) (by kernel_rfl) rfl (fun _ => hS) ?_
   refine x_pnu 21 rfl (by kernel_rfl) (tg := 25) (by kernel_rfl) rfl (fun _ => hS) ?_
   refine x_pn 22 rfl (by kernel_rfl) (tg := 22) (by kernel_rfl) (congrArg Value.bool a1) (fun _ => hS) ?_
   refine x_p 23 (.bool true) rfl (by kernel_rfl)  (fun _ => y_pick_t (congrArg Value.bool a1) rfl) (fun _ => hS) ?_
   refine x_end (by kernel_rfl) ?_
   clear hS
   refine c_condT (by rfl) ?_
   refine c_sr ?_
   refine pl_val (.bool false) (y_assign rfl) ?_
   refine c_nil ?_
   refine wp_ret ?_
   cases hs
   exact ⟨_, fr_ovl 38 ⟨rfl, trivial⟩, hC⟩
  refine x_py 9 (.int .i64 k17) rfl (by kernel_rfl) (tg := 22) (by kernel_rfl) (congrArg Value.bool a1) (fun _ => y_move rfl) (fun _ => hS) ?_
  refine x_py 10 (.bool (decide (0 < k17))) rfl (by kernel_rfl) (tg := 22) (by kernel_rfl) (congrArg Value.bool a1) (fun _ => y_gtr rfl rfl) (fun _ => hS) ?_
  refine x_py 11 (.bool (decide (0 < k17))) rfl (by kernel_rfl) (tg := 22) (by kernel_rfl) (congrArg Value.bool a1) (fun _ => y_move rfl) (fun _ => hS) ?_
  rcases bif_some hs with ⟨a0, hs⟩ | ⟨a0, hs⟩
  ·skip
   refine x_py 12 (.slice pa0 pn0 pc0) rfl (by kernel_rfl) (tg := 25) (by kernel_rfl) (congrArg Value.bool a0) (fun _ => y_move rfl) (fun _ => hS) ?_
   refine x_py 13 (.int .i64 k17) rfl (by kernel_rfl) (tg := 25) (by kernel_rfl) (congrArg Value.bool a0) (fun _ => y_move rfl) (fun _ => hS) ?_
   refine x_py 14 (.int .i64 (w64 (k17 - 1))) rfl (by kernel_rfl) (tg := 25) (by kernel_rfl) (congrArg Value.bool a0) (fun _ => y_sub rfl rfl) (fun _ => hS) ?_
   obtain ⟨x28, b8, hs⟩ := bind_some hs
   obtain ⟨b9, c0, c1, a8⟩ := rs_idx Sl37 Sz3 h0 b8
   refine x_py 15 (.pointer (some ⟨b9, c0, none⟩)) rfl (by kernel_rfl) (tg := 25) (by kernel_rfl) (congrArg Value.bool a0) (fun _ => c1 _ _ _ _ _ _ _ _ _ rfl rfl) (fun _ => hS) ?_
   refine x_py 17 (.slice pa0 pn0 pc0) rfl (by kernel_rfl) (tg := 25) (by kernel_rfl) (congrArg Value.bool a0) (fun _ => y_move rfl) (fun _ => hS) ?_
   refine x_py 18 (.int .i64 k17) rfl (by kernel_rfl) (tg := 25) (by kernel_rfl) (congrArg Value.bool a0) (fun _ => y_move rfl) (fun _ => hS) ?_
   obtain ⟨x30, c2, hs⟩ := bind_some hs
   obtain ⟨c3, c4, c5, a9⟩ := rs_idx Sl37 Sz3 h0 c2
   refine x_py 19 (.pointer (some ⟨c3, c4, none⟩)) rfl (by kernel_rfl) (tg := 25) (by kernel_rfl) (congrArg Value.bool a0) (fun _ => c5 _ _ _ _ _ _ _ _ _ rfl rfl) (fun _ => hS) ?_
   refine x_two (i := 16) (j := 20) (by kernel_rfl) ?_ ?_
   ·skip
    refine xk_valy (b := false) (.int .i64 x28) rfl (tg := 25) (by kernel_rfl) (congrArg Value.bool a0) (y_load rfl ((at_load_int Ag3 Sz3 a8) _ (Chg.refl _ _))) rfl (fun _ => hS) ?_
    refine x_one (i := 20) (by kernel_rfl) ?_
    refine xk_valy (b := false) (.int .i64 x30) rfl (tg := 25) (by kernel_rfl) (congrArg Value.bool a0) (y_load rfl ((at_load_int Ag3 Sz3 a9) _ (Chg.refl _ _))) rfl (fun _ => hS) ?_
    refine x_py 21 (.bool (decide (x30 ≤ x28))) rfl (by kernel_rfl) (tg := 25) (by kernel_rfl) (congrArg Value.bool a0) (fun _ => y_geq rfl rfl) (fun _ => hS) ?_
    refine x_py 22 (.bool (decide (x30 ≤ x28))) rfl (by kernel_rfl) (tg := 22) (by kernel_rfl) (congrArg Value.bool a1) (fun _ => y_pick_t (congrArg Value.bool a0) rfl) (fun _ => hS) ?_
    refine x_p 23 (.bool (decide (x30 ≤ x28))) rfl (by kernel_rfl)  (fun _ => y_pick_f (congrArg Value.bool a1) rfl) (fun _ => hS) ?_
    refine x_end (by kernel_rfl) ?_
    clear hS
    rcases bif_some hs with ⟨a6, hs⟩ | ⟨a6, hs⟩
    ·refine c_condT (congrArg Value.bool a6) ?_
     refine c_sr ?_
     refine pl_val (.bool false) (y_assign rfl) ?_
     refine c_nil ?_
     refine wp_ret ?_
     cases hs
     exact ⟨_, fr_ovl 38 ⟨rfl, trivial⟩, hC⟩
    refine c_condF (congrArg Value.bool a6) ?_
    refine wp_skip ?_
    refine c_region ?_
    refine pl_val (.int .i64 k17) (y_move rfl) ?_
    refine pl_val (.int .i64 (w64 (k17 + 1))) (y_add rfl rfl) ?_
    refine pl_val (.int .i64 (w64 (k17 + 1))) (y_assign rfl) ?_
    refine c_nil ?_
    cases hs
    exact ⟨_, fr_ovl 38 ⟨rfl, rfl, rfl, congrArg (Value.int .i64) hw, trivial⟩, hC, hO, h0⟩
   ·skip
    refine xk_valy (b := false) (.int .i64 x30) rfl (tg := 25) (by kernel_rfl) (congrArg Value.bool a0) (y_load rfl ((at_load_int Ag3 Sz3 a9) _ (Chg.refl _ _))) rfl (fun _ => hS) ?_
    refine x_one (i := 16) (by kernel_rfl) ?_
    refine xk_valy (b := false) (.int .i64 x28) rfl (tg := 25) (by kernel_rfl) (congrArg Value.bool a0) (y_load rfl ((at_load_int Ag3 Sz3 a8) _ (Chg.refl _ _))) rfl (fun _ => hS) ?_
    refine x_py 21 (.bool (decide (x30 ≤ x28))) rfl (by kernel_rfl) (tg := 25) (by kernel_rfl) (congrArg Value.bool a0) (fun _ => y_geq rfl rfl) (fun _ => hS) ?_
    refine x_py 22 (.bool (decide (x30 ≤ x28))) rfl (by kernel_rfl) (tg := 22) (by kernel_rfl) (congrArg Value.bool a1) (fun _ => y_pick_t (congrArg Value.bool a0) rfl) (fun _ => hS) ?_
    refine x_p 23 (.bool (decide (x30 ≤ x28))) rfl (by kernel_rfl)  (fun _ => y_pick_f (congrArg Value.bool a1) rfl) (fun _ => hS) ?_
    refine x_end (by kernel_rfl) ?_
    clear hS
    rcases bif_some hs with ⟨a7, hs⟩ | ⟨a7, hs⟩
    ·refine c_condT (congrArg Value.bool a7) ?_
     refine c_sr ?_
     refine pl_val (.bool false) (y_assign rfl) ?_
     refine c_nil ?_
     refine wp_ret ?_
     cases hs
     exact ⟨_, fr_ovl 38 ⟨rfl, trivial⟩, hC⟩
    refine c_condF (congrArg Value.bool a7) ?_
    refine wp_skip ?_
    refine c_region ?_
    refine pl_val (.int .i64 k17) (y_move rfl) ?_
    refine pl_val (.int .i64 (w64 (k17 + 1))) (y_add rfl rfl) ?_
    refine pl_val (.int .i64 (w64 (k17 + 1))) (y_assign rfl) ?_
    refine c_nil ?_
    cases hs
    exact ⟨_, fr_ovl 38 ⟨rfl, rfl, rfl, congrArg (Value.int .i64) hw, trivial⟩, hC, hO, h0⟩
  refine x_pn 12 rfl (by kernel_rfl) (tg := 25) (by kernel_rfl) (congrArg Value.bool a0) (fun _ => hS) ?_
  refine x_pn 13 rfl (by kernel_rfl) (tg := 25) (by kernel_rfl) (congrArg Value.bool a0) (fun _ => hS) ?_
  refine x_pn 14 rfl (by kernel_rfl) (tg := 25) (by kernel_rfl) (congrArg Value.bool a0) (fun _ => hS) ?_
  refine x_pn 15 rfl (by kernel_rfl) (tg := 25) (by kernel_rfl) (congrArg Value.bool a0) (fun _ => hS) ?_
  refine x_pn 16 rfl (by kernel_rfl) (tg := 25) (by kernel_rfl) (congrArg Value.bool a0) (fun _ => hS) ?_
  refine x_pn 17 rfl (by kernel_rfl) (tg := 25) (by kernel_rfl) (congrArg Value.bool a0) (fun _ => hS) ?_
  refine x_pn 18 rfl (by kernel_rfl) (tg := 25) (by kernel_rfl) (congrArg Value.bool a0) (fun _ => hS) ?_
  refine x_pn 19 rfl (by kernel_rfl) (tg := 25) (by kernel_rfl) (congrArg Value.bool a0) (fun _ => hS) ?_
  refine x_pn 20 rfl (by kernel_rfl) (tg := 25) (by kernel_rfl) (congrArg Value.bool a0) (fun _ => hS) ?_
  refine x_pn 21 rfl (by kernel_rfl) (tg := 25) (by kernel_rfl) (congrArg Value.bool a0) (fun _ => hS) ?_
  refine x_py 22 (.bool false) rfl (by kernel_rfl) (tg := 22) (by kernel_rfl) (congrArg Value.bool a1) (fun _ => y_pick_f (congrArg Value.bool a0) rfl) (fun _ => hS) ?_
  refine x_p 23 (.bool false) rfl (by kernel_rfl)  (fun _ => y_pick_f (congrArg Value.bool a1) rfl) (fun _ => hS) ?_
  refine x_end (by kernel_rfl) ?_
  clear hS
  refine c_condF (by rfl) ?_
  refine wp_skip ?_
  refine c_region ?_
  refine pl_val (.int .i64 k17) (y_move rfl) ?_
  refine pl_val (.int .i64 (w64 (k17 + 1))) (y_add rfl rfl) ?_
  refine pl_val (.int .i64 (w64 (k17 + 1))) (y_assign rfl) ?_
  refine c_nil ?_
  cases hs
  exact ⟨_, fr_ovl 38 ⟨rfl, rfl, rfl, congrArg (Value.int .i64) hw, trivial⟩, hC, hO, h0⟩
 ·skip
  exact ⟨_, fr_ovl 38 ⟨rfl, rfl, rfl, rfl, trivial⟩, hC, hO, h0⟩
 cases o19 with
 | nx _ => exact True.intro
 | rt r_ =>
  have hs := after_rt hs
  intro c6 b0 hK
  cases hs
  exact hK
 | br s15 =>
  have hs := after_br hs
  rintro c6 a2 ⟨σ, rfl, hC, hO, h0⟩
  refine c_sr ?_
  refine pl_val (.bool true) (y_assign rfl) ?_
  refine c_nil ?_
  refine wp_ret ?_
  cases hs
  exact ⟨_, fr_ovl 38 ⟨rfl, trivial⟩, hC⟩

def k_spec_l1Has (M : Nat → Prop) (w0 : World) (r : Bool) (a : Act) (w : World) : Prop :=
  ∃ (σ : Nat → Value) , a = fr 18 (ovl σ [(4, (.bool r))]) ∧ Chg [] w0 w
def s_spec_l1Has (l : List Int) (n : Int) : Option (Bool) :=
  (forC (S := Unit) (R := Bool) (fun k7 s5 =>
  (idx l k7).bind fun x11 =>
  (bif (x11 == n) then some (.rt true) else some (.nx ()))) 0 (l.length : Int) ()).bind fun o9 => after o9 (fun r_ => some r_) (fun s5 =>
  some false)
set_option maxHeartbeats 4000000 in
theorem c_spec_l1Has {M : Nat → Prop} {w : World} {pa0 : Option Addr} {pn0 pc0 : Nat} (l : List Int) (n : Int) (h0 : (RT.rs (RT.int .i64)).val M w (.slice pa0 pn0 pc0) l ([])) (hM : ∀ g, w.heap.size ≤ g → M g) {r : Bool} (hs : s_spec_l1Has l n = some r) :
    Gives Try.prog 55 [(.slice pa0 pn0 pc0), (.int .i64 n)] w (fun v w' => v = (.bool r) ∧ Chg [] w w') := by
 refine calls_fr Try.func55 rfl Try.ntmps55 (Nat.le_of_ble_eq_true rfl) ?_
 have hO := Own.start (N := Nw w []) hM Nw.fut
 have hC := Chg.refl [] w
 unfold s_spec_l1Has at hs
 refine wp_mono (Q := KPost (k_spec_l1Has M w r)) ?_ (fun e a a2 h => ?_)
 rotate_left
 ·cases e
  case ret =>
   obtain ⟨σ, rfl, hrest⟩ := h
   exact ret1x Try.results55 (res_tmp rfl) ⟨rfl, hrest⟩
  all_goals exact (h : False).elim
 refine c_sr ?_
 refine pl_val (.bool false) (y_assign rfl) ?_
 refine c_nil ?_
 refine c_seq ?_
 refine c_sr ?_
 refine pl_val (.int .i64 0) (y_assign rfl) ?_
 refine c_nil ?_
 obtain ⟨o9, a3, hs⟩ := bind_some hs
 refine wp_block ?_
 refine wp_forC (id := 0) (l.length : Int) (I := fun k7 s5 a a0 => ∃ (σ : Nat → Value), a = fr 18 (ovl σ [(0, (.slice pa0 pn0 pc0)), (1, (.int .i64 n)), (5, (.int .i64 k7))]) ∧ Chg [] w a0 ∧ Own (Nw w []) M a0 ([]) ∧ (RT.rs (RT.int .i64)).val M a0 (.slice pa0 pn0 pc0) l ([])) (J := fun s5 a a0 => ∃ (σ : Nat → Value), a = fr 18 (ovl σ []) ∧ Chg [] w a0 ∧ Own (Nw w []) M a0 ([]) ∧ (RT.rs (RT.int .i64)).val M a0 (.slice pa0 pn0 pc0) l ([])) (K := (k_spec_l1Has M w)) ?_ ?_ 0 () o9 _ _ ?_ a3 ?_
 ·rintro k7 s5 a a0 ⟨σ, rfl, hC, hO, h0⟩ hlt
  refine c_seq ?_
  refine c_sr ?_
  refine pl_val (.int .i64 k7) (y_move rfl) ?_
  refine pl_val (.slice pa0 pn0 pc0) (y_move rfl) ?_
  refine pl_val (.int .i64 (l.length : Int)) (y_len' Sl37 (rs_len h0) rfl) ?_
  refine pl_val (.bool (decide (k7 < (l.length : Int)))) (y_lss rfl rfl) ?_
  refine c_nil ?_
  refine c_condF (congrArg Value.bool (decide_eq_false hlt)) ?_
  refine wp_exit ?_
  exact ⟨rfl, _, fr_ovl 18 trivial, hC, hO, h0⟩
 ·rintro k7 s5 o9 a a0 ⟨σ, rfl, hC, hO, h0⟩ hlt hw hs
  refine c_seq ?_
  refine c_sr ?_
  refine pl_val (.int .i64 k7) (y_move rfl) ?_
  refine pl_val (.slice pa0 pn0 pc0) (y_move rfl) ?_
  refine pl_val (.int .i64 (l.length : Int)) (y_len' Sl37 (rs_len h0) rfl) ?_
  refine pl_val (.bool (decide (k7 < (l.length : Int)))) (y_lss rfl rfl) ?_
  refine c_nil ?_
  refine c_condT (congrArg Value.bool (decide_eq_true hlt)) ?_
  refine wp_skip ?_
  refine c_seq ?_
  refine wp_block ?_
  refine c_sr ?_
  refine pl_val (.slice pa0 pn0 pc0) (y_move rfl) ?_
  refine pl_val (.int .i64 k7) (y_move rfl) ?_
  obtain ⟨x11, a4, hs⟩ := bind_some hs
  obtain ⟨a5, a6, a7, a8⟩ := rs_idx Sl37 Sz3 h0 a4
  refine pl_val (.pointer (some ⟨a5, a6, none⟩)) (a7 _ _ _ _ _ _ _ _ _ rfl rfl) ?_
  refine pl_val (.int .i64 x11) (y_load rfl ((at_load_int Ag3 Sz3 a8) _ (Chg.refl _ _))) ?_
  refine pl_val (.int .i64 n) (y_move rfl) ?_
  refine pl_val (.bool (x11 == n)) (y_eql rfl rfl) ?_
  refine c_nil ?_
  rcases bif_some hs with ⟨a1, hs⟩ | ⟨a1, hs⟩
  ·refine c_condT (congrArg Value.bool a1) ?_
   refine c_sr ?_
   refine pl_val (.bool true) (y_assign rfl) ?_
   refine c_nil ?_
   refine wp_ret ?_
   cases hs
   exact ⟨_, fr_ovl 18 ⟨rfl, trivial⟩, hC⟩
  refine c_condF (congrArg Value.bool a1) ?_
  refine wp_skip ?_
  refine c_region ?_
  refine pl_val (.int .i64 k7) (y_move rfl) ?_
  refine pl_val (.int .i64 (w64 (k7 + 1))) (y_add rfl rfl) ?_
  refine pl_val (.int .i64 (w64 (k7 + 1))) (y_assign rfl) ?_
  refine c_nil ?_
  cases hs
  exact ⟨_, fr_ovl 18 ⟨rfl, rfl, congrArg (Value.int .i64) hw, trivial⟩, hC, hO, h0⟩
 ·skip
  exact ⟨_, fr_ovl 18 ⟨rfl, rfl, rfl, trivial⟩, hC, hO, h0⟩
 cases o9 with
 | nx _ => exact True.intro
 | rt r_ =>
  have hs := after_rt hs
  intro a9 a2 hK
  cases hs
  exact hK
 | br s5 =>
  have hs := after_br hs
  rintro a9 a0 ⟨σ, rfl, hC, hO, h0⟩
  refine c_sr ?_
  refine pl_val (.bool false) (y_assign rfl) ?_
  refine c_nil ?_
  refine wp_ret ?_
  cases hs
  exact ⟨_, fr_ovl 18 ⟨rfl, trivial⟩, hC⟩

def k_spec_l17Value (M : Nat → Prop) (w0 : World) (r : Int) (a : Act) (w : World) : Prop :=
  ∃ (σ : Nat → Value) , a = fr 25 (ovl σ [(10, (.int .i64 r))]) ∧ Chg [] w0 w
def s_spec_l17Value (n : Int) (f : List Int) (x_ : Int) (y : Int) (z : Int) : Option (Int) :=
  (idx f (w64 ((w64 ((w64 ((w64 (x_ * n)) * n)) + (w64 (y * n)))) + z))).bind fun x2 =>
  some x2
set_option maxHeartbeats 4000000 in
theorem c_spec_l17Value {M : Nat → Prop} {w : World} {pa0 : Option Addr} {pn0 pc0 : Nat} (n : Int) (f : List Int) (x_ : Int) (y : Int) (z : Int) (h0 : (RT.rs (RT.int .i64)).val M w (.slice pa0 pn0 pc0) f ([])) (hM : ∀ g, w.heap.size ≤ g → M g) {r : Int} (hs : s_spec_l17Value n f x_ y z = some r) :
    Gives Try.prog 79 [(.int .i64 n), (.slice pa0 pn0 pc0), (.int .i64 x_), (.int .i64 y), (.int .i64 z)] w (fun v w' => v = (.int .i64 r) ∧ Chg [] w w') := by
 refine calls_fr Try.func79 rfl Try.ntmps79 (Nat.le_of_ble_eq_true rfl) ?_
 have hO := Own.start (N := Nw w []) hM Nw.fut
 have hC := Chg.refl [] w
 unfold s_spec_l17Value at hs
 refine wp_mono (Q := KPost (k_spec_l17Value M w r)) ?_ (fun e a a5 h => ?_)
 rotate_left
 ·cases e
  case ret =>
   obtain ⟨σ, rfl, hrest⟩ := h
   exact ret1x Try.results79 (res_tmp rfl) ⟨rfl, hrest⟩
  all_goals exact (h : False).elim
 refine c_sr ?_
 refine pl_val (.int .i64 0) (y_assign rfl) ?_
 refine c_nil ?_
 refine c_sr ?_
 refine pl_val (.slice pa0 pn0 pc0) (y_move rfl) ?_
 refine pl_val (.int .i64 x_) (y_move rfl) ?_
 refine pl_val (.int .i64 n) (y_move rfl) ?_
 refine pl_val (.int .i64 (w64 (x_ * n))) (y_mul rfl rfl) ?_
 refine pl_val (.int .i64 n) (y_move rfl) ?_
 refine pl_val (.int .i64 (w64 ((w64 (x_ * n)) * n))) (y_mul rfl rfl) ?_
 refine pl_val (.int .i64 y) (y_move rfl) ?_
 refine pl_val (.int .i64 n) (y_move rfl) ?_
 refine pl_val (.int .i64 (w64 (y * n))) (y_mul rfl rfl) ?_
 refine pl_val (.int .i64 (w64 ((w64 ((w64 (x_ * n)) * n)) + (w64 (y * n))))) (y_add rfl rfl) ?_
 refine pl_val (.int .i64 z) (y_move rfl) ?_
 refine pl_val (.int .i64 (w64 ((w64 ((w64 ((w64 (x_ * n)) * n)) + (w64 (y * n)))) + z))) (y_add rfl rfl) ?_
 obtain ⟨x2, a0, hs⟩ := bind_some hs
 obtain ⟨a1, a2, a3, a4⟩ := rs_idx Sl37 Sz3 h0 a0
 refine pl_val (.pointer (some ⟨a1, a2, none⟩)) (a3 _ _ _ _ _ _ _ _ _ rfl rfl) ?_
 refine pl_val (.int .i64 x2) (y_load rfl ((at_load_int Ag3 Sz3 a4) _ (Chg.refl _ _))) ?_
 refine pl_val (.int .i64 x2) (y_assign rfl) ?_
 refine c_nil ?_
 refine wp_ret ?_
 cases hs
 exact ⟨_, fr_ovl 25 ⟨rfl, trivial⟩, hC⟩

theorem Bd79 : Bodied Try.prog 79 := bodied Try.func79 (by kernel_rfl) rfl

def k_spec_l17Part (M : Nat → Prop) (w0 : World) (r : (List Int)) (a : Act) (w : World) : Prop :=
  ∃ (σ : Nat → Value) (ra0 : Option Addr) (rn0 rc0 : Nat) (rf0 : List Nat), a = fr 54 (ovl σ [(6, (.slice ra0 rn0 rc0))]) ∧ Chg [] w0 w ∧ (RT.os 3 (RT.int .i64)).val M w (.slice ra0 rn0 rc0) r rf0 ∧ Own (Nw w0 []) (fun _ => True) w (rf0 ++ ([]))
def s_spec_l17Part (n : Int) (f : List Int) (way : Int) : Option ((List Int)) :=
  (forC (S := (List Int)) (R := (List Int)) (fun k66 s64 =>
  (forC (S := (List Int)) (R := (List Int)) (fun k101 s99 =>
  (bif (way == 0) then (s_spec_l17Value n f k66 k101 k66).bind fun r111 =>
  (app s99 ([r111])).bind fun y115 =>
  some (.nx y115) else (bif (way == 1) then (s_spec_l17Value n f k66 k66 k101).bind fun r119 =>
  (app s99 ([r119])).bind fun y123 =>
  some (.nx y123) else (s_spec_l17Value n f k66 k101 k101).bind fun r126 =>
  (app s99 ([r126])).bind fun y130 =>
  some (.nx y130)))) 0 n s64).bind fun o103 => after o103 (fun r_ => some (.rt r_)) (fun s99 =>
  some (.nx s99))) 0 n ([])).bind fun o68 => after o68 (fun r_ => some r_) (fun s64 =>
  some s64)
set_option maxHeartbeats 4000000 in
theorem c_spec_l17Part {M : Nat → Prop} {w : World} {pa0 : Option Addr} {pn0 pc0 : Nat} (n : Int) (f : List Int) (way : Int) (h0 : (RT.rs (RT.int .i64)).val M w (.slice pa0 pn0 pc0) f ([])) (hM : ∀ g, w.heap.size ≤ g → M g) {r : (List Int)} (hs : s_spec_l17Part n f way = some r) :
    Gives Try.prog 67 [(.int .i64 n), (.slice pa0 pn0 pc0), (.int .i64 way)] w (fun v w' => ∃ (ra0 : Option Addr) (rn0 rc0 : Nat) (rf0 : List Nat), v = (.slice ra0 rn0 rc0) ∧ Chg [] w w' ∧ (RT.os 3 (RT.int .i64)).val M w' (.slice ra0 rn0 rc0) r rf0 ∧ Own (Nw w []) (fun _ => True) w' (rf0 ++ ([]))) := by
 refine calls_fr Try.func67 rfl Try.ntmps67 (Nat.le_of_ble_eq_true rfl) ?_
 have hO := Own.start (N := Nw w []) hM Nw.fut
 have hC := Chg.refl [] w
 unfold s_spec_l17Part at hs
 refine wp_mono (Q := KPost (k_spec_l17Part M w r)) ?_ (fun e a f3 h => ?_)
 rotate_left
 ·cases e
  case ret =>
   obtain ⟨σ, ra0, rn0, rc0, rf0, rfl, hrest⟩ := h
   exact ret1x Try.results67 (res_tmp rfl) ⟨ra0, rn0, rc0, rf0, rfl, hrest⟩
  all_goals exact (h : False).elim
 refine c_sr ?_
 refine pl_val (.slice none 0 0) (y_assign rfl) ?_
 refine c_nil ?_
 refine c_sr ?_
 obtain ⟨f4, a6, g9, f5, c6, f6⟩ := new_block w [] 3
 refine pl_val (w' := f4) (.slice (some ⟨a6, 0, none⟩) 0 0) (y_bslice rfl (by rw [g9, f5]; kernel_rfl)) ?_
 have h0 := h0.ext c6
 have hC := hC.ext c6
 have hO := hO.new1 c6 f5 f6.lt
 have c7 := os_of_box (r := (RT.int .i64)) (M := M) (css := []) (fps := []) (xs := ([] : List Int)) f6 trivial (Nat.zero_le _) (List.nodup_cons.2 ⟨(fun h => nomatch h), List.nodup_nil⟩)
 have c7 : (RT.os 3 (RT.int .i64)).val M f4 (.slice (some ⟨a6, 0, none⟩) 0 0) [] [a6] := c7
 refine pl_val (.slice (some ⟨a6, 0, none⟩) 0 0) (y_assign rfl) ?_
 refine c_nil ?_
 refine c_seq ?_
 refine c_sr ?_
 refine pl_val (.int .i64 0) (y_assign rfl) ?_
 refine c_nil ?_
 obtain ⟨o68, h1, hs⟩ := bind_some hs
 refine wp_block ?_
 refine wp_forC (id := 0) n (I := fun k66 s64 a a1 => ∃ (σ : Nat → Value) (a7 : Option Addr) (a8 : Nat) (a9 : Nat) (b0 : List Nat), a = fr 54 (ovl σ [(0, (.int .i64 n)), (1, (.slice pa0 pn0 pc0)), (2, (.int .i64 way)), (7, (.slice a7 a8 a9)), (8, (.int .i64 k66))]) ∧ Chg [] w a1 ∧ Own (Nw w []) M a1 (b0 ++ []) ∧ (RT.rs (RT.int .i64)).val M a1 (.slice pa0 pn0 pc0) f ([]) ∧ (RT.os 3 (RT.int .i64)).val M a1 (.slice a7 a8 a9) s64 b0) (J := fun s64 a a1 => ∃ (σ : Nat → Value) (b1 : Option Addr) (b2 : Nat) (b3 : Nat) (b5 : List Nat), a = fr 54 (ovl σ [(7, (.slice b1 b2 b3))]) ∧ Chg [] w a1 ∧ Own (Nw w []) M a1 (b5 ++ []) ∧ (RT.rs (RT.int .i64)).val M a1 (.slice pa0 pn0 pc0) f ([]) ∧ (RT.os 3 (RT.int .i64)).val M a1 (.slice b1 b2 b3) s64 b5) (K := (k_spec_l17Part M w)) ?_ ?_ 0 ([]) o68 _ _ ?_ h1 ?_
 ·rintro k66 s64 a a1 ⟨σ, a7, a8, a9, b0, rfl, hC, hO, h0, c8⟩ hlt
  refine c_seq ?_
  refine c_sr ?_
  refine pl_val (.int .i64 k66) (y_move rfl) ?_
  refine pl_val (.int .i64 n) (y_move rfl) ?_
  refine pl_val (.bool (decide (k66 < n))) (y_lss rfl rfl) ?_
  refine c_nil ?_
  refine c_condF (congrArg Value.bool (decide_eq_false hlt)) ?_
  refine wp_exit ?_
  exact ⟨rfl, _, a7, a8, a9, b0, fr_ovl 54 ⟨rfl, trivial⟩, hC, hO, h0, c8⟩
 ·rintro k66 s64 o68 a a1 ⟨σ, a7, a8, a9, b0, rfl, hC, hO, h0, c8⟩ hlt hw hs
  refine c_seq ?_
  refine c_sr ?_
  refine pl_val (.int .i64 k66) (y_move rfl) ?_
  refine pl_val (.int .i64 n) (y_move rfl) ?_
  refine pl_val (.bool (decide (k66 < n))) (y_lss rfl rfl) ?_
  refine c_nil ?_
  refine c_condT (congrArg Value.bool (decide_eq_true hlt)) ?_
  refine wp_skip ?_
  refine c_seq ?_
  refine wp_block ?_
  refine c_sr ?_
  refine pl_val (.int .i64 0) (y_assign rfl) ?_
  refine c_nil ?_
  obtain ⟨o103, h2, hs⟩ := bind_some hs
  refine wp_block ?_
  refine wp_forC (id := 2) n (I := fun k101 s99 a a2 => ∃ (σ : Nat → Value) (a3 : Option Addr) (a4 : Nat) (a5 : Nat) (b4 : List Nat), a = fr 54 (ovl σ [(0, (.int .i64 n)), (1, (.slice pa0 pn0 pc0)), (2, (.int .i64 way)), (7, (.slice a3 a4 a5)), (8, (.int .i64 k66)), (9, (.int .i64 k101))]) ∧ Chg [] w a2 ∧ Own (Nw w []) M a2 (b4 ++ []) ∧ (RT.rs (RT.int .i64)).val M a2 (.slice pa0 pn0 pc0) f ([]) ∧ (RT.os 3 (RT.int .i64)).val M a2 (.slice a3 a4 a5) s99 b4) (J := fun s99 a a2 => ∃ (σ : Nat → Value) (b6 : Option Addr) (b7 : Nat) (b8 : Nat) (b9 : List Nat), a = fr 54 (ovl σ [(0, (.int .i64 n)), (1, (.slice pa0 pn0 pc0)), (2, (.int .i64 way)), (7, (.slice b6 b7 b8)), (8, (.int .i64 k66))]) ∧ Chg [] w a2 ∧ Own (Nw w []) M a2 (b9 ++ []) ∧ (RT.rs (RT.int .i64)).val M a2 (.slice pa0 pn0 pc0) f ([]) ∧ (RT.os 3 (RT.int .i64)).val M a2 (.slice b6 b7 b8) s99 b9) (K := (k_spec_l17Part M w)) ?_ ?_ 0 s64 o103 _ _ ?_ h2 ?_
  ·rintro k101 s99 a a2 ⟨σ, a3, a4, a5, b4, rfl, hC, hO, h0, a0⟩ hlt
   refine c_seq ?_
   refine c_sr ?_
   refine pl_val (.int .i64 k101) (y_move rfl) ?_
   refine pl_val (.int .i64 n) (y_move rfl) ?_
   refine pl_val (.bool (decide (k101 < n))) (y_lss rfl rfl) ?_
   refine c_nil ?_
   refine c_condF (congrArg Value.bool (decide_eq_false hlt)) ?_
   refine wp_exit ?_
   exact ⟨rfl, _, a3, a4, a5, b4, fr_ovl 54 ⟨rfl, rfl, rfl, rfl, rfl, trivial⟩, hC, hO, h0, a0⟩
  ·rintro k101 s99 o103 a a2 ⟨σ, a3, a4, a5, b4, rfl, hC, hO, h0, a0⟩ hlt hw hs
   refine c_seq ?_
   refine c_sr ?_
   refine pl_val (.int .i64 k101) (y_move rfl) ?_
   refine pl_val (.int .i64 n) (y_move rfl) ?_
   refine pl_val (.bool (decide (k101 < n))) (y_lss rfl rfl) ?_
   refine c_nil ?_
   refine c_condT (congrArg Value.bool (decide_eq_true hlt)) ?_
   refine wp_skip ?_
   refine c_seq ?_
   refine wp_block ?_
   refine c_sr ?_
   refine pl_val (.int .i64 way) (y_move rfl) ?_
   refine c_nil ?_
   refine wp_block ?_
   refine c_sr ?_
   refine pl_val (.bool (way == 0)) (y_eql rfl rfl) ?_
   refine pl_val (.bool (way == 0)) (y_assign rfl) ?_
   refine c_nil ?_
   rcases bif_some hs with ⟨c9, hs⟩ | ⟨c9, hs⟩
   ·refine c_condT (congrArg Value.bool c9) ?_
    refine c_region ?_
    refine pl_val (.slice a3 a4 a5) (y_move rfl) ?_
    refine pl_val (.int .i64 n) (y_move rfl) ?_
    refine pl_val (.slice pa0 pn0 pc0) (y_move rfl) ?_
    refine pl_val (.int .i64 k66) (y_move rfl) ?_
    refine pl_val (.int .i64 k101) (y_move rfl) ?_
    refine pl_val (.int .i64 k66) (y_move rfl) ?_
    obtain ⟨r111, h3, hs⟩ := bind_some hs
    refine pl_call Bd79 rfl (c_spec_l17Value (M := M) n f k66 k101 k66 h0 hO.fut h3) ?_
    rintro _ h4 ⟨rfl, c0⟩
    have h0 := h0.ext c0
    have a0 := a0.ext c0
    have hC := hC.ext c0
    have hO := hO.ext c0
    obtain ⟨f7, d0, h5, f8, c1, f9⟩ := new_block h4 [(.int .i64 r111)] 3
    refine pl_val (w' := f7) (.slice (some ⟨d0, 0, none⟩) 1 1) (y_bslice rfl (by rw [h5, f8]; kernel_rfl)) ?_
    have h0 := h0.ext c1
    have a0 := a0.ext c1
    have hC := hC.ext c1
    have hO := hO.new1 c1 f8 f9.lt
    have d1 := os_of_box (r := (RT.int .i64)) (M := M) (css := [[(.int .i64 r111)]]) (fps := [([] : List Nat)]) (xs := ([r111] : List Int)) f9 ⟨⟨rfl, rfl⟩, trivial⟩ (Nat.le_of_ble_eq_true rfl) (List.nodup_cons.2 ⟨(fun h => nomatch h), List.nodup_nil⟩)
    have d1 : (RT.os 3 (RT.int .i64)).val M f7 (.slice (some ⟨d0, 0, none⟩) 1 1) [r111] [d0] := d1
    obtain ⟨y115, h6, hs⟩ := bind_some hs
    have hO := hO.fr1
    obtain ⟨d2, d3, d4, h7, h8, h9, d5, i0, d6⟩ := app_os Rw37 h6 a0 d1 hO.inM (fun g hg hq => hO.apart g hq (mem_l hg))
    have g0 := os_block a0
    refine pl_val (w' := h7) (.slice d2 d3 d4) (y_append rfl rfl (h9 _)) ?_
    have hO := hO.fr1
    have hO := hO.fr1
    have h0 := h0.mt d5 hO g0
    have hC := hC.st d5 hO g0
    have hO := hO.eat d5 i0 (os_nodup d6) d6.fpl
    refine pl_val (.slice d2 d3 d4) (y_assign rfl) ?_
    refine c_nil ?_
    refine c_region ?_
    refine pl_val (.int .i64 k101) (y_move rfl) ?_
    refine pl_val (.int .i64 (w64 (k101 + 1))) (y_add rfl rfl) ?_
    refine pl_val (.int .i64 (w64 (k101 + 1))) (y_assign rfl) ?_
    refine c_nil ?_
    cases hs
    exact ⟨_, d2, d3, d4, h8, fr_ovl 54 ⟨rfl, rfl, rfl, rfl, rfl, congrArg (Value.int .i64) hw, trivial⟩, hC, hO, h0, d6⟩
   refine c_condF (congrArg Value.bool c9) ?_
   refine c_sr ?_
   refine pl_val (.bool (way == 1)) (y_eql rfl rfl) ?_
   refine pl_val (.bool (way == 1)) (y_assign rfl) ?_
   refine c_nil ?_
   rcases bif_some hs with ⟨d7, hs⟩ | ⟨d7, hs⟩
   ·refine c_condT (congrArg Value.bool d7) ?_
    refine c_region ?_
    refine pl_val (.slice a3 a4 a5) (y_move rfl) ?_
    refine pl_val (.int .i64 n) (y_move rfl) ?_
    refine pl_val (.slice pa0 pn0 pc0) (y_move rfl) ?_
    refine pl_val (.int .i64 k66) (y_move rfl) ?_
    refine pl_val (.int .i64 k66) (y_move rfl) ?_
    refine pl_val (.int .i64 k101) (y_move rfl) ?_
    obtain ⟨r119, i1, hs⟩ := bind_some hs
    refine pl_call Bd79 rfl (c_spec_l17Value (M := M) n f k66 k66 k101 h0 hO.fut i1) ?_
    rintro _ i2 ⟨rfl, c2⟩
    have h0 := h0.ext c2
    have a0 := a0.ext c2
    have hC := hC.ext c2
    have hO := hO.ext c2
    obtain ⟨g1, d8, i3, g2, c3, g3⟩ := new_block i2 [(.int .i64 r119)] 3
    refine pl_val (w' := g1) (.slice (some ⟨d8, 0, none⟩) 1 1) (y_bslice rfl (by rw [i3, g2]; kernel_rfl)) ?_
    have h0 := h0.ext c3
    have a0 := a0.ext c3
    have hC := hC.ext c3
    have hO := hO.new1 c3 g2 g3.lt
    have d9 := os_of_box (r := (RT.int .i64)) (M := M) (css := [[(.int .i64 r119)]]) (fps := [([] : List Nat)]) (xs := ([r119] : List Int)) g3 ⟨⟨rfl, rfl⟩, trivial⟩ (Nat.le_of_ble_eq_true rfl) (List.nodup_cons.2 ⟨(fun h => nomatch h), List.nodup_nil⟩)
    have d9 : (RT.os 3 (RT.int .i64)).val M g1 (.slice (some ⟨d8, 0, none⟩) 1 1) [r119] [d8] := d9
    obtain ⟨y123, i4, hs⟩ := bind_some hs
    have hO := hO.fr1
    obtain ⟨e0, e1, e2, i5, i6, i7, e3, i9, e4⟩ := app_os Rw37 i4 a0 d9 hO.inM (fun g hg hq => hO.apart g hq (mem_l hg))
    have g4 := os_block a0
    refine pl_val (w' := i5) (.slice e0 e1 e2) (y_append rfl rfl (i7 _)) ?_
    have hO := hO.fr1
    have hO := hO.fr1
    have h0 := h0.mt e3 hO g4
    have hC := hC.st e3 hO g4
    have hO := hO.eat e3 i9 (os_nodup e4) e4.fpl
    refine pl_val (.slice e0 e1 e2) (y_assign rfl) ?_
    refine c_nil ?_
    refine c_region ?_
    refine pl_val (.int .i64 k101) (y_move rfl) ?_
    refine pl_val (.int .i64 (w64 (k101 + 1))) (y_add rfl rfl) ?_
    refine pl_val (.int .i64 (w64 (k101 + 1))) (y_assign rfl) ?_
    refine c_nil ?_
    cases hs
    exact ⟨_, e0, e1, e2, i6, fr_ovl 54 ⟨rfl, rfl, rfl, rfl, rfl, congrArg (Value.int .i64) hw, trivial⟩, hC, hO, h0, e4⟩
   refine c_condF (congrArg Value.bool d7) ?_
   refine c_region ?_
   refine pl_val (.slice a3 a4 a5) (y_move rfl) ?_
   refine pl_val (.int .i64 n) (y_move rfl) ?_
   refine pl_val (.slice pa0 pn0 pc0) (y_move rfl) ?_
   refine pl_val (.int .i64 k66) (y_move rfl) ?_
   refine pl_val (.int .i64 k101) (y_move rfl) ?_
   refine pl_val (.int .i64 k101) (y_move rfl) ?_
   obtain ⟨r126, j0, hs⟩ := bind_some hs
   refine pl_call Bd79 rfl (c_spec_l17Value (M := M) n f k66 k101 k101 h0 hO.fut j0) ?_
   rintro _ j1 ⟨rfl, c4⟩
   have h0 := h0.ext c4
   have a0 := a0.ext c4
   have hC := hC.ext c4
   have hO := hO.ext c4
   obtain ⟨g5, e5, j2, g6, c5, g7⟩ := new_block j1 [(.int .i64 r126)] 3
   refine pl_val (w' := g5) (.slice (some ⟨e5, 0, none⟩) 1 1) (y_bslice rfl (by rw [j2, g6]; kernel_rfl)) ?_
   have h0 := h0.ext c5
   have a0 := a0.ext c5
   have hC := hC.ext c5
   have hO := hO.new1 c5 g6 g7.lt
   have e6 := os_of_box (r := (RT.int .i64)) (M := M) (css := [[(.int .i64 r126)]]) (fps := [([] : List Nat)]) (xs := ([r126] : List Int)) g7 ⟨⟨rfl, rfl⟩, trivial⟩ (Nat.le_of_ble_eq_true rfl) (List.nodup_cons.2 ⟨(fun h => nomatch h), List.nodup_nil⟩)
   have e6 : (RT.os 3 (RT.int .i64)).val M g5 (.slice (some ⟨e5, 0, none⟩) 1 1) [r126] [e5] := e6
   obtain ⟨y130, j3, hs⟩ := bind_some hs
   have hO := hO.fr1
   obtain ⟨e7, e8, e9, j4, j5, j6, f0, j7, f1⟩ := app_os Rw37 j3 a0 e6 hO.inM (fun g hg hq => hO.apart g hq (mem_l hg))
   have g8 := os_block a0
   refine pl_val (w' := j4) (.slice e7 e8 e9) (y_append rfl rfl (j6 _)) ?_
   have hO := hO.fr1
   have hO := hO.fr1
   have h0 := h0.mt f0 hO g8
   have hC := hC.st f0 hO g8
   have hO := hO.eat f0 j7 (os_nodup f1) f1.fpl
   refine pl_val (.slice e7 e8 e9) (y_assign rfl) ?_
   refine c_nil ?_
   refine c_region ?_
   refine pl_val (.int .i64 k101) (y_move rfl) ?_
   refine pl_val (.int .i64 (w64 (k101 + 1))) (y_add rfl rfl) ?_
   refine pl_val (.int .i64 (w64 (k101 + 1))) (y_assign rfl) ?_
   refine c_nil ?_
   cases hs
   exact ⟨_, e7, e8, e9, j5, fr_ovl 54 ⟨rfl, rfl, rfl, rfl, rfl, congrArg (Value.int .i64) hw, trivial⟩, hC, hO, h0, f1⟩
  ·skip
   exact ⟨_, a7, a8, a9, b0, fr_ovl 54 ⟨rfl, rfl, rfl, rfl, rfl, rfl, trivial⟩, hC, hO, h0, c8⟩
  cases o103 with
  | nx _ => exact True.intro
  | rt r_ =>
   have hs := after_rt hs
   intro f2 f3 hK
   cases hs
   exact hK
  | br s99 =>
   have hs := after_br hs
   rintro f2 a2 ⟨σ, b6, b7, b8, b9, rfl, hC, hO, h0, j8⟩
   refine c_region ?_
   refine pl_val (.int .i64 k66) (y_move rfl) ?_
   refine pl_val (.int .i64 (w64 (k66 + 1))) (y_add rfl rfl) ?_
   refine pl_val (.int .i64 (w64 (k66 + 1))) (y_assign rfl) ?_
   refine c_nil ?_
   cases hs
   exact ⟨_, b6, b7, b8, b9, fr_ovl 54 ⟨rfl, rfl, rfl, rfl, congrArg (Value.int .i64) hw, trivial⟩, hC, hO, h0, j8⟩
 ·skip
  exact ⟨_, (some ⟨a6, 0, none⟩), 0, 0, ([a6]), fr_ovl 54 ⟨rfl, rfl, rfl, rfl, rfl, trivial⟩, hC, hO, h0, c7⟩
 cases o68 with
 | nx _ => exact True.intro
 | rt r_ =>
  have hs := after_rt hs
  intro f2 f3 hK
  cases hs
  exact hK
 | br s64 =>
  have hs := after_br hs
  rintro f2 a1 ⟨σ, b1, b2, b3, b5, rfl, hC, hO, h0, j9⟩
  refine c_sr ?_
  refine pl_val (.slice b1 b2 b3) (y_move rfl) ?_
  refine pl_val (.slice b1 b2 b3) (y_assign rfl) ?_
  refine c_nil ?_
  refine wp_ret ?_
  cases hs
  exact ⟨_, b1, b2, b3, b5, fr_ovl 54 ⟨rfl, trivial⟩, hC, j9, hO.top⟩

def k_spec_l17Xs (M : Nat → Prop) (w0 : World) (r : (List Int)) (a : Act) (w : World) : Prop :=
  ∃ (σ : Nat → Value) (ra0 : Option Addr) (rn0 rc0 : Nat) (rf0 : List Nat), a = fr 5 (ovl σ [(2, (.slice ra0 rn0 rc0))]) ∧ Chg [] w0 w ∧ (RT.os 3 (RT.int .i64)).val M w (.slice ra0 rn0 rc0) r rf0 ∧ Own (Nw w0 []) (fun _ => True) w (rf0 ++ ([]))
def s_spec_l17Xs (n : Int) : Option ((List Int)) :=
  (s_spec_l12Projection n 2 0).bind fun r2 =>
  some r2
set_option maxHeartbeats 4000000 in
theorem c_spec_l17Xs {M : Nat → Prop} {w : World}  (n : Int)  (hM : ∀ g, w.heap.size ≤ g → M g) {r : (List Int)} (hs : s_spec_l17Xs n = some r) :
    Gives Try.prog 71 [(.int .i64 n)] w (fun v w' => ∃ (ra0 : Option Addr) (rn0 rc0 : Nat) (rf0 : List Nat), v = (.slice ra0 rn0 rc0) ∧ Chg [] w w' ∧ (RT.os 3 (RT.int .i64)).val M w' (.slice ra0 rn0 rc0) r rf0 ∧ Own (Nw w []) (fun _ => True) w' (rf0 ++ ([]))) := by
 refine calls_fr Try.func71 rfl Try.ntmps71 (Nat.le_of_ble_eq_true rfl) ?_
 have hO := Own.start (N := Nw w []) hM Nw.fut
 have hC := Chg.refl [] w
 unfold s_spec_l17Xs at hs
 refine wp_mono (Q := KPost (k_spec_l17Xs M w r)) ?_ (fun e a a5 h => ?_)
 rotate_left
 ·cases e
  case ret =>
   obtain ⟨σ, ra0, rn0, rc0, rf0, rfl, hrest⟩ := h
   exact ret1x Try.results71 (res_tmp rfl) ⟨ra0, rn0, rc0, rf0, rfl, hrest⟩
  all_goals exact (h : False).elim
 refine c_sr ?_
 refine pl_val (.slice none 0 0) (y_assign rfl) ?_
 refine c_nil ?_
 refine c_sr ?_
 refine pl_val (.int .i64 n) (y_move rfl) ?_
 obtain ⟨r2, a6, hs⟩ := bind_some hs
 refine pl_call Bd57 rfl (c_spec_l12Projection (M := M) n 2 0  hO.fut a6) ?_
 rintro _ a5 ⟨a0, a1, a2, a3, rfl, a4, a7, a8⟩
 have hC := hC.ext a4
 have hO := Own.join0 hO a4 a8
 have hO := hO.perm (R := a3 ++ ([])) (by simp)
 refine pl_val (.slice a0 a1 a2) (y_assign rfl) ?_
 refine c_nil ?_
 refine wp_ret ?_
 cases hs
 exact ⟨_, a0, a1, a2, a3, fr_ovl 5 ⟨rfl, trivial⟩, hC, a7, hO.top⟩

theorem Bd67 : Bodied Try.prog 67 := bodied Try.func67 (by kernel_rfl) rfl

theorem Bd71 : Bodied Try.prog 71 := bodied Try.func71 (by kernel_rfl) rfl

def k_spec_l17Fixed (M : Nat → Prop) (w0 : World) (r : Bool) (a : Act) (w : World) : Prop :=
  ∃ (σ : Nat → Value) , a = fr 11 (ovl σ [(4, (.bool r))]) ∧ Chg [] w0 w
def s_spec_l17Fixed (n : Int) (f : List Int) : Option (Bool) :=
  (s_spec_l17Part n f 0).bind fun r3 =>
  (s_spec_l17Xs n).bind fun r6 =>
  (s_spec_l1Same r3 r6).bind fun r9 =>
  some r9
set_option maxHeartbeats 4000000 in
theorem c_spec_l17Fixed {M : Nat → Prop} {w : World} {pa0 : Option Addr} {pn0 pc0 : Nat} (n : Int) (f : List Int) (h0 : (RT.rs (RT.int .i64)).val M w (.slice pa0 pn0 pc0) f ([])) (hM : ∀ g, w.heap.size ≤ g → M g) {r : Bool} (hs : s_spec_l17Fixed n f = some r) :
    Gives Try.prog 52 [(.int .i64 n), (.slice pa0 pn0 pc0)] w (fun v w' => v = (.bool r) ∧ Chg [] w w') := by
 refine calls_fr Try.func52 rfl Try.ntmps52 (Nat.le_of_ble_eq_true rfl) ?_
 have hO := Own.start (N := Nw w []) hM Nw.fut
 have hC := Chg.refl [] w
 unfold s_spec_l17Fixed at hs
 refine wp_mono (Q := KPost (k_spec_l17Fixed M w r)) ?_ (fun e a b2 h => ?_)
 rotate_left
 ·cases e
  case ret =>
   obtain ⟨σ, rfl, hrest⟩ := h
   exact ret1x Try.results52 (res_tmp rfl) ⟨rfl, hrest⟩
  all_goals exact (h : False).elim
 refine c_sr ?_
 refine pl_val (.bool false) (y_assign rfl) ?_
 refine c_nil ?_
 refine c_sr ?_
 refine pl_val (.int .i64 n) (y_move rfl) ?_
 refine pl_val (.slice pa0 pn0 pc0) (y_move rfl) ?_
 obtain ⟨r3, a7, hs⟩ := bind_some hs
 refine pl_call Bd67 rfl (c_spec_l17Part (M := M) n f 0 h0 hO.fut a7) ?_
 rintro _ b3 ⟨b4, b5, b6, a3, rfl, a4, a0, a8⟩
 have h0 := h0.ext a4
 have hC := hC.ext a4
 have hO := Own.join0 hO a4 a8
 have hO := hO.perm (R := a3 ++ ([])) (by simp)
 refine pl_val (.int .i64 n) (y_move rfl) ?_
 obtain ⟨r6, a9, hs⟩ := bind_some hs
 refine pl_call Bd71 rfl (c_spec_l17Xs (M := M) n  hO.fut a9) ?_
 rintro _ b7 ⟨b8, b9, c0, a6, rfl, a2, a5, b0⟩
 have h0 := h0.ext a2
 have a0 := a0.ext a2
 have hC := hC.ext a2
 have hO := Own.join0 hO a2 b0
 have hO := hO.perm (R := a6 ++ (a3 ++ ([]))) (by simp)
 have hO := hO.fr1
 obtain ⟨r9, b1, hs⟩ := bind_some hs
 refine pl_call Bd66 rfl (c_spec_l1Same (M := (Less (Less M a3) a6)) r3 r6 ((((Frz.os Frz.int)).val a0 Less.sub Less.not).sub Less.sub) (((Frz.os Frz.int)).val (a5.sub Less.sub) Less.sub Less.not) (hO.less).less.fut b1) ?_
 rintro _ c1 ⟨rfl, a1⟩
 have h0 := h0.ext a1
 have a0 := a0.ext a1
 have a5 := a5.ext a1
 have hC := hC.ext a1
 have hO := hO.ext a1
 refine pl_val (.bool r9) (y_assign rfl) ?_
 refine c_nil ?_
 refine wp_ret ?_
 cases hs
 exact ⟨_, fr_ovl 11 ⟨rfl, trivial⟩, hC⟩

def k_spec_l17Near (M : Nat → Prop) (w0 : World) (r : Bool) (a : Act) (w : World) : Prop :=
  ∃ (σ : Nat → Value) , a = fr 22 (ovl σ [(8, (.bool r))]) ∧ Chg [] w0 w
def s_spec_l17Near (n : Int) (f : List Int) (g : List Int) (i : Int) : Option (Bool) :=
  (bif ((Int.tmod i 2) == 1) then some 2 else some 1).bind fun s3 =>
  (s_spec_l17Part n f s3).bind fun r8 =>
  (s_spec_l17Part n g s3).bind fun r11 =>
  (s_spec_l1Same r8 r11).bind fun r14 =>
  some r14
set_option maxHeartbeats 4000000 in
theorem c_spec_l17Near {M : Nat → Prop} {w : World} {pa0 : Option Addr} {pn0 pc0 : Nat} {pa1 : Option Addr} {pn1 pc1 : Nat} (n : Int) (f : List Int) (g : List Int) (i : Int) (h0 : (RT.rs (RT.int .i64)).val M w (.slice pa0 pn0 pc0) f ([])) (h1 : (RT.rs (RT.int .i64)).val M w (.slice pa1 pn1 pc1) g ([])) (hM : ∀ g, w.heap.size ≤ g → M g) {r : Bool} (hs : s_spec_l17Near n f g i = some r) :
    Gives Try.prog 58 [(.int .i64 n), (.slice pa0 pn0 pc0), (.slice pa1 pn1 pc1), (.int .i64 i)] w (fun v w' => v = (.bool r) ∧ Chg [] w w') := by
 refine calls_fr Try.func58 rfl Try.ntmps58 (Nat.le_of_ble_eq_true rfl) ?_
 have hO := Own.start (N := Nw w []) hM Nw.fut
 have hC := Chg.refl [] w
 unfold s_spec_l17Near at hs
 refine wp_mono (Q := KPost (k_spec_l17Near M w r)) ?_ (fun e a b5 h => ?_)
 rotate_left
 ·cases e
  case ret =>
   obtain ⟨σ, rfl, hrest⟩ := h
   exact ret1x Try.results58 (res_tmp rfl) ⟨rfl, hrest⟩
  all_goals exact (h : False).elim
 refine c_sr ?_
 refine pl_val (.bool false) (y_assign rfl) ?_
 refine c_nil ?_
 refine c_sr ?_
 refine pl_val (.int .i64 1) (y_assign rfl) ?_
 refine c_nil ?_
 refine c_seq ?_
 refine c_sr ?_
 refine pl_val (.int .i64 i) (y_move rfl) ?_
 refine pl_val (.int .i64 (Int.tmod i 2)) (y_rem rfl rfl (by decide)) ?_
 refine pl_val (.bool ((Int.tmod i 2) == 1)) (y_eql rfl rfl) ?_
 refine c_nil ?_
 obtain ⟨s3, a9, hs⟩ := bind_some hs
 refine c_mid (I := fun a a1 => ∃ (σ : Nat → Value), a = fr 22 (ovl σ [(0, (.int .i64 n)), (1, (.slice pa0 pn0 pc0)), (2, (.slice pa1 pn1 pc1)), (9, (.int .i64 s3))]) ∧ Chg [] w a1 ∧ Own (Nw w []) M a1 ([]) ∧ (RT.rs (RT.int .i64)).val M a1 (.slice pa0 pn0 pc0) f ([]) ∧ (RT.rs (RT.int .i64)).val M a1 (.slice pa1 pn1 pc1) g ([])) ?_ ?_
 ·replace hs := a9
  rcases bif_some hs with ⟨a5, hs⟩ | ⟨a5, hs⟩
  ·refine c_condT (congrArg Value.bool a5) ?_
   refine c_region ?_
   refine pl_val (.int .i64 2) (y_assign rfl) ?_
   refine c_nil ?_
   cases hs
   exact ⟨_, fr_ovl 22 ⟨rfl, rfl, rfl, rfl, trivial⟩, hC, hO, h0, h1⟩
  refine c_condF (congrArg Value.bool a5) ?_
  refine wp_skip ?_
  cases hs
  exact ⟨_, fr_ovl 22 ⟨rfl, rfl, rfl, rfl, trivial⟩, hC, hO, h0, h1⟩
 rintro b6 a1 ⟨σ, rfl, hC, hO, h0, h1⟩
 refine c_sr ?_
 refine pl_val (.int .i64 n) (y_move rfl) ?_
 refine pl_val (.slice pa0 pn0 pc0) (y_move rfl) ?_
 refine pl_val (.int .i64 s3) (y_move rfl) ?_
 obtain ⟨r8, b0, hs⟩ := bind_some hs
 refine pl_call Bd67 rfl (c_spec_l17Part (M := M) n f s3 h0 hO.fut b0) ?_
 rintro _ b7 ⟨b8, b9, c0, a6, rfl, a4, a2, b1⟩
 have h0 := h0.ext a4
 have h1 := h1.ext a4
 have hC := hC.ext a4
 have hO := Own.join0 hO a4 b1
 have hO := hO.perm (R := a6 ++ ([])) (by simp)
 refine pl_val (.int .i64 n) (y_move rfl) ?_
 refine pl_val (.slice pa1 pn1 pc1) (y_move rfl) ?_
 refine pl_val (.int .i64 s3) (y_move rfl) ?_
 obtain ⟨r11, b2, hs⟩ := bind_some hs
 refine pl_call Bd67 rfl (c_spec_l17Part (M := M) n g s3 h1 hO.fut b2) ?_
 rintro _ c1 ⟨c2, c3, c4, a8, rfl, a3, a7, b3⟩
 have h0 := h0.ext a3
 have h1 := h1.ext a3
 have a2 := a2.ext a3
 have hC := hC.ext a3
 have hO := Own.join0 hO a3 b3
 have hO := hO.perm (R := a8 ++ (a6 ++ ([]))) (by simp)
 have hO := hO.fr1
 obtain ⟨r14, b4, hs⟩ := bind_some hs
 refine pl_call Bd66 rfl (c_spec_l1Same (M := (Less (Less M a6) a8)) r8 r11 ((((Frz.os Frz.int)).val a2 Less.sub Less.not).sub Less.sub) (((Frz.os Frz.int)).val (a7.sub Less.sub) Less.sub Less.not) (hO.less).less.fut b4) ?_
 rintro _ c5 ⟨rfl, a0⟩
 have h0 := h0.ext a0
 have h1 := h1.ext a0
 have a2 := a2.ext a0
 have a7 := a7.ext a0
 have hC := hC.ext a0
 have hO := hO.ext a0
 refine pl_val (.bool r14) (y_assign rfl) ?_
 refine c_nil ?_
 refine wp_ret ?_
 cases hs
 exact ⟨_, fr_ovl 22 ⟨rfl, trivial⟩, hC⟩

theorem Bd38 : Bodied Try.prog 38 := bodied Try.func38 (by kernel_rfl) rfl

theorem Bd54 : Bodied Try.prog 54 := bodied Try.func54 (by kernel_rfl) rfl

theorem Bd55 : Bodied Try.prog 55 := bodied Try.func55 (by kernel_rfl) rfl

theorem Bd52 : Bodied Try.prog 52 := bodied Try.func52 (by kernel_rfl) rfl

theorem Bd58 : Bodied Try.prog 58 := bodied Try.func58 (by kernel_rfl) rfl

def k_spec_IsUnreachableSet (M : Nat → Prop) (w0 : World) (r : Bool × Bool) (a : Act) (w : World) : Prop :=
  ∃ (σ : Nat → Value) , a = fr 97 (ovl σ [(4, (.bool r.1)), (5, (.bool r.2))]) ∧ Chg [] w0 w
def s_spec_IsUnreachableSet (a_ : Int × (List (Int × (List Int)))) (places : List Int) : Option (Bool × Bool) :=
  (s_spec_l17Clone (a_.1, a_.2)).bind fun r5 =>
  ((bif (!r5.2) then some true else (s_spec_l1Rising places 0 (w64 ((r5.1.length : Int) - 1))).bind fun r12 =>
  some (!r12))).bind fun s7 =>
  (bif s7 then some (false, false) else ((s_spec_l12Projection a_.1 3 0).bind fun r18 =>
  (s_spec_l12Place r5.1 r18).bind fun r21 =>
  (s_spec_l1Has places r21).bind fun r23 =>
  (bif (!r23) then some true else (s_spec_l12Projection a_.1 3 2).bind fun r26 =>
  (s_spec_l12Place r5.1 r26).bind fun r29 =>
  (s_spec_l1Has places r29).bind fun r31 =>
  some r31)).bind fun s14 =>
  (bif s14 then some (false, true) else (forC (S := Unit) (R := Bool × Bool) (fun k346 s344 =>
  (forC (S := Unit) (R := Bool × Bool) (fun k504 s502 =>
  ((idx r5.1 k504).bind fun x512 =>
  (s_spec_l17Fixed a_.1 x512).bind fun r517 =>
  (bif r517 then (idx places k346).bind fun x519 =>
  (idx r5.1 k504).bind fun x521 =>
  (idx r5.1 x519).bind fun x523 =>
  (s_spec_l17Near a_.1 x523 x521 0).bind fun r530 =>
  (bif r530 then (s_spec_l1Has places k504).bind fun r533 =>
  some (!r533) else (idx places k346).bind fun x534 =>
  (idx r5.1 k504).bind fun x536 =>
  (idx r5.1 x534).bind fun x538 =>
  (s_spec_l17Near a_.1 x538 x536 1).bind fun r545 =>
  (bif r545 then (s_spec_l1Has places k504).bind fun r548 =>
  some (!r548) else some false)) else some false)).bind fun s508 =>
  (bif s508 then some (.rt (false, true)) else some (.nx ()))) 0 (r5.1.length : Int) ()).bind fun o506 => after o506 (fun r_ => some (.rt r_)) (fun s502 =>
  some (.nx ()))) 0 (places.length : Int) ()).bind fun o348 => after o348 (fun r_ => some r_) (fun s344 =>
  some (true, true))))
set_option maxHeartbeats 4000000 in
theorem c_spec_IsUnreachableSet {M : Nat → Prop} {w : World} {pa0 : Option Addr} {pn0 pc0 : Nat} {pa1 : Option Addr} {pn1 pc1 : Nat} (a_ : Int × (List (Int × (List Int)))) (places : List Int) (h0 : (RT.rs (RT.pr (RT.int .i64) (RT.rs (RT.int .i64)))).val M w (.slice pa0 pn0 pc0) a_.2 ([])) (h1 : (RT.rs (RT.int .i64)).val M w (.slice pa1 pn1 pc1) places ([])) (hM : ∀ g, w.heap.size ≤ g → M g) {r : Bool × Bool} (hs : s_spec_IsUnreachableSet a_ places = some r) :
    Gives Try.prog 24 [(.agg #[(.int .i64 a_.1), (.slice pa0 pn0 pc0)]), (.slice pa1 pn1 pc1)] w (fun v w' => v = (.tuple #[(.bool r.1), (.bool r.2)]) ∧ Chg [] w w') := by
 refine calls_fr Try.func24 rfl Try.ntmps24 (Nat.le_of_ble_eq_true rfl) ?_
 have hO := Own.start (N := Nw w []) hM Nw.fut
 have hC := Chg.refl [] w
 unfold s_spec_IsUnreachableSet at hs
 refine wp_mono (Q := KPost (k_spec_IsUnreachableSet M w r)) ?_ (fun e a n0 h => ?_)
 rotate_left
 ·cases e
  case ret =>
   obtain ⟨σ, rfl, hrest⟩ := h
   exact ret2x Try.results24 (res_tmp rfl) (res_tmp rfl) ⟨rfl, hrest⟩
  all_goals exact (h : False).elim
 refine c_sr ?_
 obtain ⟨a7, k4, o7, n1, l5, b5⟩ := new_block w [(.int .i64 a_.1), (.slice pa0 pn0 pc0)] 30
 refine pl_val (w' := a7) (.pointer (some ⟨k4, 0, none⟩)) (y_box rfl (by rw [o7, n1]; kernel_rfl)) ?_
 have h0 := h0.ext l5
 have h1 := h1.ext l5
 have hC := hC.ext l5
 have hO := hO.new1 l5 n1 b5.lt
 refine pl_val (.bool false) (y_assign rfl) ?_
 refine pl_val (.bool false) (y_assign rfl) ?_
 refine c_nil ?_
 refine c_sr ?_
 refine pl_val (.agg #[(.int .i64 a_.1), (.slice pa0 pn0 pc0)]) (y_load rfl ((box_load Ag30 Sz30 b5 [] [(.int .i64 a_.1), (.slice pa0 pn0 pc0)] [] rfl rfl (fun h => nomatch h)) _ (Chg.refl _ _))) ?_
 obtain ⟨r5, o8, hs⟩ := bind_some hs
 refine pl_call Bd38 rfl (c_spec_l17Clone (M := M) (a_.1, a_.2) h0 hO.fut o8) ?_
 rintro _ a6 ⟨b2, b3, b4, rfl, k5, a0⟩
 have hK := (show Keeps w M (Past M a7 a6) from Keeps.past hC.size)
 have h0 := h0.ext k5
 have h1 := h1.ext k5
 have b5 := b5.cn k5
 have hC := hC.ext k5
 have hO := hO.past k5
 have h0 := h0.sub (M' := (Past M a7 a6)) (fun g hg => .inl hg.1)
 have h1 := h1.sub (M' := (Past M a7 a6)) (fun g hg => .inl hg.1)
 refine pl_val (.tuple #[(.slice b2 b3 b4), (.bool r5.2)]) (y_move rfl) ?_
 refine pl_val (.slice b2 b3 b4) (y_extract rfl (by kernel_rfl)) ?_
 refine pl_val (.bool r5.2) (y_extract rfl (by kernel_rfl)) ?_
 refine pl_val (.slice b2 b3 b4) (y_assign rfl) ?_
 refine pl_val (.bool r5.2) (y_assign rfl) ?_
 refine c_nil ?_
 refine c_seq ?_
 refine c_seq ?_
 obtain ⟨s7, o9, hs⟩ := bind_some hs
 refine c_mid (I := fun a l6 => ∃ (σ : Nat → Value), a = fr 97 (ovl σ [(1, (.slice pa1 pn1 pc1)), (2, (.pointer (some ⟨k4, 0, none⟩))), (4, (.bool false)), (5, (.bool false)), (6, (.slice b2 b3 b4)), (25, (.bool s7))]) ∧ Chg [] a6 l6) ?_ ?_
 ·replace hs := o9
  have hMid := Chg.refl [] a6
  refine c_region ?_
  refine pl_val (.bool r5.2) (y_move rfl) ?_
  refine pl_val (.bool (!r5.2)) (y_not rfl) ?_
  refine pl_val (.bool (!r5.2)) (y_move rfl) ?_
  rcases bif_some hs with ⟨e2, hs⟩ | ⟨e2, hs⟩
  ·skip
   refine pl_not (tg := 18) (by kernel_rfl) (congrArg Value.bool e2) ?_
   refine pl_not (tg := 18) (by kernel_rfl) (congrArg Value.bool e2) ?_
   refine pl_not (tg := 18) (by kernel_rfl) (congrArg Value.bool e2) ?_
   refine pl_not (tg := 18) (by kernel_rfl) (congrArg Value.bool e2) ?_
   refine pl_not (tg := 18) (by kernel_rfl) (congrArg Value.bool e2) ?_
   refine pl_not (tg := 18) (by kernel_rfl) (congrArg Value.bool e2) ?_
   refine pl_val (.bool true) (y_pick_t (congrArg Value.bool e2) rfl) ?_
   refine c_nil ?_
   cases hs
   exact ⟨_, fr_ovl 97 ⟨rfl, rfl, rfl, rfl, rfl, rfl, trivial⟩, hMid⟩
  refine pl_yes (.slice pa1 pn1 pc1) (tg := 18) (by kernel_rfl) (congrArg Value.bool e2) (y_move rfl) ?_
  refine pl_yes (.slice b2 b3 b4) (tg := 18) (by kernel_rfl) (congrArg Value.bool e2) (y_move rfl) ?_
  refine pl_yes (.int .i64 (r5.1.length : Int)) (tg := 18) (by kernel_rfl) (congrArg Value.bool e2) (y_len' Sl47 (rs_len a0) rfl) ?_
  refine pl_yes (.int .i64 (w64 ((r5.1.length : Int) - 1))) (tg := 18) (by kernel_rfl) (congrArg Value.bool e2) (y_sub rfl rfl) ?_
  obtain ⟨r12, p0, hs⟩ := bind_some hs
  refine pl_cally (tg := 18) (by kernel_rfl) (congrArg Value.bool e2) Bd54 rfl (c_spec_l1Rising (M := (Past M a7 a6)) places 0 (w64 ((r5.1.length : Int) - 1)) h1 hO.fut p0) ?_
  rintro _ I1 ⟨rfl, h7⟩
  have h0 := h0.ext h7
  have h1 := h1.ext h7
  have b5 := b5.cn h7
  have a0 := a0.ext h7
  have hMid := hMid.ext h7
  have hC := hC.ext h7
  have hO := hO.ext h7
  refine pl_yes (.bool (!r12)) (tg := 18) (by kernel_rfl) (congrArg Value.bool e2) (y_not rfl) ?_
  refine pl_val (.bool (!r12)) (y_pick_f (congrArg Value.bool e2) rfl) ?_
  refine c_nil ?_
  cases hs
  exact ⟨_, fr_ovl 97 ⟨rfl, rfl, rfl, rfl, rfl, rfl, trivial⟩, hMid⟩
 rintro i1 l6 ⟨σ, rfl, i2⟩
 have h0 := h0.ext i2
 have h1 := h1.ext i2
 have b5 := b5.cn i2
 have a0 := a0.ext i2
 have hC := hC.ext i2
 have hO := hO.ext i2
 rcases bif_some hs with ⟨m0, hs⟩ | ⟨m0, hs⟩
 ·refine c_condT (congrArg Value.bool m0) ?_
  refine c_sr ?_
  refine pl_val (.bool false) (y_assign rfl) ?_
  refine pl_val (.bool false) (y_assign rfl) ?_
  refine c_nil ?_
  refine wp_ret ?_
  cases hs
  exact ⟨_, fr_ovl 97 ⟨rfl, rfl, trivial⟩, hC⟩
 refine c_condF (congrArg Value.bool m0) ?_
 refine wp_skip ?_
 refine c_sr ?_
 refine pl_val (.pointer (some ⟨k4, 0, none⟩)) (y_faddr rfl Fa30x0) ?_
 refine pl_val (.int .i64 a_.1) (y_load rfl ((box_load Ag3 Sz3 b5 [] [(.int .i64 a_.1)] [(.slice pa0 pn0 pc0)] rfl rfl (fun _ => rfl)) _ (Chg.refl _ _))) ?_
 refine pl_val (.int .i64 a_.1) (y_assign rfl) ?_
 refine c_nil ?_
 refine c_seq ?_
 refine c_seq ?_
 obtain ⟨s14, p1, hs⟩ := bind_some hs
 refine c_mid (I := fun a n2 => ∃ (σ : Nat → Value), a = fr 97 (ovl σ [(1, (.slice pa1 pn1 pc1)), (4, (.bool false)), (5, (.bool false)), (6, (.slice b2 b3 b4)), (8, (.int .i64 a_.1)), (42, (.bool s14))]) ∧ Chg [] l6 n2) ?_ ?_
 ·replace hs := p1
  have hMid := Chg.refl [] l6
  refine c_region ?_
  refine pl_val (.slice pa1 pn1 pc1) (y_move rfl) ?_
  refine pl_val (.slice b2 b3 b4) (y_move rfl) ?_
  refine pl_val (.int .i64 a_.1) (y_move rfl) ?_
  obtain ⟨r18, p2, hs⟩ := bind_some hs
  refine pl_call Bd57 rfl (c_spec_l12Projection (M := (Past M a7 a6)) a_.1 3 0  hO.fut p2) ?_
  rintro _ I2 ⟨I3, I4, I5, m1, rfl, i3, f7, p3⟩
  have h1 := h1.ext i3
  have b5 := b5.cn i3
  have a0 := a0.ext i3
  have hMid := hMid.ext i3
  have hC := hC.ext i3
  have hO := Own.join0 hO i3 p3
  have hO := hO.perm (R := m1 ++ (([k4]) ++ ([]))) (by simp)
  obtain ⟨r21, p4, hs⟩ := bind_some hs
  refine pl_call Bd56 rfl (c_spec_l12Place (M := (Less (Past M a7 a6) m1)) r5.1 r18 (a0.sub Less.sub) (((Frz.os Frz.int)).val f7 Less.sub Less.not) hO.less.fut p4) ?_
  rintro _ I6 ⟨rfl, h8⟩
  have h1 := h1.ext h8
  have b5 := b5.cn h8
  have a0 := a0.ext h8
  have f7 := f7.ext h8
  have hMid := hMid.ext h8
  have hC := hC.ext h8
  have hO := hO.ext h8
  obtain ⟨r23, p5, hs⟩ := bind_some hs
  refine pl_call Bd55 rfl (c_spec_l1Has (M := (Past M a7 a6)) places r21 h1 hO.fut p5) ?_
  rintro _ I7 ⟨rfl, h9⟩
  have h1 := h1.ext h9
  have b5 := b5.cn h9
  have a0 := a0.ext h9
  have f7 := f7.ext h9
  have hMid := hMid.ext h9
  have hC := hC.ext h9
  have hO := hO.ext h9
  refine pl_val (.bool (!r23)) (y_not rfl) ?_
  refine pl_val (.bool (!r23)) (y_move rfl) ?_
  rcases bif_some hs with ⟨e3, hs⟩ | ⟨e3, hs⟩
  ·skip
   refine pl_not (tg := 35) (by kernel_rfl) (congrArg Value.bool e3) ?_
   refine pl_not (tg := 35) (by kernel_rfl) (congrArg Value.bool e3) ?_
   refine pl_not (tg := 35) (by kernel_rfl) (congrArg Value.bool e3) ?_
   refine pl_not (tg := 35) (by kernel_rfl) (congrArg Value.bool e3) ?_
   refine pl_not (tg := 35) (by kernel_rfl) (congrArg Value.bool e3) ?_
   refine pl_not (tg := 35) (by kernel_rfl) (congrArg Value.bool e3) ?_
   refine pl_val (.bool true) (y_pick_t (congrArg Value.bool e3) rfl) ?_
   refine c_nil ?_
   cases hs
   exact ⟨_, fr_ovl 97 ⟨rfl, rfl, rfl, rfl, rfl, rfl, trivial⟩, hMid⟩
  refine pl_yes (.slice pa1 pn1 pc1) (tg := 35) (by kernel_rfl) (congrArg Value.bool e3) (y_move rfl) ?_
  refine pl_yes (.slice b2 b3 b4) (tg := 35) (by kernel_rfl) (congrArg Value.bool e3) (y_move rfl) ?_
  refine pl_yes (.int .i64 a_.1) (tg := 35) (by kernel_rfl) (congrArg Value.bool e3) (y_move rfl) ?_
  obtain ⟨r26, p6, hs⟩ := bind_some hs
  refine pl_cally (tg := 35) (by kernel_rfl) (congrArg Value.bool e3) Bd57 rfl (c_spec_l12Projection (M := (Past M a7 a6)) a_.1 3 2  hO.fut p6) ?_
  rintro _ I8 ⟨I9, J0, J1, n3, rfl, i0, k6, p7⟩
  have h1 := h1.ext i0
  have b5 := b5.cn i0
  have a0 := a0.ext i0
  have f7 := f7.ext i0
  have hMid := hMid.ext i0
  have hC := hC.ext i0
  have hO := Own.join0 hO i0 p7
  have hO := hO.perm (R := n3 ++ (m1 ++ (([k4]) ++ ([])))) (by simp)
  obtain ⟨r29, p8, hs⟩ := bind_some hs
  refine pl_cally (tg := 35) (by kernel_rfl) (congrArg Value.bool e3) Bd56 rfl (c_spec_l12Place (M := (Less (Past M a7 a6) n3)) r5.1 r26 (a0.sub Less.sub) (((Frz.os Frz.int)).val k6 Less.sub Less.not) hO.less.fut p8) ?_
  rintro _ J2 ⟨rfl, h5⟩
  have h1 := h1.ext h5
  have b5 := b5.cn h5
  have a0 := a0.ext h5
  have f7 := f7.ext h5
  have k6 := k6.ext h5
  have hMid := hMid.ext h5
  have hC := hC.ext h5
  have hO := hO.ext h5
  obtain ⟨r31, p9, hs⟩ := bind_some hs
  refine pl_cally (tg := 35) (by kernel_rfl) (congrArg Value.bool e3) Bd55 rfl (c_spec_l1Has (M := (Past M a7 a6)) places r29 h1 hO.fut p9) ?_
  rintro _ J3 ⟨rfl, h6⟩
  have h1 := h1.ext h6
  have b5 := b5.cn h6
  have a0 := a0.ext h6
  have f7 := f7.ext h6
  have k6 := k6.ext h6
  have hMid := hMid.ext h6
  have hC := hC.ext h6
  have hO := hO.ext h6
  refine pl_val (.bool r31) (y_pick_f (congrArg Value.bool e3) rfl) ?_
  refine c_nil ?_
  cases hs
  exact ⟨_, fr_ovl 97 ⟨rfl, rfl, rfl, rfl, rfl, rfl, trivial⟩, hMid⟩
 rintro i1 n2 ⟨σ, rfl, k7⟩
 have h1 := h1.ext k7
 have b5 := b5.cn k7
 have a0 := a0.ext k7
 have hC := hC.ext k7
 have hO := hO.ext k7
 rcases bif_some hs with ⟨m2, hs⟩ | ⟨m2, hs⟩
 ·refine c_condT (congrArg Value.bool m2) ?_
  refine c_sr ?_
  refine pl_val (.bool false) (y_assign rfl) ?_
  refine pl_val (.bool true) (y_assign rfl) ?_
  refine c_nil ?_
  refine wp_ret ?_
  cases hs
  exact ⟨_, fr_ovl 97 ⟨rfl, rfl, trivial⟩, hC⟩
 refine c_condF (congrArg Value.bool m2) ?_
 refine wp_skip ?_
 refine c_seq ?_
 refine c_sr ?_
 refine pl_val (.int .i64 0) (y_assign rfl) ?_
 refine c_nil ?_
 have hO := hO.drop
 obtain ⟨o348, q0, hs⟩ := bind_some hs
 refine wp_block ?_
 refine wp_forC (id := 0) (places.length : Int) (I := fun k346 s344 a f6 => ∃ (σ : Nat → Value), a = fr 97 (ovl σ [(1, (.slice pa1 pn1 pc1)), (6, (.slice b2 b3 b4)), (8, (.int .i64 a_.1)), (9, (.int .i64 k346))]) ∧ Chg [] w f6 ∧ Own (Nw w []) (Past M a7 a6) f6 ([]) ∧ (RT.rs (RT.int .i64)).val (Past M a7 a6) f6 (.slice pa1 pn1 pc1) places ([]) ∧ (RT.rs (RT.rs (RT.int .i64))).val (Past M a7 a6) f6 (.slice b2 b3 b4) r5.1 ([])) (J := fun s344 a f6 => ∃ (σ : Nat → Value), a = fr 97 (ovl σ []) ∧ Chg [] w f6 ∧ Own (Nw w []) (Past M a7 a6) f6 ([]) ∧ (RT.rs (RT.int .i64)).val (Past M a7 a6) f6 (.slice pa1 pn1 pc1) places ([]) ∧ (RT.rs (RT.rs (RT.int .i64))).val (Past M a7 a6) f6 (.slice b2 b3 b4) r5.1 ([])) (K := (k_spec_IsUnreachableSet M w)) ?_ ?_ 0 () o348 _ _ ?_ q0 ?_
 ·rintro k346 s344 a f6 ⟨σ, rfl, hC, hO, h1, a0⟩ hlt
  refine c_seq ?_
  refine c_sr ?_
  refine pl_val (.int .i64 k346) (y_move rfl) ?_
  refine pl_val (.slice pa1 pn1 pc1) (y_move rfl) ?_
  refine pl_val (.int .i64 (places.length : Int)) (y_len' Sl37 (rs_len h1) rfl) ?_
  refine pl_val (.bool (decide (k346 < (places.length : Int)))) (y_lss rfl rfl) ?_
  refine c_nil ?_
  refine c_condF (congrArg Value.bool (decide_eq_false hlt)) ?_
  refine wp_exit ?_
  exact ⟨rfl, _, fr_ovl 97 trivial, hC, hO, h1, a0⟩
 ·rintro k346 s344 o348 a f6 ⟨σ, rfl, hC, hO, h1, a0⟩ hlt hw hs
  refine c_seq ?_
  refine c_sr ?_
  refine pl_val (.int .i64 k346) (y_move rfl) ?_
  refine pl_val (.slice pa1 pn1 pc1) (y_move rfl) ?_
  refine pl_val (.int .i64 (places.length : Int)) (y_len' Sl37 (rs_len h1) rfl) ?_
  refine pl_val (.bool (decide (k346 < (places.length : Int)))) (y_lss rfl rfl) ?_
  refine c_nil ?_
  refine c_condT (congrArg Value.bool (decide_eq_true hlt)) ?_
  refine wp_skip ?_
  refine c_seq ?_
  refine wp_block ?_
  refine c_sr ?_
  refine pl_val (.int .i64 0) (y_assign rfl) ?_
  refine c_nil ?_
  obtain ⟨o506, q1, hs⟩ := bind_some hs
  refine wp_block ?_
  refine wp_forC (id := 2) (r5.1.length : Int) (I := fun k504 s502 a e1 => ∃ (σ : Nat → Value), a = fr 97 (ovl σ [(1, (.slice pa1 pn1 pc1)), (6, (.slice b2 b3 b4)), (8, (.int .i64 a_.1)), (9, (.int .i64 k346)), (10, (.int .i64 k504))]) ∧ Chg [] w e1 ∧ Own (Nw w []) (Past M a7 a6) e1 ([]) ∧ (RT.rs (RT.int .i64)).val (Past M a7 a6) e1 (.slice pa1 pn1 pc1) places ([]) ∧ (RT.rs (RT.rs (RT.int .i64))).val (Past M a7 a6) e1 (.slice b2 b3 b4) r5.1 ([])) (J := fun s502 a e1 => ∃ (σ : Nat → Value), a = fr 97 (ovl σ [(1, (.slice pa1 pn1 pc1)), (6, (.slice b2 b3 b4)), (8, (.int .i64 a_.1)), (9, (.int .i64 k346))]) ∧ Chg [] w e1 ∧ Own (Nw w []) (Past M a7 a6) e1 ([]) ∧ (RT.rs (RT.int .i64)).val (Past M a7 a6) e1 (.slice pa1 pn1 pc1) places ([]) ∧ (RT.rs (RT.rs (RT.int .i64))).val (Past M a7 a6) e1 (.slice b2 b3 b4) r5.1 ([])) (K := (k_spec_IsUnreachableSet M w)) ?_ ?_ 0 () o506 _ _ ?_ q1 ?_
  ·rintro k504 s502 a e1 ⟨σ, rfl, hC, hO, h1, a0⟩ hlt
   refine c_seq ?_
   refine c_sr ?_
   refine pl_val (.int .i64 k504) (y_move rfl) ?_
   refine pl_val (.slice b2 b3 b4) (y_move rfl) ?_
   refine pl_val (.int .i64 (r5.1.length : Int)) (y_len' Sl47 (rs_len a0) rfl) ?_
   refine pl_val (.bool (decide (k504 < (r5.1.length : Int)))) (y_lss rfl rfl) ?_
   refine c_nil ?_
   refine c_condF (congrArg Value.bool (decide_eq_false hlt)) ?_
   refine wp_exit ?_
   exact ⟨rfl, _, fr_ovl 97 ⟨rfl, rfl, rfl, rfl, trivial⟩, hC, hO, h1, a0⟩
  ·rintro k504 s502 o506 a e1 ⟨σ, rfl, hC, hO, h1, a0⟩ hlt hw hs
   refine c_seq ?_
   refine c_sr ?_
   refine pl_val (.int .i64 k504) (y_move rfl) ?_
   refine pl_val (.slice b2 b3 b4) (y_move rfl) ?_
   refine pl_val (.int .i64 (r5.1.length : Int)) (y_len' Sl47 (rs_len a0) rfl) ?_
   refine pl_val (.bool (decide (k504 < (r5.1.length : Int)))) (y_lss rfl rfl) ?_
   refine c_nil ?_
   refine c_condT (congrArg Value.bool (decide_eq_true hlt)) ?_
   refine wp_skip ?_
   refine c_seq ?_
   refine wp_block ?_
   refine c_seq ?_
   obtain ⟨s508, q2, hs⟩ := bind_some hs
   refine c_mid (I := fun a n4 => ∃ (σ : Nat → Value), a = fr 97 (ovl σ [(1, (.slice pa1 pn1 pc1)), (6, (.slice b2 b3 b4)), (8, (.int .i64 a_.1)), (9, (.int .i64 k346)), (10, (.int .i64 k504)), (96, (.bool s508))]) ∧ Chg [] e1 n4) ?_ ?_
   ·replace hs := q2
    have hMid := Chg.refl [] e1
    refine x_start [] Mx rfl ?_
    have i4 := Chg.drew e1
    generalize World.drew e1 = q3 at i4 ⊢
    have h1 := h1.ext i4
    have a0 := a0.ext i4
    have hMid := hMid.ext i4
    have hC := hC.ext i4
    have hO := hO.ext i4
    have hS := Chg.refl [] q3
    refine x_p 0 (.int .i64 a_.1) rfl (by kernel_rfl)  (fun _ => y_move rfl) (fun _ => hS) ?_
    refine x_p 1 (.slice b2 b3 b4) rfl (by kernel_rfl)  (fun _ => y_move rfl) (fun _ => hS) ?_
    refine x_p 2 (.int .i64 k504) rfl (by kernel_rfl)  (fun _ => y_move rfl) (fun _ => hS) ?_
    obtain ⟨x512, q4, hs⟩ := bind_some hs
    obtain ⟨q5, q6, q7, a3⟩ := rs_idx Sl47 Sz37 a0 q4
    refine x_p 3 (.pointer (some ⟨q5, q6, none⟩)) rfl (by kernel_rfl)  (fun _ => q7 _ _ _ _ _ _ _ _ _ rfl rfl) (fun _ => hS) ?_
    obtain ⟨J4, q8, a2⟩ := at_load Ag37 Sz37 (fun _ => rfl) a3
    obtain ⟨q9, r0, r1, rfl⟩ := rs_sl a2
    refine x_l 4 (.slice q9 r0 r1) rfl (by kernel_rfl)  (fun w' hw' => y_load rfl (q8 w' hw')) hS ?_
    refine x_one (i := 5) (by kernel_rfl) ?_
    obtain ⟨r517, r2, hs⟩ := bind_some hs
    refine xk_call (b := false) rfl  Bd52 rfl (c_spec_l17Fixed (M := (Past M a7 a6)) a_.1 x512 a2 hO.fut r2) rfl (by rintro _ _ _ ⟨rfl, g9⟩; exact hS.ext g9) ?_
    rintro _ J5 ⟨rfl, g9⟩
    have h1 := h1.ext g9
    have a0 := a0.ext g9
    have a2 := a2.ext g9
    have hMid := hMid.ext g9
    have a3 := at_ext a3 g9
    have hC := hC.ext g9
    have hO := hO.ext g9
    have hS := hS.ext g9
    refine x_p 6 (.bool r517) rfl (by kernel_rfl)  (fun _ => y_move rfl) (fun _ => hS) ?_
    rcases bif_some hs with ⟨a1, hs⟩ | ⟨a1, hs⟩
    ·skip
     refine x_py 7 (.int .i64 a_.1) rfl (by kernel_rfl) (tg := 61) (by kernel_rfl) (congrArg Value.bool a1) (fun _ => y_move rfl) (fun _ => hS) ?_
     refine x_py 8 (.slice b2 b3 b4) rfl (by kernel_rfl) (tg := 61) (by kernel_rfl) (congrArg Value.bool a1) (fun _ => y_move rfl) (fun _ => hS) ?_
     refine x_py 9 (.slice pa1 pn1 pc1) rfl (by kernel_rfl) (tg := 61) (by kernel_rfl) (congrArg Value.bool a1) (fun _ => y_move rfl) (fun _ => hS) ?_
     refine x_py 10 (.int .i64 k346) rfl (by kernel_rfl) (tg := 61) (by kernel_rfl) (congrArg Value.bool a1) (fun _ => y_move rfl) (fun _ => hS) ?_
     obtain ⟨x519, r3, hs⟩ := bind_some hs
     obtain ⟨r4, r6, r7, a5⟩ := rs_idx Sl37 Sz3 h1 r3
     refine x_py 11 (.pointer (some ⟨r4, r6, none⟩)) rfl (by kernel_rfl) (tg := 61) (by kernel_rfl) (congrArg Value.bool a1) (fun _ => r7 _ _ _ _ _ _ _ _ _ rfl rfl) (fun _ => hS) ?_
     refine x_py 15 (.slice b2 b3 b4) rfl (by kernel_rfl) (tg := 61) (by kernel_rfl) (congrArg Value.bool a1) (fun _ => y_move rfl) (fun _ => hS) ?_
     refine x_py 16 (.int .i64 k504) rfl (by kernel_rfl) (tg := 61) (by kernel_rfl) (congrArg Value.bool a1) (fun _ => y_move rfl) (fun _ => hS) ?_
     obtain ⟨x521, r8, hs⟩ := bind_some hs
     obtain ⟨r9, s0, s1, a4⟩ := rs_idx Sl47 Sz37 a0 r8
     refine x_py 17 (.pointer (some ⟨r9, s0, none⟩)) rfl (by kernel_rfl) (tg := 61) (by kernel_rfl) (congrArg Value.bool a1) (fun _ => s1 _ _ _ _ _ _ _ _ _ rfl rfl) (fun _ => hS) ?_
     refine x_two (i := 12) (j := 18) (by kernel_rfl) ?_ ?_
     ·skip
      refine xk_valy (b := false) (.int .i64 x519) rfl (tg := 61) (by kernel_rfl) (congrArg Value.bool a1) (y_load rfl ((at_load_int Ag3 Sz3 a5) _ (Chg.refl _ _))) rfl (fun _ => hS) ?_
      obtain ⟨x523, m3, hs⟩ := bind_some hs
      obtain ⟨s2, s3, s4, b1⟩ := rs_idx Sl47 Sz37 a0 m3
      refine x_py 13 (.pointer (some ⟨s2, s3, none⟩)) rfl (by kernel_rfl) (tg := 61) (by kernel_rfl) (congrArg Value.bool a1) (fun _ => s4 _ _ _ _ _ _ _ _ _ rfl rfl) (fun _ => hS) ?_
      refine x_two (i := 14) (j := 18) (by kernel_rfl) ?_ ?_
      ·skip
       obtain ⟨J6, s5, d4⟩ := at_load Ag37 Sz37 (fun _ => rfl) b1
       obtain ⟨s6, s8, s9, rfl⟩ := rs_sl d4
       refine xk_valy (b := false) (.slice s6 s8 s9) rfl (tg := 61) (by kernel_rfl) (congrArg Value.bool a1) (y_load rfl (s5 _ (Chg.refl _ _))) rfl (fun _ => hS) ?_
       refine x_one (i := 18) (by kernel_rfl) ?_
       obtain ⟨J7, t0, d5⟩ := at_load Ag37 Sz37 (fun _ => rfl) a4
       obtain ⟨t1, t2, t3, rfl⟩ := rs_sl d5
       refine xk_valy (b := false) (.slice t1 t2 t3) rfl (tg := 61) (by kernel_rfl) (congrArg Value.bool a1) (y_load rfl (t0 _ (Chg.refl _ _))) rfl (fun _ => hS) ?_
       refine x_one (i := 19) (by kernel_rfl) ?_
       obtain ⟨r530, k8, hs⟩ := bind_some hs
       refine xk_cally (b := false) rfl (tg := 61) (by kernel_rfl) (congrArg Value.bool a1) Bd58 rfl (c_spec_l17Near (M := (Past M a7 a6)) a_.1 x523 x521 0 d4 d5 hO.fut k8) rfl (by rintro _ _ _ ⟨rfl, e4⟩; exact hS.ext e4) ?_
       rintro _ J8 ⟨rfl, e4⟩
       have h1 := h1.ext e4
       have a0 := a0.ext e4
       have a2 := a2.ext e4
       have d4 := d4.ext e4
       have d5 := d5.ext e4
       have hMid := hMid.ext e4
       have a3 := at_ext a3 e4
       have a5 := at_ext a5 e4
       have a4 := at_ext a4 e4
       have b1 := at_ext b1 e4
       have hC := hC.ext e4
       have hO := hO.ext e4
       have hS := hS.ext e4
       refine x_py 20 (.bool r530) rfl (by kernel_rfl) (tg := 61) (by kernel_rfl) (congrArg Value.bool a1) (fun _ => y_move rfl) (fun _ => hS) ?_
       rcases bif_some hs with ⟨a8, hs⟩ | ⟨a8, hs⟩
       ·skip
        refine x_pn 21 rfl (by kernel_rfl) (tg := 75) (by kernel_rfl) (congrArg Value.bool a8) (fun _ => hS) ?_
        refine x_pn 22 rfl (by kernel_rfl) (tg := 75) (by kernel_rfl) (congrArg Value.bool a8) (fun _ => hS) ?_
        refine x_pn 23 rfl (by kernel_rfl) (tg := 75) (by kernel_rfl) (congrArg Value.bool a8) (fun _ => hS) ?_
        refine x_pn 24 rfl (by kernel_rfl) (tg := 75) (by kernel_rfl) (congrArg Value.bool a8) (fun _ => hS) ?_
        refine x_pn 25 rfl (by kernel_rfl) (tg := 75) (by kernel_rfl) (congrArg Value.bool a8) (fun _ => hS) ?_
        refine x_pn 26 rfl (by kernel_rfl) (tg := 75) (by kernel_rfl) (congrArg Value.bool a8) (fun _ => hS) ?_
        refine x_pn 27 rfl (by kernel_rfl) (tg := 75) (by kernel_rfl) (congrArg Value.bool a8) (fun _ => hS) ?_
        refine x_pn 28 rfl (by kernel_rfl) (tg := 75) (by kernel_rfl) (congrArg Value.bool a8) (fun _ => hS) ?_
        refine x_pn 29 rfl (by kernel_rfl) (tg := 75) (by kernel_rfl) (congrArg Value.bool a8) (fun _ => hS) ?_
        refine x_pn 30 rfl (by kernel_rfl) (tg := 75) (by kernel_rfl) (congrArg Value.bool a8) (fun _ => hS) ?_
        refine x_pn 31 rfl (by kernel_rfl) (tg := 75) (by kernel_rfl) (congrArg Value.bool a8) (fun _ => hS) ?_
        refine x_pn 32 rfl (by kernel_rfl) (tg := 75) (by kernel_rfl) (congrArg Value.bool a8) (fun _ => hS) ?_
        refine x_pn 33 rfl (by kernel_rfl) (tg := 75) (by kernel_rfl) (congrArg Value.bool a8) (fun _ => hS) ?_
        refine x_py 34 (.bool true) rfl (by kernel_rfl) (tg := 61) (by kernel_rfl) (congrArg Value.bool a1) (fun _ => y_pick_t (congrArg Value.bool a8) rfl) (fun _ => hS) ?_
        refine x_p 35 (.bool true) rfl (by kernel_rfl)  (fun _ => y_pick_t (congrArg Value.bool a1) rfl) (fun _ => hS) ?_
        refine x_p 36 (.bool true) rfl (by kernel_rfl)  (fun _ => y_move rfl) (fun _ => hS) ?_
        refine x_py 37 (.slice pa1 pn1 pc1) rfl (by kernel_rfl) (tg := 91) (by kernel_rfl) (by rfl) (fun _ => y_move rfl) (fun _ => hS) ?_
        refine x_py 38 (.int .i64 k504) rfl (by kernel_rfl) (tg := 91) (by kernel_rfl) (by rfl) (fun _ => y_move rfl) (fun _ => hS) ?_
        refine x_one (i := 39) (by kernel_rfl) ?_
        obtain ⟨r533, t4, hs⟩ := bind_some hs
        refine xk_cally (b := false) rfl (tg := 91) (by kernel_rfl) (by rfl) Bd55 rfl (c_spec_l1Has (M := (Past M a7 a6)) places k504 h1 hO.fut t4) rfl (by rintro _ _ _ ⟨rfl, e5⟩; exact hS.ext e5) ?_
        rintro _ J9 ⟨rfl, e5⟩
        have h1 := h1.ext e5
        have a0 := a0.ext e5
        have a2 := a2.ext e5
        have d4 := d4.ext e5
        have d5 := d5.ext e5
        have hMid := hMid.ext e5
        have a3 := at_ext a3 e5
        have a5 := at_ext a5 e5
        have a4 := at_ext a4 e5
        have b1 := at_ext b1 e5
        have hC := hC.ext e5
        have hO := hO.ext e5
        have hS := hS.ext e5
        refine x_py 40 (.bool (!r533)) rfl (by kernel_rfl) (tg := 91) (by kernel_rfl) (by rfl) (fun _ => y_not rfl) (fun _ => hS) ?_
        refine x_p 41 (.bool (!r533)) rfl (by kernel_rfl)  (fun _ => y_pick_t (by rfl) rfl) (fun _ => hS) ?_
        refine x_end (by kernel_rfl) ?_
        clear hS
        cases hs
        exact ⟨_, fr_ovl 97 ⟨rfl, rfl, rfl, rfl, rfl, rfl, trivial⟩, hMid⟩
       refine x_py 21 (.int .i64 a_.1) rfl (by kernel_rfl) (tg := 75) (by kernel_rfl) (congrArg Value.bool a8) (fun _ => y_move rfl) (fun _ => hS) ?_
       refine x_py 22 (.slice b2 b3 b4) rfl (by kernel_rfl) (tg := 75) (by kernel_rfl) (congrArg Value.bool a8) (fun _ => y_move rfl) (fun _ => hS) ?_
       refine x_py 23 (.slice pa1 pn1 pc1) rfl (by kernel_rfl) (tg := 75) (by kernel_rfl) (congrArg Value.bool a8) (fun _ => y_move rfl) (fun _ => hS) ?_
       refine x_py 24 (.int .i64 k346) rfl (by kernel_rfl) (tg := 75) (by kernel_rfl) (congrArg Value.bool a8) (fun _ => y_move rfl) (fun _ => hS) ?_
       obtain ⟨x534, t5, hs⟩ := bind_some hs
       obtain ⟨t6, t7, t8, f3⟩ := rs_idx Sl37 Sz3 h1 t5
       refine x_py 25 (.pointer (some ⟨t6, t7, none⟩)) rfl (by kernel_rfl) (tg := 75) (by kernel_rfl) (congrArg Value.bool a8) (fun _ => t8 _ _ _ _ _ _ _ _ _ rfl rfl) (fun _ => hS) ?_
       refine x_py 29 (.slice b2 b3 b4) rfl (by kernel_rfl) (tg := 75) (by kernel_rfl) (congrArg Value.bool a8) (fun _ => y_move rfl) (fun _ => hS) ?_
       refine x_py 30 (.int .i64 k504) rfl (by kernel_rfl) (tg := 75) (by kernel_rfl) (congrArg Value.bool a8) (fun _ => y_move rfl) (fun _ => hS) ?_
       obtain ⟨x536, t9, hs⟩ := bind_some hs
       obtain ⟨u0, u1, u2, e6⟩ := rs_idx Sl47 Sz37 a0 t9
       refine x_py 31 (.pointer (some ⟨u0, u1, none⟩)) rfl (by kernel_rfl) (tg := 75) (by kernel_rfl) (congrArg Value.bool a8) (fun _ => u2 _ _ _ _ _ _ _ _ _ rfl rfl) (fun _ => hS) ?_
       refine x_two (i := 26) (j := 32) (by kernel_rfl) ?_ ?_
       ·skip
        refine xk_valy (b := false) (.int .i64 x534) rfl (tg := 75) (by kernel_rfl) (congrArg Value.bool a8) (y_load rfl ((at_load_int Ag3 Sz3 f3) _ (Chg.refl _ _))) rfl (fun _ => hS) ?_
        obtain ⟨x538, m4, hs⟩ := bind_some hs
        obtain ⟨u3, u4, u5, h2⟩ := rs_idx Sl47 Sz37 a0 m4
        refine x_py 27 (.pointer (some ⟨u3, u4, none⟩)) rfl (by kernel_rfl) (tg := 75) (by kernel_rfl) (congrArg Value.bool a8) (fun _ => u5 _ _ _ _ _ _ _ _ _ rfl rfl) (fun _ => hS) ?_
        refine x_two (i := 28) (j := 32) (by kernel_rfl) ?_ ?_
        ·skip
         obtain ⟨K0, u6, i5⟩ := at_load Ag37 Sz37 (fun _ => rfl) h2
         obtain ⟨u7, u9, v0, rfl⟩ := rs_sl i5
         refine xk_valy (b := false) (.slice u7 u9 v0) rfl (tg := 75) (by kernel_rfl) (congrArg Value.bool a8) (y_load rfl (u6 _ (Chg.refl _ _))) rfl (fun _ => hS) ?_
         refine x_one (i := 32) (by kernel_rfl) ?_
         obtain ⟨K1, v1, i6⟩ := at_load Ag37 Sz37 (fun _ => rfl) e6
         obtain ⟨v2, v3, v4, rfl⟩ := rs_sl i6
         refine xk_valy (b := false) (.slice v2 v3 v4) rfl (tg := 75) (by kernel_rfl) (congrArg Value.bool a8) (y_load rfl (v1 _ (Chg.refl _ _))) rfl (fun _ => hS) ?_
         refine x_one (i := 33) (by kernel_rfl) ?_
         obtain ⟨r545, k9, hs⟩ := bind_some hs
         refine xk_cally (b := false) rfl (tg := 75) (by kernel_rfl) (congrArg Value.bool a8) Bd58 rfl (c_spec_l17Near (M := (Past M a7 a6)) a_.1 x538 x536 1 i5 i6 hO.fut k9) rfl (by rintro _ _ _ ⟨rfl, b6⟩; exact hS.ext b6) ?_
         rintro _ K2 ⟨rfl, b6⟩
         have h1 := h1.ext b6
         have a0 := a0.ext b6
         have a2 := a2.ext b6
         have d4 := d4.ext b6
         have d5 := d5.ext b6
         have i5 := i5.ext b6
         have i6 := i6.ext b6
         have hMid := hMid.ext b6
         have a3 := at_ext a3 b6
         have a5 := at_ext a5 b6
         have a4 := at_ext a4 b6
         have b1 := at_ext b1 b6
         have f3 := at_ext f3 b6
         have e6 := at_ext e6 b6
         have h2 := at_ext h2 b6
         have hC := hC.ext b6
         have hO := hO.ext b6
         have hS := hS.ext b6
         refine x_py 34 (.bool r545) rfl (by kernel_rfl) (tg := 61) (by kernel_rfl) (congrArg Value.bool a1) (fun _ => y_pick_f (congrArg Value.bool a8) rfl) (fun _ => hS) ?_
         refine x_p 35 (.bool r545) rfl (by kernel_rfl)  (fun _ => y_pick_t (congrArg Value.bool a1) rfl) (fun _ => hS) ?_
         refine x_p 36 (.bool r545) rfl (by kernel_rfl)  (fun _ => y_move rfl) (fun _ => hS) ?_
         rcases bif_some hs with ⟨f8, hs⟩ | ⟨f8, hs⟩
         ·skip
          refine x_py 37 (.slice pa1 pn1 pc1) rfl (by kernel_rfl) (tg := 91) (by kernel_rfl) (congrArg Value.bool f8) (fun _ => y_move rfl) (fun _ => hS) ?_
          refine x_py 38 (.int .i64 k504) rfl (by kernel_rfl) (tg := 91) (by kernel_rfl) (congrArg Value.bool f8) (fun _ => y_move rfl) (fun _ => hS) ?_
          refine x_one (i := 39) (by kernel_rfl) ?_
          obtain ⟨r548, v5, hs⟩ := bind_some hs
          refine xk_cally (b := false) rfl (tg := 91) (by kernel_rfl) (congrArg Value.bool f8) Bd55 rfl (c_spec_l1Has (M := (Past M a7 a6)) places k504 h1 hO.fut v5) rfl (by rintro _ _ _ ⟨rfl, b7⟩; exact hS.ext b7) ?_
          rintro _ K3 ⟨rfl, b7⟩
          have h1 := h1.ext b7
          have a0 := a0.ext b7
          have a2 := a2.ext b7
          have d4 := d4.ext b7
          have d5 := d5.ext b7
          have i5 := i5.ext b7
          have i6 := i6.ext b7
          have hMid := hMid.ext b7
          have a3 := at_ext a3 b7
          have a5 := at_ext a5 b7
          have a4 := at_ext a4 b7
          have b1 := at_ext b1 b7
          have f3 := at_ext f3 b7
          have e6 := at_ext e6 b7
          have h2 := at_ext h2 b7
          have hC := hC.ext b7
          have hO := hO.ext b7
          have hS := hS.ext b7
          refine x_py 40 (.bool (!r548)) rfl (by kernel_rfl) (tg := 91) (by kernel_rfl) (congrArg Value.bool f8) (fun _ => y_not rfl) (fun _ => hS) ?_
          refine x_p 41 (.bool (!r548)) rfl (by kernel_rfl)  (fun _ => y_pick_t (congrArg Value.bool f8) rfl) (fun _ => hS) ?_
          refine x_end (by kernel_rfl) ?_
          clear hS
          cases hs
          exact ⟨_, fr_ovl 97 ⟨rfl, rfl, rfl, rfl, rfl, rfl, trivial⟩, hMid⟩
         refine x_pn 37 rfl (by kernel_rfl) (tg := 91) (by kernel_rfl) (congrArg Value.bool f8) (fun _ => hS) ?_
         refine x_pn 38 rfl (by kernel_rfl) (tg := 91) (by kernel_rfl) (congrArg Value.bool f8) (fun _ => hS) ?_
         refine x_pn 39 rfl (by kernel_rfl) (tg := 91) (by kernel_rfl) (congrArg Value.bool f8) (fun _ => hS) ?_
         refine x_pn 40 rfl (by kernel_rfl) (tg := 91) (by kernel_rfl) (congrArg Value.bool f8) (fun _ => hS) ?_
         refine x_p 41 (.bool false) rfl (by kernel_rfl)  (fun _ => y_pick_f (congrArg Value.bool f8) rfl) (fun _ => hS) ?_
         refine x_end (by kernel_rfl) ?_
         clear hS
         cases hs
         exact ⟨_, fr_ovl 97 ⟨rfl, rfl, rfl, rfl, rfl, rfl, trivial⟩, hMid⟩
        ·skip
         obtain ⟨K4, v6, i7⟩ := at_load Ag37 Sz37 (fun _ => rfl) e6
         obtain ⟨v7, v8, v9, rfl⟩ := rs_sl i7
         refine xk_valy (b := false) (.slice v7 v8 v9) rfl (tg := 75) (by kernel_rfl) (congrArg Value.bool a8) (y_load rfl (v6 _ (Chg.refl _ _))) rfl (fun _ => hS) ?_
         refine x_one (i := 28) (by kernel_rfl) ?_
         obtain ⟨K5, w1, i9⟩ := at_load Ag37 Sz37 (fun _ => rfl) h2
         obtain ⟨w2, w3, w4, rfl⟩ := rs_sl i9
         refine xk_valy (b := false) (.slice w2 w3 w4) rfl (tg := 75) (by kernel_rfl) (congrArg Value.bool a8) (y_load rfl (w1 _ (Chg.refl _ _))) rfl (fun _ => hS) ?_
         refine x_one (i := 33) (by kernel_rfl) ?_
         obtain ⟨r545, k9, hs⟩ := bind_some hs
         refine xk_cally (b := false) rfl (tg := 75) (by kernel_rfl) (congrArg Value.bool a8) Bd58 rfl (c_spec_l17Near (M := (Past M a7 a6)) a_.1 x538 x536 1 i9 i7 hO.fut k9) rfl (by rintro _ _ _ ⟨rfl, b8⟩; exact hS.ext b8) ?_
         rintro _ K6 ⟨rfl, b8⟩
         have h1 := h1.ext b8
         have a0 := a0.ext b8
         have a2 := a2.ext b8
         have d4 := d4.ext b8
         have d5 := d5.ext b8
         have i7 := i7.ext b8
         have i9 := i9.ext b8
         have hMid := hMid.ext b8
         have a3 := at_ext a3 b8
         have a5 := at_ext a5 b8
         have a4 := at_ext a4 b8
         have b1 := at_ext b1 b8
         have f3 := at_ext f3 b8
         have e6 := at_ext e6 b8
         have h2 := at_ext h2 b8
         have hC := hC.ext b8
         have hO := hO.ext b8
         have hS := hS.ext b8
         refine x_py 34 (.bool r545) rfl (by kernel_rfl) (tg := 61) (by kernel_rfl) (congrArg Value.bool a1) (fun _ => y_pick_f (congrArg Value.bool a8) rfl) (fun _ => hS) ?_
         refine x_p 35 (.bool r545) rfl (by kernel_rfl)  (fun _ => y_pick_t (congrArg Value.bool a1) rfl) (fun _ => hS) ?_
         refine x_p 36 (.bool r545) rfl (by kernel_rfl)  (fun _ => y_move rfl) (fun _ => hS) ?_
         rcases bif_some hs with ⟨f9, hs⟩ | ⟨f9, hs⟩
         ·skip
          refine x_py 37 (.slice pa1 pn1 pc1) rfl (by kernel_rfl) (tg := 91) (by kernel_rfl) (congrArg Value.bool f9) (fun _ => y_move rfl) (fun _ => hS) ?_
          refine x_py 38 (.int .i64 k504) rfl (by kernel_rfl) (tg := 91) (by kernel_rfl) (congrArg Value.bool f9) (fun _ => y_move rfl) (fun _ => hS) ?_
          refine x_one (i := 39) (by kernel_rfl) ?_
          obtain ⟨n5, w5, hs⟩ := bind_some hs
          refine xk_cally (b := false) rfl (tg := 91) (by kernel_rfl) (congrArg Value.bool f9) Bd55 rfl (c_spec_l1Has (M := (Past M a7 a6)) places k504 h1 hO.fut w5) rfl (by rintro _ _ _ ⟨rfl, b9⟩; exact hS.ext b9) ?_
          rintro _ K7 ⟨rfl, b9⟩
          have h1 := h1.ext b9
          have a0 := a0.ext b9
          have a2 := a2.ext b9
          have d4 := d4.ext b9
          have d5 := d5.ext b9
          have i7 := i7.ext b9
          have i9 := i9.ext b9
          have hMid := hMid.ext b9
          have a3 := at_ext a3 b9
          have a5 := at_ext a5 b9
          have a4 := at_ext a4 b9
          have b1 := at_ext b1 b9
          have f3 := at_ext f3 b9
          have e6 := at_ext e6 b9
          have h2 := at_ext h2 b9
          have hC := hC.ext b9
          have hO := hO.ext b9
          have hS := hS.ext b9
          refine x_py 40 (.bool (!n5)) rfl (by kernel_rfl) (tg := 91) (by kernel_rfl) (congrArg Value.bool f9) (fun _ => y_not rfl) (fun _ => hS) ?_
          refine x_p 41 (.bool (!n5)) rfl (by kernel_rfl)  (fun _ => y_pick_t (congrArg Value.bool f9) rfl) (fun _ => hS) ?_
          refine x_end (by kernel_rfl) ?_
          clear hS
          cases hs
          exact ⟨_, fr_ovl 97 ⟨rfl, rfl, rfl, rfl, rfl, rfl, trivial⟩, hMid⟩
         refine x_pn 37 rfl (by kernel_rfl) (tg := 91) (by kernel_rfl) (congrArg Value.bool f9) (fun _ => hS) ?_
         refine x_pn 38 rfl (by kernel_rfl) (tg := 91) (by kernel_rfl) (congrArg Value.bool f9) (fun _ => hS) ?_
         refine x_pn 39 rfl (by kernel_rfl) (tg := 91) (by kernel_rfl) (congrArg Value.bool f9) (fun _ => hS) ?_
         refine x_pn 40 rfl (by kernel_rfl) (tg := 91) (by kernel_rfl) (congrArg Value.bool f9) (fun _ => hS) ?_
         refine x_p 41 (.bool false) rfl (by kernel_rfl)  (fun _ => y_pick_f (congrArg Value.bool f9) rfl) (fun _ => hS) ?_
         refine x_end (by kernel_rfl) ?_
         clear hS
         cases hs
         exact ⟨_, fr_ovl 97 ⟨rfl, rfl, rfl, rfl, rfl, rfl, trivial⟩, hMid⟩
       ·skip
        obtain ⟨K8, w6, j0⟩ := at_load Ag37 Sz37 (fun _ => rfl) e6
        obtain ⟨w7, w8, w9, rfl⟩ := rs_sl j0
        refine xk_valy (b := false) (.slice w7 w8 w9) rfl (tg := 75) (by kernel_rfl) (congrArg Value.bool a8) (y_load rfl (w6 _ (Chg.refl _ _))) rfl (fun _ => hS) ?_
        refine x_one (i := 26) (by kernel_rfl) ?_
        refine xk_valy (b := false) (.int .i64 x534) rfl (tg := 75) (by kernel_rfl) (congrArg Value.bool a8) (y_load rfl ((at_load_int Ag3 Sz3 f3) _ (Chg.refl _ _))) rfl (fun _ => hS) ?_
        obtain ⟨x538, m4, hs⟩ := bind_some hs
        obtain ⟨x0, x1, x2, l0⟩ := rs_idx Sl47 Sz37 a0 m4
        refine x_py 27 (.pointer (some ⟨x0, x1, none⟩)) rfl (by kernel_rfl) (tg := 75) (by kernel_rfl) (congrArg Value.bool a8) (fun _ => x2 _ _ _ _ _ _ _ _ _ rfl rfl) (fun _ => hS) ?_
        refine x_one (i := 28) (by kernel_rfl) ?_
        obtain ⟨K9, x3, j1⟩ := at_load Ag37 Sz37 (fun _ => rfl) l0
        obtain ⟨x4, x5, x6, rfl⟩ := rs_sl j1
        refine xk_valy (b := false) (.slice x4 x5 x6) rfl (tg := 75) (by kernel_rfl) (congrArg Value.bool a8) (y_load rfl (x3 _ (Chg.refl _ _))) rfl (fun _ => hS) ?_
        refine x_one (i := 33) (by kernel_rfl) ?_
        obtain ⟨r545, k9, hs⟩ := bind_some hs
        refine xk_cally (b := false) rfl (tg := 75) (by kernel_rfl) (congrArg Value.bool a8) Bd58 rfl (c_spec_l17Near (M := (Past M a7 a6)) a_.1 x538 x536 1 j1 j0 hO.fut k9) rfl (by rintro _ _ _ ⟨rfl, c0⟩; exact hS.ext c0) ?_
        rintro _ L0 ⟨rfl, c0⟩
        have h1 := h1.ext c0
        have a0 := a0.ext c0
        have a2 := a2.ext c0
        have d4 := d4.ext c0
        have d5 := d5.ext c0
        have j0 := j0.ext c0
        have j1 := j1.ext c0
        have hMid := hMid.ext c0
        have a3 := at_ext a3 c0
        have a5 := at_ext a5 c0
        have a4 := at_ext a4 c0
        have b1 := at_ext b1 c0
        have f3 := at_ext f3 c0
        have e6 := at_ext e6 c0
        have l0 := at_ext l0 c0
        have hC := hC.ext c0
        have hO := hO.ext c0
        have hS := hS.ext c0
        refine x_py 34 (.bool r545) rfl (by kernel_rfl) (tg := 61) (by kernel_rfl) (congrArg Value.bool a1) (fun _ => y_pick_f (congrArg Value.bool a8) rfl) (fun _ => hS) ?_
        refine x_p 35 (.bool r545) rfl (by kernel_rfl)  (fun _ => y_pick_t (congrArg Value.bool a1) rfl) (fun _ => hS) ?_
        refine x_p 36 (.bool r545) rfl (by kernel_rfl)  (fun _ => y_move rfl) (fun _ => hS) ?_
        rcases bif_some hs with ⟨g0, hs⟩ | ⟨g0, hs⟩
        ·skip
         refine x_py 37 (.slice pa1 pn1 pc1) rfl (by kernel_rfl) (tg := 91) (by kernel_rfl) (congrArg Value.bool g0) (fun _ => y_move rfl) (fun _ => hS) ?_
         refine x_py 38 (.int .i64 k504) rfl (by kernel_rfl) (tg := 91) (by kernel_rfl) (congrArg Value.bool g0) (fun _ => y_move rfl) (fun _ => hS) ?_
         refine x_one (i := 39) (by kernel_rfl) ?_
         obtain ⟨n6, x7, hs⟩ := bind_some hs
         refine xk_cally (b := false) rfl (tg := 91) (by kernel_rfl) (congrArg Value.bool g0) Bd55 rfl (c_spec_l1Has (M := (Past M a7 a6)) places k504 h1 hO.fut x7) rfl (by rintro _ _ _ ⟨rfl, c1⟩; exact hS.ext c1) ?_
         rintro _ L1 ⟨rfl, c1⟩
         have h1 := h1.ext c1
         have a0 := a0.ext c1
         have a2 := a2.ext c1
         have d4 := d4.ext c1
         have d5 := d5.ext c1
         have j0 := j0.ext c1
         have j1 := j1.ext c1
         have hMid := hMid.ext c1
         have a3 := at_ext a3 c1
         have a5 := at_ext a5 c1
         have a4 := at_ext a4 c1
         have b1 := at_ext b1 c1
         have f3 := at_ext f3 c1
         have e6 := at_ext e6 c1
         have l0 := at_ext l0 c1
         have hC := hC.ext c1
         have hO := hO.ext c1
         have hS := hS.ext c1
         refine x_py 40 (.bool (!n6)) rfl (by kernel_rfl) (tg := 91) (by kernel_rfl) (congrArg Value.bool g0) (fun _ => y_not rfl) (fun _ => hS) ?_
         refine x_p 41 (.bool (!n6)) rfl (by kernel_rfl)  (fun _ => y_pick_t (congrArg Value.bool g0) rfl) (fun _ => hS) ?_
         refine x_end (by kernel_rfl) ?_
         clear hS
         cases hs
         exact ⟨_, fr_ovl 97 ⟨rfl, rfl, rfl, rfl, rfl, rfl, trivial⟩, hMid⟩
        refine x_pn 37 rfl (by kernel_rfl) (tg := 91) (by kernel_rfl) (congrArg Value.bool g0) (fun _ => hS) ?_
        refine x_pn 38 rfl (by kernel_rfl) (tg := 91) (by kernel_rfl) (congrArg Value.bool g0) (fun _ => hS) ?_
        refine x_pn 39 rfl (by kernel_rfl) (tg := 91) (by kernel_rfl) (congrArg Value.bool g0) (fun _ => hS) ?_
        refine x_pn 40 rfl (by kernel_rfl) (tg := 91) (by kernel_rfl) (congrArg Value.bool g0) (fun _ => hS) ?_
        refine x_p 41 (.bool false) rfl (by kernel_rfl)  (fun _ => y_pick_f (congrArg Value.bool g0) rfl) (fun _ => hS) ?_
        refine x_end (by kernel_rfl) ?_
        clear hS
        cases hs
        exact ⟨_, fr_ovl 97 ⟨rfl, rfl, rfl, rfl, rfl, rfl, trivial⟩, hMid⟩
      ·skip
       obtain ⟨L2, x8, d6⟩ := at_load Ag37 Sz37 (fun _ => rfl) a4
       obtain ⟨x9, y0, y1, rfl⟩ := rs_sl d6
       refine xk_valy (b := false) (.slice x9 y0 y1) rfl (tg := 61) (by kernel_rfl) (congrArg Value.bool a1) (y_load rfl (x8 _ (Chg.refl _ _))) rfl (fun _ => hS) ?_
       refine x_one (i := 14) (by kernel_rfl) ?_
       obtain ⟨L3, y2, d7⟩ := at_load Ag37 Sz37 (fun _ => rfl) b1
       obtain ⟨y3, y4, y5, rfl⟩ := rs_sl d7
       refine xk_valy (b := false) (.slice y3 y4 y5) rfl (tg := 61) (by kernel_rfl) (congrArg Value.bool a1) (y_load rfl (y2 _ (Chg.refl _ _))) rfl (fun _ => hS) ?_
       refine x_one (i := 19) (by kernel_rfl) ?_
       obtain ⟨r530, k8, hs⟩ := bind_some hs
       refine xk_cally (b := false) rfl (tg := 61) (by kernel_rfl) (congrArg Value.bool a1) Bd58 rfl (c_spec_l17Near (M := (Past M a7 a6)) a_.1 x523 x521 0 d7 d6 hO.fut k8) rfl (by rintro _ _ _ ⟨rfl, e7⟩; exact hS.ext e7) ?_
       rintro _ L4 ⟨rfl, e7⟩
       have h1 := h1.ext e7
       have a0 := a0.ext e7
       have a2 := a2.ext e7
       have d6 := d6.ext e7
       have d7 := d7.ext e7
       have hMid := hMid.ext e7
       have a3 := at_ext a3 e7
       have a5 := at_ext a5 e7
       have a4 := at_ext a4 e7
       have b1 := at_ext b1 e7
       have hC := hC.ext e7
       have hO := hO.ext e7
       have hS := hS.ext e7
       refine x_py 20 (.bool r530) rfl (by kernel_rfl) (tg := 61) (by kernel_rfl) (congrArg Value.bool a1) (fun _ => y_move rfl) (fun _ => hS) ?_
       rcases bif_some hs with ⟨a9, hs⟩ | ⟨a9, hs⟩
       ·skip
        refine x_pn 21 rfl (by kernel_rfl) (tg := 75) (by kernel_rfl) (congrArg Value.bool a9) (fun _ => hS) ?_
        refine x_pn 22 rfl (by kernel_rfl) (tg := 75) (by kernel_rfl) (congrArg Value.bool a9) (fun _ => hS) ?_
        refine x_pn 23 rfl (by kernel_rfl) (tg := 75) (by kernel_rfl) (congrArg Value.bool a9) (fun _ => hS) ?_
        refine x_pn 24 rfl (by kernel_rfl) (tg := 75) (by kernel_rfl) (congrArg Value.bool a9) (fun _ => hS) ?_
        refine x_pn 25 rfl (by kernel_rfl) (tg := 75) (by kernel_rfl) (congrArg Value.bool a9) (fun _ => hS) ?_
        refine x_pn 26 rfl (by kernel_rfl) (tg := 75) (by kernel_rfl) (congrArg Value.bool a9) (fun _ => hS) ?_
        refine x_pn 27 rfl (by kernel_rfl) (tg := 75) (by kernel_rfl) (congrArg Value.bool a9) (fun _ => hS) ?_
        refine x_pn 28 rfl (by kernel_rfl) (tg := 75) (by kernel_rfl) (congrArg Value.bool a9) (fun _ => hS) ?_
        refine x_pn 29 rfl (by kernel_rfl) (tg := 75) (by kernel_rfl) (congrArg Value.bool a9) (fun _ => hS) ?_
        refine x_pn 30 rfl (by kernel_rfl) (tg := 75) (by kernel_rfl) (congrArg Value.bool a9) (fun _ => hS) ?_
        refine x_pn 31 rfl (by kernel_rfl) (tg := 75) (by kernel_rfl) (congrArg Value.bool a9) (fun _ => hS) ?_
        refine x_pn 32 rfl (by kernel_rfl) (tg := 75) (by kernel_rfl) (congrArg Value.bool a9) (fun _ => hS) ?_
        refine x_pn 33 rfl (by kernel_rfl) (tg := 75) (by kernel_rfl) (congrArg Value.bool a9) (fun _ => hS) ?_
        refine x_py 34 (.bool true) rfl (by kernel_rfl) (tg := 61) (by kernel_rfl) (congrArg Value.bool a1) (fun _ => y_pick_t (congrArg Value.bool a9) rfl) (fun _ => hS) ?_
        refine x_p 35 (.bool true) rfl (by kernel_rfl)  (fun _ => y_pick_t (congrArg Value.bool a1) rfl) (fun _ => hS) ?_
        refine x_p 36 (.bool true) rfl (by kernel_rfl)  (fun _ => y_move rfl) (fun _ => hS) ?_
        refine x_py 37 (.slice pa1 pn1 pc1) rfl (by kernel_rfl) (tg := 91) (by kernel_rfl) (by rfl) (fun _ => y_move rfl) (fun _ => hS) ?_
        refine x_py 38 (.int .i64 k504) rfl (by kernel_rfl) (tg := 91) (by kernel_rfl) (by rfl) (fun _ => y_move rfl) (fun _ => hS) ?_
        refine x_one (i := 39) (by kernel_rfl) ?_
        obtain ⟨n7, y6, hs⟩ := bind_some hs
        refine xk_cally (b := false) rfl (tg := 91) (by kernel_rfl) (by rfl) Bd55 rfl (c_spec_l1Has (M := (Past M a7 a6)) places k504 h1 hO.fut y6) rfl (by rintro _ _ _ ⟨rfl, e8⟩; exact hS.ext e8) ?_
        rintro _ L5 ⟨rfl, e8⟩
        have h1 := h1.ext e8
        have a0 := a0.ext e8
        have a2 := a2.ext e8
        have d6 := d6.ext e8
        have d7 := d7.ext e8
        have hMid := hMid.ext e8
        have a3 := at_ext a3 e8
        have a5 := at_ext a5 e8
        have a4 := at_ext a4 e8
        have b1 := at_ext b1 e8
        have hC := hC.ext e8
        have hO := hO.ext e8
        have hS := hS.ext e8
        refine x_py 40 (.bool (!n7)) rfl (by kernel_rfl) (tg := 91) (by kernel_rfl) (by rfl) (fun _ => y_not rfl) (fun _ => hS) ?_
        refine x_p 41 (.bool (!n7)) rfl (by kernel_rfl)  (fun _ => y_pick_t (by rfl) rfl) (fun _ => hS) ?_
        refine x_end (by kernel_rfl) ?_
        clear hS
        cases hs
        exact ⟨_, fr_ovl 97 ⟨rfl, rfl, rfl, rfl, rfl, rfl, trivial⟩, hMid⟩
       refine x_py 21 (.int .i64 a_.1) rfl (by kernel_rfl) (tg := 75) (by kernel_rfl) (congrArg Value.bool a9) (fun _ => y_move rfl) (fun _ => hS) ?_
       refine x_py 22 (.slice b2 b3 b4) rfl (by kernel_rfl) (tg := 75) (by kernel_rfl) (congrArg Value.bool a9) (fun _ => y_move rfl) (fun _ => hS) ?_
       refine x_py 23 (.slice pa1 pn1 pc1) rfl (by kernel_rfl) (tg := 75) (by kernel_rfl) (congrArg Value.bool a9) (fun _ => y_move rfl) (fun _ => hS) ?_
       refine x_py 24 (.int .i64 k346) rfl (by kernel_rfl) (tg := 75) (by kernel_rfl) (congrArg Value.bool a9) (fun _ => y_move rfl) (fun _ => hS) ?_
       obtain ⟨n8, y7, hs⟩ := bind_some hs
       obtain ⟨y8, y9, z0, f4⟩ := rs_idx Sl37 Sz3 h1 y7
       refine x_py 25 (.pointer (some ⟨y8, y9, none⟩)) rfl (by kernel_rfl) (tg := 75) (by kernel_rfl) (congrArg Value.bool a9) (fun _ => z0 _ _ _ _ _ _ _ _ _ rfl rfl) (fun _ => hS) ?_
       refine x_py 29 (.slice b2 b3 b4) rfl (by kernel_rfl) (tg := 75) (by kernel_rfl) (congrArg Value.bool a9) (fun _ => y_move rfl) (fun _ => hS) ?_
       refine x_py 30 (.int .i64 k504) rfl (by kernel_rfl) (tg := 75) (by kernel_rfl) (congrArg Value.bool a9) (fun _ => y_move rfl) (fun _ => hS) ?_
       obtain ⟨m5, z1, hs⟩ := bind_some hs
       obtain ⟨z2, z3, z4, e9⟩ := rs_idx Sl47 Sz37 a0 z1
       refine x_py 31 (.pointer (some ⟨z2, z3, none⟩)) rfl (by kernel_rfl) (tg := 75) (by kernel_rfl) (congrArg Value.bool a9) (fun _ => z4 _ _ _ _ _ _ _ _ _ rfl rfl) (fun _ => hS) ?_
       refine x_two (i := 26) (j := 32) (by kernel_rfl) ?_ ?_
       ·skip
        refine xk_valy (b := false) (.int .i64 n8) rfl (tg := 75) (by kernel_rfl) (congrArg Value.bool a9) (y_load rfl ((at_load_int Ag3 Sz3 f4) _ (Chg.refl _ _))) rfl (fun _ => hS) ?_
        obtain ⟨l7, m6, hs⟩ := bind_some hs
        obtain ⟨z5, z6, z7, h3⟩ := rs_idx Sl47 Sz37 a0 m6
        refine x_py 27 (.pointer (some ⟨z5, z6, none⟩)) rfl (by kernel_rfl) (tg := 75) (by kernel_rfl) (congrArg Value.bool a9) (fun _ => z7 _ _ _ _ _ _ _ _ _ rfl rfl) (fun _ => hS) ?_
        refine x_two (i := 28) (j := 32) (by kernel_rfl) ?_ ?_
        ·skip
         obtain ⟨L6, z8, j2⟩ := at_load Ag37 Sz37 (fun _ => rfl) h3
         obtain ⟨z9, A0, A1, rfl⟩ := rs_sl j2
         refine xk_valy (b := false) (.slice z9 A0 A1) rfl (tg := 75) (by kernel_rfl) (congrArg Value.bool a9) (y_load rfl (z8 _ (Chg.refl _ _))) rfl (fun _ => hS) ?_
         refine x_one (i := 32) (by kernel_rfl) ?_
         obtain ⟨L7, A2, j3⟩ := at_load Ag37 Sz37 (fun _ => rfl) e9
         obtain ⟨A3, A4, A5, rfl⟩ := rs_sl j3
         refine xk_valy (b := false) (.slice A3 A4 A5) rfl (tg := 75) (by kernel_rfl) (congrArg Value.bool a9) (y_load rfl (A2 _ (Chg.refl _ _))) rfl (fun _ => hS) ?_
         refine x_one (i := 33) (by kernel_rfl) ?_
         obtain ⟨g1, l1, hs⟩ := bind_some hs
         refine xk_cally (b := false) rfl (tg := 75) (by kernel_rfl) (congrArg Value.bool a9) Bd58 rfl (c_spec_l17Near (M := (Past M a7 a6)) a_.1 l7 m5 1 j2 j3 hO.fut l1) rfl (by rintro _ _ _ ⟨rfl, c2⟩; exact hS.ext c2) ?_
         rintro _ L8 ⟨rfl, c2⟩
         have h1 := h1.ext c2
         have a0 := a0.ext c2
         have a2 := a2.ext c2
         have d6 := d6.ext c2
         have d7 := d7.ext c2
         have j2 := j2.ext c2
         have j3 := j3.ext c2
         have hMid := hMid.ext c2
         have a3 := at_ext a3 c2
         have a5 := at_ext a5 c2
         have a4 := at_ext a4 c2
         have b1 := at_ext b1 c2
         have f4 := at_ext f4 c2
         have e9 := at_ext e9 c2
         have h3 := at_ext h3 c2
         have hC := hC.ext c2
         have hO := hO.ext c2
         have hS := hS.ext c2
         refine x_py 34 (.bool g1) rfl (by kernel_rfl) (tg := 61) (by kernel_rfl) (congrArg Value.bool a1) (fun _ => y_pick_f (congrArg Value.bool a9) rfl) (fun _ => hS) ?_
         refine x_p 35 (.bool g1) rfl (by kernel_rfl)  (fun _ => y_pick_t (congrArg Value.bool a1) rfl) (fun _ => hS) ?_
         refine x_p 36 (.bool g1) rfl (by kernel_rfl)  (fun _ => y_move rfl) (fun _ => hS) ?_
         rcases bif_some hs with ⟨g2, hs⟩ | ⟨g2, hs⟩
         ·skip
          refine x_py 37 (.slice pa1 pn1 pc1) rfl (by kernel_rfl) (tg := 91) (by kernel_rfl) (congrArg Value.bool g2) (fun _ => y_move rfl) (fun _ => hS) ?_
          refine x_py 38 (.int .i64 k504) rfl (by kernel_rfl) (tg := 91) (by kernel_rfl) (congrArg Value.bool g2) (fun _ => y_move rfl) (fun _ => hS) ?_
          refine x_one (i := 39) (by kernel_rfl) ?_
          obtain ⟨n9, A6, hs⟩ := bind_some hs
          refine xk_cally (b := false) rfl (tg := 91) (by kernel_rfl) (congrArg Value.bool g2) Bd55 rfl (c_spec_l1Has (M := (Past M a7 a6)) places k504 h1 hO.fut A6) rfl (by rintro _ _ _ ⟨rfl, c3⟩; exact hS.ext c3) ?_
          rintro _ L9 ⟨rfl, c3⟩
          have h1 := h1.ext c3
          have a0 := a0.ext c3
          have a2 := a2.ext c3
          have d6 := d6.ext c3
          have d7 := d7.ext c3
          have j2 := j2.ext c3
          have j3 := j3.ext c3
          have hMid := hMid.ext c3
          have a3 := at_ext a3 c3
          have a5 := at_ext a5 c3
          have a4 := at_ext a4 c3
          have b1 := at_ext b1 c3
          have f4 := at_ext f4 c3
          have e9 := at_ext e9 c3
          have h3 := at_ext h3 c3
          have hC := hC.ext c3
          have hO := hO.ext c3
          have hS := hS.ext c3
          refine x_py 40 (.bool (!n9)) rfl (by kernel_rfl) (tg := 91) (by kernel_rfl) (congrArg Value.bool g2) (fun _ => y_not rfl) (fun _ => hS) ?_
          refine x_p 41 (.bool (!n9)) rfl (by kernel_rfl)  (fun _ => y_pick_t (congrArg Value.bool g2) rfl) (fun _ => hS) ?_
          refine x_end (by kernel_rfl) ?_
          clear hS
          cases hs
          exact ⟨_, fr_ovl 97 ⟨rfl, rfl, rfl, rfl, rfl, rfl, trivial⟩, hMid⟩
         refine x_pn 37 rfl (by kernel_rfl) (tg := 91) (by kernel_rfl) (congrArg Value.bool g2) (fun _ => hS) ?_
         refine x_pn 38 rfl (by kernel_rfl) (tg := 91) (by kernel_rfl) (congrArg Value.bool g2) (fun _ => hS) ?_
         refine x_pn 39 rfl (by kernel_rfl) (tg := 91) (by kernel_rfl) (congrArg Value.bool g2) (fun _ => hS) ?_
         refine x_pn 40 rfl (by kernel_rfl) (tg := 91) (by kernel_rfl) (congrArg Value.bool g2) (fun _ => hS) ?_
         refine x_p 41 (.bool false) rfl (by kernel_rfl)  (fun _ => y_pick_f (congrArg Value.bool g2) rfl) (fun _ => hS) ?_
         refine x_end (by kernel_rfl) ?_
         clear hS
         cases hs
         exact ⟨_, fr_ovl 97 ⟨rfl, rfl, rfl, rfl, rfl, rfl, trivial⟩, hMid⟩
        ·skip
         obtain ⟨M0, A7, j4⟩ := at_load Ag37 Sz37 (fun _ => rfl) e9
         obtain ⟨A8, A9, B0, rfl⟩ := rs_sl j4
         refine xk_valy (b := false) (.slice A8 A9 B0) rfl (tg := 75) (by kernel_rfl) (congrArg Value.bool a9) (y_load rfl (A7 _ (Chg.refl _ _))) rfl (fun _ => hS) ?_
         refine x_one (i := 28) (by kernel_rfl) ?_
         obtain ⟨M1, B1, j5⟩ := at_load Ag37 Sz37 (fun _ => rfl) h3
         obtain ⟨B2, B3, B4, rfl⟩ := rs_sl j5
         refine xk_valy (b := false) (.slice B2 B3 B4) rfl (tg := 75) (by kernel_rfl) (congrArg Value.bool a9) (y_load rfl (B1 _ (Chg.refl _ _))) rfl (fun _ => hS) ?_
         refine x_one (i := 33) (by kernel_rfl) ?_
         obtain ⟨g1, l1, hs⟩ := bind_some hs
         refine xk_cally (b := false) rfl (tg := 75) (by kernel_rfl) (congrArg Value.bool a9) Bd58 rfl (c_spec_l17Near (M := (Past M a7 a6)) a_.1 l7 m5 1 j5 j4 hO.fut l1) rfl (by rintro _ _ _ ⟨rfl, c4⟩; exact hS.ext c4) ?_
         rintro _ M2 ⟨rfl, c4⟩
         have h1 := h1.ext c4
         have a0 := a0.ext c4
         have a2 := a2.ext c4
         have d6 := d6.ext c4
         have d7 := d7.ext c4
         have j4 := j4.ext c4
         have j5 := j5.ext c4
         have hMid := hMid.ext c4
         have a3 := at_ext a3 c4
         have a5 := at_ext a5 c4
         have a4 := at_ext a4 c4
         have b1 := at_ext b1 c4
         have f4 := at_ext f4 c4
         have e9 := at_ext e9 c4
         have h3 := at_ext h3 c4
         have hC := hC.ext c4
         have hO := hO.ext c4
         have hS := hS.ext c4
         refine x_py 34 (.bool g1) rfl (by kernel_rfl) (tg := 61) (by kernel_rfl) (congrArg Value.bool a1) (fun _ => y_pick_f (congrArg Value.bool a9) rfl) (fun _ => hS) ?_
         refine x_p 35 (.bool g1) rfl (by kernel_rfl)  (fun _ => y_pick_t (congrArg Value.bool a1) rfl) (fun _ => hS) ?_
         refine x_p 36 (.bool g1) rfl (by kernel_rfl)  (fun _ => y_move rfl) (fun _ => hS) ?_
         rcases bif_some hs with ⟨g3, hs⟩ | ⟨g3, hs⟩
         ·skip
          refine x_py 37 (.slice pa1 pn1 pc1) rfl (by kernel_rfl) (tg := 91) (by kernel_rfl) (congrArg Value.bool g3) (fun _ => y_move rfl) (fun _ => hS) ?_
          refine x_py 38 (.int .i64 k504) rfl (by kernel_rfl) (tg := 91) (by kernel_rfl) (congrArg Value.bool g3) (fun _ => y_move rfl) (fun _ => hS) ?_
          refine x_one (i := 39) (by kernel_rfl) ?_
          obtain ⟨o0, B5, hs⟩ := bind_some hs
          refine xk_cally (b := false) rfl (tg := 91) (by kernel_rfl) (congrArg Value.bool g3) Bd55 rfl (c_spec_l1Has (M := (Past M a7 a6)) places k504 h1 hO.fut B5) rfl (by rintro _ _ _ ⟨rfl, c5⟩; exact hS.ext c5) ?_
          rintro _ M3 ⟨rfl, c5⟩
          have h1 := h1.ext c5
          have a0 := a0.ext c5
          have a2 := a2.ext c5
          have d6 := d6.ext c5
          have d7 := d7.ext c5
          have j4 := j4.ext c5
          have j5 := j5.ext c5
          have hMid := hMid.ext c5
          have a3 := at_ext a3 c5
          have a5 := at_ext a5 c5
          have a4 := at_ext a4 c5
          have b1 := at_ext b1 c5
          have f4 := at_ext f4 c5
          have e9 := at_ext e9 c5
          have h3 := at_ext h3 c5
          have hC := hC.ext c5
          have hO := hO.ext c5
          have hS := hS.ext c5
          refine x_py 40 (.bool (!o0)) rfl (by kernel_rfl) (tg := 91) (by kernel_rfl) (congrArg Value.bool g3) (fun _ => y_not rfl) (fun _ => hS) ?_
          refine x_p 41 (.bool (!o0)) rfl (by kernel_rfl)  (fun _ => y_pick_t (congrArg Value.bool g3) rfl) (fun _ => hS) ?_
          refine x_end (by kernel_rfl) ?_
          clear hS
          cases hs
          exact ⟨_, fr_ovl 97 ⟨rfl, rfl, rfl, rfl, rfl, rfl, trivial⟩, hMid⟩
         refine x_pn 37 rfl (by kernel_rfl) (tg := 91) (by kernel_rfl) (congrArg Value.bool g3) (fun _ => hS) ?_
         refine x_pn 38 rfl (by kernel_rfl) (tg := 91) (by kernel_rfl) (congrArg Value.bool g3) (fun _ => hS) ?_
         refine x_pn 39 rfl (by kernel_rfl) (tg := 91) (by kernel_rfl) (congrArg Value.bool g3) (fun _ => hS) ?_
         refine x_pn 40 rfl (by kernel_rfl) (tg := 91) (by kernel_rfl) (congrArg Value.bool g3) (fun _ => hS) ?_
         refine x_p 41 (.bool false) rfl (by kernel_rfl)  (fun _ => y_pick_f (congrArg Value.bool g3) rfl) (fun _ => hS) ?_
         refine x_end (by kernel_rfl) ?_
         clear hS
         cases hs
         exact ⟨_, fr_ovl 97 ⟨rfl, rfl, rfl, rfl, rfl, rfl, trivial⟩, hMid⟩
       ·skip
        obtain ⟨M4, B6, j6⟩ := at_load Ag37 Sz37 (fun _ => rfl) e9
        obtain ⟨B7, B8, B9, rfl⟩ := rs_sl j6
        refine xk_valy (b := false) (.slice B7 B8 B9) rfl (tg := 75) (by kernel_rfl) (congrArg Value.bool a9) (y_load rfl (B6 _ (Chg.refl _ _))) rfl (fun _ => hS) ?_
        refine x_one (i := 26) (by kernel_rfl) ?_
        refine xk_valy (b := false) (.int .i64 n8) rfl (tg := 75) (by kernel_rfl) (congrArg Value.bool a9) (y_load rfl ((at_load_int Ag3 Sz3 f4) _ (Chg.refl _ _))) rfl (fun _ => hS) ?_
        obtain ⟨l7, m6, hs⟩ := bind_some hs
        obtain ⟨C0, C1, C2, l2⟩ := rs_idx Sl47 Sz37 a0 m6
        refine x_py 27 (.pointer (some ⟨C0, C1, none⟩)) rfl (by kernel_rfl) (tg := 75) (by kernel_rfl) (congrArg Value.bool a9) (fun _ => C2 _ _ _ _ _ _ _ _ _ rfl rfl) (fun _ => hS) ?_
        refine x_one (i := 28) (by kernel_rfl) ?_
        obtain ⟨M5, C3, j7⟩ := at_load Ag37 Sz37 (fun _ => rfl) l2
        obtain ⟨C4, C5, C6, rfl⟩ := rs_sl j7
        refine xk_valy (b := false) (.slice C4 C5 C6) rfl (tg := 75) (by kernel_rfl) (congrArg Value.bool a9) (y_load rfl (C3 _ (Chg.refl _ _))) rfl (fun _ => hS) ?_
        refine x_one (i := 33) (by kernel_rfl) ?_
        obtain ⟨g1, l1, hs⟩ := bind_some hs
        refine xk_cally (b := false) rfl (tg := 75) (by kernel_rfl) (congrArg Value.bool a9) Bd58 rfl (c_spec_l17Near (M := (Past M a7 a6)) a_.1 l7 m5 1 j7 j6 hO.fut l1) rfl (by rintro _ _ _ ⟨rfl, c6⟩; exact hS.ext c6) ?_
        rintro _ M6 ⟨rfl, c6⟩
        have h1 := h1.ext c6
        have a0 := a0.ext c6
        have a2 := a2.ext c6
        have d6 := d6.ext c6
        have d7 := d7.ext c6
        have j6 := j6.ext c6
        have j7 := j7.ext c6
        have hMid := hMid.ext c6
        have a3 := at_ext a3 c6
        have a5 := at_ext a5 c6
        have a4 := at_ext a4 c6
        have b1 := at_ext b1 c6
        have f4 := at_ext f4 c6
        have e9 := at_ext e9 c6
        have l2 := at_ext l2 c6
        have hC := hC.ext c6
        have hO := hO.ext c6
        have hS := hS.ext c6
        refine x_py 34 (.bool g1) rfl (by kernel_rfl) (tg := 61) (by kernel_rfl) (congrArg Value.bool a1) (fun _ => y_pick_f (congrArg Value.bool a9) rfl) (fun _ => hS) ?_
        refine x_p 35 (.bool g1) rfl (by kernel_rfl)  (fun _ => y_pick_t (congrArg Value.bool a1) rfl) (fun _ => hS) ?_
        refine x_p 36 (.bool g1) rfl (by kernel_rfl)  (fun _ => y_move rfl) (fun _ => hS) ?_
        rcases bif_some hs with ⟨g4, hs⟩ | ⟨g4, hs⟩
        ·skip
         refine x_py 37 (.slice pa1 pn1 pc1) rfl (by kernel_rfl) (tg := 91) (by kernel_rfl) (congrArg Value.bool g4) (fun _ => y_move rfl) (fun _ => hS) ?_
         refine x_py 38 (.int .i64 k504) rfl (by kernel_rfl) (tg := 91) (by kernel_rfl) (congrArg Value.bool g4) (fun _ => y_move rfl) (fun _ => hS) ?_
         refine x_one (i := 39) (by kernel_rfl) ?_
         obtain ⟨o1, C7, hs⟩ := bind_some hs
         refine xk_cally (b := false) rfl (tg := 91) (by kernel_rfl) (congrArg Value.bool g4) Bd55 rfl (c_spec_l1Has (M := (Past M a7 a6)) places k504 h1 hO.fut C7) rfl (by rintro _ _ _ ⟨rfl, c7⟩; exact hS.ext c7) ?_
         rintro _ M7 ⟨rfl, c7⟩
         have h1 := h1.ext c7
         have a0 := a0.ext c7
         have a2 := a2.ext c7
         have d6 := d6.ext c7
         have d7 := d7.ext c7
         have j6 := j6.ext c7
         have j7 := j7.ext c7
         have hMid := hMid.ext c7
         have a3 := at_ext a3 c7
         have a5 := at_ext a5 c7
         have a4 := at_ext a4 c7
         have b1 := at_ext b1 c7
         have f4 := at_ext f4 c7
         have e9 := at_ext e9 c7
         have l2 := at_ext l2 c7
         have hC := hC.ext c7
         have hO := hO.ext c7
         have hS := hS.ext c7
         refine x_py 40 (.bool (!o1)) rfl (by kernel_rfl) (tg := 91) (by kernel_rfl) (congrArg Value.bool g4) (fun _ => y_not rfl) (fun _ => hS) ?_
         refine x_p 41 (.bool (!o1)) rfl (by kernel_rfl)  (fun _ => y_pick_t (congrArg Value.bool g4) rfl) (fun _ => hS) ?_
         refine x_end (by kernel_rfl) ?_
         clear hS
         cases hs
         exact ⟨_, fr_ovl 97 ⟨rfl, rfl, rfl, rfl, rfl, rfl, trivial⟩, hMid⟩
        refine x_pn 37 rfl (by kernel_rfl) (tg := 91) (by kernel_rfl) (congrArg Value.bool g4) (fun _ => hS) ?_
        refine x_pn 38 rfl (by kernel_rfl) (tg := 91) (by kernel_rfl) (congrArg Value.bool g4) (fun _ => hS) ?_
        refine x_pn 39 rfl (by kernel_rfl) (tg := 91) (by kernel_rfl) (congrArg Value.bool g4) (fun _ => hS) ?_
        refine x_pn 40 rfl (by kernel_rfl) (tg := 91) (by kernel_rfl) (congrArg Value.bool g4) (fun _ => hS) ?_
        refine x_p 41 (.bool false) rfl (by kernel_rfl)  (fun _ => y_pick_f (congrArg Value.bool g4) rfl) (fun _ => hS) ?_
        refine x_end (by kernel_rfl) ?_
        clear hS
        cases hs
        exact ⟨_, fr_ovl 97 ⟨rfl, rfl, rfl, rfl, rfl, rfl, trivial⟩, hMid⟩
     ·skip
      obtain ⟨M8, C8, d8⟩ := at_load Ag37 Sz37 (fun _ => rfl) a4
      obtain ⟨C9, D0, D1, rfl⟩ := rs_sl d8
      refine xk_valy (b := false) (.slice C9 D0 D1) rfl (tg := 61) (by kernel_rfl) (congrArg Value.bool a1) (y_load rfl (C8 _ (Chg.refl _ _))) rfl (fun _ => hS) ?_
      refine x_one (i := 12) (by kernel_rfl) ?_
      refine xk_valy (b := false) (.int .i64 x519) rfl (tg := 61) (by kernel_rfl) (congrArg Value.bool a1) (y_load rfl ((at_load_int Ag3 Sz3 a5) _ (Chg.refl _ _))) rfl (fun _ => hS) ?_
      obtain ⟨x523, m3, hs⟩ := bind_some hs
      obtain ⟨D2, D3, D4, e0⟩ := rs_idx Sl47 Sz37 a0 m3
      refine x_py 13 (.pointer (some ⟨D2, D3, none⟩)) rfl (by kernel_rfl) (tg := 61) (by kernel_rfl) (congrArg Value.bool a1) (fun _ => D4 _ _ _ _ _ _ _ _ _ rfl rfl) (fun _ => hS) ?_
      refine x_one (i := 14) (by kernel_rfl) ?_
      obtain ⟨M9, D5, d9⟩ := at_load Ag37 Sz37 (fun _ => rfl) e0
      obtain ⟨D6, D7, D8, rfl⟩ := rs_sl d9
      refine xk_valy (b := false) (.slice D6 D7 D8) rfl (tg := 61) (by kernel_rfl) (congrArg Value.bool a1) (y_load rfl (D5 _ (Chg.refl _ _))) rfl (fun _ => hS) ?_
      refine x_one (i := 19) (by kernel_rfl) ?_
      obtain ⟨r530, k8, hs⟩ := bind_some hs
      refine xk_cally (b := false) rfl (tg := 61) (by kernel_rfl) (congrArg Value.bool a1) Bd58 rfl (c_spec_l17Near (M := (Past M a7 a6)) a_.1 x523 x521 0 d9 d8 hO.fut k8) rfl (by rintro _ _ _ ⟨rfl, f0⟩; exact hS.ext f0) ?_
      rintro _ N0 ⟨rfl, f0⟩
      have h1 := h1.ext f0
      have a0 := a0.ext f0
      have a2 := a2.ext f0
      have d8 := d8.ext f0
      have d9 := d9.ext f0
      have hMid := hMid.ext f0
      have a3 := at_ext a3 f0
      have a5 := at_ext a5 f0
      have a4 := at_ext a4 f0
      have e0 := at_ext e0 f0
      have hC := hC.ext f0
      have hO := hO.ext f0
      have hS := hS.ext f0
      refine x_py 20 (.bool r530) rfl (by kernel_rfl) (tg := 61) (by kernel_rfl) (congrArg Value.bool a1) (fun _ => y_move rfl) (fun _ => hS) ?_
      rcases bif_some hs with ⟨b0, hs⟩ | ⟨b0, hs⟩
      ·skip
       refine x_pn 21 rfl (by kernel_rfl) (tg := 75) (by kernel_rfl) (congrArg Value.bool b0) (fun _ => hS) ?_
       refine x_pn 22 rfl (by kernel_rfl) (tg := 75) (by kernel_rfl) (congrArg Value.bool b0) (fun _ => hS) ?_
       refine x_pn 23 rfl (by kernel_rfl) (tg := 75) (by kernel_rfl) (congrArg Value.bool b0) (fun _ => hS) ?_
       refine x_pn 24 rfl (by kernel_rfl) (tg := 75) (by kernel_rfl) (congrArg Value.bool b0) (fun _ => hS) ?_
       refine x_pn 25 rfl (by kernel_rfl) (tg := 75) (by kernel_rfl) (congrArg Value.bool b0) (fun _ => hS) ?_
       refine x_pn 26 rfl (by kernel_rfl) (tg := 75) (by kernel_rfl) (congrArg Value.bool b0) (fun _ => hS) ?_
       refine x_pn 27 rfl (by kernel_rfl) (tg := 75) (by kernel_rfl) (congrArg Value.bool b0) (fun _ => hS) ?_
       refine x_pn 28 rfl (by kernel_rfl) (tg := 75) (by kernel_rfl) (congrArg Value.bool b0) (fun _ => hS) ?_
       refine x_pn 29 rfl (by kernel_rfl) (tg := 75) (by kernel_rfl) (congrArg Value.bool b0) (fun _ => hS) ?_
       refine x_pn 30 rfl (by kernel_rfl) (tg := 75) (by kernel_rfl) (congrArg Value.bool b0) (fun _ => hS) ?_
       refine x_pn 31 rfl (by kernel_rfl) (tg := 75) (by kernel_rfl) (congrArg Value.bool b0) (fun _ => hS) ?_
       refine x_pn 32 rfl (by kernel_rfl) (tg := 75) (by kernel_rfl) (congrArg Value.bool b0) (fun _ => hS) ?_
       refine x_pn 33 rfl (by kernel_rfl) (tg := 75) (by kernel_rfl) (congrArg Value.bool b0) (fun _ => hS) ?_
       refine x_py 34 (.bool true) rfl (by kernel_rfl) (tg := 61) (by kernel_rfl) (congrArg Value.bool a1) (fun _ => y_pick_t (congrArg Value.bool b0) rfl) (fun _ => hS) ?_
       refine x_p 35 (.bool true) rfl (by kernel_rfl)  (fun _ => y_pick_t (congrArg Value.bool a1) rfl) (fun _ => hS) ?_
       refine x_p 36 (.bool true) rfl (by kernel_rfl)  (fun _ => y_move rfl) (fun _ => hS) ?_
       refine x_py 37 (.slice pa1 pn1 pc1) rfl (by kernel_rfl) (tg := 91) (by kernel_rfl) (by rfl) (fun _ => y_move rfl) (fun _ => hS) ?_
       refine x_py 38 (.int .i64 k504) rfl (by kernel_rfl) (tg := 91) (by kernel_rfl) (by rfl) (fun _ => y_move rfl) (fun _ => hS) ?_
       refine x_one (i := 39) (by kernel_rfl) ?_
       obtain ⟨o2, D9, hs⟩ := bind_some hs
       refine xk_cally (b := false) rfl (tg := 91) (by kernel_rfl) (by rfl) Bd55 rfl (c_spec_l1Has (M := (Past M a7 a6)) places k504 h1 hO.fut D9) rfl (by rintro _ _ _ ⟨rfl, f1⟩; exact hS.ext f1) ?_
       rintro _ N1 ⟨rfl, f1⟩
       have h1 := h1.ext f1
       have a0 := a0.ext f1
       have a2 := a2.ext f1
       have d8 := d8.ext f1
       have d9 := d9.ext f1
       have hMid := hMid.ext f1
       have a3 := at_ext a3 f1
       have a5 := at_ext a5 f1
       have a4 := at_ext a4 f1
       have e0 := at_ext e0 f1
       have hC := hC.ext f1
       have hO := hO.ext f1
       have hS := hS.ext f1
       refine x_py 40 (.bool (!o2)) rfl (by kernel_rfl) (tg := 91) (by kernel_rfl) (by rfl) (fun _ => y_not rfl) (fun _ => hS) ?_
       refine x_p 41 (.bool (!o2)) rfl (by kernel_rfl)  (fun _ => y_pick_t (by rfl) rfl) (fun _ => hS) ?_
       refine x_end (by kernel_rfl) ?_
       clear hS
       cases hs
       exact ⟨_, fr_ovl 97 ⟨rfl, rfl, rfl, rfl, rfl, rfl, trivial⟩, hMid⟩
      refine x_py 21 (.int .i64 a_.1) rfl (by kernel_rfl) (tg := 75) (by kernel_rfl) (congrArg Value.bool b0) (fun _ => y_move rfl) (fun _ => hS) ?_
      refine x_py 22 (.slice b2 b3 b4) rfl (by kernel_rfl) (tg := 75) (by kernel_rfl) (congrArg Value.bool b0) (fun _ => y_move rfl) (fun _ => hS) ?_
      refine x_py 23 (.slice pa1 pn1 pc1) rfl (by kernel_rfl) (tg := 75) (by kernel_rfl) (congrArg Value.bool b0) (fun _ => y_move rfl) (fun _ => hS) ?_
      refine x_py 24 (.int .i64 k346) rfl (by kernel_rfl) (tg := 75) (by kernel_rfl) (congrArg Value.bool b0) (fun _ => y_move rfl) (fun _ => hS) ?_
      obtain ⟨o3, E0, hs⟩ := bind_some hs
      obtain ⟨E1, E2, E3, f5⟩ := rs_idx Sl37 Sz3 h1 E0
      refine x_py 25 (.pointer (some ⟨E1, E2, none⟩)) rfl (by kernel_rfl) (tg := 75) (by kernel_rfl) (congrArg Value.bool b0) (fun _ => E3 _ _ _ _ _ _ _ _ _ rfl rfl) (fun _ => hS) ?_
      refine x_py 29 (.slice b2 b3 b4) rfl (by kernel_rfl) (tg := 75) (by kernel_rfl) (congrArg Value.bool b0) (fun _ => y_move rfl) (fun _ => hS) ?_
      refine x_py 30 (.int .i64 k504) rfl (by kernel_rfl) (tg := 75) (by kernel_rfl) (congrArg Value.bool b0) (fun _ => y_move rfl) (fun _ => hS) ?_
      obtain ⟨m7, E4, hs⟩ := bind_some hs
      obtain ⟨E5, E6, E7, f2⟩ := rs_idx Sl47 Sz37 a0 E4
      refine x_py 31 (.pointer (some ⟨E5, E6, none⟩)) rfl (by kernel_rfl) (tg := 75) (by kernel_rfl) (congrArg Value.bool b0) (fun _ => E7 _ _ _ _ _ _ _ _ _ rfl rfl) (fun _ => hS) ?_
      refine x_two (i := 26) (j := 32) (by kernel_rfl) ?_ ?_
      ·skip
       refine xk_valy (b := false) (.int .i64 o3) rfl (tg := 75) (by kernel_rfl) (congrArg Value.bool b0) (y_load rfl ((at_load_int Ag3 Sz3 f5) _ (Chg.refl _ _))) rfl (fun _ => hS) ?_
       obtain ⟨l8, m8, hs⟩ := bind_some hs
       obtain ⟨E8, E9, F0, h4⟩ := rs_idx Sl47 Sz37 a0 m8
       refine x_py 27 (.pointer (some ⟨E8, E9, none⟩)) rfl (by kernel_rfl) (tg := 75) (by kernel_rfl) (congrArg Value.bool b0) (fun _ => F0 _ _ _ _ _ _ _ _ _ rfl rfl) (fun _ => hS) ?_
       refine x_two (i := 28) (j := 32) (by kernel_rfl) ?_ ?_
       ·skip
        obtain ⟨N2, F1, j8⟩ := at_load Ag37 Sz37 (fun _ => rfl) h4
        obtain ⟨F2, F3, F4, rfl⟩ := rs_sl j8
        refine xk_valy (b := false) (.slice F2 F3 F4) rfl (tg := 75) (by kernel_rfl) (congrArg Value.bool b0) (y_load rfl (F1 _ (Chg.refl _ _))) rfl (fun _ => hS) ?_
        refine x_one (i := 32) (by kernel_rfl) ?_
        obtain ⟨N3, F5, j9⟩ := at_load Ag37 Sz37 (fun _ => rfl) f2
        obtain ⟨F6, F7, F8, rfl⟩ := rs_sl j9
        refine xk_valy (b := false) (.slice F6 F7 F8) rfl (tg := 75) (by kernel_rfl) (congrArg Value.bool b0) (y_load rfl (F5 _ (Chg.refl _ _))) rfl (fun _ => hS) ?_
        refine x_one (i := 33) (by kernel_rfl) ?_
        obtain ⟨g5, l3, hs⟩ := bind_some hs
        refine xk_cally (b := false) rfl (tg := 75) (by kernel_rfl) (congrArg Value.bool b0) Bd58 rfl (c_spec_l17Near (M := (Past M a7 a6)) a_.1 l8 m7 1 j8 j9 hO.fut l3) rfl (by rintro _ _ _ ⟨rfl, c8⟩; exact hS.ext c8) ?_
        rintro _ N4 ⟨rfl, c8⟩
        have h1 := h1.ext c8
        have a0 := a0.ext c8
        have a2 := a2.ext c8
        have d8 := d8.ext c8
        have d9 := d9.ext c8
        have j8 := j8.ext c8
        have j9 := j9.ext c8
        have hMid := hMid.ext c8
        have a3 := at_ext a3 c8
        have a5 := at_ext a5 c8
        have a4 := at_ext a4 c8
        have e0 := at_ext e0 c8
        have f5 := at_ext f5 c8
        have f2 := at_ext f2 c8
        have h4 := at_ext h4 c8
        have hC := hC.ext c8
        have hO := hO.ext c8
        have hS := hS.ext c8
        refine x_py 34 (.bool g5) rfl (by kernel_rfl) (tg := 61) (by kernel_rfl) (congrArg Value.bool a1) (fun _ => y_pick_f (congrArg Value.bool b0) rfl) (fun _ => hS) ?_
        refine x_p 35 (.bool g5) rfl (by kernel_rfl)  (fun _ => y_pick_t (congrArg Value.bool a1) rfl) (fun _ => hS) ?_
        refine x_p 36 (.bool g5) rfl (by kernel_rfl)  (fun _ => y_move rfl) (fun _ => hS) ?_
        rcases bif_some hs with ⟨g6, hs⟩ | ⟨g6, hs⟩
        ·skip
         refine x_py 37 (.slice pa1 pn1 pc1) rfl (by kernel_rfl) (tg := 91) (by kernel_rfl) (congrArg Value.bool g6) (fun _ => y_move rfl) (fun _ => hS) ?_
         refine x_py 38 (.int .i64 k504) rfl (by kernel_rfl) (tg := 91) (by kernel_rfl) (congrArg Value.bool g6) (fun _ => y_move rfl) (fun _ => hS) ?_
         refine x_one (i := 39) (by kernel_rfl) ?_
         obtain ⟨o4, F9, hs⟩ := bind_some hs
         refine xk_cally (b := false) rfl (tg := 91) (by kernel_rfl) (congrArg Value.bool g6) Bd55 rfl (c_spec_l1Has (M := (Past M a7 a6)) places k504 h1 hO.fut F9) rfl (by rintro _ _ _ ⟨rfl, c9⟩; exact hS.ext c9) ?_
         rintro _ N5 ⟨rfl, c9⟩
         have h1 := h1.ext c9
         have a0 := a0.ext c9
         have a2 := a2.ext c9
         have d8 := d8.ext c9
         have d9 := d9.ext c9
         have j8 := j8.ext c9
         have j9 := j9.ext c9
         have hMid := hMid.ext c9
         have a3 := at_ext a3 c9
         have a5 := at_ext a5 c9
         have a4 := at_ext a4 c9
         have e0 := at_ext e0 c9
         have f5 := at_ext f5 c9
         have f2 := at_ext f2 c9
         have h4 := at_ext h4 c9
         have hC := hC.ext c9
         have hO := hO.ext c9
         have hS := hS.ext c9
         refine x_py 40 (.bool (!o4)) rfl (by kernel_rfl) (tg := 91) (by kernel_rfl) (congrArg Value.bool g6) (fun _ => y_not rfl) (fun _ => hS) ?_
         refine x_p 41 (.bool (!o4)) rfl (by kernel_rfl)  (fun _ => y_pick_t (congrArg Value.bool g6) rfl) (fun _ => hS) ?_
         refine x_end (by kernel_rfl) ?_
         clear hS
         cases hs
         exact ⟨_, fr_ovl 97 ⟨rfl, rfl, rfl, rfl, rfl, rfl, trivial⟩, hMid⟩
        refine x_pn 37 rfl (by kernel_rfl) (tg := 91) (by kernel_rfl) (congrArg Value.bool g6) (fun _ => hS) ?_
        refine x_pn 38 rfl (by kernel_rfl) (tg := 91) (by kernel_rfl) (congrArg Value.bool g6) (fun _ => hS) ?_
        refine x_pn 39 rfl (by kernel_rfl) (tg := 91) (by kernel_rfl) (congrArg Value.bool g6) (fun _ => hS) ?_
        refine x_pn 40 rfl (by kernel_rfl) (tg := 91) (by kernel_rfl) (congrArg Value.bool g6) (fun _ => hS) ?_
        refine x_p 41 (.bool false) rfl (by kernel_rfl)  (fun _ => y_pick_f (congrArg Value.bool g6) rfl) (fun _ => hS) ?_
        refine x_end (by kernel_rfl) ?_
        clear hS
        cases hs
        exact ⟨_, fr_ovl 97 ⟨rfl, rfl, rfl, rfl, rfl, rfl, trivial⟩, hMid⟩
       ·skip
        obtain ⟨N6, G0, k0⟩ := at_load Ag37 Sz37 (fun _ => rfl) f2
        obtain ⟨G1, G2, G3, rfl⟩ := rs_sl k0
        refine xk_valy (b := false) (.slice G1 G2 G3) rfl (tg := 75) (by kernel_rfl) (congrArg Value.bool b0) (y_load rfl (G0 _ (Chg.refl _ _))) rfl (fun _ => hS) ?_
        refine x_one (i := 28) (by kernel_rfl) ?_
        obtain ⟨N7, G4, k1⟩ := at_load Ag37 Sz37 (fun _ => rfl) h4
        obtain ⟨G5, G6, G7, rfl⟩ := rs_sl k1
        refine xk_valy (b := false) (.slice G5 G6 G7) rfl (tg := 75) (by kernel_rfl) (congrArg Value.bool b0) (y_load rfl (G4 _ (Chg.refl _ _))) rfl (fun _ => hS) ?_
        refine x_one (i := 33) (by kernel_rfl) ?_
        obtain ⟨g5, l3, hs⟩ := bind_some hs
        refine xk_cally (b := false) rfl (tg := 75) (by kernel_rfl) (congrArg Value.bool b0) Bd58 rfl (c_spec_l17Near (M := (Past M a7 a6)) a_.1 l8 m7 1 k1 k0 hO.fut l3) rfl (by rintro _ _ _ ⟨rfl, d0⟩; exact hS.ext d0) ?_
        rintro _ N8 ⟨rfl, d0⟩
        have h1 := h1.ext d0
        have a0 := a0.ext d0
        have a2 := a2.ext d0
        have d8 := d8.ext d0
        have d9 := d9.ext d0
        have k0 := k0.ext d0
        have k1 := k1.ext d0
        have hMid := hMid.ext d0
        have a3 := at_ext a3 d0
        have a5 := at_ext a5 d0
        have a4 := at_ext a4 d0
        have e0 := at_ext e0 d0
        have f5 := at_ext f5 d0
        have f2 := at_ext f2 d0
        have h4 := at_ext h4 d0
        have hC := hC.ext d0
        have hO := hO.ext d0
        have hS := hS.ext d0
        refine x_py 34 (.bool g5) rfl (by kernel_rfl) (tg := 61) (by kernel_rfl) (congrArg Value.bool a1) (fun _ => y_pick_f (congrArg Value.bool b0) rfl) (fun _ => hS) ?_
        refine x_p 35 (.bool g5) rfl (by kernel_rfl)  (fun _ => y_pick_t (congrArg Value.bool a1) rfl) (fun _ => hS) ?_
        refine x_p 36 (.bool g5) rfl (by kernel_rfl)  (fun _ => y_move rfl) (fun _ => hS) ?_
        rcases bif_some hs with ⟨g7, hs⟩ | ⟨g7, hs⟩
        ·skip
         refine x_py 37 (.slice pa1 pn1 pc1) rfl (by kernel_rfl) (tg := 91) (by kernel_rfl) (congrArg Value.bool g7) (fun _ => y_move rfl) (fun _ => hS) ?_
         refine x_py 38 (.int .i64 k504) rfl (by kernel_rfl) (tg := 91) (by kernel_rfl) (congrArg Value.bool g7) (fun _ => y_move rfl) (fun _ => hS) ?_
         refine x_one (i := 39) (by kernel_rfl) ?_
         obtain ⟨o5, G8, hs⟩ := bind_some hs
         refine xk_cally (b := false) rfl (tg := 91) (by kernel_rfl) (congrArg Value.bool g7) Bd55 rfl (c_spec_l1Has (M := (Past M a7 a6)) places k504 h1 hO.fut G8) rfl (by rintro _ _ _ ⟨rfl, d1⟩; exact hS.ext d1) ?_
         rintro _ N9 ⟨rfl, d1⟩
         have h1 := h1.ext d1
         have a0 := a0.ext d1
         have a2 := a2.ext d1
         have d8 := d8.ext d1
         have d9 := d9.ext d1
         have k0 := k0.ext d1
         have k1 := k1.ext d1
         have hMid := hMid.ext d1
         have a3 := at_ext a3 d1
         have a5 := at_ext a5 d1
         have a4 := at_ext a4 d1
         have e0 := at_ext e0 d1
         have f5 := at_ext f5 d1
         have f2 := at_ext f2 d1
         have h4 := at_ext h4 d1
         have hC := hC.ext d1
         have hO := hO.ext d1
         have hS := hS.ext d1
         refine x_py 40 (.bool (!o5)) rfl (by kernel_rfl) (tg := 91) (by kernel_rfl) (congrArg Value.bool g7) (fun _ => y_not rfl) (fun _ => hS) ?_
         refine x_p 41 (.bool (!o5)) rfl (by kernel_rfl)  (fun _ => y_pick_t (congrArg Value.bool g7) rfl) (fun _ => hS) ?_
         refine x_end (by kernel_rfl) ?_
         clear hS
         cases hs
         exact ⟨_, fr_ovl 97 ⟨rfl, rfl, rfl, rfl, rfl, rfl, trivial⟩, hMid⟩
        refine x_pn 37 rfl (by kernel_rfl) (tg := 91) (by kernel_rfl) (congrArg Value.bool g7) (fun _ => hS) ?_
        refine x_pn 38 rfl (by kernel_rfl) (tg := 91) (by kernel_rfl) (congrArg Value.bool g7) (fun _ => hS) ?_
        refine x_pn 39 rfl (by kernel_rfl) (tg := 91) (by kernel_rfl) (congrArg Value.bool g7) (fun _ => hS) ?_
        refine x_pn 40 rfl (by kernel_rfl) (tg := 91) (by kernel_rfl) (congrArg Value.bool g7) (fun _ => hS) ?_
        refine x_p 41 (.bool false) rfl (by kernel_rfl)  (fun _ => y_pick_f (congrArg Value.bool g7) rfl) (fun _ => hS) ?_
        refine x_end (by kernel_rfl) ?_
        clear hS
        cases hs
        exact ⟨_, fr_ovl 97 ⟨rfl, rfl, rfl, rfl, rfl, rfl, trivial⟩, hMid⟩
      ·skip
       obtain ⟨O0, G9, k2⟩ := at_load Ag37 Sz37 (fun _ => rfl) f2
       obtain ⟨H0, H1, H2, rfl⟩ := rs_sl k2
       refine xk_valy (b := false) (.slice H0 H1 H2) rfl (tg := 75) (by kernel_rfl) (congrArg Value.bool b0) (y_load rfl (G9 _ (Chg.refl _ _))) rfl (fun _ => hS) ?_
       refine x_one (i := 26) (by kernel_rfl) ?_
       refine xk_valy (b := false) (.int .i64 o3) rfl (tg := 75) (by kernel_rfl) (congrArg Value.bool b0) (y_load rfl ((at_load_int Ag3 Sz3 f5) _ (Chg.refl _ _))) rfl (fun _ => hS) ?_
       obtain ⟨l8, m8, hs⟩ := bind_some hs
       obtain ⟨H3, H4, H5, l4⟩ := rs_idx Sl47 Sz37 a0 m8
       refine x_py 27 (.pointer (some ⟨H3, H4, none⟩)) rfl (by kernel_rfl) (tg := 75) (by kernel_rfl) (congrArg Value.bool b0) (fun _ => H5 _ _ _ _ _ _ _ _ _ rfl rfl) (fun _ => hS) ?_
       refine x_one (i := 28) (by kernel_rfl) ?_
       obtain ⟨O1, H6, k3⟩ := at_load Ag37 Sz37 (fun _ => rfl) l4
       obtain ⟨H7, H8, H9, rfl⟩ := rs_sl k3
       refine xk_valy (b := false) (.slice H7 H8 H9) rfl (tg := 75) (by kernel_rfl) (congrArg Value.bool b0) (y_load rfl (H6 _ (Chg.refl _ _))) rfl (fun _ => hS) ?_
       refine x_one (i := 33) (by kernel_rfl) ?_
       obtain ⟨g5, l3, hs⟩ := bind_some hs
       refine xk_cally (b := false) rfl (tg := 75) (by kernel_rfl) (congrArg Value.bool b0) Bd58 rfl (c_spec_l17Near (M := (Past M a7 a6)) a_.1 l8 m7 1 k3 k2 hO.fut l3) rfl (by rintro _ _ _ ⟨rfl, d2⟩; exact hS.ext d2) ?_
       rintro _ O2 ⟨rfl, d2⟩
       have h1 := h1.ext d2
       have a0 := a0.ext d2
       have a2 := a2.ext d2
       have d8 := d8.ext d2
       have d9 := d9.ext d2
       have k2 := k2.ext d2
       have k3 := k3.ext d2
       have hMid := hMid.ext d2
       have a3 := at_ext a3 d2
       have a5 := at_ext a5 d2
       have a4 := at_ext a4 d2
       have e0 := at_ext e0 d2
       have f5 := at_ext f5 d2
       have f2 := at_ext f2 d2
       have l4 := at_ext l4 d2
       have hC := hC.ext d2
       have hO := hO.ext d2
       have hS := hS.ext d2
       refine x_py 34 (.bool g5) rfl (by kernel_rfl) (tg := 61) (by kernel_rfl) (congrArg Value.bool a1) (fun _ => y_pick_f (congrArg Value.bool b0) rfl) (fun _ => hS) ?_
       refine x_p 35 (.bool g5) rfl (by kernel_rfl)  (fun _ => y_pick_t (congrArg Value.bool a1) rfl) (fun _ => hS) ?_
       refine x_p 36 (.bool g5) rfl (by kernel_rfl)  (fun _ => y_move rfl) (fun _ => hS) ?_
       rcases bif_some hs with ⟨g8, hs⟩ | ⟨g8, hs⟩
       ·skip
        refine x_py 37 (.slice pa1 pn1 pc1) rfl (by kernel_rfl) (tg := 91) (by kernel_rfl) (congrArg Value.bool g8) (fun _ => y_move rfl) (fun _ => hS) ?_
        refine x_py 38 (.int .i64 k504) rfl (by kernel_rfl) (tg := 91) (by kernel_rfl) (congrArg Value.bool g8) (fun _ => y_move rfl) (fun _ => hS) ?_
        refine x_one (i := 39) (by kernel_rfl) ?_
        obtain ⟨o6, I0, hs⟩ := bind_some hs
        refine xk_cally (b := false) rfl (tg := 91) (by kernel_rfl) (congrArg Value.bool g8) Bd55 rfl (c_spec_l1Has (M := (Past M a7 a6)) places k504 h1 hO.fut I0) rfl (by rintro _ _ _ ⟨rfl, d3⟩; exact hS.ext d3) ?_
        rintro _ O3 ⟨rfl, d3⟩
        have h1 := h1.ext d3
        have a0 := a0.ext d3
        have a2 := a2.ext d3
        have d8 := d8.ext d3
        have d9 := d9.ext d3
        have k2 := k2.ext d3
        have k3 := k3.ext d3
        have hMid := hMid.ext d3
        have a3 := at_ext a3 d3
        have a5 := at_ext a5 d3
        have a4 := at_ext a4 d3
        have e0 := at_ext e0 d3
        have f5 := at_ext f5 d3
        have f2 := at_ext f2 d3
        have l4 := at_ext l4 d3
        have hC := hC.ext d3
        have hO := hO.ext d3
        have hS := hS.ext d3
        refine x_py 40 (.bool (!o6)) rfl (by kernel_rfl) (tg := 91) (by kernel_rfl) (congrArg Value.bool g8) (fun _ => y_not rfl) (fun _ => hS) ?_
        refine x_p 41 (.bool (!o6)) rfl (by kernel_rfl)  (fun _ => y_pick_t (congrArg Value.bool g8) rfl) (fun _ => hS) ?_
        refine x_end (by kernel_rfl) ?_
        clear hS
        cases hs
        exact ⟨_, fr_ovl 97 ⟨rfl, rfl, rfl, rfl, rfl, rfl, trivial⟩, hMid⟩
       refine x_pn 37 rfl (by kernel_rfl) (tg := 91) (by kernel_rfl) (congrArg Value.bool g8) (fun _ => hS) ?_
       refine x_pn 38 rfl (by kernel_rfl) (tg := 91) (by kernel_rfl) (congrArg Value.bool g8) (fun _ => hS) ?_
       refine x_pn 39 rfl (by kernel_rfl) (tg := 91) (by kernel_rfl) (congrArg Value.bool g8) (fun _ => hS) ?_
       refine x_pn 40 rfl (by kernel_rfl) (tg := 91) (by kernel_rfl) (congrArg Value.bool g8) (fun _ => hS) ?_
       refine x_p 41 (.bool false) rfl (by kernel_rfl)  (fun _ => y_pick_f (congrArg Value.bool g8) rfl) (fun _ => hS) ?_
       refine x_end (by kernel_rfl) ?_
       clear hS
       cases hs
       exact ⟨_, fr_ovl 97 ⟨rfl, rfl, rfl, rfl, rfl, rfl, trivial⟩, hMid⟩
    refine x_pn 7 rfl (by kernel_rfl) (tg := 61) (by kernel_rfl) (congrArg Value.bool a1) (fun _ => hS) ?_
    refine x_pn 8 rfl (by kernel_rfl) (tg := 61) (by kernel_rfl) (congrArg Value.bool a1) (fun _ => hS) ?_
    refine x_pn 9 rfl (by kernel_rfl) (tg := 61) (by kernel_rfl) (congrArg Value.bool a1) (fun _ => hS) ?_
    refine x_pn 10 rfl (by kernel_rfl) (tg := 61) (by kernel_rfl) (congrArg Value.bool a1) (fun _ => hS) ?_
    refine x_pn 11 rfl (by kernel_rfl) (tg := 61) (by kernel_rfl) (congrArg Value.bool a1) (fun _ => hS) ?_
    refine x_pn 12 rfl (by kernel_rfl) (tg := 61) (by kernel_rfl) (congrArg Value.bool a1) (fun _ => hS) ?_
    refine x_pn 13 rfl (by kernel_rfl) (tg := 61) (by kernel_rfl) (congrArg Value.bool a1) (fun _ => hS) ?_
    refine x_pn 14 rfl (by kernel_rfl) (tg := 61) (by kernel_rfl) (congrArg Value.bool a1) (fun _ => hS) ?_
    refine x_pn 15 rfl (by kernel_rfl) (tg := 61) (by kernel_rfl) (congrArg Value.bool a1) (fun _ => hS) ?_
    refine x_pn 16 rfl (by kernel_rfl) (tg := 61) (by kernel_rfl) (congrArg Value.bool a1) (fun _ => hS) ?_
    refine x_pn 17 rfl (by kernel_rfl) (tg := 61) (by kernel_rfl) (congrArg Value.bool a1) (fun _ => hS) ?_
    refine x_pn 18 rfl (by kernel_rfl) (tg := 61) (by kernel_rfl) (congrArg Value.bool a1) (fun _ => hS) ?_
    refine x_pn 19 rfl (by kernel_rfl) (tg := 61) (by kernel_rfl) (congrArg Value.bool a1) (fun _ => hS) ?_
    refine x_pn 20 rfl (by kernel_rfl) (tg := 61) (by kernel_rfl) (congrArg Value.bool a1) (fun _ => hS) ?_
    refine x_pnu 21 rfl (by kernel_rfl) (tg := 75) (by kernel_rfl) rfl (fun _ => hS) ?_
    refine x_pnu 22 rfl (by kernel_rfl) (tg := 75) (by kernel_rfl) rfl (fun _ => hS) ?_
    refine x_pnu 23 rfl (by kernel_rfl) (tg := 75) (by kernel_rfl) rfl (fun _ => hS) ?_
    refine x_pnu 24 rfl (by kernel_rfl) (tg := 75) (by kernel_rfl) rfl (fun _ => hS) ?_
    refine x_pnu 25 rfl (by kernel_rfl) (tg := 75) (by kernel_rfl) rfl (fun _ => hS) ?_
    refine x_pnu 26 rfl (by kernel_rfl) (tg := 75) (by kernel_rfl) rfl (fun _ => hS) ?_
    refine x_pnu 27 rfl (by kernel_rfl) (tg := 75) (by kernel_rfl) rfl (fun _ => hS) ?_
    refine x_pnu 28 rfl (by kernel_rfl) (tg := 75) (by kernel_rfl) rfl (fun _ => hS) ?_
    refine x_pnu 29 rfl (by kernel_rfl) (tg := 75) (by kernel_rfl) rfl (fun _ => hS) ?_
    refine x_pnu 30 rfl (by kernel_rfl) (tg := 75) (by kernel_rfl) rfl (fun _ => hS) ?_
    refine x_pnu 31 rfl (by kernel_rfl) (tg := 75) (by kernel_rfl) rfl (fun _ => hS) ?_
    refine x_pnu 32 rfl (by kernel_rfl) (tg := 75) (by kernel_rfl) rfl (fun _ => hS) ?_
    refine x_pnu 33 rfl (by kernel_rfl) (tg := 75) (by kernel_rfl) rfl (fun _ => hS) ?_
    refine x_pn 34 rfl (by kernel_rfl) (tg := 61) (by kernel_rfl) (congrArg Value.bool a1) (fun _ => hS) ?_
    refine x_p 35 (.bool false) rfl (by kernel_rfl)  (fun _ => y_pick_f (congrArg Value.bool a1) rfl) (fun _ => hS) ?_
    refine x_p 36 (.bool false) rfl (by kernel_rfl)  (fun _ => y_move rfl) (fun _ => hS) ?_
    refine x_pn 37 rfl (by kernel_rfl) (tg := 91) (by kernel_rfl) (by rfl) (fun _ => hS) ?_
    refine x_pn 38 rfl (by kernel_rfl) (tg := 91) (by kernel_rfl) (by rfl) (fun _ => hS) ?_
    refine x_pn 39 rfl (by kernel_rfl) (tg := 91) (by kernel_rfl) (by rfl) (fun _ => hS) ?_
    refine x_pn 40 rfl (by kernel_rfl) (tg := 91) (by kernel_rfl) (by rfl) (fun _ => hS) ?_
    refine x_p 41 (.bool false) rfl (by kernel_rfl)  (fun _ => y_pick_f (by rfl) rfl) (fun _ => hS) ?_
    refine x_end (by kernel_rfl) ?_
    clear hS
    cases hs
    exact ⟨_, fr_ovl 97 ⟨rfl, rfl, rfl, rfl, rfl, rfl, trivial⟩, hMid⟩
   rintro i1 n4 ⟨σ, rfl, l9⟩
   have h1 := h1.ext l9
   have a0 := a0.ext l9
   have hC := hC.ext l9
   have hO := hO.ext l9
   rcases bif_some hs with ⟨m9, hs⟩ | ⟨m9, hs⟩
   ·refine c_condT (congrArg Value.bool m9) ?_
    refine c_sr ?_
    refine pl_val (.bool false) (y_assign rfl) ?_
    refine pl_val (.bool true) (y_assign rfl) ?_
    refine c_nil ?_
    refine wp_ret ?_
    cases hs
    exact ⟨_, fr_ovl 97 ⟨rfl, rfl, trivial⟩, hC⟩
   refine c_condF (congrArg Value.bool m9) ?_
   refine wp_skip ?_
   refine c_region ?_
   refine pl_val (.int .i64 k504) (y_move rfl) ?_
   refine pl_val (.int .i64 (w64 (k504 + 1))) (y_add rfl rfl) ?_
   refine pl_val (.int .i64 (w64 (k504 + 1))) (y_assign rfl) ?_
   refine c_nil ?_
   cases hs
   exact ⟨_, fr_ovl 97 ⟨rfl, rfl, rfl, rfl, congrArg (Value.int .i64) hw, trivial⟩, hC, hO, h1, a0⟩
  ·skip
   exact ⟨_, fr_ovl 97 ⟨rfl, rfl, rfl, rfl, rfl, trivial⟩, hC, hO, h1, a0⟩
  cases o506 with
  | nx _ => exact True.intro
  | rt r_ =>
   have hs := after_rt hs
   intro i1 n0 hK
   cases hs
   exact hK
  | br s502 =>
   have hs := after_br hs
   rintro i1 e1 ⟨σ, rfl, hC, hO, h1, a0⟩
   refine c_region ?_
   refine pl_val (.int .i64 k346) (y_move rfl) ?_
   refine pl_val (.int .i64 (w64 (k346 + 1))) (y_add rfl rfl) ?_
   refine pl_val (.int .i64 (w64 (k346 + 1))) (y_assign rfl) ?_
   refine c_nil ?_
   cases hs
   exact ⟨_, fr_ovl 97 ⟨rfl, rfl, rfl, congrArg (Value.int .i64) hw, trivial⟩, hC, hO, h1, a0⟩
 ·skip
  exact ⟨_, fr_ovl 97 ⟨rfl, rfl, rfl, rfl, trivial⟩, hC, hO, h1, a0⟩
 cases o348 with
 | nx _ => exact True.intro
 | rt r_ =>
  have hs := after_rt hs
  intro i1 n0 hK
  cases hs
  exact hK
 | br s344 =>
  have hs := after_br hs
  rintro i1 f6 ⟨σ, rfl, hC, hO, h1, a0⟩
  refine c_sr ?_
  refine pl_val (.bool true) (y_assign rfl) ?_
  refine pl_val (.bool true) (y_assign rfl) ?_
  refine c_nil ?_
  refine wp_ret ?_
  cases hs
  exact ⟨_, fr_ovl 97 ⟨rfl, rfl, trivial⟩, hC⟩

def k_impl_power (M : Nat → Prop) (w0 : World) (r : Int) (a : Act) (w : World) : Prop :=
  ∃ (σ : Nat → Value) , a = fr 14 (ovl σ [(4, (.int .i64 r))]) ∧ Chg [] w0 w
def s_impl_power (n : Int) (k : Int) : Option (Int) :=
  (iter (S := Int × Int) (R := Int) (fun s2 =>
  (bif (decide (0 < s2.1)) then some (.nx (w64 (s2.1 - 1), w64 (s2.2 * n))) else some (.br (s2.1, s2.2)))) FU (k, 1)).bind fun o6 => after o6 (fun r_ => some r_) (fun s2 =>
  some s2.2)
set_option maxHeartbeats 4000000 in
theorem c_impl_power {M : Nat → Prop} {w : World}  (n : Int) (k : Int)  (hM : ∀ g, w.heap.size ≤ g → M g) {r : Int} (hs : s_impl_power n k = some r) :
    Gives Try.prog 112 [(.int .i64 n), (.int .i64 k)] w (fun v w' => v = (.int .i64 r) ∧ Chg [] w w') := by
 refine calls_fr Try.func112 rfl Try.ntmps112 (Nat.le_of_ble_eq_true rfl) ?_
 have hO := Own.start (N := Nw w []) hM Nw.fut
 have hC := Chg.refl [] w
 unfold s_impl_power at hs
 refine wp_mono (Q := KPost (k_impl_power M w r)) ?_ (fun e a a2 h => ?_)
 rotate_left
 ·cases e
  case ret =>
   obtain ⟨σ, rfl, hrest⟩ := h
   exact ret1x Try.results112 (res_tmp rfl) ⟨rfl, hrest⟩
  all_goals exact (h : False).elim
 refine c_sr ?_
 refine pl_val (.int .i64 0) (y_assign rfl) ?_
 refine c_nil ?_
 refine c_sr ?_
 refine pl_val (.int .i64 1) (y_assign rfl) ?_
 refine c_nil ?_
 refine c_seq ?_
 obtain ⟨o6, a3, hs⟩ := bind_some hs
 refine wp_block ?_
 refine wp_iter (id := 0) (I := fun s2 a a0 => ∃ (σ : Nat → Value), a = fr 14 (ovl σ [(0, (.int .i64 n)), (1, (.int .i64 s2.1)), (5, (.int .i64 s2.2))]) ∧ Chg [] w a0 ∧ Own (Nw w []) M a0 ([])) (J := fun s2 a a0 => ∃ (σ : Nat → Value), a = fr 14 (ovl σ [(5, (.int .i64 s2.2))]) ∧ Chg [] w a0 ∧ Own (Nw w []) M a0 ([])) (K := (k_impl_power M w)) ?_ FU (k, 1) o6 _ _ ?_ a3 ?_
 ·rintro s2 o6 a a0 ⟨σ, rfl, hC, hO⟩ hs
  refine c_seq ?_
  refine c_sr ?_
  refine pl_val (.int .i64 s2.1) (y_move rfl) ?_
  refine pl_val (.bool (decide (0 < s2.1))) (y_gtr rfl rfl) ?_
  refine c_nil ?_
  rcases bif_some hs with ⟨a1, hs⟩ | ⟨a1, hs⟩
  ·refine c_condT (congrArg Value.bool a1) ?_
   refine wp_skip ?_
   refine c_seq ?_
   refine wp_block ?_
   refine c_region ?_
   refine pl_val (.int .i64 s2.2) (y_move rfl) ?_
   refine pl_val (.int .i64 n) (y_move rfl) ?_
   refine pl_val (.int .i64 (w64 (s2.2 * n))) (y_mul rfl rfl) ?_
   refine pl_val (.int .i64 (w64 (s2.2 * n))) (y_assign rfl) ?_
   refine c_nil ?_
   refine c_region ?_
   refine pl_val (.int .i64 s2.1) (y_move rfl) ?_
   refine pl_val (.int .i64 (w64 (s2.1 - 1))) (y_sub rfl rfl) ?_
   refine pl_val (.int .i64 (w64 (s2.1 - 1))) (y_assign rfl) ?_
   refine c_nil ?_
   cases hs
   exact ⟨_, fr_ovl 14 ⟨rfl, rfl, rfl, trivial⟩, hC, hO⟩
  refine c_condF (congrArg Value.bool a1) ?_
  refine wp_exit ?_
  cases hs
  exact ⟨rfl, _, fr_ovl 14 ⟨rfl, trivial⟩, hC, hO⟩
 ·skip
  exact ⟨_, fr_ovl 14 ⟨rfl, rfl, rfl, trivial⟩, hC, hO⟩
 cases o6 with
 | nx _ => exact True.intro
 | rt r_ =>
  have hs := after_rt hs
  intro a4 a2 hK
  cases hs
  exact hK
 | br s2 =>
  have hs := after_br hs
  rintro a4 a0 ⟨σ, rfl, hC, hO⟩
  refine c_sr ?_
  refine pl_val (.int .i64 s2.2) (y_move rfl) ?_
  refine pl_val (.int .i64 s2.2) (y_assign rfl) ?_
  refine c_nil ?_
  refine wp_ret ?_
  cases hs
  exact ⟨_, fr_ovl 14 ⟨rfl, trivial⟩, hC⟩

end Go.Proofs
