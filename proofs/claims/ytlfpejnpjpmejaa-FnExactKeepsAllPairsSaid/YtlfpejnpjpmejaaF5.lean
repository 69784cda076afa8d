/- What functions of the program compute, as plain functions, and that a call gives just that. Conditions: those named in each theorem. -/
import Derived.Test.YtlfpejnpjpmejaaF4
set_option linter.unusedVariables false
namespace Go.Proofs
open Go.G Go.RowKit
set_option maxRecDepth 100000

def k_laws_FnExactKeepsAllPairs (M : Nat → Prop) (w0 : World) (r : Bool) (a : Act) (w : World) : Prop :=
  ∃ (σ : Nat → Value) , a = fr 58 (ovl σ [(4, (.bool r))]) ∧ Chg [] w0 w
def s_laws_FnExactKeepsAllPairs (aA : Int × (List (Int × (List Int)))) (aOp : Int × (List Int)) : Option (Bool) :=
  (s_laws_szAlgebra (aA.1, aA.2) 1048576).bind fun r6 =>
  (bif (decide (r6 < 0)) then some true else (s_laws_szOp (aOp.1, aOp.2) r6).bind fun r9 =>
  (bif (decide (r9 < 0)) then some true else (s_laws_toAlgebra (aA.1, aA.2)).bind fun r22 =>
  (s_laws_toOp (aOp.1, aOp.2)).bind fun r25 =>
  (s_spec_KeepsAllPairs (r22.1, r22.2) (r25.1, r25.2)).bind fun r28 =>
  (s_laws_toAlgebra (aA.1, aA.2)).bind fun r30 =>
  (s_laws_toOp (aOp.1, aOp.2)).bind fun r35 =>
  (s_impl_KeepsAllPairs (r30.1, r30.2) (r35.1, r35.2)).bind fun r40 =>
  (bif ((!(r40.1 == r28.1)) || (!(r40.2 == r28.2))) then some false else (s_laws_toAlgebra (aA.1, aA.2)).bind fun r54 =>
  (s_laws_eqAlgebra (r30.1, r30.2) (r54.1, r54.2)).bind fun r57 =>
  (bif (!r57) then some false else (s_laws_toOp (aOp.1, aOp.2)).bind fun r61 =>
  (s_laws_eqOp (r35.1, r35.2) (r61.1, r61.2)).bind fun r64 =>
  (bif (!r64) then some false else some true)))))
set_option maxHeartbeats 4000000 in
theorem c_laws_FnExactKeepsAllPairs {M : Nat → Prop} {w : World} {pa0 : Option Addr} {pn0 pc0 : Nat} {pa1 : Option Addr} {pn1 pc1 : Nat} (aA : Int × (List (Int × (List Int)))) (aOp : Int × (List Int)) (h0 : (RT.rs (RT.pr (RT.int .i64) (RT.rs (RT.int .i64)))).val M w (.slice pa0 pn0 pc0) aA.2 ([])) (h1 : (RT.rs (RT.int .i64)).val M w (.slice pa1 pn1 pc1) aOp.2 ([])) (hM : ∀ g, w.heap.size ≤ g → M g) {r : Bool} (hs : s_laws_FnExactKeepsAllPairs aA aOp = some r) :
    Gives Try.prog 3 [(.agg #[(.int .i64 aA.1), (.slice pa0 pn0 pc0)]), (.agg #[(.int .i64 aOp.1), (.slice pa1 pn1 pc1)])] w (fun v w' => v = (.bool r) ∧ Chg [] w w') := by
 refine calls_fr Try.func3 rfl Try.ntmps3 (Nat.le_of_ble_eq_true rfl) ?_
 have hO := Own.start (N := Nw w []) hM Nw.fut
 have hC := Chg.refl [] w
 unfold s_laws_FnExactKeepsAllPairs at hs
 refine wp_mono (Q := KPost (k_laws_FnExactKeepsAllPairs M w r)) ?_ (fun e a w1 h => ?_)
 rotate_left
 ·cases e
  case ret =>
   obtain ⟨σ, rfl, hrest⟩ := h
   exact ret1x Try.results3 (res_tmp rfl) ⟨rfl, hrest⟩
  all_goals exact (h : False).elim
 refine c_seq (c_region ?_)
 obtain ⟨w3, g3, ew3, eg3, hC3, hb3⟩ := new_block w [(.int .i64 aA.1), (.slice pa0 pn0 pc0)] 24
 refine pl_val (w' := w3) (.pointer (some ⟨g3, 0, none⟩)) (y_box rfl (by rw [ew3, eg3]; kernel_rfl)) ?_
 have h0 := h0.ext hC3
 have h1 := h1.ext hC3
 have hC := hC.ext hC3
 have hO := hO.new1 hC3 eg3 hb3.lt
 obtain ⟨w4, g4, ew4, eg4, hC4, hb4⟩ := new_block w3 [(.int .i64 aOp.1), (.slice pa1 pn1 pc1)] 27
 refine pl_val (w' := w4) (.pointer (some ⟨g4, 0, none⟩)) (y_box rfl (by rw [ew4, eg4]; kernel_rfl)) ?_
 have h0 := h0.ext hC4
 have h1 := h1.ext hC4
 have hb3 := hb3.chg hC4 (fun h => nomatch h)
 have hC := hC.ext hC4
 have hO := hO.new1 hC4 eg4 hb4.lt
 refine pl_val (.bool false) (y_assign rfl) ?_
 refine c_nil ?_
 refine c_seq (c_region ?_)
 refine pl_val (.int .i64 1048576) (y_assign rfl) ?_
 refine c_nil ?_
 refine c_seq (c_region ?_)
 refine pl_val (.agg #[(.int .i64 aA.1), (.slice pa0 pn0 pc0)]) (y_load rfl ((box_load Ag24 Sz24 hb3 [] [(.int .i64 aA.1), (.slice pa0 pn0 pc0)] [] rfl rfl (fun h => nomatch h)) _ (Chg.refl _ _))) ?_
 refine pl_val (.int .i64 1048576) (y_move rfl) ?_
 obtain ⟨r6, hr6, hs⟩ := bind_some hs
 refine pl_call Bd8 rfl (c_laws_szAlgebra (M := M) (aA.1, aA.2) 1048576 h0 hO.fut hr6) ?_
 rintro _ w5 ⟨rfl, hC5⟩
 have h0 := h0.ext hC5
 have h1 := h1.ext hC5
 have hb3 := hb3.chg hC5 (fun h => nomatch h)
 have hb4 := hb4.chg hC5 (fun h => nomatch h)
 have hC := hC.ext hC5
 have hO := hO.ext hC5
 refine pl_val (.int .i64 r6) (y_assign rfl) ?_
 refine c_nil ?_
 refine c_seq ?_
 refine c_seq (c_region ?_)
 refine pl_val (.int .i64 r6) (y_move rfl) ?_
 refine pl_val (.bool (decide (r6 < 0))) (y_lss rfl rfl) ?_
 refine c_nil ?_
 rcases bif_some hs with ⟨hc7, hs⟩ | ⟨hc7, hs⟩
 ·skip
  refine c_condT (congrArg Value.bool hc7) ?_
  refine c_seq (c_region ?_)
  refine pl_val (.bool true) (y_assign rfl) ?_
  refine c_nil ?_
  refine wp_ret ?_
  cases hs
  exact ⟨_, fr_ovl 58 ⟨rfl, trivial⟩, hC⟩
 ·skip
  refine c_condF (congrArg Value.bool hc7) ?_
  refine wp_skip ?_
  refine c_seq (c_region ?_)
  refine pl_val (.agg #[(.int .i64 aOp.1), (.slice pa1 pn1 pc1)]) (y_load rfl ((box_load Ag27 Sz27 hb4 [] [(.int .i64 aOp.1), (.slice pa1 pn1 pc1)] [] rfl rfl (fun h => nomatch h)) _ (Chg.refl _ _))) ?_
  refine pl_val (.int .i64 r6) (y_move rfl) ?_
  obtain ⟨r9, hr9, hs⟩ := bind_some hs
  refine pl_call Bd9 rfl (c_laws_szOp (M := M) (aOp.1, aOp.2) r6 h1 hO.fut hr9) ?_
  rintro _ w8 ⟨rfl, hC8⟩
  have h0 := h0.ext hC8
  have h1 := h1.ext hC8
  have hb3 := hb3.chg hC8 (fun h => nomatch h)
  have hb4 := hb4.chg hC8 (fun h => nomatch h)
  have hC := hC.ext hC8
  have hO := hO.ext hC8
  refine pl_val (.int .i64 r9) (y_assign rfl) ?_
  refine c_nil ?_
  refine c_seq ?_
  refine c_seq (c_region ?_)
  refine pl_val (.int .i64 r9) (y_move rfl) ?_
  refine pl_val (.bool (decide (r9 < 0))) (y_lss rfl rfl) ?_
  refine c_nil ?_
  rcases bif_some hs with ⟨hc10, hs⟩ | ⟨hc10, hs⟩
  ·skip
   refine c_condT (congrArg Value.bool hc10) ?_
   refine c_seq (c_region ?_)
   refine pl_val (.bool true) (y_assign rfl) ?_
   refine c_nil ?_
   refine wp_ret ?_
   cases hs
   exact ⟨_, fr_ovl 58 ⟨rfl, trivial⟩, hC⟩
  ·skip
   refine c_condF (congrArg Value.bool hc10) ?_
   refine wp_skip ?_
   refine c_seq ?_
   refine x_start [] Mx rfl ?_
   have hCw20 := Chg.drew w8
   generalize World.drew w8 = w20 at hCw20 ⊢
   have h0 := h0.ext hCw20
   have h1 := h1.ext hCw20
   have hb3 := hb3.chg hCw20 (fun h => nomatch h)
   have hb4 := hb4.chg hCw20 (fun h => nomatch h)
   have hC := hC.ext hCw20
   have hO := hO.ext hCw20
   have hS := Chg.refl [] w20
   refine x_l 0 (.agg #[(.int .i64 aA.1), (.slice pa0 pn0 pc0)]) rfl (by kernel_rfl)  (fun w' hw' => y_load rfl ((box_load Ag24 Sz24 hb3 [] [(.int .i64 aA.1), (.slice pa0 pn0 pc0)] [] rfl rfl (fun h => nomatch h)) w' hw')) hS ?_
   refine x_l 2 (.agg #[(.int .i64 aOp.1), (.slice pa1 pn1 pc1)]) rfl (by kernel_rfl)  (fun w' hw' => y_load rfl ((box_load Ag27 Sz27 hb4 [] [(.int .i64 aOp.1), (.slice pa1 pn1 pc1)] [] rfl rfl (fun h => nomatch h)) w' hw')) hS ?_
   refine x_one (i := 1) (by kernel_rfl) ?_
   obtain ⟨r22, hr22, hs⟩ := bind_some hs
   refine xk_call (b := false) rfl  Bd11 rfl (c_laws_toAlgebra (M := M) (aA.1, aA.2) h0 hO.fut hr22) rfl (by rintro _ _ _ ⟨a21x0, n21x0, c21x0, f21x0, rfl, hC21, hv21x0, hOc21⟩; exact hS.ext hC21) ?_
   rintro _ w21 ⟨a21x0, n21x0, c21x0, f21x0, rfl, hC21, hv21x0, hOc21⟩
   have h0 := h0.ext hC21
   have h1 := h1.ext hC21
   have hb3 := hb3.chg hC21 (fun h => nomatch h)
   have hb4 := hb4.chg hC21 (fun h => nomatch h)
   have hC := hC.ext hC21
   have hO := Own.join0 hO hC21 hOc21
   have hO := hO.perm (R := f21x0 ++ (([g4]) ++ (([g3]) ++ ([])))) (by simp)
   have hS := hS.ext hC21
   refine x_one (i := 3) (by kernel_rfl) ?_
   obtain ⟨r25, hr25, hs⟩ := bind_some hs
   refine xk_call (b := false) rfl  Bd12 rfl (c_laws_toOp (M := M) (aOp.1, aOp.2) h1 hO.fut hr25) rfl (by rintro _ _ _ ⟨a24x0, n24x0, c24x0, f24x0, rfl, hC24, hv24x0, hOc24⟩; exact hS.ext hC24) ?_
   rintro _ w24 ⟨a24x0, n24x0, c24x0, f24x0, rfl, hC24, hv24x0, hOc24⟩
   have h0 := h0.ext hC24
   have h1 := h1.ext hC24
   have hb3 := hb3.chg hC24 (fun h => nomatch h)
   have hb4 := hb4.chg hC24 (fun h => nomatch h)
   have hv21x0 := hv21x0.ext hC24
   have hC := hC.ext hC24
   have hO := Own.join0 hO hC24 hOc24
   have hO := hO.perm (R := f24x0 ++ (f21x0 ++ (([g4]) ++ (([g3]) ++ ([]))))) (by simp)
   have hS := hS.ext hC24
   refine x_one (i := 4) (by kernel_rfl) ?_
   have hO := hO.fr1
   obtain ⟨r28, hr28, hs⟩ := bind_some hs
   refine xk_call (b := false) rfl  Bd10 rfl (c_spec_KeepsAllPairs (M := (Less (Less M f21x0) f24x0)) (r22.1, r22.2) (r25.1, r25.2) ((((Frz.os (Frz.pr Frz.int (Frz.os Frz.int)))).val hv21x0 Less.sub Less.not).sub Less.sub) (((Frz.os Frz.int)).val (hv24x0.sub Less.sub) Less.sub Less.not) (hO.less).less.fut hr28) rfl (by rintro _ _ _ ⟨rfl, hC27⟩; exact hS.ext hC27) ?_
   rintro _ w27 ⟨rfl, hC27⟩
   have h0 := h0.ext hC27
   have h1 := h1.ext hC27
   have hb3 := hb3.chg hC27 (fun h => nomatch h)
   have hb4 := hb4.chg hC27 (fun h => nomatch h)
   have hv21x0 := hv21x0.ext hC27
   have hv24x0 := hv24x0.ext hC27
   have hC := hC.ext hC27
   have hO := hO.ext hC27
   have hS := hS.ext hC27
   refine x_p 5 (.tuple #[(.bool r28.1), (.bool r28.2)]) rfl (by kernel_rfl)  (fun _ => y_move rfl) (fun _ => hS) ?_
   refine x_p 6 (.bool r28.1) rfl (by kernel_rfl)  (fun _ => y_extract rfl (by kernel_rfl)) (fun _ => hS) ?_
   refine x_p 7 (.bool r28.2) rfl (by kernel_rfl)  (fun _ => y_extract rfl (by kernel_rfl)) (fun _ => hS) ?_
   refine x_p 8 (.bool r28.1) rfl (by kernel_rfl)  (fun _ => y_assign rfl) (fun _ => hS) ?_
   refine x_p 9 (.bool r28.2) rfl (by kernel_rfl)  (fun _ => y_assign rfl) (fun _ => hS) ?_
   refine x_end (by kernel_rfl) ?_
   clear hS
   refine c_seq (c_region ?_)
   refine pl_val (.agg #[(.int .i64 aA.1), (.slice pa0 pn0 pc0)]) (y_load rfl ((box_load Ag24 Sz24 hb3 [] [(.int .i64 aA.1), (.slice pa0 pn0 pc0)] [] rfl rfl (fun h => nomatch h)) _ (Chg.refl _ _))) ?_
   obtain ⟨r30, hr30, hs⟩ := bind_some hs
   refine pl_call Bd11 rfl (c_laws_toAlgebra (M := M) (aA.1, aA.2) h0 hO.fut hr30) ?_
   rintro _ w29 ⟨a29x0, n29x0, c29x0, f29x0, rfl, hC29, hv29x0, hOc29⟩
   have h0 := h0.ext hC29
   have h1 := h1.ext hC29
   have hb3 := hb3.chg hC29 (fun h => nomatch h)
   have hb4 := hb4.chg hC29 (fun h => nomatch h)
   have hv21x0 := hv21x0.ext hC29
   have hv24x0 := hv24x0.ext hC29
   have hC := hC.ext hC29
   have hO := Own.join0 hO hC29 hOc29
   have hO := hO.perm (R := f29x0 ++ (f21x0 ++ (f24x0 ++ (([g4]) ++ (([g3]) ++ ([])))))) (by simp)
   obtain ⟨w32, g32, ew32, eg32, hC32, hb32⟩ := new_block w29 [(.int .i64 0), (.slice none 0 0)] 34
   refine pl_val (w' := w32) (.pointer (some ⟨g32, 0, none⟩)) (y_alloc (by rw [ew32, eg32]; kernel_rfl)) ?_
   have h0 := h0.ext hC32
   have h1 := h1.ext hC32
   have hb3 := hb3.chg hC32 (fun h => nomatch h)
   have hb4 := hb4.chg hC32 (fun h => nomatch h)
   have hv21x0 := hv21x0.ext hC32
   have hv24x0 := hv24x0.ext hC32
   have hv29x0 := hv29x0.ext hC32
   have hC := hC.ext hC32
   have hO := hO.new1 hC32 eg32 hb32.lt
   obtain ⟨w33, hst33, hC33, hb33⟩ := box_store (P := Try.prog) hb32 [] [(.int .i64 0), (.slice none 0 0)] [] [(.int .i64 r30.1), (.slice a29x0 n29x0 c29x0)] rfl rfl (by intro u hu; simp only [List.mem_cons, List.not_mem_nil, or_false] at hu; rcases hu with rfl | rfl <;> rfl)
   refine pl_skip (w' := w33) (ys_store rfl rfl (hst33 _ _ rfl Sz34)) ?_
   have h0 := h0.mut hC33 (fun g hg => hO.inM g ((fun _ h => h) g hg)) (fun _ _ h => nomatch h)
   have h1 := h1.mut hC33 (fun g hg => hO.inM g ((fun _ h => h) g hg)) (fun _ _ h => nomatch h)
   have hb3 := hb3.chg hC33 (fun hg => hO.apart _ ((fun _ h => h) _ hg) (mem_r (mem_r (mem_r (mem_r (mem_l (List.mem_singleton.2 rfl)))))))
   have hb4 := hb4.chg hC33 (fun hg => hO.apart _ ((fun _ h => h) _ hg) (mem_r (mem_r (mem_r (mem_l (List.mem_singleton.2 rfl))))))
   have hv21x0 := hv21x0.mut hC33 (fun g hg => hO.inM g ((fun _ h => h) g hg)) (fun g hg e => hO.apart g ((fun _ h => h) g hg) (mem_r (mem_l (e))))
   have hv24x0 := hv24x0.mut hC33 (fun g hg => hO.inM g ((fun _ h => h) g hg)) (fun g hg e => hO.apart g ((fun _ h => h) g hg) (mem_r (mem_r (mem_l (e)))))
   have hv29x0 := hv29x0.mut hC33 (fun g hg => hO.inM g ((fun _ h => h) g hg)) (fun g hg e => hO.apart g ((fun _ h => h) g hg) (mem_l (e)))
   have hC := hC.step hC33 (fun g hg => hO.inN g ((fun _ h => h) g hg))
   have hO := hO.ext hC33
   have hb33 : BoxV w33 g32 34 [(.int .i64 r30.1), (.slice a29x0 n29x0 c29x0)] := hb33
   refine c_nil ?_
   refine c_seq (c_region ?_)
   refine pl_val (.agg #[(.int .i64 aOp.1), (.slice pa1 pn1 pc1)]) (y_load rfl ((box_load Ag27 Sz27 hb4 [] [(.int .i64 aOp.1), (.slice pa1 pn1 pc1)] [] rfl rfl (fun h => nomatch h)) _ (Chg.refl _ _))) ?_
   obtain ⟨r35, hr35, hs⟩ := bind_some hs
   refine pl_call Bd12 rfl (c_laws_toOp (M := M) (aOp.1, aOp.2) h1 hO.fut hr35) ?_
   rintro _ w34 ⟨a34x0, n34x0, c34x0, f34x0, rfl, hC34, hv34x0, hOc34⟩
   have h0 := h0.ext hC34
   have h1 := h1.ext hC34
   have hb3 := hb3.chg hC34 (fun h => nomatch h)
   have hb4 := hb4.chg hC34 (fun h => nomatch h)
   have hv21x0 := hv21x0.ext hC34
   have hv24x0 := hv24x0.ext hC34
   have hv29x0 := hv29x0.ext hC34
   have hb33 := hb33.chg hC34 (fun h => nomatch h)
   have hC := hC.ext hC34
   have hO := Own.join0 hO hC34 hOc34
   have hO := hO.perm (R := f34x0 ++ (([g32]) ++ (f29x0 ++ (f21x0 ++ (f24x0 ++ (([g4]) ++ (([g3]) ++ ([])))))))) (by simp)
   obtain ⟨w37, g37, ew37, eg37, hC37, hb37⟩ := new_block w34 [(.int .i64 0), (.slice none 0 0)] 36
   refine pl_val (w' := w37) (.pointer (some ⟨g37, 0, none⟩)) (y_alloc (by rw [ew37, eg37]; kernel_rfl)) ?_
   have h0 := h0.ext hC37
   have h1 := h1.ext hC37
   have hb3 := hb3.chg hC37 (fun h => nomatch h)
   have hb4 := hb4.chg hC37 (fun h => nomatch h)
   have hv21x0 := hv21x0.ext hC37
   have hv24x0 := hv24x0.ext hC37
   have hv29x0 := hv29x0.ext hC37
   have hb33 := hb33.chg hC37 (fun h => nomatch h)
   have hv34x0 := hv34x0.ext hC37
   have hC := hC.ext hC37
   have hO := hO.new1 hC37 eg37 hb37.lt
   obtain ⟨w38, hst38, hC38, hb38⟩ := box_store (P := Try.prog) hb37 [] [(.int .i64 0), (.slice none 0 0)] [] [(.int .i64 r35.1), (.slice a34x0 n34x0 c34x0)] rfl rfl (by intro u hu; simp only [List.mem_cons, List.not_mem_nil, or_false] at hu; rcases hu with rfl | rfl <;> rfl)
   refine pl_skip (w' := w38) (ys_store rfl rfl (hst38 _ _ rfl Sz36)) ?_
   have h0 := h0.mut hC38 (fun g hg => hO.inM g ((fun _ h => h) g hg)) (fun _ _ h => nomatch h)
   have h1 := h1.mut hC38 (fun g hg => hO.inM g ((fun _ h => h) g hg)) (fun _ _ h => nomatch h)
   have hb3 := hb3.chg hC38 (fun hg => hO.apart _ ((fun _ h => h) _ hg) (mem_r (mem_r (mem_r (mem_r (mem_r (mem_r (mem_l (List.mem_singleton.2 rfl)))))))))
   have hb4 := hb4.chg hC38 (fun hg => hO.apart _ ((fun _ h => h) _ hg) (mem_r (mem_r (mem_r (mem_r (mem_r (mem_l (List.mem_singleton.2 rfl))))))))
   have hv21x0 := hv21x0.mut hC38 (fun g hg => hO.inM g ((fun _ h => h) g hg)) (fun g hg e => hO.apart g ((fun _ h => h) g hg) (mem_r (mem_r (mem_r (mem_l (e))))))
   have hv24x0 := hv24x0.mut hC38 (fun g hg => hO.inM g ((fun _ h => h) g hg)) (fun g hg e => hO.apart g ((fun _ h => h) g hg) (mem_r (mem_r (mem_r (mem_r (mem_l (e)))))))
   have hv29x0 := hv29x0.mut hC38 (fun g hg => hO.inM g ((fun _ h => h) g hg)) (fun g hg e => hO.apart g ((fun _ h => h) g hg) (mem_r (mem_r (mem_l (e)))))
   have hb33 := hb33.chg hC38 (fun hg => hO.apart _ ((fun _ h => h) _ hg) (mem_r (mem_l (List.mem_singleton.2 rfl))))
   have hv34x0 := hv34x0.mut hC38 (fun g hg => hO.inM g ((fun _ h => h) g hg)) (fun g hg e => hO.apart g ((fun _ h => h) g hg) (mem_l (e)))
   have hC := hC.step hC38 (fun g hg => hO.inN g ((fun _ h => h) g hg))
   have hO := hO.ext hC38
   have hb38 : BoxV w38 g37 36 [(.int .i64 r35.1), (.slice a34x0 n34x0 c34x0)] := hb38
   refine c_nil ?_
   refine c_seq (c_region ?_)
   refine pl_val (.agg #[(.int .i64 r30.1), (.slice a29x0 n29x0 c29x0)]) (y_load rfl ((box_load Ag34 Sz34 hb33 [] [(.int .i64 r30.1), (.slice a29x0 n29x0 c29x0)] [] rfl rfl (fun h => nomatch h)) _ (Chg.refl _ _))) ?_
   refine pl_val (.agg #[(.int .i64 r35.1), (.slice a34x0 n34x0 c34x0)]) (y_load rfl ((box_load Ag36 Sz36 hb38 [] [(.int .i64 r35.1), (.slice a34x0 n34x0 c34x0)] [] rfl rfl (fun h => nomatch h)) _ (Chg.refl _ _))) ?_
   have hO := hO.fr1
   have hO := hO.fr3
   obtain ⟨r40, hr40, hs⟩ := bind_some hs
   refine pl_call Bd13 rfl (c_impl_KeepsAllPairs (M := (Less (Less M f29x0) f34x0)) (r30.1, r30.2) (r35.1, r35.2) ((((Frz.os (Frz.pr Frz.int (Frz.os Frz.int)))).val hv29x0 Less.sub Less.not).sub Less.sub) (((Frz.os Frz.int)).val (hv34x0.sub Less.sub) Less.sub Less.not) (hO.less).less.fut hr40) ?_
   rintro _ w39 ⟨rfl, hC39⟩
   have h0 := h0.ext hC39
   have h1 := h1.ext hC39
   have hb3 := hb3.chg hC39 (fun h => nomatch h)
   have hb4 := hb4.chg hC39 (fun h => nomatch h)
   have hv21x0 := hv21x0.ext hC39
   have hv24x0 := hv24x0.ext hC39
   have hv29x0 := hv29x0.ext hC39
   have hb33 := hb33.chg hC39 (fun h => nomatch h)
   have hv34x0 := hv34x0.ext hC39
   have hb38 := hb38.chg hC39 (fun h => nomatch h)
   have hC := hC.ext hC39
   have hO := hO.ext hC39
   refine pl_val (.tuple #[(.bool r40.1), (.bool r40.2)]) (y_move rfl) ?_
   refine pl_val (.bool r40.1) (y_extract rfl (by kernel_rfl)) ?_
   refine pl_val (.bool r40.2) (y_extract rfl (by kernel_rfl)) ?_
   refine pl_val (.bool r40.1) (y_assign rfl) ?_
   refine pl_val (.bool r40.2) (y_assign rfl) ?_
   refine c_nil ?_
   refine c_seq ?_
   refine c_seq ?_
   refine c_mid (I := fun a w42 => ∃ (σ : Nat → Value), a = fr 58 (ovl σ [(2, (.pointer (some ⟨g3, 0, none⟩))), (3, (.pointer (some ⟨g4, 0, none⟩))), (4, (.bool false)), (8, (.pointer (some ⟨g32, 0, none⟩))), (9, (.pointer (some ⟨g37, 0, none⟩))), (47, (.bool ((!(r40.1 == r28.1)) || (!(r40.2 == r28.2)))))]) ∧ Chg [] w39 w42) ?_ ?_
   ·have hMid := Chg.refl [] w39
    refine c_region ?_
    refine pl_val (.bool r40.1) (y_move rfl) ?_
    refine pl_val (.bool r28.1) (y_move rfl) ?_
    refine pl_val (.bool (!(r40.1 == r28.1))) (y_bneq Try.underlying4 rfl rfl) ?_
    refine pl_val (.bool (!(r40.1 == r28.1))) (y_move rfl) ?_
    rcases Bool.eq_false_or_eq_true ((!(r40.1 == r28.1))) with hc44 | hc44
    ·skip
     refine pl_not (tg := 43) (by kernel_rfl) (congrArg Value.bool hc44) ?_
     refine pl_not (tg := 43) (by kernel_rfl) (congrArg Value.bool hc44) ?_
     refine pl_not (tg := 43) (by kernel_rfl) (congrArg Value.bool hc44) ?_
     refine pl_val (.bool ((!(r40.1 == r28.1)) || (!(r40.2 == r28.2)))) (y_pick_t (congrArg Value.bool hc44) (congrArg Value.bool (by rw [hc44]; rfl))) ?_
     refine c_nil ?_
     exact ⟨_, fr_ovl 58 ⟨rfl, rfl, rfl, rfl, rfl, rfl, trivial⟩, hMid⟩
    ·skip
     refine pl_yes (.bool r40.2) (tg := 43) (by kernel_rfl) (congrArg Value.bool hc44) (y_move rfl) ?_
     refine pl_yes (.bool r28.2) (tg := 43) (by kernel_rfl) (congrArg Value.bool hc44) (y_move rfl) ?_
     refine pl_yes (.bool (!(r40.2 == r28.2))) (tg := 43) (by kernel_rfl) (congrArg Value.bool hc44) (y_bneq Try.underlying4 rfl rfl) ?_
     refine pl_val (.bool ((!(r40.1 == r28.1)) || (!(r40.2 == r28.2)))) (y_pick_f (congrArg Value.bool hc44) (congrArg Value.bool (by rw [hc44]; rfl))) ?_
     refine c_nil ?_
     exact ⟨_, fr_ovl 58 ⟨rfl, rfl, rfl, rfl, rfl, rfl, trivial⟩, hMid⟩
   ·rintro a1 w42 ⟨σ, rfl, hCs41⟩
    have h0 := h0.ext hCs41
    have h1 := h1.ext hCs41
    have hb3 := hb3.chg hCs41 (fun h => nomatch h)
    have hb4 := hb4.chg hCs41 (fun h => nomatch h)
    have hv21x0 := hv21x0.ext hCs41
    have hv24x0 := hv24x0.ext hCs41
    have hv29x0 := hv29x0.ext hCs41
    have hb33 := hb33.chg hCs41 (fun h => nomatch h)
    have hv34x0 := hv34x0.ext hCs41
    have hb38 := hb38.chg hCs41 (fun h => nomatch h)
    have hC := hC.ext hCs41
    have hO := hO.ext hCs41
    rcases bif_some hs with ⟨hc45, hs⟩ | ⟨hc45, hs⟩
    ·skip
     refine c_condT (congrArg Value.bool hc45) ?_
     refine c_seq (c_region ?_)
     refine pl_val (.bool false) (y_assign rfl) ?_
     refine c_nil ?_
     refine wp_ret ?_
     cases hs
     exact ⟨_, fr_ovl 58 ⟨rfl, trivial⟩, hC⟩
    ·skip
     refine c_condF (congrArg Value.bool hc45) ?_
     refine wp_skip ?_
     refine c_seq ?_
     refine c_seq ?_
     refine x_start [] Mx rfl ?_
     have hCw52 := Chg.drew w42
     generalize World.drew w42 = w52 at hCw52 ⊢
     have h0 := h0.ext hCw52
     have h1 := h1.ext hCw52
     have hb3 := hb3.chg hCw52 (fun h => nomatch h)
     have hb4 := hb4.chg hCw52 (fun h => nomatch h)
     have hv21x0 := hv21x0.ext hCw52
     have hv24x0 := hv24x0.ext hCw52
     have hv29x0 := hv29x0.ext hCw52
     have hb33 := hb33.chg hCw52 (fun h => nomatch h)
     have hv34x0 := hv34x0.ext hCw52
     have hb38 := hb38.chg hCw52 (fun h => nomatch h)
     have hC := hC.ext hCw52
     have hO := hO.ext hCw52
     have hS := Chg.refl [] w52
     refine x_l 0 (.agg #[(.int .i64 r30.1), (.slice a29x0 n29x0 c29x0)]) rfl (by kernel_rfl)  (fun w' hw' => y_load rfl ((box_load Ag34 Sz34 hb33 [] [(.int .i64 r30.1), (.slice a29x0 n29x0 c29x0)] [] rfl rfl (fun h => nomatch h)) w' hw')) hS ?_
     refine x_l 1 (.agg #[(.int .i64 aA.1), (.slice pa0 pn0 pc0)]) rfl (by kernel_rfl)  (fun w' hw' => y_load rfl ((box_load Ag24 Sz24 hb3 [] [(.int .i64 aA.1), (.slice pa0 pn0 pc0)] [] rfl rfl (fun h => nomatch h)) w' hw')) hS ?_
     refine x_one (i := 2) (by kernel_rfl) ?_
     obtain ⟨r54, hr54, hs⟩ := bind_some hs
     refine xk_call (b := false) rfl  Bd11 rfl (c_laws_toAlgebra (M := M) (aA.1, aA.2) h0 hO.fut hr54) rfl (by rintro _ _ _ ⟨a53x0, n53x0, c53x0, f53x0, rfl, hC53, hv53x0, hOc53⟩; exact hS.ext hC53) ?_
     rintro _ w53 ⟨a53x0, n53x0, c53x0, f53x0, rfl, hC53, hv53x0, hOc53⟩
     have h0 := h0.ext hC53
     have h1 := h1.ext hC53
     have hb3 := hb3.chg hC53 (fun h => nomatch h)
     have hb4 := hb4.chg hC53 (fun h => nomatch h)
     have hv21x0 := hv21x0.ext hC53
     have hv24x0 := hv24x0.ext hC53
     have hv29x0 := hv29x0.ext hC53
     have hb33 := hb33.chg hC53 (fun h => nomatch h)
     have hv34x0 := hv34x0.ext hC53
     have hb38 := hb38.chg hC53 (fun h => nomatch h)
     have hC := hC.ext hC53
     have hO := Own.join0 hO hC53 hOc53
     have hO := hO.perm (R := f53x0 ++ (f29x0 ++ (f34x0 ++ (([g37]) ++ (([g32]) ++ (f21x0 ++ (f24x0 ++ (([g4]) ++ (([g3]) ++ ([])))))))))) (by simp)
     have hS := hS.ext hC53
     refine x_one (i := 3) (by kernel_rfl) ?_
     have hO := hO.fr1
     obtain ⟨r57, hr57, hs⟩ := bind_some hs
     refine xk_call (b := false) rfl  Bd14 rfl (c_laws_eqAlgebra (M := (Less (Less M f29x0) f53x0)) (r30.1, r30.2) (r54.1, r54.2) ((((Frz.os (Frz.pr Frz.int (Frz.os Frz.int)))).val hv29x0 Less.sub Less.not).sub Less.sub) (((Frz.os (Frz.pr Frz.int (Frz.os Frz.int)))).val (hv53x0.sub Less.sub) Less.sub Less.not) (hO.less).less.fut hr57) rfl (by rintro _ _ _ ⟨rfl, hC56⟩; exact hS.ext hC56) ?_
     rintro _ w56 ⟨rfl, hC56⟩
     have h0 := h0.ext hC56
     have h1 := h1.ext hC56
     have hb3 := hb3.chg hC56 (fun h => nomatch h)
     have hb4 := hb4.chg hC56 (fun h => nomatch h)
     have hv21x0 := hv21x0.ext hC56
     have hv24x0 := hv24x0.ext hC56
     have hv29x0 := hv29x0.ext hC56
     have hb33 := hb33.chg hC56 (fun h => nomatch h)
     have hv34x0 := hv34x0.ext hC56
     have hb38 := hb38.chg hC56 (fun h => nomatch h)
     have hv53x0 := hv53x0.ext hC56
     have hC := hC.ext hC56
     have hO := hO.ext hC56
     have hS := hS.ext hC56
     refine x_p 4 (.bool (!r57)) rfl (by kernel_rfl)  (fun _ => y_not rfl) (fun _ => hS) ?_
     refine x_end (by kernel_rfl) ?_
     clear hS
     rcases bif_some hs with ⟨hc58, hs⟩ | ⟨hc58, hs⟩
     ·skip
      refine c_condT (congrArg Value.bool hc58) ?_
      refine c_seq (c_region ?_)
      refine pl_val (.bool false) (y_assign rfl) ?_
      refine c_nil ?_
      refine wp_ret ?_
      cases hs
      exact ⟨_, fr_ovl 58 ⟨rfl, trivial⟩, hC⟩
     ·skip
      refine c_condF (congrArg Value.bool hc58) ?_
      refine wp_skip ?_
      refine c_seq ?_
      refine c_seq ?_
      refine x_start [] Mx rfl ?_
      have hCw59 := Chg.drew w56
      generalize World.drew w56 = w59 at hCw59 ⊢
      have h0 := h0.ext hCw59
      have h1 := h1.ext hCw59
      have hb3 := hb3.chg hCw59 (fun h => nomatch h)
      have hb4 := hb4.chg hCw59 (fun h => nomatch h)
      have hv21x0 := hv21x0.ext hCw59
      have hv24x0 := hv24x0.ext hCw59
      have hv29x0 := hv29x0.ext hCw59
      have hb33 := hb33.chg hCw59 (fun h => nomatch h)
      have hv34x0 := hv34x0.ext hCw59
      have hb38 := hb38.chg hCw59 (fun h => nomatch h)
      have hv53x0 := hv53x0.ext hCw59
      have hC := hC.ext hCw59
      have hO := hO.ext hCw59
      have hS := Chg.refl [] w59
      refine x_l 0 (.agg #[(.int .i64 r35.1), (.slice a34x0 n34x0 c34x0)]) rfl (by kernel_rfl)  (fun w' hw' => y_load rfl ((box_load Ag36 Sz36 hb38 [] [(.int .i64 r35.1), (.slice a34x0 n34x0 c34x0)] [] rfl rfl (fun h => nomatch h)) w' hw')) hS ?_
      refine x_l 1 (.agg #[(.int .i64 aOp.1), (.slice pa1 pn1 pc1)]) rfl (by kernel_rfl)  (fun w' hw' => y_load rfl ((box_load Ag27 Sz27 hb4 [] [(.int .i64 aOp.1), (.slice pa1 pn1 pc1)] [] rfl rfl (fun h => nomatch h)) w' hw')) hS ?_
      refine x_one (i := 2) (by kernel_rfl) ?_
      obtain ⟨r61, hr61, hs⟩ := bind_some hs
      refine xk_call (b := false) rfl  Bd12 rfl (c_laws_toOp (M := M) (aOp.1, aOp.2) h1 hO.fut hr61) rfl (by rintro _ _ _ ⟨a60x0, n60x0, c60x0, f60x0, rfl, hC60, hv60x0, hOc60⟩; exact hS.ext hC60) ?_
      rintro _ w60 ⟨a60x0, n60x0, c60x0, f60x0, rfl, hC60, hv60x0, hOc60⟩
      have h0 := h0.ext hC60
      have h1 := h1.ext hC60
      have hb3 := hb3.chg hC60 (fun h => nomatch h)
      have hb4 := hb4.chg hC60 (fun h => nomatch h)
      have hv21x0 := hv21x0.ext hC60
      have hv24x0 := hv24x0.ext hC60
      have hv29x0 := hv29x0.ext hC60
      have hb33 := hb33.chg hC60 (fun h => nomatch h)
      have hv34x0 := hv34x0.ext hC60
      have hb38 := hb38.chg hC60 (fun h => nomatch h)
      have hv53x0 := hv53x0.ext hC60
      have hC := hC.ext hC60
      have hO := Own.join0 hO hC60 hOc60
      have hO := hO.perm (R := f60x0 ++ (f29x0 ++ (f53x0 ++ (f34x0 ++ (([g37]) ++ (([g32]) ++ (f21x0 ++ (f24x0 ++ (([g4]) ++ (([g3]) ++ ([]))))))))))) (by simp)
      have hS := hS.ext hC60
      refine x_one (i := 3) (by kernel_rfl) ?_
      have hO := hO.fr3
      obtain ⟨r64, hr64, hs⟩ := bind_some hs
      refine xk_call (b := false) rfl  Bd15 rfl (c_laws_eqOp (M := (Less (Less M f34x0) f60x0)) (r35.1, r35.2) (r61.1, r61.2) ((((Frz.os Frz.int)).val hv34x0 Less.sub Less.not).sub Less.sub) (((Frz.os Frz.int)).val (hv60x0.sub Less.sub) Less.sub Less.not) (hO.less).less.fut hr64) rfl (by rintro _ _ _ ⟨rfl, hC63⟩; exact hS.ext hC63) ?_
      rintro _ w63 ⟨rfl, hC63⟩
      have h0 := h0.ext hC63
      have h1 := h1.ext hC63
      have hb3 := hb3.chg hC63 (fun h => nomatch h)
      have hb4 := hb4.chg hC63 (fun h => nomatch h)
      have hv21x0 := hv21x0.ext hC63
      have hv24x0 := hv24x0.ext hC63
      have hv29x0 := hv29x0.ext hC63
      have hb33 := hb33.chg hC63 (fun h => nomatch h)
      have hv34x0 := hv34x0.ext hC63
      have hb38 := hb38.chg hC63 (fun h => nomatch h)
      have hv53x0 := hv53x0.ext hC63
      have hv60x0 := hv60x0.ext hC63
      have hC := hC.ext hC63
      have hO := hO.ext hC63
      have hS := hS.ext hC63
      refine x_p 4 (.bool (!r64)) rfl (by kernel_rfl)  (fun _ => y_not rfl) (fun _ => hS) ?_
      refine x_end (by kernel_rfl) ?_
      clear hS
      rcases bif_some hs with ⟨hc65, hs⟩ | ⟨hc65, hs⟩
      ·skip
       refine c_condT (congrArg Value.bool hc65) ?_
       refine c_seq (c_region ?_)
       refine pl_val (.bool false) (y_assign rfl) ?_
       refine c_nil ?_
       refine wp_ret ?_
       cases hs
       exact ⟨_, fr_ovl 58 ⟨rfl, trivial⟩, hC⟩
      ·skip
       refine c_condF (congrArg Value.bool hc65) ?_
       refine wp_skip ?_
       refine c_seq (c_region ?_)
       refine pl_val (.bool true) (y_assign rfl) ?_
       refine c_nil ?_
       refine wp_ret ?_
       cases hs
       exact ⟨_, fr_ovl 58 ⟨rfl, trivial⟩, hC⟩

end Go.Proofs
