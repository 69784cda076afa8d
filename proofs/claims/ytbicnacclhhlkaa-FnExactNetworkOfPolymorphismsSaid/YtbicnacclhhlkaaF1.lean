/- What functions of the program compute, as plain functions, and that a call gives just that. Conditions: those named in each theorem. -/
import Derived.Test.YtbicnacclhhlkaaF0
set_option linter.unusedVariables false
namespace Go.Proofs
open Go.G Go.RowKit
set_option maxRecDepth 100000

def k_spec_l19Copy (M : Nat → Prop) (w0 : World) (r : (List ((List Int) × (Int × (List (List Int)))))) (a : Act) (w : World) : Prop :=
  ∃ (σ : Nat → Value) (ra0 : Option Addr) (rn0 rc0 : Nat) (rf0 : List Nat), a = fr 62 (ovl σ [(2, (.slice ra0 rn0 rc0))]) ∧ Chg [] w0 w ∧ (RT.os 56 (RT.pr (RT.os 3 (RT.int .i64)) (RT.pr (RT.int .i64) (RT.os 41 (RT.os 3 (RT.int .i64)))))).val M w (.slice ra0 rn0 rc0) r rf0 ∧ Own (Nw w0 []) (fun _ => True) w (rf0 ++ ([]))
def s_spec_l19Copy (list : List ((List Int) × (Int × (List (List Int))))) : Option ((List ((List Int) × (Int × (List (List Int)))))) :=
  (forC (S := (List ((List Int) × (Int × (List (List Int)))))) (R := (List ((List Int) × (Int × (List (List Int)))))) (fun k198 s196 =>
  (idx list k198).bind fun x207 =>
  (idx list k198).bind fun x212 =>
  (s_spec_l1Own x207.1).bind fun r217 =>
  (iter (S := Int × (List (List Int))) (R := (List ((List Int) × (Int × (List (List Int)))))) (fun s354 =>
  (idx list k198).bind fun x364 =>
  (bif (decide (s354.1 < (x364.2.2.length : Int))) then (idx list k198).bind fun x372 =>
  (idx x372.2.2 s354.1).bind fun x378 =>
  (s_spec_l1Own x378).bind fun r383 =>
  (app s354.2 ([r383])).bind fun y388 =>
  some (.nx (w64 (s354.1 + 1), y388)) else some (.br (s354.1, s354.2)))) FU (0, [])).bind fun o358 => after o358 (fun r_ => some (.rt r_)) (fun s354 =>
  (app s196 ([(r217, (x212.2.1, s354.2))])).bind fun y394 =>
  some (.nx y394))) 0 (list.length : Int) ([])).bind fun o200 => after o200 (fun r_ => some r_) (fun s196 =>
  some s196)
set_option maxHeartbeats 4000000 in
theorem c_spec_l19Copy {M : Nat → Prop} {w : World} {pa0 : Option Addr} {pn0 pc0 : Nat} (list : List ((List Int) × (Int × (List (List Int))))) (h0 : (RT.rs (RT.pr (RT.rs (RT.int .i64)) (RT.pr (RT.int .i64) (RT.rs (RT.rs (RT.int .i64)))))).val M w (.slice pa0 pn0 pc0) list ([])) (hM : ∀ g, w.heap.size ≤ g → M g) {r : (List ((List Int) × (Int × (List (List Int)))))} (hs : s_spec_l19Copy list = some r) :
    Gives Try.prog 89 [(.slice pa0 pn0 pc0)] w (fun v w' => ∃ (ra0 : Option Addr) (rn0 rc0 : Nat) (rf0 : List Nat), v = (.slice ra0 rn0 rc0) ∧ Chg [] w w' ∧ (RT.os 56 (RT.pr (RT.os 3 (RT.int .i64)) (RT.pr (RT.int .i64) (RT.os 41 (RT.os 3 (RT.int .i64)))))).val M w' (.slice ra0 rn0 rc0) r rf0 ∧ Own (Nw w []) (fun _ => True) w' (rf0 ++ ([]))) := by
 refine calls_fr Try.func89 rfl Try.ntmps89 (Nat.le_of_ble_eq_true rfl) ?_
 have hO := Own.start (N := Nw w []) hM Nw.fut
 have hC := Chg.refl [] w
 unfold s_spec_l19Copy at hs
 refine wp_mono (Q := KPost (k_spec_l19Copy M w r)) ?_ (fun e a o8 h => ?_)
 rotate_left
 ·cases e
  case ret =>
   obtain ⟨σ, ra0, rn0, rc0, rf0, rfl, hrest⟩ := h
   exact ret1x Try.results89 (res_tmp rfl) ⟨ra0, rn0, rc0, rf0, rfl, hrest⟩
  all_goals exact (h : False).elim
 refine c_sr ?_
 refine pl_val (.slice none 0 0) (y_assign rfl) ?_
 refine c_nil ?_
 refine c_sr ?_
 obtain ⟨o9, g8, t7, p0, l1, p1⟩ := new_block w [] 56
 refine pl_val (w' := o9) (.slice (some ⟨g8, 0, none⟩) 0 0) (y_bslice rfl (by rw [t7, p0]; kernel_rfl)) ?_
 have h0 := h0.ext l1
 have hC := hC.ext l1
 have hO := hO.new1 l1 p0 p1.lt
 have l2 := os_of_box (r := (RT.pr (RT.os 3 (RT.int .i64)) (RT.pr (RT.int .i64) (RT.os 41 (RT.os 3 (RT.int .i64)))))) (M := M) (css := []) (fps := []) (xs := ([] : List ((List Int) × (Int × (List (List Int)))))) p1 trivial (Nat.zero_le _) (List.nodup_cons.2 ⟨(fun h => nomatch h), List.nodup_nil⟩)
 have l2 : (RT.os 56 (RT.pr (RT.os 3 (RT.int .i64)) (RT.pr (RT.int .i64) (RT.os 41 (RT.os 3 (RT.int .i64)))))).val M o9 (.slice (some ⟨g8, 0, none⟩) 0 0) [] [g8] := l2
 refine pl_val (.slice (some ⟨g8, 0, none⟩) 0 0) (y_assign rfl) ?_
 refine c_nil ?_
 refine c_seq ?_
 refine c_sr ?_
 refine pl_val (.int .i64 0) (y_assign rfl) ?_
 refine c_nil ?_
 obtain ⟨o200, t8, hs⟩ := bind_some hs
 refine wp_block ?_
 refine wp_forC (id := 0) (list.length : Int) (I := fun k198 s196 a a9 => ∃ (σ : Nat → Value) (b4 : Option Addr) (b5 : Nat) (b6 : Nat) (a3 : List Nat), a = fr 62 (ovl σ [(0, (.slice pa0 pn0 pc0)), (3, (.slice b4 b5 b6)), (4, (.int .i64 k198))]) ∧ Chg [] w a9 ∧ Own (Nw w []) M a9 (a3 ++ []) ∧ (RT.rs (RT.pr (RT.rs (RT.int .i64)) (RT.pr (RT.int .i64) (RT.rs (RT.rs (RT.int .i64)))))).val M a9 (.slice pa0 pn0 pc0) list ([]) ∧ (RT.os 56 (RT.pr (RT.os 3 (RT.int .i64)) (RT.pr (RT.int .i64) (RT.os 41 (RT.os 3 (RT.int .i64)))))).val M a9 (.slice b4 b5 b6) s196 a3) (J := fun s196 a a9 => ∃ (σ : Nat → Value) (g9 : Option Addr) (h1 : Nat) (h2 : Nat) (j6 : List Nat), a = fr 62 (ovl σ [(3, (.slice g9 h1 h2))]) ∧ Chg [] w a9 ∧ Own (Nw w []) M a9 (j6 ++ []) ∧ (RT.rs (RT.pr (RT.rs (RT.int .i64)) (RT.pr (RT.int .i64) (RT.rs (RT.rs (RT.int .i64)))))).val M a9 (.slice pa0 pn0 pc0) list ([]) ∧ (RT.os 56 (RT.pr (RT.os 3 (RT.int .i64)) (RT.pr (RT.int .i64) (RT.os 41 (RT.os 3 (RT.int .i64)))))).val M a9 (.slice g9 h1 h2) s196 j6) (K := (k_spec_l19Copy M w)) ?_ ?_ 0 ([]) o200 _ _ ?_ t8 ?_
 ·rintro k198 s196 a a9 ⟨σ, b4, b5, b6, a3, rfl, hC, hO, h0, a0⟩ hlt
  refine c_seq ?_
  refine c_sr ?_
  refine pl_val (.int .i64 k198) (y_move rfl) ?_
  refine pl_val (.slice pa0 pn0 pc0) (y_move rfl) ?_
  refine pl_val (.int .i64 (list.length : Int)) (y_len' Sl28 (rs_len h0) rfl) ?_
  refine pl_val (.bool (decide (k198 < (list.length : Int)))) (y_lss rfl rfl) ?_
  refine c_nil ?_
  refine c_condF (congrArg Value.bool (decide_eq_false hlt)) ?_
  refine wp_exit ?_
  exact ⟨rfl, _, b4, b5, b6, a3, fr_ovl 62 ⟨rfl, trivial⟩, hC, hO, h0, a0⟩
 ·rintro k198 s196 o200 a a9 ⟨σ, b4, b5, b6, a3, rfl, hC, hO, h0, a0⟩ hlt hw hs
  refine c_seq ?_
  refine c_sr ?_
  refine pl_val (.int .i64 k198) (y_move rfl) ?_
  refine pl_val (.slice pa0 pn0 pc0) (y_move rfl) ?_
  refine pl_val (.int .i64 (list.length : Int)) (y_len' Sl28 (rs_len h0) rfl) ?_
  refine pl_val (.bool (decide (k198 < (list.length : Int)))) (y_lss rfl rfl) ?_
  refine c_nil ?_
  refine c_condT (congrArg Value.bool (decide_eq_true hlt)) ?_
  refine wp_skip ?_
  refine c_seq ?_
  refine wp_block ?_
  refine c_seq ?_
  obtain ⟨x207, t9, hs⟩ := bind_some hs
  obtain ⟨x212, u0, hs⟩ := bind_some hs
  obtain ⟨r217, h7, hs⟩ := bind_some hs
  refine c_mid (I := fun a d6 => ∃ (σ : Nat → Value) (b0 : Option Addr) (b1 : Nat) (b7 : List Nat) (e8 : Nat) (a5 : Nat) (b2 : Nat), a = fr 62 (ovl σ [(0, (.slice pa0 pn0 pc0)), (3, (.slice b4 b5 b6)), (4, (.int .i64 k198)), (5, (.pointer (some ⟨a5, 0, none⟩)))]) ∧ Chg [] w d6 ∧ Own (Nw w []) M d6 (([a5]) ++ (([e8]) ++ (b7 ++ (a3 ++ [])))) ∧ (RT.rs (RT.pr (RT.rs (RT.int .i64)) (RT.pr (RT.int .i64) (RT.rs (RT.rs (RT.int .i64)))))).val M d6 (.slice pa0 pn0 pc0) list ([]) ∧ (RT.os 56 (RT.pr (RT.os 3 (RT.int .i64)) (RT.pr (RT.int .i64) (RT.os 41 (RT.os 3 (RT.int .i64)))))).val M d6 (.slice b4 b5 b6) s196 a3 ∧ (RT.os 3 (RT.int .i64)).val M d6 (.slice b0 b2 b1) r217 b7 ∧ (RT.os 41 (RT.os 3 (RT.int .i64))).val M d6 (.slice (some ⟨e8, 0, none⟩) 0 0) ([]) ([e8]) ∧ BoxV d6 a5 56 [(.slice b0 b2 b1), (.int .i64 x212.2.1), (.slice (some ⟨e8, 0, none⟩) 0 0)]) ?_ ?_
  ·skip
   refine x_start [16] Mx rfl ?_
   have h8 := Chg.drew a9
   generalize World.drew a9 = l3 at h8 ⊢
   have h0 := h0.ext h8
   have a0 := a0.ext h8
   have hC := hC.ext h8
   have hO := hO.ext h8
   have hS := Chg.refl [] l3
   refine x_p 0 (.slice pa0 pn0 pc0) rfl (by kernel_rfl)  (fun _ => y_move rfl) (fun _ => hS) ?_
   refine x_p 1 (.int .i64 k198) rfl (by kernel_rfl)  (fun _ => y_move rfl) (fun _ => hS) ?_
   obtain ⟨p2, p3, u1, u2⟩ := rs_idx Sl28 Sz56 h0 t9
   refine x_p 2 (.pointer (some ⟨p2, p3, none⟩)) rfl (by kernel_rfl)  (fun _ => u1 _ _ _ _ _ _ _ _ _ rfl rfl) (fun _ => hS) ?_
   obtain ⟨u3, _⟩ := pr_at u2
   refine x_p 3 (.pointer (some ⟨p2, p3 + 0, none⟩)) rfl (by kernel_rfl)  (fun _ => y_faddr rfl Fa56x0) (fun _ => hS) ?_
   obtain ⟨C3, u4, a1⟩ := at_load Ag41 Sz41 (fun _ => rfl) u3
   obtain ⟨u5, u6, u7, rfl⟩ := rs_sl a1
   refine x_l 4 (.slice u5 u6 u7) rfl (by kernel_rfl)  (fun w' hw' => y_load rfl (u4 w' hw')) hS ?_
   refine x_p 6 (.slice pa0 pn0 pc0) rfl (by kernel_rfl)  (fun _ => y_move rfl) (fun _ => hS) ?_
   refine x_p 7 (.int .i64 k198) rfl (by kernel_rfl)  (fun _ => y_move rfl) (fun _ => hS) ?_
   obtain ⟨l4, l5, u9, v0⟩ := rs_idx Sl28 Sz56 h0 u0
   refine x_p 8 (.pointer (some ⟨l4, l5, none⟩)) rfl (by kernel_rfl)  (fun _ => u9 _ _ _ _ _ _ _ _ _ rfl rfl) (fun _ => hS) ?_
   obtain ⟨_, v1⟩ := pr_at v0
   refine x_p 9 (.pointer (some ⟨l4, l5 + 1, none⟩)) rfl (by kernel_rfl)  (fun _ => y_faddr rfl Fa56x1) (fun _ => hS) ?_
   obtain ⟨v2, _⟩ := pr_at v1
   refine x_p 10 (.pointer (some ⟨l4, (l5 + 1) + 0, none⟩)) rfl (by kernel_rfl)  (fun _ => y_faddr rfl Fa54x0) (fun _ => hS) ?_
   refine x_l 11 (.int .i64 x212.2.1) rfl (by kernel_rfl)  (fun w' hw' => y_load rfl ((at_load_int Ag3 Sz3 v2) w' hw')) hS ?_
   refine x_many [5, 12, 15] (by kernel_rfl) (fun h => nomatch h) (all3 ?_ ?_ ?_)
   ·skip
    refine xk_call (b := false) rfl  Bd121 rfl (c_spec_l1Own (M := M) x207.1 a1 hO.fut h7) rfl (by rintro _ _ _ ⟨c5, c6, c7, j7, rfl, d7, a8, p4⟩; exact hS.ext d7) ?_
    rintro _ p5 ⟨c5, c6, c7, j7, rfl, d7, a8, p4⟩
    have h0 := h0.ext d7
    have a0 := a0.ext d7
    have a1 := a1.ext d7
    have hC := hC.ext d7
    have hO := Own.join0 hO d7 p4
    have hO := hO.perm (R := j7 ++ (a3 ++ ([]))) (by simp)
    have hS := hS.ext d7
    refine x_two (i := 12) (j := 15) (by kernel_rfl) ?_ ?_
    ·skip
     obtain ⟨l6, d8, v3, p6, d9, p7⟩ := new_block p5 [] 41
     refine xk_val (w' := l6) (b := false) (.slice (some ⟨d8, 0, none⟩) 0 0) rfl  (y_bslice rfl (by rw [v3, p6]; kernel_rfl)) rfl (fun _ => hS.ext d9) ?_
     have h0 := h0.ext d9
     have a0 := a0.ext d9
     have a1 := a1.ext d9
     have a8 := a8.ext d9
     have hC := hC.ext d9
     have hO := hO.new1 d9 p6 p7.lt
     have e9 := os_of_box (r := (RT.os 3 (RT.int .i64))) (M := M) (css := []) (fps := []) (xs := ([] : List (List Int))) p7 trivial (Nat.zero_le _) (List.nodup_cons.2 ⟨(fun h => nomatch h), List.nodup_nil⟩)
     have e9 : (RT.os 41 (RT.os 3 (RT.int .i64))).val M l6 (.slice (some ⟨d8, 0, none⟩) 0 0) [] [d8] := e9
     have hS := hS.ext d9
     refine x_p 13 (.agg #[(.int .i64 x212.2.1), (.slice (some ⟨d8, 0, none⟩) 0 0)]) rfl (by kernel_rfl)  (fun _ => y_build rfl (by kernel_rfl)) (fun _ => hS) ?_
     refine x_p 14 (.agg #[(.slice c5 c6 c7), (.int .i64 x212.2.1), (.slice (some ⟨d8, 0, none⟩) 0 0)]) rfl (by kernel_rfl)  (fun _ => y_build rfl (by kernel_rfl)) (fun _ => hS) ?_
     refine x_one (i := 15) (by kernel_rfl) ?_
     obtain ⟨v4, l7, v5, p8, c8, p9⟩ := new_block l6 [(.slice none 0 0), (.int .i64 0), (.slice none 0 0)] 56
     refine xk_val (w' := v4) (b := false) (.pointer (some ⟨l7, 0, none⟩)) rfl  (y_alloc (by rw [v5, p8]; kernel_rfl)) rfl (fun _ => hS.ext c8) ?_
     have h0 := h0.ext c8
     have a0 := a0.ext c8
     have a1 := a1.ext c8
     have a8 := a8.ext c8
     have e9 := e9.ext c8
     have hC := hC.ext c8
     have hO := hO.new1 c8 p8 p9.lt
     have hS := hS.ext c8
     refine x_one (i := 16) (by kernel_rfl) ?_
     obtain ⟨q0, v6, f0, l8⟩ := box_store (P := Try.prog) p9 [] [(.slice none 0 0), (.int .i64 0), (.slice none 0 0)] [] [(.slice c5 c6 c7), (.int .i64 x212.2.1), (.slice (some ⟨d8, 0, none⟩) 0 0)] rfl rfl (by intro u hu; simp only [List.mem_cons, List.not_mem_nil, or_false] at hu; rcases hu with rfl | rfl | rfl <;> rfl)
     refine xk_skip (w' := q0) (b := true) rfl (ys_store rfl rfl (v6 _ _ rfl Sz56)) rfl (fun h => nomatch h) ?_
     have h0 := h0.mt f0 hO same_
     have a0 := a0.ma f0 hO same_ (fun _ e => (mem_r (mem_r (mem_l (e)))))
     have a1 := a1.mt f0 hO same_
     have a8 := a8.ma f0 hO same_ (fun _ e => (mem_r (mem_l (e))))
     have e9 := e9.ma f0 hO same_ (fun _ e => (mem_l (e)))
     have hC := hC.st f0 hO same_
     have hO := hO.ext f0
     have l8 : BoxV q0 l7 56 [(.slice c5 c6 c7), (.int .i64 x212.2.1), (.slice (some ⟨d8, 0, none⟩) 0 0)] := l8
     refine x_end (by kernel_rfl) ?_
     clear hS
     have hO := hO.fr3
     have hO := hO.fr3
     have hO := hO.fr3
     have hO := hO.fr3
     exact ⟨_, c5, c7, j7, d8, l7, c6, fr_ovl 62 ⟨rfl, rfl, rfl, rfl, trivial⟩, hC, hO, h0, a0, a8, e9, l8⟩
    ·skip
     obtain ⟨q1, l9, v7, q2, e0, j8⟩ := new_block p5 [(.slice none 0 0), (.int .i64 0), (.slice none 0 0)] 56
     refine xk_val (w' := q1) (b := false) (.pointer (some ⟨l9, 0, none⟩)) rfl  (y_alloc (by rw [v7, q2]; kernel_rfl)) rfl (fun _ => hS.ext e0) ?_
     have h0 := h0.ext e0
     have a0 := a0.ext e0
     have a1 := a1.ext e0
     have a8 := a8.ext e0
     have hC := hC.ext e0
     have hO := hO.new1 e0 q2 j8.lt
     have hS := hS.ext e0
     refine x_one (i := 12) (by kernel_rfl) ?_
     obtain ⟨q3, e1, v8, q4, c9, q5⟩ := new_block q1 [] 41
     refine xk_val (w' := q3) (b := false) (.slice (some ⟨e1, 0, none⟩) 0 0) rfl  (y_bslice rfl (by rw [v8, q4]; kernel_rfl)) rfl (fun _ => hS.ext c9) ?_
     have h0 := h0.ext c9
     have a0 := a0.ext c9
     have a1 := a1.ext c9
     have a8 := a8.ext c9
     have j8 := j8.cn c9
     have hC := hC.ext c9
     have hO := hO.new1 c9 q4 q5.lt
     have h9 := os_of_box (r := (RT.os 3 (RT.int .i64))) (M := M) (css := []) (fps := []) (xs := ([] : List (List Int))) q5 trivial (Nat.zero_le _) (List.nodup_cons.2 ⟨(fun h => nomatch h), List.nodup_nil⟩)
     have h9 : (RT.os 41 (RT.os 3 (RT.int .i64))).val M q3 (.slice (some ⟨e1, 0, none⟩) 0 0) [] [e1] := h9
     have hS := hS.ext c9
     refine x_p 13 (.agg #[(.int .i64 x212.2.1), (.slice (some ⟨e1, 0, none⟩) 0 0)]) rfl (by kernel_rfl)  (fun _ => y_build rfl (by kernel_rfl)) (fun _ => hS) ?_
     refine x_p 14 (.agg #[(.slice c5 c6 c7), (.int .i64 x212.2.1), (.slice (some ⟨e1, 0, none⟩) 0 0)]) rfl (by kernel_rfl)  (fun _ => y_build rfl (by kernel_rfl)) (fun _ => hS) ?_
     refine x_one (i := 16) (by kernel_rfl) ?_
     obtain ⟨q6, v9, f1, m0⟩ := box_store (P := Try.prog) j8 [] [(.slice none 0 0), (.int .i64 0), (.slice none 0 0)] [] [(.slice c5 c6 c7), (.int .i64 x212.2.1), (.slice (some ⟨e1, 0, none⟩) 0 0)] rfl rfl (by intro u hu; simp only [List.mem_cons, List.not_mem_nil, or_false] at hu; rcases hu with rfl | rfl | rfl <;> rfl)
     refine xk_skip (w' := q6) (b := true) rfl (ys_store rfl rfl (v9 _ _ rfl Sz56)) rfl (fun h => nomatch h) ?_
     have hO := hO.fr1
     have h0 := h0.mt f1 hO same_
     have a0 := a0.ma f1 hO same_ (fun _ e => (mem_r (mem_r (mem_l (e)))))
     have a1 := a1.mt f1 hO same_
     have a8 := a8.ma f1 hO same_ (fun _ e => (mem_r (mem_l (e))))
     have h9 := h9.ma f1 hO same_ (fun _ e => (mem_l (e)))
     have hC := hC.st f1 hO same_
     have hO := hO.ext f1
     have m0 : BoxV q6 l9 56 [(.slice c5 c6 c7), (.int .i64 x212.2.1), (.slice (some ⟨e1, 0, none⟩) 0 0)] := m0
     refine x_end (by kernel_rfl) ?_
     clear hS
     have hO := hO.fr3
     have hO := hO.fr3
     have hO := hO.fr3
     have hO := hO.fr3
     exact ⟨_, c5, c7, j7, e1, l9, c6, fr_ovl 62 ⟨rfl, rfl, rfl, rfl, trivial⟩, hC, hO, h0, a0, a8, h9, m0⟩
   ·skip
    obtain ⟨m1, b3, w1, q7, f2, q8⟩ := new_block l3 [] 41
    refine xk_val (w' := m1) (b := false) (.slice (some ⟨b3, 0, none⟩) 0 0) rfl  (y_bslice rfl (by rw [w1, q7]; kernel_rfl)) rfl (fun _ => hS.ext f2) ?_
    have h0 := h0.ext f2
    have a0 := a0.ext f2
    have a1 := a1.ext f2
    have hC := hC.ext f2
    have hO := hO.new1 f2 q7 q8.lt
    have a7 := os_of_box (r := (RT.os 3 (RT.int .i64))) (M := M) (css := []) (fps := []) (xs := ([] : List (List Int))) q8 trivial (Nat.zero_le _) (List.nodup_cons.2 ⟨(fun h => nomatch h), List.nodup_nil⟩)
    have a7 : (RT.os 41 (RT.os 3 (RT.int .i64))).val M m1 (.slice (some ⟨b3, 0, none⟩) 0 0) [] [b3] := a7
    have hS := hS.ext f2
    refine x_p 13 (.agg #[(.int .i64 x212.2.1), (.slice (some ⟨b3, 0, none⟩) 0 0)]) rfl (by kernel_rfl)  (fun _ => y_build rfl (by kernel_rfl)) (fun _ => hS) ?_
    refine x_two (i := 5) (j := 15) (by kernel_rfl) ?_ ?_
    ·skip
     refine xk_call (b := false) rfl  Bd121 rfl (c_spec_l1Own (M := M) x207.1 a1 hO.fut h7) rfl (by rintro _ _ _ ⟨i0, i1, i2, m2, rfl, d0, h3, q9⟩; exact hS.ext d0) ?_
     rintro _ w2 ⟨i0, i1, i2, m2, rfl, d0, h3, q9⟩
     have h0 := h0.ext d0
     have a0 := a0.ext d0
     have a1 := a1.ext d0
     have a7 := a7.ext d0
     have hC := hC.ext d0
     have hO := Own.join0 hO d0 q9
     have hO := hO.perm (R := m2 ++ (([b3]) ++ (a3 ++ ([])))) (by simp)
     have hS := hS.ext d0
     refine x_p 14 (.agg #[(.slice i0 i1 i2), (.int .i64 x212.2.1), (.slice (some ⟨b3, 0, none⟩) 0 0)]) rfl (by kernel_rfl)  (fun _ => y_build rfl (by kernel_rfl)) (fun _ => hS) ?_
     refine x_one (i := 15) (by kernel_rfl) ?_
     obtain ⟨w3, m3, w4, r0, d1, r1⟩ := new_block w2 [(.slice none 0 0), (.int .i64 0), (.slice none 0 0)] 56
     refine xk_val (w' := w3) (b := false) (.pointer (some ⟨m3, 0, none⟩)) rfl  (y_alloc (by rw [w4, r0]; kernel_rfl)) rfl (fun _ => hS.ext d1) ?_
     have h0 := h0.ext d1
     have a0 := a0.ext d1
     have a1 := a1.ext d1
     have a7 := a7.ext d1
     have h3 := h3.ext d1
     have hC := hC.ext d1
     have hO := hO.new1 d1 r0 r1.lt
     have hS := hS.ext d1
     refine x_one (i := 16) (by kernel_rfl) ?_
     obtain ⟨r2, w5, f3, m4⟩ := box_store (P := Try.prog) r1 [] [(.slice none 0 0), (.int .i64 0), (.slice none 0 0)] [] [(.slice i0 i1 i2), (.int .i64 x212.2.1), (.slice (some ⟨b3, 0, none⟩) 0 0)] rfl rfl (by intro u hu; simp only [List.mem_cons, List.not_mem_nil, or_false] at hu; rcases hu with rfl | rfl | rfl <;> rfl)
     refine xk_skip (w' := r2) (b := true) rfl (ys_store rfl rfl (w5 _ _ rfl Sz56)) rfl (fun h => nomatch h) ?_
     have h0 := h0.mt f3 hO same_
     have a0 := a0.ma f3 hO same_ (fun _ e => (mem_r (mem_r (mem_l (e)))))
     have a1 := a1.mt f3 hO same_
     have a7 := a7.ma f3 hO same_ (fun _ e => (mem_r (mem_l (e))))
     have h3 := h3.ma f3 hO same_ (fun _ e => (mem_l (e)))
     have hC := hC.st f3 hO same_
     have hO := hO.ext f3
     have m4 : BoxV r2 m3 56 [(.slice i0 i1 i2), (.int .i64 x212.2.1), (.slice (some ⟨b3, 0, none⟩) 0 0)] := m4
     refine x_end (by kernel_rfl) ?_
     clear hS
     have hO := hO.fr3
     have hO := hO.fr2
     have hO := hO.fr3
     have hO := hO.fr3
     exact ⟨_, i0, i2, m2, b3, m3, i1, fr_ovl 62 ⟨rfl, rfl, rfl, rfl, trivial⟩, hC, hO, h0, a0, h3, a7, m4⟩
    ·skip
     obtain ⟨w6, j9, w7, r3, e2, k0⟩ := new_block m1 [(.slice none 0 0), (.int .i64 0), (.slice none 0 0)] 56
     refine xk_val (w' := w6) (b := false) (.pointer (some ⟨j9, 0, none⟩)) rfl  (y_alloc (by rw [w7, r3]; kernel_rfl)) rfl (fun _ => hS.ext e2) ?_
     have h0 := h0.ext e2
     have a0 := a0.ext e2
     have a1 := a1.ext e2
     have a7 := a7.ext e2
     have hC := hC.ext e2
     have hO := hO.new1 e2 r3 k0.lt
     have hS := hS.ext e2
     refine x_one (i := 5) (by kernel_rfl) ?_
     refine xk_call (b := false) rfl  Bd121 rfl (c_spec_l1Own (M := M) x207.1 a1 hO.fut h7) rfl (by rintro _ _ _ ⟨i3, i4, i5, m5, rfl, c1, k1, r4⟩; exact hS.ext c1) ?_
     rintro _ C4 ⟨i3, i4, i5, m5, rfl, c1, k1, r4⟩
     have h0 := h0.ext c1
     have a0 := a0.ext c1
     have a1 := a1.ext c1
     have a7 := a7.ext c1
     have k0 := k0.cn c1
     have hC := hC.ext c1
     have hO := Own.join0 hO c1 r4
     have hO := hO.perm (R := m5 ++ (([j9]) ++ (([b3]) ++ (a3 ++ ([]))))) (by simp)
     have hS := hS.ext c1
     refine x_p 14 (.agg #[(.slice i3 i4 i5), (.int .i64 x212.2.1), (.slice (some ⟨b3, 0, none⟩) 0 0)]) rfl (by kernel_rfl)  (fun _ => y_build rfl (by kernel_rfl)) (fun _ => hS) ?_
     refine x_one (i := 16) (by kernel_rfl) ?_
     obtain ⟨r5, w8, f4, m6⟩ := box_store (P := Try.prog) k0 [] [(.slice none 0 0), (.int .i64 0), (.slice none 0 0)] [] [(.slice i3 i4 i5), (.int .i64 x212.2.1), (.slice (some ⟨b3, 0, none⟩) 0 0)] rfl rfl (by intro u hu; simp only [List.mem_cons, List.not_mem_nil, or_false] at hu; rcases hu with rfl | rfl | rfl <;> rfl)
     refine xk_skip (w' := r5) (b := true) rfl (ys_store rfl rfl (w8 _ _ rfl Sz56)) rfl (fun h => nomatch h) ?_
     have hO := hO.fr1
     have h0 := h0.mt f4 hO same_
     have a0 := a0.ma f4 hO same_ (fun _ e => (mem_r (mem_r (mem_l (e)))))
     have a1 := a1.mt f4 hO same_
     have a7 := a7.ma f4 hO same_ (fun _ e => (mem_r (mem_l (e))))
     have k1 := k1.ma f4 hO same_ (fun _ e => (mem_l (e)))
     have hC := hC.st f4 hO same_
     have hO := hO.ext f4
     have m6 : BoxV r5 j9 56 [(.slice i3 i4 i5), (.int .i64 x212.2.1), (.slice (some ⟨b3, 0, none⟩) 0 0)] := m6
     refine x_end (by kernel_rfl) ?_
     clear hS
     have hO := hO.fr3
     have hO := hO.fr2
     have hO := hO.fr3
     have hO := hO.fr3
     exact ⟨_, i3, i5, m5, b3, j9, i4, fr_ovl 62 ⟨rfl, rfl, rfl, rfl, trivial⟩, hC, hO, h0, a0, k1, a7, m6⟩
   ·skip
    obtain ⟨r6, f5, w9, r7, f6, c0⟩ := new_block l3 [(.slice none 0 0), (.int .i64 0), (.slice none 0 0)] 56
    refine xk_val (w' := r6) (b := false) (.pointer (some ⟨f5, 0, none⟩)) rfl  (y_alloc (by rw [w9, r7]; kernel_rfl)) rfl (fun _ => hS.ext f6) ?_
    have h0 := h0.ext f6
    have a0 := a0.ext f6
    have a1 := a1.ext f6
    have hC := hC.ext f6
    have hO := hO.new1 f6 r7 c0.lt
    have hS := hS.ext f6
    refine x_two (i := 5) (j := 12) (by kernel_rfl) ?_ ?_
    ·skip
     refine xk_call (b := false) rfl  Bd121 rfl (c_spec_l1Own (M := M) x207.1 a1 hO.fut h7) rfl (by rintro _ _ _ ⟨i6, i7, i9, m7, rfl, d2, h4, r8⟩; exact hS.ext d2) ?_
     rintro _ x0 ⟨i6, i7, i9, m7, rfl, d2, h4, r8⟩
     have h0 := h0.ext d2
     have a0 := a0.ext d2
     have a1 := a1.ext d2
     have c0 := c0.cn d2
     have hC := hC.ext d2
     have hO := Own.join0 hO d2 r8
     have hO := hO.perm (R := m7 ++ (([f5]) ++ (a3 ++ ([])))) (by simp)
     have hS := hS.ext d2
     refine x_one (i := 12) (by kernel_rfl) ?_
     obtain ⟨r9, e3, x1, s0, d3, s1⟩ := new_block x0 [] 41
     refine xk_val (w' := r9) (b := false) (.slice (some ⟨e3, 0, none⟩) 0 0) rfl  (y_bslice rfl (by rw [x1, s0]; kernel_rfl)) rfl (fun _ => hS.ext d3) ?_
     have h0 := h0.ext d3
     have a0 := a0.ext d3
     have a1 := a1.ext d3
     have c0 := c0.cn d3
     have h4 := h4.ext d3
     have hC := hC.ext d3
     have hO := hO.new1 d3 s0 s1.lt
     have j0 := os_of_box (r := (RT.os 3 (RT.int .i64))) (M := M) (css := []) (fps := []) (xs := ([] : List (List Int))) s1 trivial (Nat.zero_le _) (List.nodup_cons.2 ⟨(fun h => nomatch h), List.nodup_nil⟩)
     have j0 : (RT.os 41 (RT.os 3 (RT.int .i64))).val M r9 (.slice (some ⟨e3, 0, none⟩) 0 0) [] [e3] := j0
     have hS := hS.ext d3
     refine x_p 13 (.agg #[(.int .i64 x212.2.1), (.slice (some ⟨e3, 0, none⟩) 0 0)]) rfl (by kernel_rfl)  (fun _ => y_build rfl (by kernel_rfl)) (fun _ => hS) ?_
     refine x_p 14 (.agg #[(.slice i6 i7 i9), (.int .i64 x212.2.1), (.slice (some ⟨e3, 0, none⟩) 0 0)]) rfl (by kernel_rfl)  (fun _ => y_build rfl (by kernel_rfl)) (fun _ => hS) ?_
     refine x_one (i := 16) (by kernel_rfl) ?_
     obtain ⟨s2, x2, f7, m8⟩ := box_store (P := Try.prog) c0 [] [(.slice none 0 0), (.int .i64 0), (.slice none 0 0)] [] [(.slice i6 i7 i9), (.int .i64 x212.2.1), (.slice (some ⟨e3, 0, none⟩) 0 0)] rfl rfl (by intro u hu; simp only [List.mem_cons, List.not_mem_nil, or_false] at hu; rcases hu with rfl | rfl | rfl <;> rfl)
     refine xk_skip (w' := s2) (b := true) rfl (ys_store rfl rfl (x2 _ _ rfl Sz56)) rfl (fun h => nomatch h) ?_
     have hO := hO.fr2
     have h0 := h0.mt f7 hO same_
     have a0 := a0.ma f7 hO same_ (fun _ e => (mem_r (mem_r (mem_l (e)))))
     have a1 := a1.mt f7 hO same_
     have h4 := h4.ma f7 hO same_ (fun _ e => (mem_r (mem_l (e))))
     have j0 := j0.ma f7 hO same_ (fun _ e => (mem_l (e)))
     have hC := hC.st f7 hO same_
     have hO := hO.ext f7
     have m8 : BoxV s2 f5 56 [(.slice i6 i7 i9), (.int .i64 x212.2.1), (.slice (some ⟨e3, 0, none⟩) 0 0)] := m8
     refine x_end (by kernel_rfl) ?_
     clear hS
     have hO := hO.fr3
     have hO := hO.fr3
     have hO := hO.fr3
     have hO := hO.fr3
     exact ⟨_, i6, i9, m7, e3, f5, i7, fr_ovl 62 ⟨rfl, rfl, rfl, rfl, trivial⟩, hC, hO, h0, a0, h4, j0, m8⟩
    ·skip
     obtain ⟨s3, d4, x3, s4, e4, s5⟩ := new_block r6 [] 41
     refine xk_val (w' := s3) (b := false) (.slice (some ⟨d4, 0, none⟩) 0 0) rfl  (y_bslice rfl (by rw [x3, s4]; kernel_rfl)) rfl (fun _ => hS.ext e4) ?_
     have h0 := h0.ext e4
     have a0 := a0.ext e4
     have a1 := a1.ext e4
     have c0 := c0.cn e4
     have hC := hC.ext e4
     have hO := hO.new1 e4 s4 s5.lt
     have f8 := os_of_box (r := (RT.os 3 (RT.int .i64))) (M := M) (css := []) (fps := []) (xs := ([] : List (List Int))) s5 trivial (Nat.zero_le _) (List.nodup_cons.2 ⟨(fun h => nomatch h), List.nodup_nil⟩)
     have f8 : (RT.os 41 (RT.os 3 (RT.int .i64))).val M s3 (.slice (some ⟨d4, 0, none⟩) 0 0) [] [d4] := f8
     have hS := hS.ext e4
     refine x_p 13 (.agg #[(.int .i64 x212.2.1), (.slice (some ⟨d4, 0, none⟩) 0 0)]) rfl (by kernel_rfl)  (fun _ => y_build rfl (by kernel_rfl)) (fun _ => hS) ?_
     refine x_one (i := 5) (by kernel_rfl) ?_
     refine xk_call (b := false) rfl  Bd121 rfl (c_spec_l1Own (M := M) x207.1 a1 hO.fut h7) rfl (by rintro _ _ _ ⟨j1, j2, j3, m9, rfl, c2, k2, s6⟩; exact hS.ext c2) ?_
     rintro _ C5 ⟨j1, j2, j3, m9, rfl, c2, k2, s6⟩
     have h0 := h0.ext c2
     have a0 := a0.ext c2
     have a1 := a1.ext c2
     have c0 := c0.cn c2
     have f8 := f8.ext c2
     have hC := hC.ext c2
     have hO := Own.join0 hO c2 s6
     have hO := hO.perm (R := m9 ++ (([d4]) ++ (([f5]) ++ (a3 ++ ([]))))) (by simp)
     have hS := hS.ext c2
     refine x_p 14 (.agg #[(.slice j1 j2 j3), (.int .i64 x212.2.1), (.slice (some ⟨d4, 0, none⟩) 0 0)]) rfl (by kernel_rfl)  (fun _ => y_build rfl (by kernel_rfl)) (fun _ => hS) ?_
     refine x_one (i := 16) (by kernel_rfl) ?_
     obtain ⟨s7, x4, f9, n0⟩ := box_store (P := Try.prog) c0 [] [(.slice none 0 0), (.int .i64 0), (.slice none 0 0)] [] [(.slice j1 j2 j3), (.int .i64 x212.2.1), (.slice (some ⟨d4, 0, none⟩) 0 0)] rfl rfl (by intro u hu; simp only [List.mem_cons, List.not_mem_nil, or_false] at hu; rcases hu with rfl | rfl | rfl <;> rfl)
     refine xk_skip (w' := s7) (b := true) rfl (ys_store rfl rfl (x4 _ _ rfl Sz56)) rfl (fun h => nomatch h) ?_
     have hO := hO.fr2
     have h0 := h0.mt f9 hO same_
     have a0 := a0.ma f9 hO same_ (fun _ e => (mem_r (mem_r (mem_l (e)))))
     have a1 := a1.mt f9 hO same_
     have f8 := f8.ma f9 hO same_ (fun _ e => (mem_r (mem_l (e))))
     have k2 := k2.ma f9 hO same_ (fun _ e => (mem_l (e)))
     have hC := hC.st f9 hO same_
     have hO := hO.ext f9
     have n0 : BoxV s7 f5 56 [(.slice j1 j2 j3), (.int .i64 x212.2.1), (.slice (some ⟨d4, 0, none⟩) 0 0)] := n0
     refine x_end (by kernel_rfl) ?_
     clear hS
     have hO := hO.fr3
     have hO := hO.fr2
     have hO := hO.fr3
     have hO := hO.fr3
     exact ⟨_, j1, j3, m9, d4, f5, j2, fr_ovl 62 ⟨rfl, rfl, rfl, rfl, trivial⟩, hC, hO, h0, a0, k2, f8, n0⟩
  rintro k3 d6 ⟨σ, b0, b1, b7, e8, a5, b2, rfl, hC, hO, h0, a0, a6, x5, a4⟩
  refine c_seq ?_
  refine c_sr ?_
  refine pl_val (.int .i64 0) (y_assign rfl) ?_
  refine c_nil ?_
  obtain ⟨o358, x6, hs⟩ := bind_some hs
  refine wp_block ?_
  refine wp_iter (id := 2) (I := fun s354 a a2 => ∃ (σ : Nat → Value) (g0 : Option Addr) (g1 : Nat) (g2 : Nat) (h5 : List Nat), a = fr 62 (ovl σ [(0, (.slice pa0 pn0 pc0)), (3, (.slice b4 b5 b6)), (4, (.int .i64 k198)), (5, (.pointer (some ⟨a5, 0, none⟩))), (6, (.int .i64 s354.1))]) ∧ Chg [] w a2 ∧ Own (Nw w []) M a2 (h5 ++ (([a5]) ++ (b7 ++ (a3 ++ [])))) ∧ (RT.rs (RT.pr (RT.rs (RT.int .i64)) (RT.pr (RT.int .i64) (RT.rs (RT.rs (RT.int .i64)))))).val M a2 (.slice pa0 pn0 pc0) list ([]) ∧ (RT.os 56 (RT.pr (RT.os 3 (RT.int .i64)) (RT.pr (RT.int .i64) (RT.os 41 (RT.os 3 (RT.int .i64)))))).val M a2 (.slice b4 b5 b6) s196 a3 ∧ (RT.os 3 (RT.int .i64)).val M a2 (.slice b0 b2 b1) r217 b7 ∧ BoxV a2 a5 56 [(.slice b0 b2 b1), (.int .i64 x212.2.1), (.slice g0 g1 g2)] ∧ (RT.os 41 (RT.os 3 (RT.int .i64))).val M a2 (.slice g0 g1 g2) s354.2 h5) (J := fun s354 a a2 => ∃ (σ : Nat → Value) (g3 : Option Addr) (g4 : Nat) (g5 : Nat) (h6 : List Nat), a = fr 62 (ovl σ [(0, (.slice pa0 pn0 pc0)), (3, (.slice b4 b5 b6)), (4, (.int .i64 k198)), (5, (.pointer (some ⟨a5, 0, none⟩)))]) ∧ Chg [] w a2 ∧ Own (Nw w []) M a2 (h6 ++ (([a5]) ++ (b7 ++ (a3 ++ [])))) ∧ (RT.rs (RT.pr (RT.rs (RT.int .i64)) (RT.pr (RT.int .i64) (RT.rs (RT.rs (RT.int .i64)))))).val M a2 (.slice pa0 pn0 pc0) list ([]) ∧ (RT.os 56 (RT.pr (RT.os 3 (RT.int .i64)) (RT.pr (RT.int .i64) (RT.os 41 (RT.os 3 (RT.int .i64)))))).val M a2 (.slice b4 b5 b6) s196 a3 ∧ (RT.os 3 (RT.int .i64)).val M a2 (.slice b0 b2 b1) r217 b7 ∧ BoxV a2 a5 56 [(.slice b0 b2 b1), (.int .i64 x212.2.1), (.slice g3 g4 g5)] ∧ (RT.os 41 (RT.os 3 (RT.int .i64))).val M a2 (.slice g3 g4 g5) s354.2 h6) (K := (k_spec_l19Copy M w)) ?_ FU (0, []) o358 _ _ ?_ x6 ?_
  ·rintro s354 o358 a a2 ⟨σ, g0, g1, g2, h5, rfl, hC, hO, h0, a0, a6, a4, d5⟩ hs
   refine c_seq ?_
   refine c_sr ?_
   refine pl_val (.int .i64 s354.1) (y_move rfl) ?_
   refine pl_val (.slice pa0 pn0 pc0) (y_move rfl) ?_
   refine pl_val (.int .i64 k198) (y_move rfl) ?_
   obtain ⟨x364, x7, hs⟩ := bind_some hs
   obtain ⟨n1, n2, x8, x9⟩ := rs_idx Sl28 Sz56 h0 x7
   refine pl_val (.pointer (some ⟨n1, n2, none⟩)) (x8 _ _ _ _ _ _ _ _ _ rfl rfl) ?_
   obtain ⟨_, y0⟩ := pr_at x9
   refine pl_val (.pointer (some ⟨n1, n2 + 1, none⟩)) (y_faddr rfl Fa56x1) ?_
   obtain ⟨_, y1⟩ := pr_at y0
   refine pl_val (.pointer (some ⟨n1, (n2 + 1) + 1, none⟩)) (y_faddr rfl Fa54x1) ?_
   obtain ⟨C6, y2, s8⟩ := at_load Ag47 Sz47 (fun _ => rfl) y1
   obtain ⟨y3, y4, y5, rfl⟩ := rs_sl s8
   refine pl_val (.slice y3 y4 y5) (y_load rfl (y2 _ (Chg.refl _ _))) ?_
   refine pl_val (.int .i64 (x364.2.2.length : Int)) (y_len' Sl47 (rs_len s8) rfl) ?_
   refine pl_val (.bool (decide (s354.1 < (x364.2.2.length : Int)))) (y_lss rfl rfl) ?_
   refine c_nil ?_
   rcases bif_some hs with ⟨n3, hs⟩ | ⟨n3, hs⟩
   ·refine c_condT (congrArg Value.bool n3) ?_
    refine wp_skip ?_
    refine c_seq ?_
    refine wp_block ?_
    refine x_start [14, 17] Mx rfl ?_
    have e5 := Chg.drew a2
    generalize World.drew a2 = y6 at e5 ⊢
    have h0 := h0.ext e5
    have a0 := a0.ext e5
    have a6 := a6.ext e5
    have a4 := a4.cn e5
    have d5 := d5.ext e5
    have hC := hC.ext e5
    have hO := hO.ext e5
    have hS := Chg.refl [] y6
    refine x_p 0 (.pointer (some ⟨a5, 1, none⟩)) rfl (by kernel_rfl)  (fun _ => y_faddr rfl Fa56x1) (fun _ => hS) ?_
    refine x_p 1 (.pointer (some ⟨a5, 2, none⟩)) rfl (by kernel_rfl)  (fun _ => y_faddr rfl Fa54x1) (fun _ => hS) ?_
    refine x_l 2 (.slice g0 g1 g2) rfl (by kernel_rfl)  (fun w' hw' => y_load rfl ((box_load Ag47 Sz47 a4 [(.slice b0 b2 b1), (.int .i64 x212.2.1)] [(.slice g0 g1 g2)] [] rfl rfl (fun _ => rfl)) w' hw')) hS ?_
    refine x_p 3 (.slice pa0 pn0 pc0) rfl (by kernel_rfl)  (fun _ => y_move rfl) (fun _ => hS) ?_
    refine x_p 4 (.int .i64 k198) rfl (by kernel_rfl)  (fun _ => y_move rfl) (fun _ => hS) ?_
    obtain ⟨x372, y7, hs⟩ := bind_some hs
    obtain ⟨n4, n5, y8, y9⟩ := rs_idx Sl28 Sz56 h0 y7
    refine x_p 5 (.pointer (some ⟨n4, n5, none⟩)) rfl (by kernel_rfl)  (fun _ => y8 _ _ _ _ _ _ _ _ _ rfl rfl) (fun _ => hS) ?_
    obtain ⟨_, z0⟩ := pr_at y9
    refine x_p 6 (.pointer (some ⟨n4, n5 + 1, none⟩)) rfl (by kernel_rfl)  (fun _ => y_faddr rfl Fa56x1) (fun _ => hS) ?_
    obtain ⟨_, z1⟩ := pr_at z0
    refine x_p 7 (.pointer (some ⟨n4, (n5 + 1) + 1, none⟩)) rfl (by kernel_rfl)  (fun _ => y_faddr rfl Fa54x1) (fun _ => hS) ?_
    obtain ⟨C7, z2, c3⟩ := at_load Ag47 Sz47 (fun _ => rfl) z1
    obtain ⟨z3, z4, z5, rfl⟩ := rs_sl c3
    refine x_l 8 (.slice z3 z4 z5) rfl (by kernel_rfl)  (fun w' hw' => y_load rfl (z2 w' hw')) hS ?_
    refine x_p 9 (.int .i64 s354.1) rfl (by kernel_rfl)  (fun _ => y_move rfl) (fun _ => hS) ?_
    obtain ⟨x378, z6, hs⟩ := bind_some hs
    obtain ⟨z7, z8, z9, A0⟩ := rs_idx Sl47 Sz41 c3 z6
    refine x_p 10 (.pointer (some ⟨z7, z8, none⟩)) rfl (by kernel_rfl)  (fun _ => z9 _ _ _ _ _ _ _ _ _ rfl rfl) (fun _ => hS) ?_
    obtain ⟨C8, A1, c4⟩ := at_load Ag41 Sz41 (fun _ => rfl) A0
    obtain ⟨A2, A3, A4, rfl⟩ := rs_sl c4
    refine x_l 11 (.slice A2 A3 A4) rfl (by kernel_rfl)  (fun w' hw' => y_load rfl (A1 w' hw')) hS ?_
    refine x_one (i := 12) (by kernel_rfl) ?_
    obtain ⟨r383, A5, hs⟩ := bind_some hs
    refine xk_call (b := false) rfl  Bd121 rfl (c_spec_l1Own (M := M) x378 c4 hO.fut A5) rfl (by rintro _ _ _ ⟨n6, n7, n8, j4, rfl, b8, k4, s9⟩; exact hS.ext b8) ?_
    rintro _ A6 ⟨n6, n7, n8, j4, rfl, b8, k4, s9⟩
    have h0 := h0.ext b8
    have a0 := a0.ext b8
    have a6 := a6.ext b8
    have a4 := a4.cn b8
    have d5 := d5.ext b8
    have c3 := c3.ext b8
    have c4 := c4.ext b8
    have hC := hC.ext b8
    have hO := Own.join0 hO b8 s9
    have hO := hO.perm (R := j4 ++ (h5 ++ (([a5]) ++ (b7 ++ (a3 ++ ([])))))) (by simp)
    have hS := hS.ext b8
    refine x_one (i := 13) (by kernel_rfl) ?_
    obtain ⟨t0, k5, A7, t1, b9, t2⟩ := new_block A6 [(.slice n6 n7 n8)] 41
    refine xk_val (w' := t0) (b := false) (.slice (some ⟨k5, 0, none⟩) 1 1) rfl  (y_bslice rfl (by rw [A7, t1]; kernel_rfl)) rfl (fun _ => hS.ext b9) ?_
    have h0 := h0.ext b9
    have a0 := a0.ext b9
    have a6 := a6.ext b9
    have a4 := a4.cn b9
    have d5 := d5.ext b9
    have c3 := c3.ext b9
    have c4 := c4.ext b9
    have k4 := k4.ext b9
    have hC := hC.ext b9
    have hO := hO.new1 b9 t1 t2.lt
    have hO := hO.perm (R := (k5 :: ((j4) ++ ([]))) ++ (h5 ++ (([a5]) ++ (b7 ++ (a3 ++ ([])))))) (by simp)
    have A8 := hO.nd
    have n9 := os_of_box (r := (RT.os 3 (RT.int .i64))) (M := M) (css := [[(.slice n6 n7 n8)]]) (fps := [(j4 : List Nat)]) (xs := ([r383] : List (List Int))) t2 ⟨(os_unval k4), trivial⟩ (Nat.le_of_ble_eq_true rfl) A8
    have n9 : (RT.os 41 (RT.os 3 (RT.int .i64))).val M t0 (.slice (some ⟨k5, 0, none⟩) 1 1) [r383] (k5 :: ((j4) ++ ([]))) := n9
    have hS := hS.ext b9
    refine x_one (i := 14) (by kernel_rfl) ?_
    obtain ⟨y388, A9, hs⟩ := bind_some hs
    have hO := hO.fr1
    obtain ⟨k6, k7, k8, B0, B1, B2, e6, B3, j5⟩ := app_os Rw47 A9 d5 n9 hO.inM (fun g hg hq => hO.apart g hq (mem_l hg))
    have g6 := os_block d5
    refine xk_val (w' := B0) (b := true) (.slice k6 k7 k8) rfl  (y_append rfl rfl (B2 _)) rfl (fun h => nomatch h) ?_
    have hO := hO.fr1
    have hO := hO.fr1
    have h0 := h0.mt e6 hO g6
    have a0 := a0.ma e6 hO g6 (fun _ e => (mem_r (mem_r (mem_r (mem_l (e))))))
    have a6 := a6.ma e6 hO g6 (fun _ e => (mem_r (mem_r (mem_l (e)))))
    have a4 := a4.ap e6 hO g6 (mem_r (mem_l (List.mem_singleton.2 rfl)))
    have c3 := c3.mt e6 hO g6
    have c4 := c4.mt e6 hO g6
    have hC := hC.st e6 hO g6
    have hO := hO.eat e6 B3 (os_nodup j5) j5.fpl
    refine x_p 15 (.pointer (some ⟨a5, 1, none⟩)) rfl (by kernel_rfl)  (fun _ => y_faddr rfl Fa56x1) (fun h => nomatch h) ?_
    refine x_p 16 (.pointer (some ⟨a5, 2, none⟩)) rfl (by kernel_rfl)  (fun _ => y_faddr rfl Fa54x1) (fun h => nomatch h) ?_
    refine x_one (i := 17) (by kernel_rfl) ?_
    obtain ⟨t3, B4, e7, o0⟩ := box_store (P := Try.prog) a4 [(.slice b0 b2 b1), (.int .i64 x212.2.1)] [(.slice g0 g1 g2)] [] [(.slice k6 k7 k8)] rfl rfl (by intro u hu; simp only [List.mem_cons, List.not_mem_nil, or_false] at hu; rcases hu with rfl <;> rfl)
    refine xk_skip (w' := t3) (b := true) rfl (ys_store rfl rfl (B4 _ _ rfl Sz47)) rfl (fun h => nomatch h) ?_
    have hO := hO.fr1
    have h0 := h0.mt e7 hO same_
    have a0 := a0.ma e7 hO same_ (fun _ e => (mem_r (mem_r (mem_l (e)))))
    have a6 := a6.ma e7 hO same_ (fun _ e => (mem_r (mem_l (e))))
    have c3 := c3.mt e7 hO same_
    have c4 := c4.mt e7 hO same_
    have j5 := j5.ma e7 hO same_ (fun _ e => (mem_l (e)))
    have hC := hC.st e7 hO same_
    have hO := hO.ext e7
    have o0 : BoxV t3 a5 56 [(.slice b0 b2 b1), (.int .i64 x212.2.1), (.slice k6 k7 k8)] := o0
    refine x_end (by kernel_rfl) ?_
    clear hS
    refine c_region ?_
    refine pl_val (.int .i64 s354.1) (y_move rfl) ?_
    refine pl_val (.int .i64 (w64 (s354.1 + 1))) (y_add rfl rfl) ?_
    refine pl_val (.int .i64 (w64 (s354.1 + 1))) (y_assign rfl) ?_
    refine c_nil ?_
    cases hs
    have hO := hO.fr3
    have hO := hO.fr3
    have hO := hO.fr2
    have hO := hO.fr3
    exact ⟨_, k6, k7, k8, B1, fr_ovl 62 ⟨rfl, rfl, rfl, rfl, rfl, trivial⟩, hC, hO, h0, a0, a6, o0, j5⟩
   refine c_condF (congrArg Value.bool n3) ?_
   refine wp_exit ?_
   cases hs
   have hO := hO.fr3
   have hO := hO.fr3
   have hO := hO.fr3
   have hO := hO.fr3
   exact ⟨rfl, _, g0, g1, g2, h5, fr_ovl 62 ⟨rfl, rfl, rfl, rfl, trivial⟩, hC, hO, h0, a0, a6, a4, d5⟩
  ·skip
   have hO := hO.fr3
   have hO := hO.fr3
   have hO := hO.fr2
   have hO := hO.fr3
   exact ⟨_, (some ⟨e8, 0, none⟩), 0, 0, ([e8]), fr_ovl 62 ⟨rfl, rfl, rfl, rfl, rfl, trivial⟩, hC, hO, h0, a0, a6, a4, x5⟩
  cases o358 with
  | nx _ => exact True.intro
  | rt r_ =>
   have hs := after_rt hs
   intro k3 o8 hK
   cases hs
   exact hK
  | br s354 =>
   have hs := after_br hs
   rintro k3 a2 ⟨σ, g3, g4, g5, h6, rfl, hC, hO, h0, a0, a6, a4, o1⟩
   refine c_region ?_
   refine pl_val (.slice b4 b5 b6) (y_move rfl) ?_
   refine pl_val (.agg #[(.slice b0 b2 b1), (.int .i64 x212.2.1), (.slice g3 g4 g5)]) (y_load rfl ((box_load Ag56 Sz56 a4 [] [(.slice b0 b2 b1), (.int .i64 x212.2.1), (.slice g3 g4 g5)] [] rfl rfl (fun h => nomatch h)) _ (Chg.refl _ _))) ?_
   obtain ⟨t4, k9, B5, t5, g7, t6⟩ := new_block a2 [(.slice b0 b2 b1), (.int .i64 x212.2.1), (.slice g3 g4 g5)] 56
   refine pl_val (w' := t4) (.slice (some ⟨k9, 0, none⟩) 1 1) (y_bslice rfl (by rw [B5, t5]; kernel_rfl)) ?_
   have h0 := h0.ext g7
   have a0 := a0.ext g7
   have a6 := a6.ext g7
   have a4 := a4.cn g7
   have o1 := o1.ext g7
   have hC := hC.ext g7
   have hO := hO.fr2
   have hO := hO.new1 g7 t5 t6.lt
   have hO := hO.perm (R := (k9 :: ((b7 ++ h6) ++ ([]))) ++ (([a5]) ++ (a3 ++ ([])))) (by simp)
   have B6 := hO.nd
   have o2 := os_of_box (r := (RT.pr (RT.os 3 (RT.int .i64)) (RT.pr (RT.int .i64) (RT.os 41 (RT.os 3 (RT.int .i64)))))) (M := M) (css := [[(.slice b0 b2 b1), (.int .i64 x212.2.1), (.slice g3 g4 g5)]]) (fps := [(b7 ++ h6 : List Nat)]) (xs := ([(r217, (x212.2.1, s354.2))] : List ((List Int) × (Int × (List (List Int)))))) t6 ⟨⟨_, _, _, _, rfl, rfl, (os_unval a6), ⟨_, _, _, _, rfl, rfl, ⟨rfl, rfl⟩, (os_unval o1)⟩⟩, trivial⟩ (Nat.le_of_ble_eq_true rfl) B6
   have o2 : (RT.os 56 (RT.pr (RT.os 3 (RT.int .i64)) (RT.pr (RT.int .i64) (RT.os 41 (RT.os 3 (RT.int .i64)))))).val M t4 (.slice (some ⟨k9, 0, none⟩) 1 1) [(r217, (x212.2.1, s354.2))] (k9 :: ((b7 ++ h6) ++ ([]))) := o2
   obtain ⟨y394, B7, hs⟩ := bind_some hs
   have hO := hO.fr2
   obtain ⟨o3, o4, o5, B8, B9, C0, l0, C1, o6⟩ := app_os Rw28 B7 a0 o2 hO.inM (fun g hg hq => hO.apart g hq (mem_l hg))
   have o7 := os_block a0
   refine pl_val (w' := B8) (.slice o3 o4 o5) (y_append rfl rfl (C0 _)) ?_
   have hO := hO.fr1
   have hO := hO.fr1
   have h0 := h0.mt l0 hO o7
   have a4 := a4.ap l0 hO o7 (mem_r (mem_l (List.mem_singleton.2 rfl)))
   have hC := hC.st l0 hO o7
   have hO := hO.eat l0 C1 (os_nodup o6) o6.fpl
   refine pl_val (.slice o3 o4 o5) (y_assign rfl) ?_
   refine c_nil ?_
   refine c_region ?_
   refine pl_val (.int .i64 k198) (y_move rfl) ?_
   refine pl_val (.int .i64 (w64 (k198 + 1))) (y_add rfl rfl) ?_
   refine pl_val (.int .i64 (w64 (k198 + 1))) (y_assign rfl) ?_
   refine c_nil ?_
   cases hs
   have hO := hO.fr1
   have hO := hO.drop
   exact ⟨_, o3, o4, o5, B9, fr_ovl 62 ⟨rfl, rfl, congrArg (Value.int .i64) hw, trivial⟩, hC, hO, h0, o6⟩
 ·skip
  exact ⟨_, (some ⟨g8, 0, none⟩), 0, 0, ([g8]), fr_ovl 62 ⟨rfl, rfl, rfl, trivial⟩, hC, hO, h0, l2⟩
 cases o200 with
 | nx _ => exact True.intro
 | rt r_ =>
  have hs := after_rt hs
  intro k3 o8 hK
  cases hs
  exact hK
 | br s196 =>
  have hs := after_br hs
  rintro k3 a9 ⟨σ, g9, h1, h2, j6, rfl, hC, hO, h0, C2⟩
  refine c_sr ?_
  refine pl_val (.slice g9 h1 h2) (y_move rfl) ?_
  refine pl_val (.slice g9 h1 h2) (y_assign rfl) ?_
  refine c_nil ?_
  refine wp_ret ?_
  cases hs
  exact ⟨_, g9, h1, h2, j6, fr_ovl 62 ⟨rfl, trivial⟩, hC, C2, hO.top⟩

theorem Ag30 : AggT Try.prog 30 true := fun _ => by kernel_rfl

theorem Sz30 : SzT Try.prog 30 3 := ⟨_, rfl, rfl⟩

theorem Bd56 : Bodied Try.prog 56 := bodied Try.func56 (by kernel_rfl) rfl

theorem Bd76 : Bodied Try.prog 76 := bodied Try.func76 (by kernel_rfl) rfl

theorem Fa30x2 : ∀ (a : Addr) (w : World), (Instr.fieldAt 30 (.pointer (some a)) 2).run Try.prog w = .ok (.pointer (some (a.add 2))) w := fun _ _ => by kernel_rfl

theorem Ag28 : AggT Try.prog 28 false := fun _ => by kernel_rfl

theorem Sz28 : SzT Try.prog 28 1 := ⟨_, rfl, rfl⟩

theorem Bd88 : Bodied Try.prog 88 := bodied Try.func88 (by kernel_rfl) rfl

theorem Bd89 : Bodied Try.prog 89 := bodied Try.func89 (by kernel_rfl) rfl

def k_spec_NetworkOfPolymorphisms (M : Nat → Prop) (w0 : World) (r : (Int × Int × (List ((List Int) × (Int × (List (List Int)))))) × Bool) (a : Act) (w : World) : Prop :=
  ∃ (σ : Nat → Value) (rg6 : Nat) (ra0 : Option Addr) (rn0 rc0 : Nat), a = fr 144 (ovl σ [(6, (.pointer (some ⟨rg6, 0, none⟩))), (7, (.bool r.2))]) ∧ BoxV w rg6 30 [(.int .i64 r.1.1), (.int .i64 r.1.2.1), (.slice ra0 rn0 rc0)] ∧ Chg [] w0 w ∧ (RT.rs (RT.pr (RT.rs (RT.int .i64)) (RT.pr (RT.int .i64) (RT.rs (RT.rs (RT.int .i64)))))).val (Past M w0 w) w (.slice ra0 rn0 rc0) r.1.2.2 []
def s_spec_NetworkOfPolymorphisms (n : Int) (rels : List (Int × (List (List Int)))) (k : Int) : Option ((Int × Int × (List ((List Int) × (Int × (List (List Int)))))) × Bool) :=
  (s_spec_l14Small n rels k).bind fun r4 =>
  (bif (!r4) then some ((0, 0, []), false) else (s_spec_l2Pow n k).bind fun r8 =>
  (forC (S := (List ((List Int) × (Int × (List (List Int)))))) (R := (Int × Int × (List ((List Int) × (Int × (List (List Int)))))) × Bool) (fun k2436 s2434 =>
  (idx rels k2436).bind fun x2446 =>
  (iter (S := Int × (List ((List Int) × (Int × (List (List Int)))))) (R := (Int × Int × (List ((List Int) × (Int × (List (List Int)))))) × Bool) (fun s2874 =>
  (s_spec_l2Pow (x2446.2.length : Int) k).bind fun r2887 =>
  (bif (decide (s2874.1 < r2887)) then (s_spec_l2Args (x2446.2.length : Int) k s2874.1).bind fun r2890 =>
  (iter (S := (List Int) × Int) (R := (Int × Int × (List ((List Int) × (Int × (List (List Int)))))) × Bool) (fun s2939 =>
  (idx rels k2436).bind fun x2949 =>
  (bif (decide (s2939.2 < x2949.1)) then (forC (S := Int) (R := (Int × Int × (List ((List Int) × (Int × (List (List Int)))))) × Bool) (fun k2969 s2967 =>
  (idx rels k2436).bind fun x2974 =>
  (idx r2890 k2969).bind fun x2979 =>
  (idx x2974.2 x2979).bind fun x2981 =>
  (idx x2981 s2939.2).bind fun x2985 =>
  some (.nx (w64 ((w64 (s2967 * n)) + x2985)))) 0 k 0).bind fun o2971 => after o2971 (fun r_ => some (.rt r_)) (fun s2967 =>
  (app s2939.1 ([s2967])).bind fun y2990 =>
  some (.nx (y2990, w64 (s2939.2 + 1)))) else some (.br (s2939.1, s2939.2)))) FU ([], 0)).bind fun o2943 => after o2943 (fun r_ => some (.rt r_)) (fun s2939 =>
  (forC (S := Bool) (R := (Int × Int × (List ((List Int) × (Int × (List (List Int)))))) × Bool) (fun k3030 s3028 =>
  (bif s3028 then some (.nx true) else (idx s2874.2 k3030).bind fun x3036 =>
  (s_spec_l1Same x3036.1 s2939.1).bind fun r3042 =>
  (bif r3042 then (idx rels k2436).bind fun x3044 =>
  (idx s2874.2 k3030).bind fun x3046 =>
  (s_spec_l19SameRel (x3046.2.1, x3046.2.2) (x3044.1, x3044.2)).bind fun r3054 =>
  some (.nx r3054) else some (.nx false)))) 0 (s2874.2.length : Int) false).bind fun o3032 => after o3032 (fun r_ => some (.rt r_)) (fun s3028 =>
  (bif s3028 then some (.nx (w64 (s2874.1 + 1), s2874.2)) else (bif ((s2874.2.length : Int) == 40) then some (.rt ((0, 0, []), false)) else (idx rels k2436).bind fun x3074 =>
  (s_spec_l19Copy ([(s2939.1, (x3074.1, x3074.2))])).bind fun r3082 =>
  (idx r3082 0).bind fun x3084 =>
  (app s2874.2 ([(x3084.1, (x3084.2.1, x3084.2.2))])).bind fun y3093 =>
  some (.nx (w64 (s2874.1 + 1), y3093)))))) else some (.br (s2874.1, s2874.2)))) FU (0, s2434)).bind fun o2878 => after o2878 (fun r_ => some (.rt r_)) (fun s2874 =>
  some (.nx s2874.2))) 0 (rels.length : Int) ([])).bind fun o2438 => after o2438 (fun r_ => some r_) (fun s2434 =>
  some ((r8, n, s2434), true)))
set_option maxHeartbeats 4000000 in
theorem c_spec_NetworkOfPolymorphisms {M : Nat → Prop} {w : World} {pa0 : Option Addr} {pn0 pc0 : Nat} (n : Int) (rels : List (Int × (List (List Int)))) (k : Int) (h0 : (RT.rs (RT.pr (RT.int .i64) (RT.rs (RT.rs (RT.int .i64))))).val M w (.slice pa0 pn0 pc0) rels ([])) (hM : ∀ g, w.heap.size ≤ g → M g) {r : (Int × Int × (List ((List Int) × (Int × (List (List Int)))))) × Bool} (hs : s_spec_NetworkOfPolymorphisms n rels k = some r) :
    Gives Try.prog 40 [(.int .i64 n), (.slice pa0 pn0 pc0), (.int .i64 k)] w (fun v w' => ∃ (ra0 : Option Addr) (rn0 rc0 : Nat), v = (.tuple #[(.agg #[(.int .i64 r.1.1), (.int .i64 r.1.2.1), (.slice ra0 rn0 rc0)]), (.bool r.2)]) ∧ Chg [] w w' ∧ (RT.rs (RT.pr (RT.rs (RT.int .i64)) (RT.pr (RT.int .i64) (RT.rs (RT.rs (RT.int .i64)))))).val (Past M w w') w' (.slice ra0 rn0 rc0) r.1.2.2 []) := by
 refine calls_fr Try.func40 rfl Try.ntmps40 (Nat.le_of_ble_eq_true rfl) ?_
 have hO := Own.start (N := Nw w []) hM Nw.fut
 have hC := Chg.refl [] w
 unfold s_spec_NetworkOfPolymorphisms at hs
 refine wp_mono (Q := KPost (k_spec_NetworkOfPolymorphisms M w r)) ?_ (fun e a h5 h => ?_)
 rotate_left
 ·cases e
  case ret =>
   obtain ⟨σ, rg6, ra0, rn0, rc0, rfl, hbrg6, hrest⟩ := h
   exact ret2x Try.results40 (res_cell rfl (box_load Ag30 Sz30 hbrg6 [] _ [] rfl rfl (fun h => nomatch h))) (res_tmp rfl) ⟨ra0, rn0, rc0, rfl, hrest⟩
  all_goals exact (h : False).elim
 refine c_sr ?_
 obtain ⟨s0, a5, s1, n8, j9, a0⟩ := new_block w [(.int .i64 0), (.int .i64 0), (.slice none 0 0)] 30
 refine pl_val (w' := s0) (.pointer (some ⟨a5, 0, none⟩)) (y_alloc (by rw [s1, n8]; kernel_rfl)) ?_
 have h0 := h0.ext j9
 have hC := hC.ext j9
 have hO := hO.new1 j9 n8 a0.lt
 refine pl_val (.bool false) (y_assign rfl) ?_
 refine c_nil ?_
 refine c_seq ?_
 refine c_sr ?_
 refine pl_val (.int .i64 n) (y_move rfl) ?_
 refine pl_val (.slice pa0 pn0 pc0) (y_move rfl) ?_
 refine pl_val (.int .i64 k) (y_move rfl) ?_
 obtain ⟨r4, s2, hs⟩ := bind_some hs
 refine pl_call Bd56 rfl (c_spec_l14Small (M := M) n rels k h0 hO.fut s2) ?_
 rintro _ K3 ⟨rfl, i5⟩
 have h0 := h0.ext i5
 have a0 := a0.cn i5
 have hC := hC.ext i5
 have hO := hO.ext i5
 refine pl_val (.bool (!r4)) (y_not rfl) ?_
 refine c_nil ?_
 rcases bif_some hs with ⟨k0, hs⟩ | ⟨k0, hs⟩
 ·refine c_condT (congrArg Value.bool k0) ?_
  refine c_sr ?_
  refine pl_val (.agg #[(.int .i64 0), (.int .i64 0), (.slice none 0 0)]) (y_build rfl (by kernel_rfl)) ?_
  obtain ⟨n9, s3, k1, k2⟩ := box_store (P := Try.prog) a0 [] [(.int .i64 0), (.int .i64 0), (.slice none 0 0)] [] [(.int .i64 0), (.int .i64 0), (.slice none 0 0)] rfl rfl (by intro u hu; simp only [List.mem_cons, List.not_mem_nil, or_false] at hu; rcases hu with rfl | rfl | rfl <;> rfl)
  refine pl_skip (w' := n9) (ys_store rfl rfl (s3 _ _ rfl Sz30)) ?_
  have h0 := h0.mt k1 hO same_
  have hC := hC.st k1 hO same_
  have hO := hO.ext k1
  have k2 : BoxV n9 a5 30 [(.int .i64 0), (.int .i64 0), (.slice none 0 0)] := k2
  refine pl_val (.bool false) (y_assign rfl) ?_
  refine c_nil ?_
  refine wp_ret ?_
  cases hs
  exact ⟨_, a5, none, 0, 0, fr_ovl 144 ⟨rfl, rfl, trivial⟩, k2, hC, rs_nil⟩
 refine c_condF (congrArg Value.bool k0) ?_
 refine wp_skip ?_
 refine c_sr ?_
 refine pl_val (.int .i64 n) (y_move rfl) ?_
 refine pl_val (.int .i64 k) (y_move rfl) ?_
 obtain ⟨r8, s4, hs⟩ := bind_some hs
 refine pl_call Bd58 rfl (c_spec_l2Pow (M := M) n k  hO.fut s4) ?_
 rintro _ s5 ⟨rfl, i6⟩
 have h0 := h0.ext i6
 have a0 := a0.cn i6
 have hC := hC.ext i6
 have hO := hO.ext i6
 refine pl_val (.int .i64 n) (y_move rfl) ?_
 obtain ⟨k3, f8, s6, o0, i7, o1⟩ := new_block s5 [] 56
 refine pl_val (w' := k3) (.slice (some ⟨f8, 0, none⟩) 0 0) (y_bslice rfl (by rw [s6, o0]; kernel_rfl)) ?_
 have h0 := h0.ext i7
 have a0 := a0.cn i7
 have hC := hC.ext i7
 have hO := hO.new1 i7 o0 o1.lt
 have f9 := os_of_box (r := (RT.pr (RT.os 3 (RT.int .i64)) (RT.pr (RT.int .i64) (RT.os 41 (RT.os 3 (RT.int .i64)))))) (M := M) (css := []) (fps := []) (xs := ([] : List ((List Int) × (Int × (List (List Int)))))) o1 trivial (Nat.zero_le _) (List.nodup_cons.2 ⟨(fun h => nomatch h), List.nodup_nil⟩)
 have f9 : (RT.os 56 (RT.pr (RT.os 3 (RT.int .i64)) (RT.pr (RT.int .i64) (RT.os 41 (RT.os 3 (RT.int .i64)))))).val M k3 (.slice (some ⟨f8, 0, none⟩) 0 0) [] [f8] := f9
 refine pl_val (.agg #[(.int .i64 r8), (.int .i64 n), (.slice (some ⟨f8, 0, none⟩) 0 0)]) (y_build rfl (by kernel_rfl)) ?_
 obtain ⟨s7, a4, s8, o2, h6, o3⟩ := new_block k3 [(.int .i64 0), (.int .i64 0), (.slice none 0 0)] 30
 refine pl_val (w' := s7) (.pointer (some ⟨a4, 0, none⟩)) (y_alloc (by rw [s8, o2]; kernel_rfl)) ?_
 have h0 := h0.ext h6
 have a0 := a0.cn h6
 have f9 := f9.ext h6
 have hC := hC.ext h6
 have hO := hO.new1 h6 o2 o3.lt
 obtain ⟨o4, s9, h7, a1⟩ := box_store (P := Try.prog) o3 [] [(.int .i64 0), (.int .i64 0), (.slice none 0 0)] [] [(.int .i64 r8), (.int .i64 n), (.slice (some ⟨f8, 0, none⟩) 0 0)] rfl rfl (by intro u hu; simp only [List.mem_cons, List.not_mem_nil, or_false] at hu; rcases hu with rfl | rfl | rfl <;> rfl)
 refine pl_skip (w' := o4) (ys_store rfl rfl (s9 _ _ rfl Sz30)) ?_
 have h0 := h0.mt h7 hO same_
 have a0 := a0.ap h7 hO same_ (mem_r (mem_l (List.mem_singleton.2 rfl)))
 have f9 := f9.ma h7 hO same_ (fun _ e => (mem_l (e)))
 have hC := hC.st h7 hO same_
 have hO := hO.ext h7
 have a1 : BoxV o4 a4 30 [(.int .i64 r8), (.int .i64 n), (.slice (some ⟨f8, 0, none⟩) 0 0)] := a1
 refine c_nil ?_
 refine c_seq ?_
 refine c_sr ?_
 refine pl_val (.int .i64 0) (y_assign rfl) ?_
 refine c_nil ?_
 have hO := hO.fr1
 obtain ⟨o5, t0, t1, t2, hO, t3⟩ := os_inner (Frz.pr (Frz.os Frz.int) (Frz.pr Frz.int (Frz.os (Frz.os Frz.int)))) f9 hO
 have h0 := h0.sub (M' := o5) t1
 have hK := t2
 obtain ⟨o2438, t4, hs⟩ := bind_some hs
 refine wp_block ?_
 refine wp_forC (id := 0) (rels.length : Int) (I := fun k2436 s2434 a b7 => ∃ (σ : Nat → Value) (e6 : Nat → Prop) (g3 : Option Addr) (g4 : Nat) (g5 : Nat) (g6 : List Nat), a = fr 144 (ovl σ [(0, (.int .i64 n)), (1, (.slice pa0 pn0 pc0)), (2, (.int .i64 k)), (6, (.pointer (some ⟨a5, 0, none⟩))), (8, (.pointer (some ⟨a4, 0, none⟩))), (9, (.int .i64 k2436))]) ∧ Chg [] w b7 ∧ Own (Nw w []) e6 b7 (g6 ++ (([a4]) ++ (([a5]) ++ []))) ∧ Keeps w M e6 ∧ (RT.rs (RT.pr (RT.int .i64) (RT.rs (RT.rs (RT.int .i64))))).val e6 b7 (.slice pa0 pn0 pc0) rels ([]) ∧ BoxV b7 a5 30 [(.int .i64 0), (.int .i64 0), (.slice none 0 0)] ∧ BoxV b7 a4 30 [(.int .i64 r8), (.int .i64 n), (.slice g3 g4 g5)] ∧ (RT.os 56 (RT.pr (RT.rs (RT.int .i64)) (RT.pr (RT.int .i64) (RT.rs (RT.rs (RT.int .i64)))))).val e6 b7 (.slice g3 g4 g5) s2434 g6) (J := fun s2434 a b7 => ∃ (σ : Nat → Value) (h8 : Nat → Prop) (e7 : Option Addr) (e8 : Nat) (e9 : Nat) (k4 : List Nat), a = fr 144 (ovl σ [(6, (.pointer (some ⟨a5, 0, none⟩))), (8, (.pointer (some ⟨a4, 0, none⟩)))]) ∧ Chg [] w b7 ∧ Own (Nw w []) h8 b7 (k4 ++ (([a4]) ++ (([a5]) ++ []))) ∧ Keeps w M h8 ∧ (RT.rs (RT.pr (RT.int .i64) (RT.rs (RT.rs (RT.int .i64))))).val h8 b7 (.slice pa0 pn0 pc0) rels ([]) ∧ BoxV b7 a5 30 [(.int .i64 0), (.int .i64 0), (.slice none 0 0)] ∧ BoxV b7 a4 30 [(.int .i64 r8), (.int .i64 n), (.slice e7 e8 e9)] ∧ (RT.os 56 (RT.pr (RT.rs (RT.int .i64)) (RT.pr (RT.int .i64) (RT.rs (RT.rs (RT.int .i64)))))).val h8 b7 (.slice e7 e8 e9) s2434 k4) (K := (k_spec_NetworkOfPolymorphisms M w)) ?_ ?_ 0 ([]) o2438 _ _ ?_ t4 ?_
 ·rintro k2436 s2434 a b7 ⟨σ, e6, g3, g4, g5, g6, rfl, hC, hO, hK, h0, a0, a1, k5⟩ hlt
  refine c_seq ?_
  refine c_sr ?_
  refine pl_val (.int .i64 k2436) (y_move rfl) ?_
  refine pl_val (.slice pa0 pn0 pc0) (y_move rfl) ?_
  refine pl_val (.int .i64 (rels.length : Int)) (y_len' Sl37 (rs_len h0) rfl) ?_
  refine pl_val (.bool (decide (k2436 < (rels.length : Int)))) (y_lss rfl rfl) ?_
  refine c_nil ?_
  refine c_condF (congrArg Value.bool (decide_eq_false hlt)) ?_
  refine wp_exit ?_
  have hO := hO.fr2
  have hO := hO.fr2
  have hO := hO.fr2
  exact ⟨rfl, _, e6, g3, g4, g5, g6, fr_ovl 144 ⟨rfl, rfl, trivial⟩, hC, hO, hK, h0, a0, a1, k5⟩
 ·rintro k2436 s2434 o2438 a b7 ⟨σ, e6, g3, g4, g5, g6, rfl, hC, hO, hK, h0, a0, a1, k5⟩ hlt hw hs
  refine c_seq ?_
  refine c_sr ?_
  refine pl_val (.int .i64 k2436) (y_move rfl) ?_
  refine pl_val (.slice pa0 pn0 pc0) (y_move rfl) ?_
  refine pl_val (.int .i64 (rels.length : Int)) (y_len' Sl37 (rs_len h0) rfl) ?_
  refine pl_val (.bool (decide (k2436 < (rels.length : Int)))) (y_lss rfl rfl) ?_
  refine c_nil ?_
  refine c_condT (congrArg Value.bool (decide_eq_true hlt)) ?_
  refine wp_skip ?_
  refine c_seq ?_
  refine wp_block ?_
  refine c_sr ?_
  refine pl_val (.slice pa0 pn0 pc0) (y_move rfl) ?_
  refine pl_val (.int .i64 k2436) (y_move rfl) ?_
  obtain ⟨x2446, t5, hs⟩ := bind_some hs
  obtain ⟨o6, o7, t6, t7⟩ := rs_idx Sl37 Sz54 h0 t5
  refine pl_val (.pointer (some ⟨o6, o7, none⟩)) (t6 _ _ _ _ _ _ _ _ _ rfl rfl) ?_
  obtain ⟨_, t8⟩ := pr_at t7
  refine pl_val (.pointer (some ⟨o6, o7 + 1, none⟩)) (y_faddr rfl Fa54x1) ?_
  obtain ⟨K4, t9, o8⟩ := at_load Ag47 Sz47 (fun _ => rfl) t8
  obtain ⟨u0, u1, u2, rfl⟩ := rs_sl o8
  refine pl_val (.slice u0 u1 u2) (y_load rfl (t9 _ (Chg.refl _ _))) ?_
  refine pl_val (.int .i64 (x2446.2.length : Int)) (y_len' Sl47 (rs_len o8) rfl) ?_
  refine pl_val (.int .i64 (x2446.2.length : Int)) (y_assign rfl) ?_
  refine c_nil ?_
  refine c_sr ?_
  refine pl_val (.int .i64 0) (y_assign rfl) ?_
  refine c_nil ?_
  obtain ⟨o2878, u3, hs⟩ := bind_some hs
  refine wp_block ?_
  refine wp_iter (id := 2) (I := fun s2874 a b8 => ∃ (σ : Nat → Value) (a3 : Nat → Prop) (a7 : Option Addr) (a8 : Nat) (a9 : Nat) (b5 : List Nat), a = fr 144 (ovl σ [(0, (.int .i64 n)), (1, (.slice pa0 pn0 pc0)), (2, (.int .i64 k)), (6, (.pointer (some ⟨a5, 0, none⟩))), (8, (.pointer (some ⟨a4, 0, none⟩))), (9, (.int .i64 k2436)), (10, (.int .i64 (x2446.2.length : Int))), (11, (.int .i64 s2874.1))]) ∧ Chg [] w b8 ∧ Own (Nw w []) a3 b8 (b5 ++ (([a4]) ++ (([a5]) ++ []))) ∧ Keeps w M a3 ∧ (RT.rs (RT.pr (RT.int .i64) (RT.rs (RT.rs (RT.int .i64))))).val a3 b8 (.slice pa0 pn0 pc0) rels ([]) ∧ BoxV b8 a5 30 [(.int .i64 0), (.int .i64 0), (.slice none 0 0)] ∧ BoxV b8 a4 30 [(.int .i64 r8), (.int .i64 n), (.slice a7 a8 a9)] ∧ (RT.os 56 (RT.pr (RT.rs (RT.int .i64)) (RT.pr (RT.int .i64) (RT.rs (RT.rs (RT.int .i64)))))).val a3 b8 (.slice a7 a8 a9) s2874.2 b5) (J := fun s2874 a b8 => ∃ (σ : Nat → Value) (g7 : Nat → Prop) (i9 : Option Addr) (j0 : Nat) (j1 : Nat) (j2 : List Nat), a = fr 144 (ovl σ [(0, (.int .i64 n)), (1, (.slice pa0 pn0 pc0)), (2, (.int .i64 k)), (6, (.pointer (some ⟨a5, 0, none⟩))), (8, (.pointer (some ⟨a4, 0, none⟩))), (9, (.int .i64 k2436))]) ∧ Chg [] w b8 ∧ Own (Nw w []) g7 b8 (j2 ++ (([a4]) ++ (([a5]) ++ []))) ∧ Keeps w M g7 ∧ (RT.rs (RT.pr (RT.int .i64) (RT.rs (RT.rs (RT.int .i64))))).val g7 b8 (.slice pa0 pn0 pc0) rels ([]) ∧ BoxV b8 a5 30 [(.int .i64 0), (.int .i64 0), (.slice none 0 0)] ∧ BoxV b8 a4 30 [(.int .i64 r8), (.int .i64 n), (.slice i9 j0 j1)] ∧ (RT.os 56 (RT.pr (RT.rs (RT.int .i64)) (RT.pr (RT.int .i64) (RT.rs (RT.rs (RT.int .i64)))))).val g7 b8 (.slice i9 j0 j1) s2874.2 j2) (K := (k_spec_NetworkOfPolymorphisms M w)) ?_ FU (0, s2434) o2878 _ _ ?_ u3 ?_
  ·rintro s2874 o2878 a b8 ⟨σ, a3, a7, a8, a9, b5, rfl, hC, hO, hK, h0, a0, a1, a2⟩ hs
   refine c_seq ?_
   refine c_sr ?_
   refine pl_val (.int .i64 s2874.1) (y_move rfl) ?_
   refine pl_val (.int .i64 (x2446.2.length : Int)) (y_move rfl) ?_
   refine pl_val (.int .i64 k) (y_move rfl) ?_
   obtain ⟨r2887, u4, hs⟩ := bind_some hs
   refine pl_call Bd58 rfl (c_spec_l2Pow (M := a3) (x2446.2.length : Int) k  hO.fut u4) ?_
   rintro _ K5 ⟨rfl, g8⟩
   have h0 := h0.ext g8
   have a0 := a0.cn g8
   have a1 := a1.cn g8
   have a2 := a2.ext g8
   have hC := hC.ext g8
   have hO := hO.ext g8
   refine pl_val (.bool (decide (s2874.1 < r2887))) (y_lss rfl rfl) ?_
   refine c_nil ?_
   rcases bif_some hs with ⟨k6, hs⟩ | ⟨k6, hs⟩
   ·refine c_condT (congrArg Value.bool k6) ?_
    refine wp_skip ?_
    refine c_seq ?_
    refine wp_block ?_
    refine c_sr ?_
    refine pl_val (.int .i64 (x2446.2.length : Int)) (y_move rfl) ?_
    refine pl_val (.int .i64 k) (y_move rfl) ?_
    refine pl_val (.int .i64 s2874.1) (y_move rfl) ?_
    obtain ⟨r2890, u5, hs⟩ := bind_some hs
    refine pl_call Bd76 rfl (c_spec_l2Args (M := a3) (x2446.2.length : Int) k s2874.1  hO.fut u5) ?_
    rintro _ u6 ⟨d7, d8, d9, e0, rfl, g9, b4, u7⟩
    have h0 := h0.ext g9
    have a0 := a0.cn g9
    have a1 := a1.cn g9
    have a2 := a2.ext g9
    have hC := hC.ext g9
    have hO := Own.join0 hO g9 u7
    have hO := hO.perm (R := e0 ++ (b5 ++ (([a4]) ++ (([a5]) ++ ([]))))) (by simp)
    refine pl_val (.slice d7 d8 d9) (y_assign rfl) ?_
    refine c_nil ?_
    refine c_sr ?_
    obtain ⟨o9, h1, u9, p0, g0, p1⟩ := new_block u6 [] 3
    refine pl_val (w' := o9) (.slice (some ⟨h1, 0, none⟩) 0 0) (y_bslice rfl (by rw [u9, p0]; kernel_rfl)) ?_
    have h0 := h0.ext g0
    have a0 := a0.cn g0
    have a1 := a1.cn g0
    have a2 := a2.ext g0
    have b4 := b4.ext g0
    have hC := hC.ext g0
    have hO := hO.new1 g0 p0 p1.lt
    have k7 := os_of_box (r := (RT.int .i64)) (M := a3) (css := []) (fps := []) (xs := ([] : List Int)) p1 trivial (Nat.zero_le _) (List.nodup_cons.2 ⟨(fun h => nomatch h), List.nodup_nil⟩)
    have k7 : (RT.os 3 (RT.int .i64)).val a3 o9 (.slice (some ⟨h1, 0, none⟩) 0 0) [] [h1] := k7
    refine pl_val (.slice (some ⟨h1, 0, none⟩) 0 0) (y_assign rfl) ?_
    refine c_nil ?_
    refine c_seq ?_
    refine c_sr ?_
    refine pl_val (.int .i64 0) (y_assign rfl) ?_
    refine c_nil ?_
    obtain ⟨o2943, v0, hs⟩ := bind_some hs
    refine wp_block ?_
    refine wp_iter (id := 4) (I := fun s2939 a b6 => ∃ (σ : Nat → Value) (e1 : Option Addr) (e2 : Nat) (e3 : Nat) (f0 : List Nat), a = fr 144 (ovl σ [(0, (.int .i64 n)), (1, (.slice pa0 pn0 pc0)), (2, (.int .i64 k)), (6, (.pointer (some ⟨a5, 0, none⟩))), (8, (.pointer (some ⟨a4, 0, none⟩))), (9, (.int .i64 k2436)), (10, (.int .i64 (x2446.2.length : Int))), (11, (.int .i64 s2874.1)), (12, (.slice d7 d8 d9)), (13, (.slice e1 e2 e3)), (14, (.int .i64 s2939.2))]) ∧ Chg [] w b6 ∧ Own (Nw w []) a3 b6 (f0 ++ (e0 ++ (b5 ++ (([a4]) ++ (([a5]) ++ []))))) ∧ (RT.rs (RT.pr (RT.int .i64) (RT.rs (RT.rs (RT.int .i64))))).val a3 b6 (.slice pa0 pn0 pc0) rels ([]) ∧ BoxV b6 a5 30 [(.int .i64 0), (.int .i64 0), (.slice none 0 0)] ∧ BoxV b6 a4 30 [(.int .i64 r8), (.int .i64 n), (.slice a7 a8 a9)] ∧ (RT.os 56 (RT.pr (RT.rs (RT.int .i64)) (RT.pr (RT.int .i64) (RT.rs (RT.rs (RT.int .i64)))))).val a3 b6 (.slice a7 a8 a9) s2874.2 b5 ∧ (RT.os 3 (RT.int .i64)).val a3 b6 (.slice d7 d8 d9) r2890 e0 ∧ (RT.os 3 (RT.int .i64)).val a3 b6 (.slice e1 e2 e3) s2939.1 f0) (J := fun s2939 a b6 => ∃ (σ : Nat → Value) (c7 : Option Addr) (c8 : Nat) (c9 : Nat) (f1 : List Nat), a = fr 144 (ovl σ [(0, (.int .i64 n)), (1, (.slice pa0 pn0 pc0)), (2, (.int .i64 k)), (6, (.pointer (some ⟨a5, 0, none⟩))), (8, (.pointer (some ⟨a4, 0, none⟩))), (9, (.int .i64 k2436)), (10, (.int .i64 (x2446.2.length : Int))), (11, (.int .i64 s2874.1)), (13, (.slice c7 c8 c9))]) ∧ Chg [] w b6 ∧ Own (Nw w []) a3 b6 (f1 ++ (e0 ++ (b5 ++ (([a4]) ++ (([a5]) ++ []))))) ∧ (RT.rs (RT.pr (RT.int .i64) (RT.rs (RT.rs (RT.int .i64))))).val a3 b6 (.slice pa0 pn0 pc0) rels ([]) ∧ BoxV b6 a5 30 [(.int .i64 0), (.int .i64 0), (.slice none 0 0)] ∧ BoxV b6 a4 30 [(.int .i64 r8), (.int .i64 n), (.slice a7 a8 a9)] ∧ (RT.os 56 (RT.pr (RT.rs (RT.int .i64)) (RT.pr (RT.int .i64) (RT.rs (RT.rs (RT.int .i64)))))).val a3 b6 (.slice a7 a8 a9) s2874.2 b5 ∧ (RT.os 3 (RT.int .i64)).val a3 b6 (.slice d7 d8 d9) r2890 e0 ∧ (RT.os 3 (RT.int .i64)).val a3 b6 (.slice c7 c8 c9) s2939.1 f1) (K := (k_spec_NetworkOfPolymorphisms M w)) ?_ FU ([], 0) o2943 _ _ ?_ v0 ?_
    ·rintro s2939 o2943 a b6 ⟨σ, e1, e2, e3, f0, rfl, hC, hO, h0, a0, a1, a2, b4, c1⟩ hs
     refine c_seq ?_
     refine c_sr ?_
     refine pl_val (.int .i64 s2939.2) (y_move rfl) ?_
     refine pl_val (.slice pa0 pn0 pc0) (y_move rfl) ?_
     refine pl_val (.int .i64 k2436) (y_move rfl) ?_
     obtain ⟨x2949, v1, hs⟩ := bind_some hs
     obtain ⟨p2, p3, v2, v3⟩ := rs_idx Sl37 Sz54 h0 v1
     refine pl_val (.pointer (some ⟨p2, p3, none⟩)) (v2 _ _ _ _ _ _ _ _ _ rfl rfl) ?_
     obtain ⟨v4, _⟩ := pr_at v3
     refine pl_val (.pointer (some ⟨p2, p3 + 0, none⟩)) (y_faddr rfl Fa54x0) ?_
     refine pl_val (.int .i64 x2949.1) (y_load rfl ((at_load_int Ag3 Sz3 v4) _ (Chg.refl _ _))) ?_
     refine pl_val (.bool (decide (s2939.2 < x2949.1))) (y_lss rfl rfl) ?_
     refine c_nil ?_
     rcases bif_some hs with ⟨k8, hs⟩ | ⟨k8, hs⟩
     ·refine c_condT (congrArg Value.bool k8) ?_
      refine wp_skip ?_
      refine c_seq ?_
      refine wp_block ?_
      refine c_sr ?_
      refine pl_val (.int .i64 0) (y_assign rfl) ?_
      refine c_nil ?_
      refine c_seq ?_
      refine c_sr ?_
      refine pl_val (.int .i64 0) (y_assign rfl) ?_
      refine c_nil ?_
      obtain ⟨o2971, v5, hs⟩ := bind_some hs
      refine wp_block ?_
      refine wp_forC (id := 6) k (I := fun k2969 s2967 a b2 => ∃ (σ : Nat → Value), a = fr 144 (ovl σ [(0, (.int .i64 n)), (1, (.slice pa0 pn0 pc0)), (2, (.int .i64 k)), (6, (.pointer (some ⟨a5, 0, none⟩))), (8, (.pointer (some ⟨a4, 0, none⟩))), (9, (.int .i64 k2436)), (10, (.int .i64 (x2446.2.length : Int))), (11, (.int .i64 s2874.1)), (12, (.slice d7 d8 d9)), (13, (.slice e1 e2 e3)), (14, (.int .i64 s2939.2)), (15, (.int .i64 s2967)), (16, (.int .i64 k2969))]) ∧ Chg [] w b2 ∧ Own (Nw w []) a3 b2 (f0 ++ (e0 ++ (b5 ++ (([a4]) ++ (([a5]) ++ []))))) ∧ (RT.rs (RT.pr (RT.int .i64) (RT.rs (RT.rs (RT.int .i64))))).val a3 b2 (.slice pa0 pn0 pc0) rels ([]) ∧ BoxV b2 a5 30 [(.int .i64 0), (.int .i64 0), (.slice none 0 0)] ∧ BoxV b2 a4 30 [(.int .i64 r8), (.int .i64 n), (.slice a7 a8 a9)] ∧ (RT.os 56 (RT.pr (RT.rs (RT.int .i64)) (RT.pr (RT.int .i64) (RT.rs (RT.rs (RT.int .i64)))))).val a3 b2 (.slice a7 a8 a9) s2874.2 b5 ∧ (RT.os 3 (RT.int .i64)).val a3 b2 (.slice d7 d8 d9) r2890 e0 ∧ (RT.os 3 (RT.int .i64)).val a3 b2 (.slice e1 e2 e3) s2939.1 f0) (J := fun s2967 a b2 => ∃ (σ : Nat → Value), a = fr 144 (ovl σ [(0, (.int .i64 n)), (1, (.slice pa0 pn0 pc0)), (2, (.int .i64 k)), (6, (.pointer (some ⟨a5, 0, none⟩))), (8, (.pointer (some ⟨a4, 0, none⟩))), (9, (.int .i64 k2436)), (10, (.int .i64 (x2446.2.length : Int))), (11, (.int .i64 s2874.1)), (12, (.slice d7 d8 d9)), (13, (.slice e1 e2 e3)), (14, (.int .i64 s2939.2)), (15, (.int .i64 s2967))]) ∧ Chg [] w b2 ∧ Own (Nw w []) a3 b2 (f0 ++ (e0 ++ (b5 ++ (([a4]) ++ (([a5]) ++ []))))) ∧ (RT.rs (RT.pr (RT.int .i64) (RT.rs (RT.rs (RT.int .i64))))).val a3 b2 (.slice pa0 pn0 pc0) rels ([]) ∧ BoxV b2 a5 30 [(.int .i64 0), (.int .i64 0), (.slice none 0 0)] ∧ BoxV b2 a4 30 [(.int .i64 r8), (.int .i64 n), (.slice a7 a8 a9)] ∧ (RT.os 56 (RT.pr (RT.rs (RT.int .i64)) (RT.pr (RT.int .i64) (RT.rs (RT.rs (RT.int .i64)))))).val a3 b2 (.slice a7 a8 a9) s2874.2 b5 ∧ (RT.os 3 (RT.int .i64)).val a3 b2 (.slice d7 d8 d9) r2890 e0 ∧ (RT.os 3 (RT.int .i64)).val a3 b2 (.slice e1 e2 e3) s2939.1 f0) (K := (k_spec_NetworkOfPolymorphisms M w)) ?_ ?_ 0 0 o2971 _ _ ?_ v5 ?_
      ·rintro k2969 s2967 a b2 ⟨σ, rfl, hC, hO, h0, a0, a1, a2, b4, c1⟩ hlt
       refine c_seq ?_
       refine c_sr ?_
       refine pl_val (.int .i64 k2969) (y_move rfl) ?_
       refine pl_val (.int .i64 k) (y_move rfl) ?_
       refine pl_val (.bool (decide (k2969 < k))) (y_lss rfl rfl) ?_
       refine c_nil ?_
       refine c_condF (congrArg Value.bool (decide_eq_false hlt)) ?_
       refine wp_exit ?_
       have hO := hO.fr4
       have hO := hO.fr4
       have hO := hO.fr4
       have hO := hO.fr4
       have hO := hO.fr4
       exact ⟨rfl, _, fr_ovl 144 ⟨rfl, rfl, rfl, rfl, rfl, rfl, rfl, rfl, rfl, rfl, rfl, rfl, trivial⟩, hC, hO, h0, a0, a1, a2, b4, c1⟩
      ·rintro k2969 s2967 o2971 a b2 ⟨σ, rfl, hC, hO, h0, a0, a1, a2, b4, c1⟩ hlt hw hs
       refine c_seq ?_
       refine c_sr ?_
       refine pl_val (.int .i64 k2969) (y_move rfl) ?_
       refine pl_val (.int .i64 k) (y_move rfl) ?_
       refine pl_val (.bool (decide (k2969 < k))) (y_lss rfl rfl) ?_
       refine c_nil ?_
       refine c_condT (congrArg Value.bool (decide_eq_true hlt)) ?_
       refine wp_skip ?_
       refine c_seq ?_
       refine wp_block ?_
       refine x_start [] Mx rfl ?_
       have e4 := Chg.drew b2
       generalize World.drew b2 = v6 at e4 ⊢
       have h0 := h0.ext e4
       have a0 := a0.cn e4
       have a1 := a1.cn e4
       have a2 := a2.ext e4
       have b4 := b4.ext e4
       have c1 := c1.ext e4
       have hC := hC.ext e4
       have hO := hO.ext e4
       have hS := Chg.refl [] v6
       refine x_p 0 (.int .i64 s2967) rfl (by kernel_rfl)  (fun _ => y_move rfl) (fun _ => hS) ?_
       refine x_p 1 (.int .i64 n) rfl (by kernel_rfl)  (fun _ => y_move rfl) (fun _ => hS) ?_
       refine x_p 2 (.int .i64 (w64 (s2967 * n))) rfl (by kernel_rfl)  (fun _ => y_mul rfl rfl) (fun _ => hS) ?_
       refine x_p 3 (.slice pa0 pn0 pc0) rfl (by kernel_rfl)  (fun _ => y_move rfl) (fun _ => hS) ?_
       refine x_p 4 (.int .i64 k2436) rfl (by kernel_rfl)  (fun _ => y_move rfl) (fun _ => hS) ?_
       obtain ⟨x2974, v7, hs⟩ := bind_some hs
       obtain ⟨p4, p5, v8, v9⟩ := rs_idx Sl37 Sz54 h0 v7
       refine x_p 5 (.pointer (some ⟨p4, p5, none⟩)) rfl (by kernel_rfl)  (fun _ => v8 _ _ _ _ _ _ _ _ _ rfl rfl) (fun _ => hS) ?_
       obtain ⟨_, w1⟩ := pr_at v9
       refine x_p 6 (.pointer (some ⟨p4, p5 + 1, none⟩)) rfl (by kernel_rfl)  (fun _ => y_faddr rfl Fa54x1) (fun _ => hS) ?_
       obtain ⟨K6, w2, p6⟩ := at_load Ag47 Sz47 (fun _ => rfl) w1
       obtain ⟨w3, w4, w5, rfl⟩ := rs_sl p6
       refine x_l 7 (.slice w3 w4 w5) rfl (by kernel_rfl)  (fun w' hw' => y_load rfl (w2 w' hw')) hS ?_
       refine x_p 8 (.slice d7 d8 d9) rfl (by kernel_rfl)  (fun _ => y_move rfl) (fun _ => hS) ?_
       refine x_p 9 (.int .i64 k2969) rfl (by kernel_rfl)  (fun _ => y_move rfl) (fun _ => hS) ?_
       obtain ⟨x2979, w6, hs⟩ := bind_some hs
       obtain ⟨w7, K7, K8, K9, w8, w9, L0⟩ := os_idx Sl41 Sz3 b4 w6
       refine x_p 10 (.pointer (some ⟨w7, 0 + Int.toNat k2969 * 1, none⟩)) rfl (by kernel_rfl)  (fun _ => w8 _ _ _ _ _ _ _ _ _ rfl rfl) (fun _ => hS) ?_
       refine x_l 11 (.int .i64 x2979) rfl (by kernel_rfl)  (fun w' hw' => y_load rfl ((at_load_int Ag3 Sz3 w9) w' hw')) hS ?_
       obtain ⟨x2981, x0, hs⟩ := bind_some hs
       obtain ⟨x1, x2, x3, x4⟩ := rs_idx Sl47 Sz41 p6 x0
       refine x_p 12 (.pointer (some ⟨x1, x2, none⟩)) rfl (by kernel_rfl)  (fun _ => x3 _ _ _ _ _ _ _ _ _ rfl rfl) (fun _ => hS) ?_
       obtain ⟨L1, x5, p7⟩ := at_load Ag41 Sz41 (fun _ => rfl) x4
       obtain ⟨x6, x7, x8, rfl⟩ := rs_sl p7
       refine x_l 13 (.slice x6 x7 x8) rfl (by kernel_rfl)  (fun w' hw' => y_load rfl (x5 w' hw')) hS ?_
       refine x_p 14 (.int .i64 s2939.2) rfl (by kernel_rfl)  (fun _ => y_move rfl) (fun _ => hS) ?_
       obtain ⟨x2985, x9, hs⟩ := bind_some hs
       obtain ⟨y0, y1, y2, y3⟩ := rs_idx Sl41 Sz3 p7 x9
       refine x_p 15 (.pointer (some ⟨y0, y1, none⟩)) rfl (by kernel_rfl)  (fun _ => y2 _ _ _ _ _ _ _ _ _ rfl rfl) (fun _ => hS) ?_
       refine x_l 16 (.int .i64 x2985) rfl (by kernel_rfl)  (fun w' hw' => y_load rfl ((at_load_int Ag3 Sz3 y3) w' hw')) hS ?_
       refine x_p 17 (.int .i64 (w64 ((w64 (s2967 * n)) + x2985))) rfl (by kernel_rfl)  (fun _ => y_add rfl rfl) (fun _ => hS) ?_
       refine x_p 18 (.int .i64 (w64 ((w64 (s2967 * n)) + x2985))) rfl (by kernel_rfl)  (fun _ => y_assign rfl) (fun _ => hS) ?_
       refine x_end (by kernel_rfl) ?_
       clear hS
       refine c_region ?_
       refine pl_val (.int .i64 k2969) (y_move rfl) ?_
       refine pl_val (.int .i64 (w64 (k2969 + 1))) (y_add rfl rfl) ?_
       refine pl_val (.int .i64 (w64 (k2969 + 1))) (y_assign rfl) ?_
       refine c_nil ?_
       cases hs
       have hO := hO.fr4
       have hO := hO.fr4
       have hO := hO.fr4
       have hO := hO.fr4
       have hO := hO.fr4
       exact ⟨_, fr_ovl 144 ⟨rfl, rfl, rfl, rfl, rfl, rfl, rfl, rfl, rfl, rfl, rfl, rfl, congrArg (Value.int .i64) hw, trivial⟩, hC, hO, h0, a0, a1, a2, b4, c1⟩
      ·skip
       have hO := hO.fr4
       have hO := hO.fr4
       have hO := hO.fr4
       have hO := hO.fr4
       have hO := hO.fr4
       exact ⟨_, fr_ovl 144 ⟨rfl, rfl, rfl, rfl, rfl, rfl, rfl, rfl, rfl, rfl, rfl, rfl, rfl, trivial⟩, hC, hO, h0, a0, a1, a2, b4, c1⟩
      cases o2971 with
      | nx _ => exact True.intro
      | rt r_ =>
       have hs := after_rt hs
       intro e5 h5 hK
       cases hs
       exact hK
      | br s2967 =>
       have hs := after_br hs
       rintro e5 b2 ⟨σ, rfl, hC, hO, h0, a0, a1, a2, b4, c1⟩
       refine c_region ?_
       refine pl_val (.slice e1 e2 e3) (y_move rfl) ?_
       refine pl_val (.int .i64 s2967) (y_move rfl) ?_
       obtain ⟨p8, k9, y4, p9, f2, q0⟩ := new_block b2 [(.int .i64 s2967)] 3
       refine pl_val (w' := p8) (.slice (some ⟨k9, 0, none⟩) 1 1) (y_bslice rfl (by rw [y4, p9]; kernel_rfl)) ?_
       have h0 := h0.ext f2
       have a0 := a0.cn f2
       have a1 := a1.cn f2
       have a2 := a2.ext f2
       have b4 := b4.ext f2
       have c1 := c1.ext f2
       have hC := hC.ext f2
       have hO := hO.new1 f2 p9 q0.lt
       have l0 := os_of_box (r := (RT.int .i64)) (M := a3) (css := [[(.int .i64 s2967)]]) (fps := [([] : List Nat)]) (xs := ([s2967] : List Int)) q0 ⟨⟨rfl, rfl⟩, trivial⟩ (Nat.le_of_ble_eq_true rfl) (List.nodup_cons.2 ⟨(fun h => nomatch h), List.nodup_nil⟩)
       have l0 : (RT.os 3 (RT.int .i64)).val a3 p8 (.slice (some ⟨k9, 0, none⟩) 1 1) [s2967] [k9] := l0
       obtain ⟨y2990, y5, hs⟩ := bind_some hs
       have hO := hO.fr1
       obtain ⟨l1, l2, l3, y6, y7, y8, g1, y9, l4⟩ := app_os Rw41 y5 c1 l0 hO.inM (fun g hg hq => hO.apart g hq (mem_l hg))
       have h2 := os_block c1
       refine pl_val (w' := y6) (.slice l1 l2 l3) (y_append rfl rfl (y8 _)) ?_
       have hO := hO.fr1
       have hO := hO.fr1
       have h0 := h0.mt g1 hO h2
       have a0 := a0.ap g1 hO h2 (mem_r (mem_r (mem_r (mem_r (mem_l (List.mem_singleton.2 rfl))))))
       have a1 := a1.ap g1 hO h2 (mem_r (mem_r (mem_r (mem_l (List.mem_singleton.2 rfl)))))
       have a2 := a2.ma g1 hO h2 (fun _ e => (mem_r (mem_r (mem_l (e)))))
       have b4 := b4.ma g1 hO h2 (fun _ e => (mem_r (mem_l (e))))
       have hC := hC.st g1 hO h2
       have hO := hO.eat g1 y9 (os_nodup l4) l4.fpl
       refine pl_val (.slice l1 l2 l3) (y_assign rfl) ?_
       refine c_nil ?_
       refine c_region ?_
       refine pl_val (.int .i64 s2939.2) (y_move rfl) ?_
       refine pl_val (.int .i64 (w64 (s2939.2 + 1))) (y_add rfl rfl) ?_
       refine pl_val (.int .i64 (w64 (s2939.2 + 1))) (y_assign rfl) ?_
       refine c_nil ?_
       cases hs
       have hO := hO.fr4
       have hO := hO.fr4
       have hO := hO.fr4
       have hO := hO.fr4
       have hO := hO.fr4
       exact ⟨_, l1, l2, l3, y7, fr_ovl 144 ⟨rfl, rfl, rfl, rfl, rfl, rfl, rfl, rfl, rfl, rfl, rfl, trivial⟩, hC, hO, h0, a0, a1, a2, b4, l4⟩
     refine c_condF (congrArg Value.bool k8) ?_
     refine wp_exit ?_
     cases hs
     have hO := hO.fr4
     have hO := hO.fr4
     have hO := hO.fr4
     have hO := hO.fr4
     have hO := hO.fr4
     exact ⟨rfl, _, e1, e2, e3, f0, fr_ovl 144 ⟨rfl, rfl, rfl, rfl, rfl, rfl, rfl, rfl, rfl, trivial⟩, hC, hO, h0, a0, a1, a2, b4, c1⟩
    ·skip
     have hO := hO.fr4
     have hO := hO.fr4
     have hO := hO.fr4
     have hO := hO.fr4
     have hO := hO.fr4
     exact ⟨_, (some ⟨h1, 0, none⟩), 0, 0, ([h1]), fr_ovl 144 ⟨rfl, rfl, rfl, rfl, rfl, rfl, rfl, rfl, rfl, rfl, rfl, trivial⟩, hC, hO, h0, a0, a1, a2, b4, k7⟩
    cases o2943 with
    | nx _ => exact True.intro
    | rt r_ =>
     have hs := after_rt hs
     intro e5 h5 hK
     cases hs
     exact hK
    | br s2939 =>
     have hs := after_br hs
     rintro e5 b6 ⟨σ, c7, c8, c9, f1, rfl, hC, hO, h0, a0, a1, a2, b4, b1⟩
     refine c_sr ?_
     refine pl_val (.bool false) (y_assign rfl) ?_
     refine c_nil ?_
     refine c_seq ?_
     refine c_sr ?_
     refine pl_val (.int .i64 0) (y_assign rfl) ?_
     refine c_nil ?_
     have hO := hO.fr1
     have hO := hO.drop
     obtain ⟨o3032, z0, hs⟩ := bind_some hs
     refine wp_block ?_
     refine wp_forC (id := 8) (s2874.2.length : Int) (I := fun k3030 s3028 a b3 => ∃ (σ : Nat → Value), a = fr 144 (ovl σ [(0, (.int .i64 n)), (1, (.slice pa0 pn0 pc0)), (2, (.int .i64 k)), (6, (.pointer (some ⟨a5, 0, none⟩))), (8, (.pointer (some ⟨a4, 0, none⟩))), (9, (.int .i64 k2436)), (10, (.int .i64 (x2446.2.length : Int))), (11, (.int .i64 s2874.1)), (13, (.slice c7 c8 c9)), (17, (.bool s3028)), (18, (.int .i64 k3030))]) ∧ Chg [] w b3 ∧ Own (Nw w []) a3 b3 (f1 ++ (b5 ++ (([a4]) ++ (([a5]) ++ [])))) ∧ (RT.rs (RT.pr (RT.int .i64) (RT.rs (RT.rs (RT.int .i64))))).val a3 b3 (.slice pa0 pn0 pc0) rels ([]) ∧ BoxV b3 a5 30 [(.int .i64 0), (.int .i64 0), (.slice none 0 0)] ∧ BoxV b3 a4 30 [(.int .i64 r8), (.int .i64 n), (.slice a7 a8 a9)] ∧ (RT.os 56 (RT.pr (RT.rs (RT.int .i64)) (RT.pr (RT.int .i64) (RT.rs (RT.rs (RT.int .i64)))))).val a3 b3 (.slice a7 a8 a9) s2874.2 b5 ∧ (RT.os 3 (RT.int .i64)).val a3 b3 (.slice c7 c8 c9) s2939.1 f1) (J := fun s3028 a b3 => ∃ (σ : Nat → Value), a = fr 144 (ovl σ [(0, (.int .i64 n)), (1, (.slice pa0 pn0 pc0)), (2, (.int .i64 k)), (6, (.pointer (some ⟨a5, 0, none⟩))), (8, (.pointer (some ⟨a4, 0, none⟩))), (9, (.int .i64 k2436)), (10, (.int .i64 (x2446.2.length : Int))), (11, (.int .i64 s2874.1)), (13, (.slice c7 c8 c9)), (17, (.bool s3028))]) ∧ Chg [] w b3 ∧ Own (Nw w []) a3 b3 (f1 ++ (b5 ++ (([a4]) ++ (([a5]) ++ [])))) ∧ (RT.rs (RT.pr (RT.int .i64) (RT.rs (RT.rs (RT.int .i64))))).val a3 b3 (.slice pa0 pn0 pc0) rels ([]) ∧ BoxV b3 a5 30 [(.int .i64 0), (.int .i64 0), (.slice none 0 0)] ∧ BoxV b3 a4 30 [(.int .i64 r8), (.int .i64 n), (.slice a7 a8 a9)] ∧ (RT.os 56 (RT.pr (RT.rs (RT.int .i64)) (RT.pr (RT.int .i64) (RT.rs (RT.rs (RT.int .i64)))))).val a3 b3 (.slice a7 a8 a9) s2874.2 b5 ∧ (RT.os 3 (RT.int .i64)).val a3 b3 (.slice c7 c8 c9) s2939.1 f1) (K := (k_spec_NetworkOfPolymorphisms M w)) ?_ ?_ 0 false o3032 _ _ ?_ z0 ?_
     ·rintro k3030 s3028 a b3 ⟨σ, rfl, hC, hO, h0, a0, a1, a2, b1⟩ hlt
      refine c_seq ?_
      refine c_sr ?_
      refine pl_val (.int .i64 k3030) (y_move rfl) ?_
      refine pl_val (.pointer (some ⟨a4, 2, none⟩)) (y_faddr rfl Fa30x2) ?_
      refine pl_val (.slice a7 a8 a9) (y_load rfl ((box_load Ag28 Sz28 a1 [(.int .i64 r8), (.int .i64 n)] [(.slice a7 a8 a9)] [] rfl rfl (fun _ => rfl)) _ (Chg.refl _ _))) ?_
      refine pl_val (.int .i64 (s2874.2.length : Int)) (y_len' Sl28 (os_len a2) rfl) ?_
      refine pl_val (.bool (decide (k3030 < (s2874.2.length : Int)))) (y_lss rfl rfl) ?_
      refine c_nil ?_
      refine c_condF (congrArg Value.bool (decide_eq_false hlt)) ?_
      refine wp_exit ?_
      have hO := hO.fr3
      have hO := hO.fr3
      have hO := hO.fr3
      have hO := hO.fr3
      exact ⟨rfl, _, fr_ovl 144 ⟨rfl, rfl, rfl, rfl, rfl, rfl, rfl, rfl, rfl, rfl, trivial⟩, hC, hO, h0, a0, a1, a2, b1⟩
     ·rintro k3030 s3028 o3032 a b3 ⟨σ, rfl, hC, hO, h0, a0, a1, a2, b1⟩ hlt hw hs
      refine c_seq ?_
      refine c_sr ?_
      refine pl_val (.int .i64 k3030) (y_move rfl) ?_
      refine pl_val (.pointer (some ⟨a4, 2, none⟩)) (y_faddr rfl Fa30x2) ?_
      refine pl_val (.slice a7 a8 a9) (y_load rfl ((box_load Ag28 Sz28 a1 [(.int .i64 r8), (.int .i64 n)] [(.slice a7 a8 a9)] [] rfl rfl (fun _ => rfl)) _ (Chg.refl _ _))) ?_
      refine pl_val (.int .i64 (s2874.2.length : Int)) (y_len' Sl28 (os_len a2) rfl) ?_
      refine pl_val (.bool (decide (k3030 < (s2874.2.length : Int)))) (y_lss rfl rfl) ?_
      refine c_nil ?_
      refine c_condT (congrArg Value.bool (decide_eq_true hlt)) ?_
      refine wp_skip ?_
      refine c_seq ?_
      refine wp_block ?_
      refine x_start [] Mx rfl ?_
      have f3 := Chg.drew b3
      generalize World.drew b3 = z1 at f3 ⊢
      have h0 := h0.ext f3
      have a0 := a0.cn f3
      have a1 := a1.cn f3
      have a2 := a2.ext f3
      have b1 := b1.ext f3
      have hC := hC.ext f3
      have hO := hO.ext f3
      have hS := Chg.refl [] z1
      refine x_p 0 (.bool s3028) rfl (by kernel_rfl)  (fun _ => y_move rfl) (fun _ => hS) ?_
      refine x_p 1 (.bool s3028) rfl (by kernel_rfl)  (fun _ => y_move rfl) (fun _ => hS) ?_
      rcases bif_some hs with ⟨b0, hs⟩ | ⟨b0, hs⟩
      ·skip
       refine x_pn 2 rfl (by kernel_rfl) (tg := 99) (by kernel_rfl) (congrArg Value.bool b0) (fun _ => hS) ?_
       refine x_pn 3 rfl (by kernel_rfl) (tg := 99) (by kernel_rfl) (congrArg Value.bool b0) (fun _ => hS) ?_
       refine x_pn 4 rfl (by kernel_rfl) (tg := 99) (by kernel_rfl) (congrArg Value.bool b0) (fun _ => hS) ?_
       refine x_pn 5 rfl (by kernel_rfl) (tg := 99) (by kernel_rfl) (congrArg Value.bool b0) (fun _ => hS) ?_
       refine x_pn 6 rfl (by kernel_rfl) (tg := 99) (by kernel_rfl) (congrArg Value.bool b0) (fun _ => hS) ?_
       refine x_pn 7 rfl (by kernel_rfl) (tg := 99) (by kernel_rfl) (congrArg Value.bool b0) (fun _ => hS) ?_
       refine x_pn 8 rfl (by kernel_rfl) (tg := 99) (by kernel_rfl) (congrArg Value.bool b0) (fun _ => hS) ?_
       refine x_pn 9 rfl (by kernel_rfl) (tg := 99) (by kernel_rfl) (congrArg Value.bool b0) (fun _ => hS) ?_
       refine x_pn 10 rfl (by kernel_rfl) (tg := 99) (by kernel_rfl) (congrArg Value.bool b0) (fun _ => hS) ?_
       refine x_pnu 11 rfl (by kernel_rfl) (tg := 108) (by kernel_rfl) rfl (fun _ => hS) ?_
       refine x_pnu 12 rfl (by kernel_rfl) (tg := 108) (by kernel_rfl) rfl (fun _ => hS) ?_
       refine x_pnu 13 rfl (by kernel_rfl) (tg := 108) (by kernel_rfl) rfl (fun _ => hS) ?_
       refine x_pnu 14 rfl (by kernel_rfl) (tg := 108) (by kernel_rfl) rfl (fun _ => hS) ?_
       refine x_pnu 15 rfl (by kernel_rfl) (tg := 108) (by kernel_rfl) rfl (fun _ => hS) ?_
       refine x_pnu 16 rfl (by kernel_rfl) (tg := 108) (by kernel_rfl) rfl (fun _ => hS) ?_
       refine x_pnu 17 rfl (by kernel_rfl) (tg := 108) (by kernel_rfl) rfl (fun _ => hS) ?_
       refine x_pnu 18 rfl (by kernel_rfl) (tg := 108) (by kernel_rfl) rfl (fun _ => hS) ?_
       refine x_pnu 19 rfl (by kernel_rfl) (tg := 108) (by kernel_rfl) rfl (fun _ => hS) ?_
       refine x_pnu 20 rfl (by kernel_rfl) (tg := 108) (by kernel_rfl) rfl (fun _ => hS) ?_
       refine x_pnu 21 rfl (by kernel_rfl) (tg := 108) (by kernel_rfl) rfl (fun _ => hS) ?_
       refine x_pn 22 rfl (by kernel_rfl) (tg := 99) (by kernel_rfl) (congrArg Value.bool b0) (fun _ => hS) ?_
       refine x_p 23 (.bool true) rfl (by kernel_rfl)  (fun _ => y_pick_t (congrArg Value.bool b0) rfl) (fun _ => hS) ?_
       refine x_p 24 (.bool true) rfl (by kernel_rfl)  (fun _ => y_assign rfl) (fun _ => hS) ?_
       refine x_end (by kernel_rfl) ?_
       clear hS
       refine c_region ?_
       refine pl_val (.int .i64 k3030) (y_move rfl) ?_
       refine pl_val (.int .i64 (w64 (k3030 + 1))) (y_add rfl rfl) ?_
       refine pl_val (.int .i64 (w64 (k3030 + 1))) (y_assign rfl) ?_
       refine c_nil ?_
       cases hs
       have hO := hO.fr3
       have hO := hO.fr3
       have hO := hO.fr3
       have hO := hO.fr3
       exact ⟨_, fr_ovl 144 ⟨rfl, rfl, rfl, rfl, rfl, rfl, rfl, rfl, rfl, rfl, congrArg (Value.int .i64) hw, trivial⟩, hC, hO, h0, a0, a1, a2, b1⟩
      refine x_py 2 (.pointer (some ⟨a4, 2, none⟩)) rfl (by kernel_rfl) (tg := 99) (by kernel_rfl) (congrArg Value.bool b0) (fun _ => y_faddr rfl Fa30x2) (fun _ => hS) ?_
      refine x_ly 3 (.slice a7 a8 a9) rfl (by kernel_rfl) (tg := 99) (by kernel_rfl) (congrArg Value.bool b0) (fun w' hw' => y_load rfl ((box_load Ag28 Sz28 a1 [(.int .i64 r8), (.int .i64 n)] [(.slice a7 a8 a9)] [] rfl rfl (fun _ => rfl)) w' hw')) hS ?_
      refine x_py 4 (.int .i64 k3030) rfl (by kernel_rfl) (tg := 99) (by kernel_rfl) (congrArg Value.bool b0) (fun _ => y_move rfl) (fun _ => hS) ?_
      obtain ⟨x3036, z2, hs⟩ := bind_some hs
      obtain ⟨q1, L2, L3, L4, z3, z4, L5⟩ := os_idx Sl28 Sz56 a2 z2
      have z5 := rd_row (Rd.pr Rd.rs (Rd.pr Rd.int Rd.rs)) z4
      refine x_py 5 (.pointer (some ⟨q1, 0 + Int.toNat k3030 * 3, none⟩)) rfl (by kernel_rfl) (tg := 99) (by kernel_rfl) (congrArg Value.bool b0) (fun _ => z3 _ _ _ _ _ _ _ _ _ rfl rfl) (fun _ => hS) ?_
      obtain ⟨z6, _⟩ := pr_at z5
      refine x_py 6 (.pointer (some ⟨q1, (0 + Int.toNat k3030 * 3) + 0, none⟩)) rfl (by kernel_rfl) (tg := 99) (by kernel_rfl) (congrArg Value.bool b0) (fun _ => y_faddr rfl Fa56x0) (fun _ => hS) ?_
      obtain ⟨L6, z7, d4⟩ := at_load Ag41 Sz41 (fun _ => rfl) z6
      obtain ⟨z8, z9, A0, rfl⟩ := rs_sl d4
      refine x_ly 7 (.slice z8 z9 A0) rfl (by kernel_rfl) (tg := 99) (by kernel_rfl) (congrArg Value.bool b0) (fun w' hw' => y_load rfl (z7 w' hw')) hS ?_
      refine x_py 8 (.slice c7 c8 c9) rfl (by kernel_rfl) (tg := 99) (by kernel_rfl) (congrArg Value.bool b0) (fun _ => y_move rfl) (fun _ => hS) ?_
      refine x_one (i := 9) (by kernel_rfl) ?_
      obtain ⟨r3042, A1, hs⟩ := bind_some hs
      refine xk_cally (b := false) rfl (tg := 99) (by kernel_rfl) (congrArg Value.bool b0) Bd87 rfl (c_spec_l1Same (M := (Less a3 f1)) x3036.1 s2939.1 (d4.sub Less.sub) (((Frz.os Frz.int)).val b1 Less.sub Less.not) hO.less.fut A1) rfl (by rintro _ _ _ ⟨rfl, d1⟩; exact hS.ext d1) ?_
      rintro _ L7 ⟨rfl, d1⟩
      have h0 := h0.ext d1
      have a0 := a0.cn d1
      have a1 := a1.cn d1
      have a2 := a2.ext d1
      have b1 := b1.ext d1
      have d4 := d4.ext d1
      have hC := hC.ext d1
      have hO := hO.ext d1
      have hS := hS.ext d1
      refine x_py 10 (.bool r3042) rfl (by kernel_rfl) (tg := 99) (by kernel_rfl) (congrArg Value.bool b0) (fun _ => y_move rfl) (fun _ => hS) ?_
      rcases bif_some hs with ⟨a6, hs⟩ | ⟨a6, hs⟩
      ·skip
       refine x_py 11 (.pointer (some ⟨a4, 2, none⟩)) rfl (by kernel_rfl) (tg := 108) (by kernel_rfl) (congrArg Value.bool a6) (fun _ => y_faddr rfl Fa30x2) (fun _ => hS) ?_
       refine x_py 13 (.int .i64 k3030) rfl (by kernel_rfl) (tg := 108) (by kernel_rfl) (congrArg Value.bool a6) (fun _ => y_move rfl) (fun _ => hS) ?_
       refine x_py 17 (.slice pa0 pn0 pc0) rfl (by kernel_rfl) (tg := 108) (by kernel_rfl) (congrArg Value.bool a6) (fun _ => y_move rfl) (fun _ => hS) ?_
       refine x_py 18 (.int .i64 k2436) rfl (by kernel_rfl) (tg := 108) (by kernel_rfl) (congrArg Value.bool a6) (fun _ => y_move rfl) (fun _ => hS) ?_
       obtain ⟨x3044, A2, hs⟩ := bind_some hs
       obtain ⟨A3, A4, A5, l5⟩ := rs_idx Sl37 Sz54 h0 A2
       refine x_py 19 (.pointer (some ⟨A3, A4, none⟩)) rfl (by kernel_rfl) (tg := 108) (by kernel_rfl) (congrArg Value.bool a6) (fun _ => A5 _ _ _ _ _ _ _ _ _ rfl rfl) (fun _ => hS) ?_
       refine x_two (i := 12) (j := 20) (by kernel_rfl) ?_ ?_
       ·skip
        refine xk_valy (b := false) (.slice a7 a8 a9) rfl (tg := 108) (by kernel_rfl) (congrArg Value.bool a6) (y_load rfl ((box_load Ag28 Sz28 a1 [(.int .i64 r8), (.int .i64 n)] [(.slice a7 a8 a9)] [] rfl rfl (fun _ => rfl)) _ (Chg.refl _ _))) rfl (fun _ => hS) ?_
        obtain ⟨x3046, l6, hs⟩ := bind_some hs
        obtain ⟨q2, L8, L9, M0, A6, A7, M1⟩ := os_idx Sl28 Sz56 a2 l6
        have A8 := rd_row (Rd.pr Rd.rs (Rd.pr Rd.int Rd.rs)) A7
        refine x_py 14 (.pointer (some ⟨q2, 0 + Int.toNat k3030 * 3, none⟩)) rfl (by kernel_rfl) (tg := 108) (by kernel_rfl) (congrArg Value.bool a6) (fun _ => A6 _ _ _ _ _ _ _ _ _ rfl rfl) (fun _ => hS) ?_
        obtain ⟨_, q3⟩ := pr_at A8
        refine x_py 15 (.pointer (some ⟨q2, (0 + Int.toNat k3030 * 3) + 1, none⟩)) rfl (by kernel_rfl) (tg := 108) (by kernel_rfl) (congrArg Value.bool a6) (fun _ => y_faddr rfl Fa56x1) (fun _ => hS) ?_
        refine x_two (i := 16) (j := 20) (by kernel_rfl) ?_ ?_
        ·skip
         obtain ⟨M2, A9, B0⟩ := at_load Ag54 Sz54 (by intro h; cases h) q3
         obtain ⟨M3, rfl, B1⟩ := B0
         obtain ⟨M4, M5, rfl, B2, B3⟩ := pr_open B1
         obtain rfl := int_rel B2
         obtain ⟨B4, B5, B6, rfl, l7⟩ := rs_rel B3
         refine xk_valy (b := false) (.agg #[(.int .i64 x3046.2.1), (.slice B4 B5 B6)]) rfl (tg := 108) (by kernel_rfl) (congrArg Value.bool a6) (y_load rfl (A9 _ (Chg.refl _ _))) rfl (fun _ => hS) ?_
         refine x_one (i := 20) (by kernel_rfl) ?_
         obtain ⟨M6, B7, B8⟩ := at_load Ag54 Sz54 (by intro h; cases h) l5
         obtain ⟨M7, rfl, B9⟩ := B8
         obtain ⟨M8, M9, rfl, C0, C1⟩ := pr_open B9
         obtain rfl := int_rel C0
         obtain ⟨C2, C3, C4, rfl, l8⟩ := rs_rel C1
         refine xk_valy (b := false) (.agg #[(.int .i64 x3044.1), (.slice C2 C3 C4)]) rfl (tg := 108) (by kernel_rfl) (congrArg Value.bool a6) (y_load rfl (B7 _ (Chg.refl _ _))) rfl (fun _ => hS) ?_
         refine x_one (i := 21) (by kernel_rfl) ?_
         obtain ⟨r3054, h9, hs⟩ := bind_some hs
         refine xk_cally (b := false) rfl (tg := 108) (by kernel_rfl) (congrArg Value.bool a6) Bd88 rfl (c_spec_l19SameRel (M := a3) (x3046.2.1, x3046.2.2) (x3044.1, x3044.2) l7 l8 hO.fut h9) rfl (by rintro _ _ _ ⟨rfl, c2⟩; exact hS.ext c2) ?_
         rintro _ N0 ⟨rfl, c2⟩
         have h0 := h0.ext c2
         have a0 := a0.cn c2
         have a1 := a1.cn c2
         have a2 := a2.ext c2
         have b1 := b1.ext c2
         have d4 := d4.ext c2
         have l7 := l7.ext c2
         have l8 := l8.ext c2
         have hC := hC.ext c2
         have hO := hO.ext c2
         have hS := hS.ext c2
         refine x_py 22 (.bool r3054) rfl (by kernel_rfl) (tg := 99) (by kernel_rfl) (congrArg Value.bool b0) (fun _ => y_pick_t (congrArg Value.bool a6) rfl) (fun _ => hS) ?_
         refine x_p 23 (.bool r3054) rfl (by kernel_rfl)  (fun _ => y_pick_f (congrArg Value.bool b0) rfl) (fun _ => hS) ?_
         refine x_p 24 (.bool r3054) rfl (by kernel_rfl)  (fun _ => y_assign rfl) (fun _ => hS) ?_
         refine x_end (by kernel_rfl) ?_
         clear hS
         refine c_region ?_
         refine pl_val (.int .i64 k3030) (y_move rfl) ?_
         refine pl_val (.int .i64 (w64 (k3030 + 1))) (y_add rfl rfl) ?_
         refine pl_val (.int .i64 (w64 (k3030 + 1))) (y_assign rfl) ?_
         refine c_nil ?_
         cases hs
         have hO := hO.fr3
         have hO := hO.fr3
         have hO := hO.fr3
         have hO := hO.fr3
         exact ⟨_, fr_ovl 144 ⟨rfl, rfl, rfl, rfl, rfl, rfl, rfl, rfl, rfl, rfl, congrArg (Value.int .i64) hw, trivial⟩, hC, hO, h0, a0, a1, a2, b1⟩
        ·skip
         obtain ⟨N1, C5, C6⟩ := at_load Ag54 Sz54 (by intro h; cases h) l5
         obtain ⟨N2, rfl, C7⟩ := C6
         obtain ⟨N3, N4, rfl, C8, C9⟩ := pr_open C7
         obtain rfl := int_rel C8
         obtain ⟨D0, D1, D2, rfl, l9⟩ := rs_rel C9
         refine xk_valy (b := false) (.agg #[(.int .i64 x3044.1), (.slice D0 D1 D2)]) rfl (tg := 108) (by kernel_rfl) (congrArg Value.bool a6) (y_load rfl (C5 _ (Chg.refl _ _))) rfl (fun _ => hS) ?_
         refine x_one (i := 16) (by kernel_rfl) ?_
         obtain ⟨N5, D3, D4⟩ := at_load Ag54 Sz54 (by intro h; cases h) q3
         obtain ⟨N6, rfl, D5⟩ := D4
         obtain ⟨N7, N8, rfl, D6, D7⟩ := pr_open D5
         obtain rfl := int_rel D6
         obtain ⟨D8, D9, E0, rfl, m0⟩ := rs_rel D7
         refine xk_valy (b := false) (.agg #[(.int .i64 x3046.2.1), (.slice D8 D9 E0)]) rfl (tg := 108) (by kernel_rfl) (congrArg Value.bool a6) (y_load rfl (D3 _ (Chg.refl _ _))) rfl (fun _ => hS) ?_
         refine x_one (i := 21) (by kernel_rfl) ?_
         obtain ⟨r3054, h9, hs⟩ := bind_some hs
         refine xk_cally (b := false) rfl (tg := 108) (by kernel_rfl) (congrArg Value.bool a6) Bd88 rfl (c_spec_l19SameRel (M := a3) (x3046.2.1, x3046.2.2) (x3044.1, x3044.2) m0 l9 hO.fut h9) rfl (by rintro _ _ _ ⟨rfl, c3⟩; exact hS.ext c3) ?_
         rintro _ N9 ⟨rfl, c3⟩
         have h0 := h0.ext c3
         have a0 := a0.cn c3
         have a1 := a1.cn c3
         have a2 := a2.ext c3
         have b1 := b1.ext c3
         have d4 := d4.ext c3
         have l9 := l9.ext c3
         have m0 := m0.ext c3
         have hC := hC.ext c3
         have hO := hO.ext c3
         have hS := hS.ext c3
         refine x_py 22 (.bool r3054) rfl (by kernel_rfl) (tg := 99) (by kernel_rfl) (congrArg Value.bool b0) (fun _ => y_pick_t (congrArg Value.bool a6) rfl) (fun _ => hS) ?_
         refine x_p 23 (.bool r3054) rfl (by kernel_rfl)  (fun _ => y_pick_f (congrArg Value.bool b0) rfl) (fun _ => hS) ?_
         refine x_p 24 (.bool r3054) rfl (by kernel_rfl)  (fun _ => y_assign rfl) (fun _ => hS) ?_
         refine x_end (by kernel_rfl) ?_
         clear hS
         refine c_region ?_
         refine pl_val (.int .i64 k3030) (y_move rfl) ?_
         refine pl_val (.int .i64 (w64 (k3030 + 1))) (y_add rfl rfl) ?_
         refine pl_val (.int .i64 (w64 (k3030 + 1))) (y_assign rfl) ?_
         refine c_nil ?_
         cases hs
         have hO := hO.fr3
         have hO := hO.fr3
         have hO := hO.fr3
         have hO := hO.fr3
         exact ⟨_, fr_ovl 144 ⟨rfl, rfl, rfl, rfl, rfl, rfl, rfl, rfl, rfl, rfl, congrArg (Value.int .i64) hw, trivial⟩, hC, hO, h0, a0, a1, a2, b1⟩
       ·skip
        obtain ⟨O0, E1, E2⟩ := at_load Ag54 Sz54 (by intro h; cases h) l5
        obtain ⟨O1, rfl, E3⟩ := E2
        obtain ⟨O2, O3, rfl, E4, E5⟩ := pr_open E3
        obtain rfl := int_rel E4
        obtain ⟨E6, E7, E8, rfl, m1⟩ := rs_rel E5
        refine xk_valy (b := false) (.agg #[(.int .i64 x3044.1), (.slice E6 E7 E8)]) rfl (tg := 108) (by kernel_rfl) (congrArg Value.bool a6) (y_load rfl (E1 _ (Chg.refl _ _))) rfl (fun _ => hS) ?_
        refine x_one (i := 12) (by kernel_rfl) ?_
        refine xk_valy (b := false) (.slice a7 a8 a9) rfl (tg := 108) (by kernel_rfl) (congrArg Value.bool a6) (y_load rfl ((box_load Ag28 Sz28 a1 [(.int .i64 r8), (.int .i64 n)] [(.slice a7 a8 a9)] [] rfl rfl (fun _ => rfl)) _ (Chg.refl _ _))) rfl (fun _ => hS) ?_
        obtain ⟨x3046, l6, hs⟩ := bind_some hs
        obtain ⟨q4, O4, O5, O6, E9, F0, O7⟩ := os_idx Sl28 Sz56 a2 l6
        have F1 := rd_row (Rd.pr Rd.rs (Rd.pr Rd.int Rd.rs)) F0
        refine x_py 14 (.pointer (some ⟨q4, 0 + Int.toNat k3030 * 3, none⟩)) rfl (by kernel_rfl) (tg := 108) (by kernel_rfl) (congrArg Value.bool a6) (fun _ => E9 _ _ _ _ _ _ _ _ _ rfl rfl) (fun _ => hS) ?_
        obtain ⟨_, F2⟩ := pr_at F1
        refine x_py 15 (.pointer (some ⟨q4, (0 + Int.toNat k3030 * 3) + 1, none⟩)) rfl (by kernel_rfl) (tg := 108) (by kernel_rfl) (congrArg Value.bool a6) (fun _ => y_faddr rfl Fa56x1) (fun _ => hS) ?_
        refine x_one (i := 16) (by kernel_rfl) ?_
        obtain ⟨O8, F3, F4⟩ := at_load Ag54 Sz54 (by intro h; cases h) F2
        obtain ⟨O9, rfl, F5⟩ := F4
        obtain ⟨P0, P1, rfl, F6, F7⟩ := pr_open F5
        obtain rfl := int_rel F6
        obtain ⟨F8, F9, G0, rfl, m2⟩ := rs_rel F7
        refine xk_valy (b := false) (.agg #[(.int .i64 x3046.2.1), (.slice F8 F9 G0)]) rfl (tg := 108) (by kernel_rfl) (congrArg Value.bool a6) (y_load rfl (F3 _ (Chg.refl _ _))) rfl (fun _ => hS) ?_
        refine x_one (i := 21) (by kernel_rfl) ?_
        obtain ⟨r3054, h9, hs⟩ := bind_some hs
        refine xk_cally (b := false) rfl (tg := 108) (by kernel_rfl) (congrArg Value.bool a6) Bd88 rfl (c_spec_l19SameRel (M := a3) (x3046.2.1, x3046.2.2) (x3044.1, x3044.2) m2 m1 hO.fut h9) rfl (by rintro _ _ _ ⟨rfl, c4⟩; exact hS.ext c4) ?_
        rintro _ P2 ⟨rfl, c4⟩
        have h0 := h0.ext c4
        have a0 := a0.cn c4
        have a1 := a1.cn c4
        have a2 := a2.ext c4
        have b1 := b1.ext c4
        have d4 := d4.ext c4
        have m1 := m1.ext c4
        have m2 := m2.ext c4
        have hC := hC.ext c4
        have hO := hO.ext c4
        have hS := hS.ext c4
        refine x_py 22 (.bool r3054) rfl (by kernel_rfl) (tg := 99) (by kernel_rfl) (congrArg Value.bool b0) (fun _ => y_pick_t (congrArg Value.bool a6) rfl) (fun _ => hS) ?_
        refine x_p 23 (.bool r3054) rfl (by kernel_rfl)  (fun _ => y_pick_f (congrArg Value.bool b0) rfl) (fun _ => hS) ?_
        refine x_p 24 (.bool r3054) rfl (by kernel_rfl)  (fun _ => y_assign rfl) (fun _ => hS) ?_
        refine x_end (by kernel_rfl) ?_
        clear hS
        refine c_region ?_
        refine pl_val (.int .i64 k3030) (y_move rfl) ?_
        refine pl_val (.int .i64 (w64 (k3030 + 1))) (y_add rfl rfl) ?_
        refine pl_val (.int .i64 (w64 (k3030 + 1))) (y_assign rfl) ?_
        refine c_nil ?_
        cases hs
        have hO := hO.fr3
        have hO := hO.fr3
        have hO := hO.fr3
        have hO := hO.fr3
        exact ⟨_, fr_ovl 144 ⟨rfl, rfl, rfl, rfl, rfl, rfl, rfl, rfl, rfl, rfl, congrArg (Value.int .i64) hw, trivial⟩, hC, hO, h0, a0, a1, a2, b1⟩
      refine x_pn 11 rfl (by kernel_rfl) (tg := 108) (by kernel_rfl) (congrArg Value.bool a6) (fun _ => hS) ?_
      refine x_pn 12 rfl (by kernel_rfl) (tg := 108) (by kernel_rfl) (congrArg Value.bool a6) (fun _ => hS) ?_
      refine x_pn 13 rfl (by kernel_rfl) (tg := 108) (by kernel_rfl) (congrArg Value.bool a6) (fun _ => hS) ?_
      refine x_pn 14 rfl (by kernel_rfl) (tg := 108) (by kernel_rfl) (congrArg Value.bool a6) (fun _ => hS) ?_
      refine x_pn 15 rfl (by kernel_rfl) (tg := 108) (by kernel_rfl) (congrArg Value.bool a6) (fun _ => hS) ?_
      refine x_pn 16 rfl (by kernel_rfl) (tg := 108) (by kernel_rfl) (congrArg Value.bool a6) (fun _ => hS) ?_
      refine x_pn 17 rfl (by kernel_rfl) (tg := 108) (by kernel_rfl) (congrArg Value.bool a6) (fun _ => hS) ?_
      refine x_pn 18 rfl (by kernel_rfl) (tg := 108) (by kernel_rfl) (congrArg Value.bool a6) (fun _ => hS) ?_
      refine x_pn 19 rfl (by kernel_rfl) (tg := 108) (by kernel_rfl) (congrArg Value.bool a6) (fun _ => hS) ?_
      refine x_pn 20 rfl (by kernel_rfl) (tg := 108) (by kernel_rfl) (congrArg Value.bool a6) (fun _ => hS) ?_
      refine x_pn 21 rfl (by kernel_rfl) (tg := 108) (by kernel_rfl) (congrArg Value.bool a6) (fun _ => hS) ?_
      refine x_py 22 (.bool false) rfl (by kernel_rfl) (tg := 99) (by kernel_rfl) (congrArg Value.bool b0) (fun _ => y_pick_f (congrArg Value.bool a6) rfl) (fun _ => hS) ?_
      refine x_p 23 (.bool false) rfl (by kernel_rfl)  (fun _ => y_pick_f (congrArg Value.bool b0) rfl) (fun _ => hS) ?_
      refine x_p 24 (.bool false) rfl (by kernel_rfl)  (fun _ => y_assign rfl) (fun _ => hS) ?_
      refine x_end (by kernel_rfl) ?_
      clear hS
      refine c_region ?_
      refine pl_val (.int .i64 k3030) (y_move rfl) ?_
      refine pl_val (.int .i64 (w64 (k3030 + 1))) (y_add rfl rfl) ?_
      refine pl_val (.int .i64 (w64 (k3030 + 1))) (y_assign rfl) ?_
      refine c_nil ?_
      cases hs
      have hO := hO.fr3
      have hO := hO.fr3
      have hO := hO.fr3
      have hO := hO.fr3
      exact ⟨_, fr_ovl 144 ⟨rfl, rfl, rfl, rfl, rfl, rfl, rfl, rfl, rfl, rfl, congrArg (Value.int .i64) hw, trivial⟩, hC, hO, h0, a0, a1, a2, b1⟩
     ·skip
      have hO := hO.fr3
      have hO := hO.fr3
      have hO := hO.fr3
      have hO := hO.fr3
      exact ⟨_, fr_ovl 144 ⟨rfl, rfl, rfl, rfl, rfl, rfl, rfl, rfl, rfl, rfl, rfl, trivial⟩, hC, hO, h0, a0, a1, a2, b1⟩
     cases o3032 with
     | nx _ => exact True.intro
     | rt r_ =>
      have hs := after_rt hs
      intro e5 h5 hK
      cases hs
      exact hK
     | br s3028 =>
      have hs := after_br hs
      rintro e5 b3 ⟨σ, rfl, hC, hO, h0, a0, a1, a2, b1⟩
      refine c_seq ?_
      refine c_sr ?_
      refine pl_val (.bool s3028) (y_move rfl) ?_
      refine c_nil ?_
      rcases bif_some hs with ⟨m3, hs⟩ | ⟨m3, hs⟩
      ·refine c_condT (congrArg Value.bool m3) ?_
       refine wp_exit ?_
       refine c_region ?_
       refine pl_val (.int .i64 s2874.1) (y_move rfl) ?_
       refine pl_val (.int .i64 (w64 (s2874.1 + 1))) (y_add rfl rfl) ?_
       refine pl_val (.int .i64 (w64 (s2874.1 + 1))) (y_assign rfl) ?_
       refine c_nil ?_
       cases hs
       have hO := hO.drop
       have hO := hO.fr2
       have hO := hO.fr2
       have hO := hO.fr2
       exact ⟨_, a3, a7, a8, a9, b5, fr_ovl 144 ⟨rfl, rfl, rfl, rfl, rfl, rfl, rfl, rfl, trivial⟩, hC, hO, hK, h0, a0, a1, a2⟩
      refine c_condF (congrArg Value.bool m3) ?_
      refine wp_skip ?_
      refine c_seq ?_
      refine c_sr ?_
      refine pl_val (.pointer (some ⟨a4, 2, none⟩)) (y_faddr rfl Fa30x2) ?_
      refine pl_val (.slice a7 a8 a9) (y_load rfl ((box_load Ag28 Sz28 a1 [(.int .i64 r8), (.int .i64 n)] [(.slice a7 a8 a9)] [] rfl rfl (fun _ => rfl)) _ (Chg.refl _ _))) ?_
      refine pl_val (.int .i64 (s2874.2.length : Int)) (y_len' Sl28 (os_len a2) rfl) ?_
      refine pl_val (.bool ((s2874.2.length : Int) == 40)) (y_eql rfl rfl) ?_
      refine c_nil ?_
      rcases bif_some hs with ⟨m4, hs⟩ | ⟨m4, hs⟩
      ·refine c_condT (congrArg Value.bool m4) ?_
       refine c_sr ?_
       refine pl_val (.agg #[(.int .i64 0), (.int .i64 0), (.slice none 0 0)]) (y_build rfl (by kernel_rfl)) ?_
       obtain ⟨q5, G1, h3, m5⟩ := box_store (P := Try.prog) a0 [] [(.int .i64 0), (.int .i64 0), (.slice none 0 0)] [] [(.int .i64 0), (.int .i64 0), (.slice none 0 0)] rfl rfl (by intro u hu; simp only [List.mem_cons, List.not_mem_nil, or_false] at hu; rcases hu with rfl | rfl | rfl <;> rfl)
       refine pl_skip (w' := q5) (ys_store rfl rfl (G1 _ _ rfl Sz30)) ?_
       have hO := hO.fr3
       have h0 := h0.mt h3 hO same_
       have a1 := a1.ap h3 hO same_ (mem_r (mem_r (mem_l (List.mem_singleton.2 rfl))))
       have a2 := a2.ma h3 hO same_ (fun _ e => (mem_r (mem_l (e))))
       have b1 := b1.ma h3 hO same_ (fun _ e => (mem_l (e)))
       have hC := hC.st h3 hO same_
       have hO := hO.ext h3
       have m5 : BoxV q5 a5 30 [(.int .i64 0), (.int .i64 0), (.slice none 0 0)] := m5
       refine pl_val (.bool false) (y_assign rfl) ?_
       refine c_nil ?_
       refine wp_ret ?_
       cases hs
       exact ⟨_, a5, none, 0, 0, fr_ovl 144 ⟨rfl, rfl, trivial⟩, m5, hC, rs_nil⟩
      refine c_condF (congrArg Value.bool m4) ?_
      refine wp_skip ?_
      refine x_start [13, 15] Mx rfl ?_
      have f4 := Chg.drew b3
      generalize World.drew b3 = q6 at f4 ⊢
      have h0 := h0.ext f4
      have a0 := a0.cn f4
      have a1 := a1.cn f4
      have a2 := a2.ext f4
      have b1 := b1.ext f4
      have hC := hC.ext f4
      have hO := hO.ext f4
      have hS := Chg.refl [] q6
      refine x_p 0 (.pointer (some ⟨a4, 2, none⟩)) rfl (by kernel_rfl)  (fun _ => y_faddr rfl Fa30x2) (fun _ => hS) ?_
      refine x_l 1 (.slice a7 a8 a9) rfl (by kernel_rfl)  (fun w' hw' => y_load rfl ((box_load Ag28 Sz28 a1 [(.int .i64 r8), (.int .i64 n)] [(.slice a7 a8 a9)] [] rfl rfl (fun _ => rfl)) w' hw')) hS ?_
      refine x_p 2 (.slice c7 c8 c9) rfl (by kernel_rfl)  (fun _ => y_move rfl) (fun _ => hS) ?_
      refine x_p 3 (.slice pa0 pn0 pc0) rfl (by kernel_rfl)  (fun _ => y_move rfl) (fun _ => hS) ?_
      refine x_p 4 (.int .i64 k2436) rfl (by kernel_rfl)  (fun _ => y_move rfl) (fun _ => hS) ?_
      obtain ⟨x3074, G2, hs⟩ := bind_some hs
      obtain ⟨G3, G4, G5, G6⟩ := rs_idx Sl37 Sz54 h0 G2
      refine x_p 5 (.pointer (some ⟨G3, G4, none⟩)) rfl (by kernel_rfl)  (fun _ => G5 _ _ _ _ _ _ _ _ _ rfl rfl) (fun _ => hS) ?_
      obtain ⟨P3, G7, G8⟩ := at_load Ag54 Sz54 (by intro h; cases h) G6
      obtain ⟨P4, rfl, G9⟩ := G8
      obtain ⟨P5, P6, rfl, H0, H1⟩ := pr_open G9
      obtain rfl := int_rel H0
      obtain ⟨j3, j4, j5, rfl, b9⟩ := rs_rel H1
      refine x_l 6 (.agg #[(.int .i64 x3074.1), (.slice j3 j4 j5)]) rfl (by kernel_rfl)  (fun w' hw' => y_load rfl (G7 w' hw')) hS ?_
      refine x_p 7 (.agg #[(.slice c7 c8 c9), (.int .i64 x3074.1), (.slice j3 j4 j5)]) rfl (by kernel_rfl)  (fun _ => y_build rfl (by kernel_rfl)) (fun _ => hS) ?_
      refine x_one (i := 8) (by kernel_rfl) ?_
      obtain ⟨g2, P7, m6, H2, hO, c5⟩ := frz_own (Frz.os Frz.int) b1 hO
      have h0 := h0.sub (M' := g2) m6
      have a2 := a2.sub (M' := g2) m6
      have b9 := b9.sub (M' := g2) m6
      have hK := hK.trans H2
      obtain ⟨q7, i0, H3, q8, d5, q9⟩ := new_block q6 [(.slice c7 c8 c9), (.int .i64 x3074.1), (.slice j3 j4 j5)] 56
      refine xk_val (w' := q7) (b := false) (.slice (some ⟨i0, 0, none⟩) 1 1) rfl  (y_bslice rfl (by rw [H3, q8]; kernel_rfl)) rfl (fun _ => hS.ext d5) ?_
      have h0 := h0.ext d5
      have a0 := a0.cn d5
      have a1 := a1.cn d5
      have a2 := a2.ext d5
      have c5 := c5.ext d5
      have b9 := b9.ext d5
      have hC := hC.ext d5
      have hO := hO.new1 d5 q8 q9.lt
      have c6 := os_of_box (r := (RT.pr (RT.rs (RT.int .i64)) (RT.pr (RT.int .i64) (RT.rs (RT.rs (RT.int .i64)))))) (M := g2) (css := [[(.slice c7 c8 c9), (.int .i64 x3074.1), (.slice j3 j4 j5)]]) (fps := [([] : List Nat)]) (xs := ([(s2939.1, (x3074.1, x3074.2))] : List ((List Int) × (Int × (List (List Int)))))) q9 ⟨⟨_, _, _, _, rfl, rfl, (rs_unval c5), ⟨_, _, _, _, rfl, rfl, ⟨rfl, rfl⟩, (rs_unval b9)⟩⟩, trivial⟩ (Nat.le_of_ble_eq_true rfl) (List.nodup_cons.2 ⟨(fun h => nomatch h), List.nodup_nil⟩)
      have c6 : (RT.os 56 (RT.pr (RT.rs (RT.int .i64)) (RT.pr (RT.int .i64) (RT.rs (RT.rs (RT.int .i64)))))).val g2 q7 (.slice (some ⟨i0, 0, none⟩) 1 1) [(s2939.1, (x3074.1, x3074.2))] [i0] := c6
      have hS := hS.ext d5
      refine x_one (i := 9) (by kernel_rfl) ?_
      obtain ⟨r3082, H4, hs⟩ := bind_some hs
      refine xk_call (b := false) rfl  Bd89 rfl (c_spec_l19Copy (M := (Less g2 ([i0]))) ([(s2939.1, (x3074.1, x3074.2))]) (((Frz.os (Frz.pr (Frz.rs Frz.int) (Frz.pr Frz.int (Frz.rs (Frz.rs Frz.int)))))).val c6 Less.sub Less.not) hO.less.fut H4) rfl (by rintro _ _ _ ⟨H5, H6, H7, r0, rfl, d0, i1, r1⟩; exact hS.ext d0) ?_
      rintro _ H8 ⟨H5, H6, H7, r0, rfl, d0, i1, r1⟩
      have h0 := h0.ext d0
      have a0 := a0.cn d0
      have a1 := a1.cn d0
      have a2 := a2.ext d0
      have c5 := c5.ext d0
      have b9 := b9.ext d0
      have c6 := c6.ext d0
      have hC := hC.ext d0
      have hO := Own.join0 hO d0 r1
      have hO := hO.perm (R := r0 ++ (([i0]) ++ (b5 ++ (([a4]) ++ (([a5]) ++ ([])))))) (by simp)
      have i1 := i1.free (M' := g2) (Free.os (Free.pr (Free.os Free.int) (Free.pr Free.int (Free.os (Free.os Free.int)))))
      have hS := hS.ext d0
      obtain ⟨x3084, H9, hs⟩ := bind_some hs
      obtain ⟨I0, P8, P9, Q0, I1, I2, I3⟩ := os_idx Sl28 Sz56 i1 H9
      have I4 := own_row (Frz.pr (Frz.os Frz.int) (Frz.pr Frz.int (Frz.os (Frz.os Frz.int)))) I2 I3
      refine x_p 10 (.pointer (some ⟨I0, 0 + Int.toNat 0 * 3, none⟩)) rfl (by kernel_rfl)  (fun _ => I1 _ _ _ _ _ _ _ _ _ rfl rfl) (fun _ => hS) ?_
      refine x_one (i := 11) (by kernel_rfl) ?_
      obtain ⟨Q1, I5, hrow3086, I6⟩ := at_load2 Ag56 Sz56 rfl I4
      obtain ⟨Q2, Q3, rfl, I7, I8⟩ := pr_open I6
      obtain ⟨m7, m8, m9, rfl, f5⟩ := rs_rel I7
      obtain ⟨Q4, Q5, rfl, I9, J0⟩ := pr_open I8
      obtain rfl := int_rel I9
      obtain ⟨n0, n1, n2, rfl, f6⟩ := rs_rel J0
      refine xk_val (b := false) (.agg #[(.slice m7 m8 m9), (.int .i64 x3084.2.1), (.slice n0 n1 n2)]) rfl  (y_load rfl (I5 _ (Chg.refl _ _))) rfl (fun _ => hS) ?_
      refine x_one (i := 12) (by kernel_rfl) ?_
      obtain ⟨f7, r2, i2, J1, hO, h4⟩ := frz_own (Frz.os (Frz.pr (Frz.os Frz.int) (Frz.pr Frz.int (Frz.os (Frz.os Frz.int))))) i1 hO
      rw [← r2] at f5
      rw [← r2] at f6
      have h0 := h0.sub (M' := f7) i2
      have a2 := a2.sub (M' := f7) i2
      have c5 := c5.sub (M' := f7) i2
      have b9 := b9.sub (M' := f7) i2
      have c6 := c6.sub (M' := f7) i2
      have hK := hK.trans J1
      obtain ⟨r3, n3, J2, r5, c0, r6⟩ := new_block H8 [(.slice m7 m8 m9), (.int .i64 x3084.2.1), (.slice n0 n1 n2)] 56
      refine xk_val (w' := r3) (b := false) (.slice (some ⟨n3, 0, none⟩) 1 1) rfl  (y_bslice rfl (by rw [J2, r5]; kernel_rfl)) rfl (fun _ => hS.ext c0) ?_
      have h0 := h0.ext c0
      have a0 := a0.cn c0
      have a1 := a1.cn c0
      have a2 := a2.ext c0
      have c5 := c5.ext c0
      have b9 := b9.ext c0
      have c6 := c6.ext c0
      have h4 := h4.ext c0
      have f5 := f5.ext c0
      have hrow3086 := hrow3086.cn c0
      have f6 := f6.ext c0
      have hC := hC.ext c0
      have hO := hO.new1 c0 r5 r6.lt
      have n4 := os_of_box (r := (RT.pr (RT.rs (RT.int .i64)) (RT.pr (RT.int .i64) (RT.rs (RT.rs (RT.int .i64)))))) (M := f7) (css := [[(.slice m7 m8 m9), (.int .i64 x3084.2.1), (.slice n0 n1 n2)]]) (fps := [([] : List Nat)]) (xs := ([(x3084.1, (x3084.2.1, x3084.2.2))] : List ((List Int) × (Int × (List (List Int)))))) r6 ⟨⟨_, _, _, _, rfl, rfl, (rs_unval f5), ⟨_, _, _, _, rfl, rfl, ⟨rfl, rfl⟩, (rs_unval f6)⟩⟩, trivial⟩ (Nat.le_of_ble_eq_true rfl) (List.nodup_cons.2 ⟨(fun h => nomatch h), List.nodup_nil⟩)
      have n4 : (RT.os 56 (RT.pr (RT.rs (RT.int .i64)) (RT.pr (RT.int .i64) (RT.rs (RT.rs (RT.int .i64)))))).val f7 r3 (.slice (some ⟨n3, 0, none⟩) 1 1) [(x3084.1, (x3084.2.1, x3084.2.2))] [n3] := n4
      have hS := hS.ext c0
      refine x_one (i := 13) (by kernel_rfl) ?_
      obtain ⟨y3093, J3, hs⟩ := bind_some hs
      have hO := hO.fr2
      obtain ⟨j6, j7, j8, J4, J5, J6, d2, J7, i3⟩ := app_os Rw28 J3 a2 n4 hO.inM (fun g hg hq => hO.apart g hq (mem_l hg))
      have d6 := os_block a2
      refine xk_val (w' := J4) (b := true) (.slice j6 j7 j8) rfl  (y_append rfl rfl (J6 _)) rfl (fun h => nomatch h) ?_
      have hO := hO.fr1
      have hO := hO.fr1
      have h0 := h0.mt d2 hO d6
      have a0 := a0.ap d2 hO d6 (mem_r (mem_r (mem_r (mem_l (List.mem_singleton.2 rfl)))))
      have a1 := a1.ap d2 hO d6 (mem_r (mem_r (mem_l (List.mem_singleton.2 rfl))))
      have c5 := c5.mt d2 hO d6
      have b9 := b9.mt d2 hO d6
      have c6 := c6.ma d2 hO d6 (fun _ e => (mem_r (mem_l (e))))
      have h4 := h4.mt d2 hO d6
      have f5 := f5.mt d2 hO d6
      have f6 := f6.mt d2 hO d6
      have hC := hC.st d2 hO d6
      have hO := hO.eat d2 J7 (os_nodup i3) i3.fpl
      refine x_p 14 (.pointer (some ⟨a4, 2, none⟩)) rfl (by kernel_rfl)  (fun _ => y_faddr rfl Fa30x2) (fun h => nomatch h) ?_
      refine x_one (i := 15) (by kernel_rfl) ?_
      obtain ⟨r7, J8, d3, n5⟩ := box_store (P := Try.prog) a1 [(.int .i64 r8), (.int .i64 n)] [(.slice a7 a8 a9)] [] [(.slice j6 j7 j8)] rfl rfl (by intro u hu; simp only [List.mem_cons, List.not_mem_nil, or_false] at hu; rcases hu with rfl <;> rfl)
      refine xk_skip (w' := r7) (b := true) rfl (ys_store rfl rfl (J8 _ _ rfl Sz28)) rfl (fun h => nomatch h) ?_
      have hO := hO.fr2
      have h0 := h0.mt d3 hO same_
      have a0 := a0.ap d3 hO same_ (mem_r (mem_r (mem_l (List.mem_singleton.2 rfl))))
      have c5 := c5.mt d3 hO same_
      have b9 := b9.mt d3 hO same_
      have c6 := c6.ma d3 hO same_ (fun _ e => (mem_r (mem_l (e))))
      have h4 := h4.mt d3 hO same_
      have f5 := f5.mt d3 hO same_
      have f6 := f6.mt d3 hO same_
      have i3 := i3.ma d3 hO same_ (fun _ e => (mem_l (e)))
      have hC := hC.st d3 hO same_
      have hO := hO.ext d3
      have n5 : BoxV r7 a4 30 [(.int .i64 r8), (.int .i64 n), (.slice j6 j7 j8)] := n5
      refine x_end (by kernel_rfl) ?_
      clear hS
      refine c_region ?_
      refine pl_val (.int .i64 s2874.1) (y_move rfl) ?_
      refine pl_val (.int .i64 (w64 (s2874.1 + 1))) (y_add rfl rfl) ?_
      refine pl_val (.int .i64 (w64 (s2874.1 + 1))) (y_assign rfl) ?_
      refine c_nil ?_
      cases hs
      have hO := hO.fr2
      have hO := hO.drop
      have hO := hO.fr2
      have hO := hO.fr1
      have hO := hO.fr2
      exact ⟨_, f7, j6, j7, j8, J5, fr_ovl 144 ⟨rfl, rfl, rfl, rfl, rfl, rfl, rfl, rfl, trivial⟩, hC, hO, hK, h0, a0, n5, i3⟩
   refine c_condF (congrArg Value.bool k6) ?_
   refine wp_exit ?_
   cases hs
   have hO := hO.fr2
   have hO := hO.fr2
   have hO := hO.fr2
   exact ⟨rfl, _, a3, a7, a8, a9, b5, fr_ovl 144 ⟨rfl, rfl, rfl, rfl, rfl, rfl, trivial⟩, hC, hO, hK, h0, a0, a1, a2⟩
  ·skip
   have hO := hO.fr2
   have hO := hO.fr2
   have hO := hO.fr2
   exact ⟨_, e6, g3, g4, g5, g6, fr_ovl 144 ⟨rfl, rfl, rfl, rfl, rfl, rfl, rfl, rfl, trivial⟩, hC, hO, hK, h0, a0, a1, k5⟩
  cases o2878 with
  | nx _ => exact True.intro
  | rt r_ =>
   have hs := after_rt hs
   intro e5 h5 hK
   cases hs
   exact hK
  | br s2874 =>
   have hs := after_br hs
   rintro e5 b8 ⟨σ, g7, i9, j0, j1, j2, rfl, hC, hO, hK, h0, a0, a1, J9⟩
   refine c_region ?_
   refine pl_val (.int .i64 k2436) (y_move rfl) ?_
   refine pl_val (.int .i64 (w64 (k2436 + 1))) (y_add rfl rfl) ?_
   refine pl_val (.int .i64 (w64 (k2436 + 1))) (y_assign rfl) ?_
   refine c_nil ?_
   cases hs
   have hO := hO.fr2
   have hO := hO.fr2
   have hO := hO.fr2
   exact ⟨_, g7, i9, j0, j1, j2, fr_ovl 144 ⟨rfl, rfl, rfl, rfl, rfl, congrArg (Value.int .i64) hw, trivial⟩, hC, hO, hK, h0, a0, a1, J9⟩
 ·skip
  have hO := hO.fr2
  have hO := hO.fr2
  have hO := hO.fr2
  exact ⟨_, o5, (some ⟨f8, 0, none⟩), 0, 0, t0, fr_ovl 144 ⟨rfl, rfl, rfl, rfl, rfl, rfl, trivial⟩, hC, hO, hK, h0, a0, a1, t3⟩
 cases o2438 with
 | nx _ => exact True.intro
 | rt r_ =>
  have hs := after_rt hs
  intro e5 h5 hK
  cases hs
  exact hK
 | br s2434 =>
  have hs := after_br hs
  rintro e5 b7 ⟨σ, h8, e7, e8, e9, k4, rfl, hC, hO, hK, h0, a0, a1, n6⟩
  refine c_sr ?_
  refine pl_val (.agg #[(.int .i64 r8), (.int .i64 n), (.slice e7 e8 e9)]) (y_load rfl ((box_load Ag30 Sz30 a1 [] [(.int .i64 r8), (.int .i64 n), (.slice e7 e8 e9)] [] rfl rfl (fun h => nomatch h)) _ (Chg.refl _ _))) ?_
  obtain ⟨r9, K0, i4, n7⟩ := box_store (P := Try.prog) a0 [] [(.int .i64 0), (.int .i64 0), (.slice none 0 0)] [] [(.int .i64 r8), (.int .i64 n), (.slice e7 e8 e9)] rfl rfl (by intro u hu; simp only [List.mem_cons, List.not_mem_nil, or_false] at hu; rcases hu with rfl | rfl | rfl <;> rfl)
  refine pl_skip (w' := r9) (ys_store rfl rfl (K0 _ _ rfl Sz30)) ?_
  have hO := hO.fr2
  have h0 := h0.mt i4 hO same_
  have a1 := a1.ap i4 hO same_ (mem_r (mem_l (List.mem_singleton.2 rfl)))
  have n6 := n6.ma i4 hO same_ (fun _ e => (mem_l (e)))
  have hC := hC.st i4 hO same_
  have hO := hO.ext i4
  have n7 : BoxV r9 a5 30 [(.int .i64 r8), (.int .i64 n), (.slice e7 e8 e9)] := n7
  refine pl_val (.bool true) (y_assign rfl) ?_
  refine c_nil ?_
  refine wp_ret ?_
  cases hs
  have hO := hO.fr1
  obtain ⟨Q6, Q7, Q8, K1, hO, K2⟩ := frz_own (Frz.os (Frz.pr (Frz.rs Frz.int) (Frz.pr Frz.int (Frz.rs (Frz.rs Frz.int))))) n6 hO
  have hK := hK.trans K1
  exact ⟨_, a5, e7, e8, e9, fr_ovl 144 ⟨rfl, rfl, trivial⟩, n7, hC, (Keeps.out hK K2)⟩

def k_impl_isTemplateSize (M : Nat → Prop) (w0 : World) (r : Bool) (a : Act) (w : World) : Prop :=
  ∃ (σ : Nat → Value) , a = fr 9 (ovl σ [(2, (.bool r))]) ∧ Chg [] w0 w
def s_impl_isTemplateSize (n : Int) : Option (Bool) :=
  (bif (decide (1 ≤ n)) then some (decide (n ≤ 4)) else some false)
set_option maxHeartbeats 4000000 in
theorem c_impl_isTemplateSize {M : Nat → Prop} {w : World}  (n : Int)  (hM : ∀ g, w.heap.size ≤ g → M g) {r : Bool} (hs : s_impl_isTemplateSize n = some r) :
    Gives Try.prog 103 [(.int .i64 n)] w (fun v w' => v = (.bool r) ∧ Chg [] w w') := by
 refine calls_fr Try.func103 rfl Try.ntmps103 (Nat.le_of_ble_eq_true rfl) ?_
 have hO := Own.start (N := Nw w []) hM Nw.fut
 have hC := Chg.refl [] w
 unfold s_impl_isTemplateSize at hs
 refine wp_mono (Q := KPost (k_impl_isTemplateSize M w r)) ?_ (fun e a a1 h => ?_)
 rotate_left
 ·cases e
  case ret =>
   obtain ⟨σ, rfl, hrest⟩ := h
   exact ret1x Try.results103 (res_tmp rfl) ⟨rfl, hrest⟩
  all_goals exact (h : False).elim
 refine c_sr ?_
 refine pl_val (.bool false) (y_assign rfl) ?_
 refine c_nil ?_
 refine c_sr ?_
 refine pl_val (.int .i64 n) (y_move rfl) ?_
 refine pl_val (.bool (decide (1 ≤ n))) (y_geq rfl rfl) ?_
 refine pl_val (.bool (decide (1 ≤ n))) (y_move rfl) ?_
 rcases bif_some hs with ⟨a0, hs⟩ | ⟨a0, hs⟩
 ·skip
  refine pl_yes (.int .i64 n) (tg := 5) (by kernel_rfl) (congrArg Value.bool a0) (y_move rfl) ?_
  refine pl_yes (.bool (decide (n ≤ 4))) (tg := 5) (by kernel_rfl) (congrArg Value.bool a0) (y_leq rfl rfl) ?_
  refine pl_val (.bool (decide (n ≤ 4))) (y_pick_t (congrArg Value.bool a0) rfl) ?_
  refine pl_val (.bool (decide (n ≤ 4))) (y_assign rfl) ?_
  refine c_nil ?_
  refine wp_ret ?_
  cases hs
  exact ⟨_, fr_ovl 9 ⟨rfl, trivial⟩, hC⟩
 refine pl_not (tg := 5) (by kernel_rfl) (congrArg Value.bool a0) ?_
 refine pl_not (tg := 5) (by kernel_rfl) (congrArg Value.bool a0) ?_
 refine pl_val (.bool false) (y_pick_f (congrArg Value.bool a0) rfl) ?_
 refine pl_val (.bool false) (y_assign rfl) ?_
 refine c_nil ?_
 refine wp_ret ?_
 cases hs
 exact ⟨_, fr_ovl 9 ⟨rfl, trivial⟩, hC⟩

def k_impl_inSize (M : Nat → Prop) (w0 : World) (r : Bool) (a : Act) (w : World) : Prop :=
  ∃ (σ : Nat → Value) , a = fr 21 (ovl σ [(4, (.bool r))]) ∧ Chg [] w0 w
def s_impl_inSize (list : List Int) (n : Int) : Option (Bool) :=
  (forR (S := Unit) (R := Bool) (fun _ x8 s5 =>
  (bif (decide (x8 < 0)) then some (.rt false) else (bif (decide (n ≤ x8)) then some (.rt false) else some (.nx ())))) 0 list ()).bind fun o9 => after o9 (fun r_ => some r_) (fun s5 =>
  some true)
set_option maxHeartbeats 4000000 in
theorem c_impl_inSize {M : Nat → Prop} {w : World} {pa0 : Option Addr} {pn0 pc0 : Nat} (list : List Int) (n : Int) (h0 : (RT.rs (RT.int .i64)).val M w (.slice pa0 pn0 pc0) list ([])) (hM : ∀ g, w.heap.size ≤ g → M g) {r : Bool} (hs : s_impl_inSize list n = some r) :
    Gives Try.prog 71 [(.slice pa0 pn0 pc0), (.int .i64 n)] w (fun v w' => v = (.bool r) ∧ Chg [] w w') := by
 refine calls_fr Try.func71 rfl Try.ntmps71 (Nat.le_of_ble_eq_true rfl) ?_
 have hO := Own.start (N := Nw w []) hM Nw.fut
 have hC := Chg.refl [] w
 unfold s_impl_inSize at hs
 refine wp_mono (Q := KPost (k_impl_inSize M w r)) ?_ (fun e a a4 h => ?_)
 rotate_left
 ·cases e
  case ret =>
   obtain ⟨σ, rfl, hrest⟩ := h
   exact ret1x Try.results71 (res_tmp rfl) ⟨rfl, hrest⟩
  all_goals exact (h : False).elim
 refine c_sr ?_
 refine pl_val (.bool false) (y_assign rfl) ?_
 refine c_nil ?_
 refine c_seq ?_
 refine c_sr ?_
 refine pl_val (.slice pa0 pn0 pc0) (y_move rfl) ?_
 refine pl_val (.int .i64 (list.length : Int)) (y_len' Sl41 (rs_len h0) rfl) ?_
 refine pl_val (.int .i64 0) (y_move rfl) ?_
 refine c_nil ?_
 obtain ⟨o9, a5, hs⟩ := bind_some hs
 refine wp_block ?_
 refine wp_forR (id := 0) (I := fun i_ xs_ s5 a a0 => ∃ a1 : Nat, i_ = (a1 : Int) ∧ List.drop a1 list = xs_ ∧ (∃ (σ : Nat → Value), a = fr 21 (ovl σ [(1, (.int .i64 n)), (7, (.slice pa0 pn0 pc0)), (8, (.int .i64 (list.length : Int))), (9, (.int .i64 (a1 : Int)))]) ∧ Chg [] w a0 ∧ Own (Nw w []) M a0 ([]) ∧ (RT.rs (RT.int .i64)).val M a0 (.slice pa0 pn0 pc0) list ([]))) (J := fun s5 a a0 => ∃ (σ : Nat → Value), a = fr 21 (ovl σ []) ∧ Chg [] w a0 ∧ Own (Nw w []) M a0 ([]) ∧ (RT.rs (RT.int .i64)).val M a0 (.slice pa0 pn0 pc0) list ([])) (K := (k_impl_inSize M w)) ?_ ?_ list 0 () o9 _ _ ?_ a5 ?_
 ·rintro _ s5 a a0 ⟨a1, rfl, hd, σ, rfl, hC, hO, h0⟩
  have hlt := drop_nil_ge hd
  refine c_sr ?_
  refine pl_val (.bool (decide ((a1 : Int) < (list.length : Int)))) (y_lss rfl rfl) ?_
  refine c_nil ?_
  refine c_seq ?_
  refine c_condF (congrArg Value.bool (decide_eq_false hlt)) ?_
  refine wp_exit ?_
  exact ⟨rfl, _, fr_ovl 21 trivial, hC, hO, h0⟩
 ·rintro _ x8 xs_ s5 o9 a a0 ⟨a1, rfl, hd, σ, rfl, hC, hO, h0⟩ hs
  have hlt := drop_cons_lt hd
  have a6 := drop_cons_idx hd
  refine c_sr ?_
  refine pl_val (.bool (decide ((a1 : Int) < (list.length : Int)))) (y_lss rfl rfl) ?_
  refine c_nil ?_
  refine c_seq ?_
  refine c_condT (congrArg Value.bool (decide_eq_true hlt)) ?_
  refine wp_skip ?_
  refine c_seq ?_
  refine wp_block ?_
  refine c_sr ?_
  obtain ⟨a7, a8, a9, b0⟩ := rs_idx Sl41 Sz3 h0 a6
  refine pl_val (.pointer (some ⟨a7, a8, none⟩)) (a9 _ _ _ _ _ _ _ _ _ rfl rfl) ?_
  refine pl_val (.int .i64 x8) (y_load rfl ((at_load_int Ag3 Sz3 b0) _ (Chg.refl _ _))) ?_
  refine pl_val (.int .i64 x8) (y_assign rfl) ?_
  refine c_nil ?_
  refine c_sr ?_
  refine pl_val (.int .i64 x8) (y_move rfl) ?_
  refine pl_val (.bool (decide (x8 < 0))) (y_lss rfl rfl) ?_
  refine pl_val (.bool (decide (x8 < 0))) (y_move rfl) ?_
  rcases bif_some hs with ⟨a2, hs⟩ | ⟨a2, hs⟩
  ·skip
   refine pl_not (tg := 15) (by kernel_rfl) (congrArg Value.bool a2) ?_
   refine pl_not (tg := 15) (by kernel_rfl) (congrArg Value.bool a2) ?_
   refine pl_not (tg := 15) (by kernel_rfl) (congrArg Value.bool a2) ?_
   refine pl_val (.bool true) (y_pick_t (congrArg Value.bool a2) rfl) ?_
   refine c_nil ?_
   refine c_condT (by rfl) ?_
   refine c_sr ?_
   refine pl_val (.bool false) (y_assign rfl) ?_
   refine c_nil ?_
   refine wp_ret ?_
   cases hs
   exact ⟨_, fr_ovl 21 ⟨rfl, trivial⟩, hC⟩
  refine pl_yes (.int .i64 x8) (tg := 15) (by kernel_rfl) (congrArg Value.bool a2) (y_move rfl) ?_
  refine pl_yes (.int .i64 n) (tg := 15) (by kernel_rfl) (congrArg Value.bool a2) (y_move rfl) ?_
  refine pl_yes (.bool (decide (n ≤ x8))) (tg := 15) (by kernel_rfl) (congrArg Value.bool a2) (y_geq rfl rfl) ?_
  refine pl_val (.bool (decide (n ≤ x8))) (y_pick_f (congrArg Value.bool a2) rfl) ?_
  refine c_nil ?_
  rcases bif_some hs with ⟨a3, hs⟩ | ⟨a3, hs⟩
  ·refine c_condT (congrArg Value.bool a3) ?_
   refine c_sr ?_
   refine pl_val (.bool false) (y_assign rfl) ?_
   refine c_nil ?_
   refine wp_ret ?_
   cases hs
   exact ⟨_, fr_ovl 21 ⟨rfl, trivial⟩, hC⟩
  refine c_condF (congrArg Value.bool a3) ?_
  refine wp_skip ?_
  refine c_region ?_
  refine pl_val (.int .i64 (w64 ((a1 : Int) + 1))) (y_add rfl rfl) ?_
  refine pl_val (.int .i64 (w64 ((a1 : Int) + 1))) (y_move rfl) ?_
  refine c_nil ?_
  cases hs
  exact ⟨_, rfl, drop_cons_next hd, _, fr_ovl 21 ⟨rfl, rfl, rfl, congrArg (Value.int .i64) (w64_succ hlt (Int.natCast_nonneg _) (rs_max h0)), trivial⟩, hC, hO, h0⟩
 ·skip
  exact ⟨0, rfl, rfl, _, fr_ovl 21 ⟨rfl, rfl, rfl, rfl, trivial⟩, hC, hO, h0⟩
 cases o9 with
 | nx _ => exact True.intro
 | rt r_ =>
  have hs := after_rt hs
  intro b1 a4 hK
  cases hs
  exact hK
 | br s5 =>
  have hs := after_br hs
  rintro b1 a0 ⟨σ, rfl, hC, hO, h0⟩
  refine c_sr ?_
  refine pl_val (.bool true) (y_assign rfl) ?_
  refine c_nil ?_
  refine wp_ret ?_
  cases hs
  exact ⟨_, fr_ovl 21 ⟨rfl, trivial⟩, hC⟩

def k_impl_compareLists (M : Nat → Prop) (w0 : World) (r : Int) (a : Act) (w : World) : Prop :=
  ∃ (σ : Nat → Value) , a = fr 48 (ovl σ [(4, (.int .i64 r))]) ∧ Chg [] w0 w
def s_impl_compareLists (s_ : List Int) (t : List Int) : Option (Int) :=
  (iter (S := Int) (R := Int) (fun s25 =>
  (bif ((decide (s25 < (s_.length : Int))) && (decide (s25 < (t.length : Int)))) then (idx s_ s25).bind fun x42 =>
  (idx t s25).bind fun x44 =>
  (bif (x42 != x44) then (idx s_ s25).bind fun x48 =>
  (idx t s25).bind fun x50 =>
  (bif (decide (x48 < x50)) then some (.rt (-1)) else some (.rt 1)) else some (.nx (w64 (s25 + 1)))) else some (.br s25))) FU 0).bind fun o29 => after o29 (fun r_ => some r_) (fun s25 =>
  (bif (decide ((s_.length : Int) < (t.length : Int))) then some (-1) else (bif (decide ((t.length : Int) < (s_.length : Int))) then some 1 else some 0)))
set_option maxHeartbeats 4000000 in
theorem c_impl_compareLists {M : Nat → Prop} {w : World} {pa0 : Option Addr} {pn0 pc0 : Nat} {pa1 : Option Addr} {pn1 pc1 : Nat} (s_ : List Int) (t : List Int) (h0 : (RT.rs (RT.int .i64)).val M w (.slice pa0 pn0 pc0) s_ ([])) (h1 : (RT.rs (RT.int .i64)).val M w (.slice pa1 pn1 pc1) t ([])) (hM : ∀ g, w.heap.size ≤ g → M g) {r : Int} (hs : s_impl_compareLists s_ t = some r) :
    Gives Try.prog 136 [(.slice pa0 pn0 pc0), (.slice pa1 pn1 pc1)] w (fun v w' => v = (.int .i64 r) ∧ Chg [] w w') := by
 refine calls_fr Try.func136 rfl Try.ntmps136 (Nat.le_of_ble_eq_true rfl) ?_
 have hO := Own.start (N := Nw w []) hM Nw.fut
 have hC := Chg.refl [] w
 unfold s_impl_compareLists at hs
 refine wp_mono (Q := KPost (k_impl_compareLists M w r)) ?_ (fun e a b3 h => ?_)
 rotate_left
 ·cases e
  case ret =>
   obtain ⟨σ, rfl, hrest⟩ := h
   exact ret1x Try.results136 (res_tmp rfl) ⟨rfl, hrest⟩
  all_goals exact (h : False).elim
 refine c_sr ?_
 refine pl_val (.int .i64 0) (y_assign rfl) ?_
 refine c_nil ?_
 refine c_seq ?_
 refine c_sr ?_
 refine pl_val (.int .i64 0) (y_assign rfl) ?_
 refine c_nil ?_
 obtain ⟨o29, b4, hs⟩ := bind_some hs
 refine wp_block ?_
 refine wp_iter (id := 0) (I := fun s25 a a0 => ∃ (σ : Nat → Value), a = fr 48 (ovl σ [(0, (.slice pa0 pn0 pc0)), (1, (.slice pa1 pn1 pc1)), (5, (.int .i64 s25))]) ∧ Chg [] w a0 ∧ Own (Nw w []) M a0 ([]) ∧ (RT.rs (RT.int .i64)).val M a0 (.slice pa0 pn0 pc0) s_ ([]) ∧ (RT.rs (RT.int .i64)).val M a0 (.slice pa1 pn1 pc1) t ([])) (J := fun s25 a a0 => ∃ (σ : Nat → Value), a = fr 48 (ovl σ [(0, (.slice pa0 pn0 pc0)), (1, (.slice pa1 pn1 pc1))]) ∧ Chg [] w a0 ∧ Own (Nw w []) M a0 ([]) ∧ (RT.rs (RT.int .i64)).val M a0 (.slice pa0 pn0 pc0) s_ ([]) ∧ (RT.rs (RT.int .i64)).val M a0 (.slice pa1 pn1 pc1) t ([])) (K := (k_impl_compareLists M w)) ?_ FU 0 o29 _ _ ?_ b4 ?_
 ·rintro s25 o29 a a0 ⟨σ, rfl, hC, hO, h0, h1⟩ hs
  refine c_seq ?_
  refine c_seq ?_
  refine c_mid (I := fun a a4 => ∃ (σ : Nat → Value), a = fr 48 (ovl σ [(0, (.slice pa0 pn0 pc0)), (1, (.slice pa1 pn1 pc1)), (5, (.int .i64 s25)), (15, (.bool ((decide (s25 < (s_.length : Int))) && (decide (s25 < (t.length : Int))))))]) ∧ Chg [] a0 a4) ?_ ?_
  ·have hMid := Chg.refl [] a0
   refine c_region ?_
   refine pl_val (.int .i64 s25) (y_move rfl) ?_
   refine pl_val (.slice pa0 pn0 pc0) (y_move rfl) ?_
   refine pl_val (.int .i64 (s_.length : Int)) (y_len' Sl41 (rs_len h0) rfl) ?_
   refine pl_val (.bool (decide (s25 < (s_.length : Int)))) (y_lss rfl rfl) ?_
   refine pl_val (.bool (decide (s25 < (s_.length : Int)))) (y_move rfl) ?_
   rcases Bool.eq_false_or_eq_true ((decide (s25 < (s_.length : Int)))) with a1 | a1
   ·skip
    refine pl_yes (.int .i64 s25) (tg := 10) (by kernel_rfl) (congrArg Value.bool a1) (y_move rfl) ?_
    refine pl_yes (.slice pa1 pn1 pc1) (tg := 10) (by kernel_rfl) (congrArg Value.bool a1) (y_move rfl) ?_
    refine pl_yes (.int .i64 (t.length : Int)) (tg := 10) (by kernel_rfl) (congrArg Value.bool a1) (y_len' Sl41 (rs_len h1) rfl) ?_
    refine pl_yes (.bool (decide (s25 < (t.length : Int)))) (tg := 10) (by kernel_rfl) (congrArg Value.bool a1) (y_lss rfl rfl) ?_
    refine pl_val (.bool ((decide (s25 < (s_.length : Int))) && (decide (s25 < (t.length : Int))))) (y_pick_t (congrArg Value.bool a1) (congrArg Value.bool (by rw [a1]; rfl))) ?_
    refine c_nil ?_
    exact ⟨_, fr_ovl 48 ⟨rfl, rfl, rfl, rfl, trivial⟩, hMid⟩
   refine pl_not (tg := 10) (by kernel_rfl) (congrArg Value.bool a1) ?_
   refine pl_not (tg := 10) (by kernel_rfl) (congrArg Value.bool a1) ?_
   refine pl_not (tg := 10) (by kernel_rfl) (congrArg Value.bool a1) ?_
   refine pl_not (tg := 10) (by kernel_rfl) (congrArg Value.bool a1) ?_
   refine pl_val (.bool ((decide (s25 < (s_.length : Int))) && (decide (s25 < (t.length : Int))))) (y_pick_f (congrArg Value.bool a1) (congrArg Value.bool (by rw [a1]; rfl))) ?_
   refine c_nil ?_
   exact ⟨_, fr_ovl 48 ⟨rfl, rfl, rfl, rfl, trivial⟩, hMid⟩
  rintro b2 a4 ⟨σ, rfl, a5⟩
  have h0 := h0.ext a5
  have h1 := h1.ext a5
  have hC := hC.ext a5
  have hO := hO.ext a5
  rcases bif_some hs with ⟨a6, hs⟩ | ⟨a6, hs⟩
  ·refine c_condT (congrArg Value.bool a6) ?_
   refine wp_skip ?_
   refine c_seq ?_
   refine wp_block ?_
   refine c_seq ?_
   refine x_start [] Mx rfl ?_
   have a2 := Chg.drew a4
   generalize World.drew a4 = a7 at a2 ⊢
   have h0 := h0.ext a2
   have h1 := h1.ext a2
   have hC := hC.ext a2
   have hO := hO.ext a2
   have hS := Chg.refl [] a7
   refine x_p 0 (.slice pa0 pn0 pc0) rfl (by kernel_rfl)  (fun _ => y_move rfl) (fun _ => hS) ?_
   refine x_p 1 (.int .i64 s25) rfl (by kernel_rfl)  (fun _ => y_move rfl) (fun _ => hS) ?_
   obtain ⟨x42, b5, hs⟩ := bind_some hs
   obtain ⟨b6, b7, b8, b9⟩ := rs_idx Sl41 Sz3 h0 b5
   refine x_p 2 (.pointer (some ⟨b6, b7, none⟩)) rfl (by kernel_rfl)  (fun _ => b8 _ _ _ _ _ _ _ _ _ rfl rfl) (fun _ => hS) ?_
   refine x_l 3 (.int .i64 x42) rfl (by kernel_rfl)  (fun w' hw' => y_load rfl ((at_load_int Ag3 Sz3 b9) w' hw')) hS ?_
   refine x_p 4 (.slice pa1 pn1 pc1) rfl (by kernel_rfl)  (fun _ => y_move rfl) (fun _ => hS) ?_
   refine x_p 5 (.int .i64 s25) rfl (by kernel_rfl)  (fun _ => y_move rfl) (fun _ => hS) ?_
   obtain ⟨x44, c0, hs⟩ := bind_some hs
   obtain ⟨c1, c2, c3, c4⟩ := rs_idx Sl41 Sz3 h1 c0
   refine x_p 6 (.pointer (some ⟨c1, c2, none⟩)) rfl (by kernel_rfl)  (fun _ => c3 _ _ _ _ _ _ _ _ _ rfl rfl) (fun _ => hS) ?_
   refine x_l 7 (.int .i64 x44) rfl (by kernel_rfl)  (fun w' hw' => y_load rfl ((at_load_int Ag3 Sz3 c4) w' hw')) hS ?_
   refine x_p 8 (.bool (x42 != x44)) rfl (by kernel_rfl)  (fun _ => y_neq rfl rfl) (fun _ => hS) ?_
   refine x_end (by kernel_rfl) ?_
   clear hS
   rcases bif_some hs with ⟨a8, hs⟩ | ⟨a8, hs⟩
   ·refine c_condT (congrArg Value.bool a8) ?_
    refine c_seq ?_
    refine c_seq ?_
    refine x_start [] Mx rfl ?_
    have a3 := Chg.drew a7
    generalize World.drew a7 = c5 at a3 ⊢
    have h0 := h0.ext a3
    have h1 := h1.ext a3
    have hC := hC.ext a3
    have hO := hO.ext a3
    have hS := Chg.refl [] c5
    refine x_p 0 (.slice pa0 pn0 pc0) rfl (by kernel_rfl)  (fun _ => y_move rfl) (fun _ => hS) ?_
    refine x_p 1 (.int .i64 s25) rfl (by kernel_rfl)  (fun _ => y_move rfl) (fun _ => hS) ?_
    obtain ⟨x48, c6, hs⟩ := bind_some hs
    obtain ⟨c7, c8, c9, d0⟩ := rs_idx Sl41 Sz3 h0 c6
    refine x_p 2 (.pointer (some ⟨c7, c8, none⟩)) rfl (by kernel_rfl)  (fun _ => c9 _ _ _ _ _ _ _ _ _ rfl rfl) (fun _ => hS) ?_
    refine x_l 3 (.int .i64 x48) rfl (by kernel_rfl)  (fun w' hw' => y_load rfl ((at_load_int Ag3 Sz3 d0) w' hw')) hS ?_
    refine x_p 4 (.slice pa1 pn1 pc1) rfl (by kernel_rfl)  (fun _ => y_move rfl) (fun _ => hS) ?_
    refine x_p 5 (.int .i64 s25) rfl (by kernel_rfl)  (fun _ => y_move rfl) (fun _ => hS) ?_
    obtain ⟨x50, d1, hs⟩ := bind_some hs
    obtain ⟨d2, d3, d4, d5⟩ := rs_idx Sl41 Sz3 h1 d1
    refine x_p 6 (.pointer (some ⟨d2, d3, none⟩)) rfl (by kernel_rfl)  (fun _ => d4 _ _ _ _ _ _ _ _ _ rfl rfl) (fun _ => hS) ?_
    refine x_l 7 (.int .i64 x50) rfl (by kernel_rfl)  (fun w' hw' => y_load rfl ((at_load_int Ag3 Sz3 d5) w' hw')) hS ?_
    refine x_p 8 (.bool (decide (x48 < x50))) rfl (by kernel_rfl)  (fun _ => y_lss rfl rfl) (fun _ => hS) ?_
    refine x_end (by kernel_rfl) ?_
    clear hS
    rcases bif_some hs with ⟨a9, hs⟩ | ⟨a9, hs⟩
    ·refine c_condT (congrArg Value.bool a9) ?_
     refine c_sr ?_
     refine pl_val (.int .i64 (-1)) (y_assign rfl) ?_
     refine c_nil ?_
     refine wp_ret ?_
     cases hs
     exact ⟨_, fr_ovl 48 ⟨rfl, trivial⟩, hC⟩
    refine c_condF (congrArg Value.bool a9) ?_
    refine wp_skip ?_
    refine c_sr ?_
    refine pl_val (.int .i64 1) (y_assign rfl) ?_
    refine c_nil ?_
    refine wp_ret ?_
    cases hs
    exact ⟨_, fr_ovl 48 ⟨rfl, trivial⟩, hC⟩
   refine c_condF (congrArg Value.bool a8) ?_
   refine wp_skip ?_
   refine c_region ?_
   refine pl_val (.int .i64 s25) (y_move rfl) ?_
   refine pl_val (.int .i64 (w64 (s25 + 1))) (y_add rfl rfl) ?_
   refine pl_val (.int .i64 (w64 (s25 + 1))) (y_assign rfl) ?_
   refine c_nil ?_
   cases hs
   exact ⟨_, fr_ovl 48 ⟨rfl, rfl, rfl, trivial⟩, hC, hO, h0, h1⟩
  refine c_condF (congrArg Value.bool a6) ?_
  refine wp_exit ?_
  cases hs
  exact ⟨rfl, _, fr_ovl 48 ⟨rfl, rfl, trivial⟩, hC, hO, h0, h1⟩
 ·skip
  exact ⟨_, fr_ovl 48 ⟨rfl, rfl, rfl, trivial⟩, hC, hO, h0, h1⟩
 cases o29 with
 | nx _ => exact True.intro
 | rt r_ =>
  have hs := after_rt hs
  intro b2 b3 hK
  cases hs
  exact hK
 | br s25 =>
  have hs := after_br hs
  rintro b2 a0 ⟨σ, rfl, hC, hO, h0, h1⟩
  refine c_seq ?_
  refine wp_block ?_
  refine c_sr ?_
  refine pl_val (.slice pa0 pn0 pc0) (y_move rfl) ?_
  refine pl_val (.int .i64 (s_.length : Int)) (y_len' Sl41 (rs_len h0) rfl) ?_
  refine pl_val (.slice pa1 pn1 pc1) (y_move rfl) ?_
  refine pl_val (.int .i64 (t.length : Int)) (y_len' Sl41 (rs_len h1) rfl) ?_
  refine pl_val (.bool (decide ((s_.length : Int) < (t.length : Int)))) (y_lss rfl rfl) ?_
  refine pl_val (.bool (decide ((s_.length : Int) < (t.length : Int)))) (y_assign rfl) ?_
  refine c_nil ?_
  rcases bif_some hs with ⟨b0, hs⟩ | ⟨b0, hs⟩
  ·refine c_condT (congrArg Value.bool b0) ?_
   refine c_sr ?_
   refine pl_val (.int .i64 (-1)) (y_assign rfl) ?_
   refine c_nil ?_
   refine wp_ret ?_
   cases hs
   exact ⟨_, fr_ovl 48 ⟨rfl, trivial⟩, hC⟩
  refine c_condF (congrArg Value.bool b0) ?_
  refine c_sr ?_
  refine pl_val (.slice pa0 pn0 pc0) (y_move rfl) ?_
  refine pl_val (.int .i64 (s_.length : Int)) (y_len' Sl41 (rs_len h0) rfl) ?_
  refine pl_val (.slice pa1 pn1 pc1) (y_move rfl) ?_
  refine pl_val (.int .i64 (t.length : Int)) (y_len' Sl41 (rs_len h1) rfl) ?_
  refine pl_val (.bool (decide ((t.length : Int) < (s_.length : Int)))) (y_gtr rfl rfl) ?_
  refine pl_val (.bool (decide ((t.length : Int) < (s_.length : Int)))) (y_assign rfl) ?_
  refine c_nil ?_
  rcases bif_some hs with ⟨b1, hs⟩ | ⟨b1, hs⟩
  ·refine c_condT (congrArg Value.bool b1) ?_
   refine c_sr ?_
   refine pl_val (.int .i64 1) (y_assign rfl) ?_
   refine c_nil ?_
   refine wp_ret ?_
   cases hs
   exact ⟨_, fr_ovl 48 ⟨rfl, trivial⟩, hC⟩
  refine c_condF (congrArg Value.bool b1) ?_
  refine wp_skip ?_
  refine c_sr ?_
  refine pl_val (.int .i64 0) (y_assign rfl) ?_
  refine c_nil ?_
  refine wp_ret ?_
  cases hs
  exact ⟨_, fr_ovl 48 ⟨rfl, trivial⟩, hC⟩

theorem Bd71 : Bodied Try.prog 71 := bodied Try.func71 (by kernel_rfl) rfl

theorem Bd136 : Bodied Try.prog 136 := bodied Try.func136 (by kernel_rfl) rfl

def k_impl_isRelation (M : Nat → Prop) (w0 : World) (r : Bool) (a : Act) (w : World) : Prop :=
  ∃ (σ : Nat → Value) , a = fr 50 (ovl σ [(4, (.bool r))]) ∧ Chg [] w0 w
def s_impl_isRelation (n : Int) (r_ : Int × (List (List Int))) : Option (Bool) :=
  (bif ((decide (r_.1 < 1)) || (decide (3 < r_.1))) then some false else (forC (S := Unit) (R := Bool) (fun k26 s24 =>
  (idx r_.2 k26).bind fun x30 =>
  (bif ((x30.length : Int) != r_.1) then some (.rt false) else (s_impl_inSize x30 n).bind fun r36 =>
  (bif (!r36) then some (.rt false) else (bif (decide (0 < k26)) then (idx r_.2 (w64 (k26 - 1))).bind fun x39 =>
  (s_impl_compareLists x39 x30).bind fun r44 =>
  (bif (decide (0 ≤ r44)) then some (.rt false) else some (.nx ())) else some (.nx ()))))) 0 (r_.2.length : Int) ()).bind fun o28 => after o28 (fun r_ => some r_) (fun s24 =>
  some true))
set_option maxHeartbeats 4000000 in
theorem c_impl_isRelation {M : Nat → Prop} {w : World} {pa0 : Option Addr} {pn0 pc0 : Nat} (n : Int) (r_ : Int × (List (List Int))) (h0 : (RT.rs (RT.rs (RT.int .i64))).val M w (.slice pa0 pn0 pc0) r_.2 ([])) (hM : ∀ g, w.heap.size ≤ g → M g) {r : Bool} (hs : s_impl_isRelation n r_ = some r) :
    Gives Try.prog 118 [(.int .i64 n), (.agg #[(.int .i64 r_.1), (.slice pa0 pn0 pc0)])] w (fun v w' => v = (.bool r) ∧ Chg [] w w') := by
 refine calls_fr Try.func118 rfl Try.ntmps118 (Nat.le_of_ble_eq_true rfl) ?_
 have hO := Own.start (N := Nw w []) hM Nw.fut
 have hC := Chg.refl [] w
 unfold s_impl_isRelation at hs
 refine wp_mono (Q := KPost (k_impl_isRelation M w r)) ?_ (fun e a c2 h => ?_)
 rotate_left
 ·cases e
  case ret =>
   obtain ⟨σ, rfl, hrest⟩ := h
   exact ret1x Try.results118 (res_tmp rfl) ⟨rfl, hrest⟩
  all_goals exact (h : False).elim
 refine c_sr ?_
 obtain ⟨b5, a3, c3, b9, b6, a1⟩ := new_block w [(.int .i64 r_.1), (.slice pa0 pn0 pc0)] 54
 refine pl_val (w' := b5) (.pointer (some ⟨a3, 0, none⟩)) (y_box rfl (by rw [c3, b9]; kernel_rfl)) ?_
 have h0 := h0.ext b6
 have hC := hC.ext b6
 have hO := hO.new1 b6 b9 a1.lt
 refine pl_val (.bool false) (y_assign rfl) ?_
 refine c_nil ?_
 refine c_seq ?_
 refine c_seq ?_
 refine c_mid (I := fun a c0 => ∃ (σ : Nat → Value), a = fr 50 (ovl σ [(0, (.int .i64 n)), (3, (.pointer (some ⟨a3, 0, none⟩))), (4, (.bool false)), (14, (.bool ((decide (r_.1 < 1)) || (decide (3 < r_.1)))))]) ∧ Chg [] b5 c0) ?_ ?_
 ·have hMid := Chg.refl [] b5
  refine c_region ?_
  refine pl_val (.pointer (some ⟨a3, 0, none⟩)) (y_faddr rfl Fa54x0) ?_
  refine pl_val (.int .i64 r_.1) (y_load rfl ((box_load Ag3 Sz3 a1 [] [(.int .i64 r_.1)] [(.slice pa0 pn0 pc0)] rfl rfl (fun _ => rfl)) _ (Chg.refl _ _))) ?_
  refine pl_val (.bool (decide (r_.1 < 1))) (y_lss rfl rfl) ?_
  refine pl_val (.bool (decide (r_.1 < 1))) (y_move rfl) ?_
  rcases Bool.eq_false_or_eq_true ((decide (r_.1 < 1))) with a5 | a5
  ·skip
   refine pl_not (tg := 10) (by kernel_rfl) (congrArg Value.bool a5) ?_
   refine pl_not (tg := 10) (by kernel_rfl) (congrArg Value.bool a5) ?_
   refine pl_not (tg := 10) (by kernel_rfl) (congrArg Value.bool a5) ?_
   refine pl_val (.bool ((decide (r_.1 < 1)) || (decide (3 < r_.1)))) (y_pick_t (congrArg Value.bool a5) (congrArg Value.bool (by rw [a5]; rfl))) ?_
   refine c_nil ?_
   exact ⟨_, fr_ovl 50 ⟨rfl, rfl, rfl, rfl, trivial⟩, hMid⟩
  refine pl_yes (.pointer (some ⟨a3, 0, none⟩)) (tg := 10) (by kernel_rfl) (congrArg Value.bool a5) (y_faddr rfl Fa54x0) ?_
  refine pl_yes (.int .i64 r_.1) (tg := 10) (by kernel_rfl) (congrArg Value.bool a5) (y_load rfl ((box_load Ag3 Sz3 a1 [] [(.int .i64 r_.1)] [(.slice pa0 pn0 pc0)] rfl rfl (fun _ => rfl)) _ (Chg.refl _ _))) ?_
  refine pl_yes (.bool (decide (3 < r_.1))) (tg := 10) (by kernel_rfl) (congrArg Value.bool a5) (y_gtr rfl rfl) ?_
  refine pl_val (.bool ((decide (r_.1 < 1)) || (decide (3 < r_.1)))) (y_pick_f (congrArg Value.bool a5) (congrArg Value.bool (by rw [a5]; rfl))) ?_
  refine c_nil ?_
  exact ⟨_, fr_ovl 50 ⟨rfl, rfl, rfl, rfl, trivial⟩, hMid⟩
 rintro c1 c0 ⟨σ, rfl, b3⟩
 have h0 := h0.ext b3
 have a1 := a1.cn b3
 have hC := hC.ext b3
 have hO := hO.ext b3
 rcases bif_some hs with ⟨b7, hs⟩ | ⟨b7, hs⟩
 ·refine c_condT (congrArg Value.bool b7) ?_
  refine c_sr ?_
  refine pl_val (.bool false) (y_assign rfl) ?_
  refine c_nil ?_
  refine wp_ret ?_
  cases hs
  exact ⟨_, fr_ovl 50 ⟨rfl, trivial⟩, hC⟩
 refine c_condF (congrArg Value.bool b7) ?_
 refine wp_skip ?_
 refine c_seq ?_
 refine c_sr ?_
 refine pl_val (.pointer (some ⟨a3, 1, none⟩)) (y_faddr rfl Fa54x1) ?_
 refine pl_val (.slice pa0 pn0 pc0) (y_load rfl ((box_load Ag47 Sz47 a1 [(.int .i64 r_.1)] [(.slice pa0 pn0 pc0)] [] rfl rfl (fun _ => rfl)) _ (Chg.refl _ _))) ?_
 refine pl_val (.int .i64 (r_.2.length : Int)) (y_len' Sl47 (rs_len h0) rfl) ?_
 refine pl_val (.int .i64 0) (y_move rfl) ?_
 refine c_nil ?_
 obtain ⟨o28, c4, hs⟩ := bind_some hs
 refine wp_block ?_
 refine wp_forC (id := 0) (r_.2.length : Int) (I := fun k26 s24 a a4 => ∃ (σ : Nat → Value), a = fr 50 (ovl σ [(0, (.int .i64 n)), (3, (.pointer (some ⟨a3, 0, none⟩))), (16, (.slice pa0 pn0 pc0)), (17, (.int .i64 (r_.2.length : Int))), (18, (.int .i64 k26))]) ∧ Chg [] w a4 ∧ Own (Nw w []) M a4 (([a3]) ++ []) ∧ (RT.rs (RT.rs (RT.int .i64))).val M a4 (.slice pa0 pn0 pc0) r_.2 ([]) ∧ BoxV a4 a3 54 [(.int .i64 r_.1), (.slice pa0 pn0 pc0)]) (J := fun s24 a a4 => ∃ (σ : Nat → Value), a = fr 50 (ovl σ []) ∧ Chg [] w a4 ∧ Own (Nw w []) M a4 (([a3]) ++ []) ∧ (RT.rs (RT.rs (RT.int .i64))).val M a4 (.slice pa0 pn0 pc0) r_.2 ([]) ∧ BoxV a4 a3 54 [(.int .i64 r_.1), (.slice pa0 pn0 pc0)]) (K := (k_impl_isRelation M w)) ?_ ?_ 0 () o28 _ _ ?_ c4 ?_
 ·rintro k26 s24 a a4 ⟨σ, rfl, hC, hO, h0, a1⟩ hlt
  refine c_sr ?_
  refine pl_val (.bool (decide (k26 < (r_.2.length : Int)))) (y_lss rfl rfl) ?_
  refine c_nil ?_
  refine c_seq ?_
  refine c_condF (congrArg Value.bool (decide_eq_false hlt)) ?_
  refine wp_exit ?_
  exact ⟨rfl, _, fr_ovl 50 trivial, hC, hO, h0, a1⟩
 ·rintro k26 s24 o28 a a4 ⟨σ, rfl, hC, hO, h0, a1⟩ hlt hw hs
  refine c_sr ?_
  refine pl_val (.bool (decide (k26 < (r_.2.length : Int)))) (y_lss rfl rfl) ?_
  refine c_nil ?_
  refine c_seq ?_
  refine c_condT (congrArg Value.bool (decide_eq_true hlt)) ?_
  refine wp_skip ?_
  refine c_seq ?_
  refine wp_block ?_
  refine c_sr ?_
  refine pl_val (.int .i64 k26) (y_move rfl) ?_
  obtain ⟨x30, c5, hs⟩ := bind_some hs
  obtain ⟨c6, c7, c8, c9⟩ := rs_idx Sl47 Sz41 h0 c5
  refine pl_val (.pointer (some ⟨c6, c7, none⟩)) (c8 _ _ _ _ _ _ _ _ _ rfl rfl) ?_
  obtain ⟨e2, d0, a7⟩ := at_load Ag41 Sz41 (fun _ => rfl) c9
  obtain ⟨a9, b0, b1, rfl⟩ := rs_sl a7
  refine pl_val (.slice a9 b0 b1) (y_load rfl (d0 _ (Chg.refl _ _))) ?_
  refine pl_val (.int .i64 k26) (y_assign rfl) ?_
  refine pl_val (.slice a9 b0 b1) (y_assign rfl) ?_
  refine c_nil ?_
  refine c_sr ?_
  refine pl_val (.slice a9 b0 b1) (y_move rfl) ?_
  refine pl_val (.int .i64 (x30.length : Int)) (y_len' Sl41 (rs_len a7) rfl) ?_
  refine pl_val (.pointer (some ⟨a3, 0, none⟩)) (y_faddr rfl Fa54x0) ?_
  refine pl_val (.int .i64 r_.1) (y_load rfl ((box_load Ag3 Sz3 a1 [] [(.int .i64 r_.1)] [(.slice pa0 pn0 pc0)] rfl rfl (fun _ => rfl)) _ (Chg.refl _ _))) ?_
  refine pl_val (.bool ((x30.length : Int) != r_.1)) (y_neq rfl rfl) ?_
  refine pl_val (.bool ((x30.length : Int) != r_.1)) (y_move rfl) ?_
  rcases bif_some hs with ⟨a6, hs⟩ | ⟨a6, hs⟩
  ·skip
   refine pl_not (tg := 28) (by kernel_rfl) (congrArg Value.bool a6) ?_
   refine pl_not (tg := 28) (by kernel_rfl) (congrArg Value.bool a6) ?_
   refine pl_not (tg := 28) (by kernel_rfl) (congrArg Value.bool a6) ?_
   refine pl_not (tg := 28) (by kernel_rfl) (congrArg Value.bool a6) ?_
   refine pl_val (.bool true) (y_pick_t (congrArg Value.bool a6) rfl) ?_
   refine pl_val (.bool true) (y_move rfl) ?_
   refine pl_not (tg := 34) (by kernel_rfl) (by rfl) ?_
   refine pl_not (tg := 34) (by kernel_rfl) (by rfl) ?_
   refine pl_not (tg := 34) (by kernel_rfl) (by rfl) ?_
   refine pl_nou (tg := 37) (by kernel_rfl) rfl ?_
   refine pl_nou (tg := 37) (by kernel_rfl) rfl ?_
   refine pl_nou (tg := 37) (by kernel_rfl) rfl ?_
   refine pl_nou (tg := 37) (by kernel_rfl) rfl ?_
   refine pl_nou (tg := 37) (by kernel_rfl) rfl ?_
   refine pl_nou (tg := 37) (by kernel_rfl) rfl ?_
   refine pl_nou (tg := 37) (by kernel_rfl) rfl ?_
   refine pl_nou (tg := 37) (by kernel_rfl) rfl ?_
   refine pl_nou (tg := 37) (by kernel_rfl) rfl ?_
   refine pl_not (tg := 34) (by kernel_rfl) (by rfl) ?_
   refine pl_val (.bool true) (y_pick_t (by rfl) rfl) ?_
   refine c_nil ?_
   refine c_condT (by rfl) ?_
   refine c_sr ?_
   refine pl_val (.bool false) (y_assign rfl) ?_
   refine c_nil ?_
   refine wp_ret ?_
   cases hs
   exact ⟨_, fr_ovl 50 ⟨rfl, trivial⟩, hC⟩
  refine pl_yes (.slice a9 b0 b1) (tg := 28) (by kernel_rfl) (congrArg Value.bool a6) (y_move rfl) ?_
  refine pl_yes (.int .i64 n) (tg := 28) (by kernel_rfl) (congrArg Value.bool a6) (y_move rfl) ?_
  obtain ⟨r36, d1, hs⟩ := bind_some hs
  refine pl_cally (tg := 28) (by kernel_rfl) (congrArg Value.bool a6) Bd71 rfl (c_impl_inSize (M := M) x30 n a7 hO.fut d1) ?_
  rintro _ e3 ⟨rfl, b2⟩
  have h0 := h0.ext b2
  have a1 := a1.cn b2
  have a7 := a7.ext b2
  have hC := hC.ext b2
  have hO := hO.ext b2
  refine pl_yes (.bool (!r36)) (tg := 28) (by kernel_rfl) (congrArg Value.bool a6) (y_not rfl) ?_
  refine pl_val (.bool (!r36)) (y_pick_f (congrArg Value.bool a6) rfl) ?_
  refine pl_val (.bool (!r36)) (y_move rfl) ?_
  rcases bif_some hs with ⟨a2, hs⟩ | ⟨a2, hs⟩
  ·skip
   refine pl_not (tg := 34) (by kernel_rfl) (congrArg Value.bool a2) ?_
   refine pl_not (tg := 34) (by kernel_rfl) (congrArg Value.bool a2) ?_
   refine pl_not (tg := 34) (by kernel_rfl) (congrArg Value.bool a2) ?_
   refine pl_nou (tg := 37) (by kernel_rfl) rfl ?_
   refine pl_nou (tg := 37) (by kernel_rfl) rfl ?_
   refine pl_nou (tg := 37) (by kernel_rfl) rfl ?_
   refine pl_nou (tg := 37) (by kernel_rfl) rfl ?_
   refine pl_nou (tg := 37) (by kernel_rfl) rfl ?_
   refine pl_nou (tg := 37) (by kernel_rfl) rfl ?_
   refine pl_nou (tg := 37) (by kernel_rfl) rfl ?_
   refine pl_nou (tg := 37) (by kernel_rfl) rfl ?_
   refine pl_nou (tg := 37) (by kernel_rfl) rfl ?_
   refine pl_not (tg := 34) (by kernel_rfl) (congrArg Value.bool a2) ?_
   refine pl_val (.bool true) (y_pick_t (congrArg Value.bool a2) rfl) ?_
   refine c_nil ?_
   refine c_condT (by rfl) ?_
   refine c_sr ?_
   refine pl_val (.bool false) (y_assign rfl) ?_
   refine c_nil ?_
   refine wp_ret ?_
   cases hs
   exact ⟨_, fr_ovl 50 ⟨rfl, trivial⟩, hC⟩
  refine pl_yes (.int .i64 k26) (tg := 34) (by kernel_rfl) (congrArg Value.bool a2) (y_move rfl) ?_
  refine pl_yes (.bool (decide (0 < k26))) (tg := 34) (by kernel_rfl) (congrArg Value.bool a2) (y_gtr rfl rfl) ?_
  refine pl_yes (.bool (decide (0 < k26))) (tg := 34) (by kernel_rfl) (congrArg Value.bool a2) (y_move rfl) ?_
  rcases bif_some hs with ⟨a0, hs⟩ | ⟨a0, hs⟩
  ·skip
   refine pl_yes (.pointer (some ⟨a3, 1, none⟩)) (tg := 37) (by kernel_rfl) (congrArg Value.bool a0) (y_faddr rfl Fa54x1) ?_
   refine pl_yes (.slice pa0 pn0 pc0) (tg := 37) (by kernel_rfl) (congrArg Value.bool a0) (y_load rfl ((box_load Ag47 Sz47 a1 [(.int .i64 r_.1)] [(.slice pa0 pn0 pc0)] [] rfl rfl (fun _ => rfl)) _ (Chg.refl _ _))) ?_
   refine pl_yes (.int .i64 k26) (tg := 37) (by kernel_rfl) (congrArg Value.bool a0) (y_move rfl) ?_
   refine pl_yes (.int .i64 (w64 (k26 - 1))) (tg := 37) (by kernel_rfl) (congrArg Value.bool a0) (y_sub rfl rfl) ?_
   obtain ⟨x39, d2, hs⟩ := bind_some hs
   obtain ⟨d3, d4, d5, d6⟩ := rs_idx Sl47 Sz41 h0 d2
   refine pl_yes (.pointer (some ⟨d3, d4, none⟩)) (tg := 37) (by kernel_rfl) (congrArg Value.bool a0) (d5 _ _ _ _ _ _ _ _ _ rfl rfl) ?_
   obtain ⟨e4, d7, b4⟩ := at_load Ag41 Sz41 (fun _ => rfl) d6
   obtain ⟨d8, d9, e0, rfl⟩ := rs_sl b4
   refine pl_yes (.slice d8 d9 e0) (tg := 37) (by kernel_rfl) (congrArg Value.bool a0) (y_load rfl (d7 _ (Chg.refl _ _))) ?_
   refine pl_yes (.slice a9 b0 b1) (tg := 37) (by kernel_rfl) (congrArg Value.bool a0) (y_move rfl) ?_
   obtain ⟨r44, e1, hs⟩ := bind_some hs
   refine pl_cally (tg := 37) (by kernel_rfl) (congrArg Value.bool a0) Bd136 rfl (c_impl_compareLists (M := M) x39 x30 b4 a7 hO.fut e1) ?_
   rintro _ e5 ⟨rfl, a8⟩
   have h0 := h0.ext a8
   have a1 := a1.cn a8
   have a7 := a7.ext a8
   have b4 := b4.ext a8
   have hC := hC.ext a8
   have hO := hO.ext a8
   refine pl_yes (.bool (decide (0 ≤ r44))) (tg := 37) (by kernel_rfl) (congrArg Value.bool a0) (y_geq rfl rfl) ?_
   refine pl_yes (.bool (decide (0 ≤ r44))) (tg := 34) (by kernel_rfl) (congrArg Value.bool a2) (y_pick_t (congrArg Value.bool a0) rfl) ?_
   refine pl_val (.bool (decide (0 ≤ r44))) (y_pick_f (congrArg Value.bool a2) rfl) ?_
   refine c_nil ?_
   rcases bif_some hs with ⟨b8, hs⟩ | ⟨b8, hs⟩
   ·refine c_condT (congrArg Value.bool b8) ?_
    refine c_sr ?_
    refine pl_val (.bool false) (y_assign rfl) ?_
    refine c_nil ?_
    refine wp_ret ?_
    cases hs
    exact ⟨_, fr_ovl 50 ⟨rfl, trivial⟩, hC⟩
   refine c_condF (congrArg Value.bool b8) ?_
   refine wp_skip ?_
   refine c_region ?_
   refine pl_val (.int .i64 (w64 (k26 + 1))) (y_add rfl rfl) ?_
   refine pl_val (.int .i64 (w64 (k26 + 1))) (y_move rfl) ?_
   refine c_nil ?_
   cases hs
   exact ⟨_, fr_ovl 50 ⟨rfl, rfl, rfl, rfl, congrArg (Value.int .i64) hw, trivial⟩, hC, hO, h0, a1⟩
  refine pl_not (tg := 37) (by kernel_rfl) (congrArg Value.bool a0) ?_
  refine pl_not (tg := 37) (by kernel_rfl) (congrArg Value.bool a0) ?_
  refine pl_not (tg := 37) (by kernel_rfl) (congrArg Value.bool a0) ?_
  refine pl_not (tg := 37) (by kernel_rfl) (congrArg Value.bool a0) ?_
  refine pl_not (tg := 37) (by kernel_rfl) (congrArg Value.bool a0) ?_
  refine pl_not (tg := 37) (by kernel_rfl) (congrArg Value.bool a0) ?_
  refine pl_not (tg := 37) (by kernel_rfl) (congrArg Value.bool a0) ?_
  refine pl_not (tg := 37) (by kernel_rfl) (congrArg Value.bool a0) ?_
  refine pl_not (tg := 37) (by kernel_rfl) (congrArg Value.bool a0) ?_
  refine pl_yes (.bool false) (tg := 34) (by kernel_rfl) (congrArg Value.bool a2) (y_pick_f (congrArg Value.bool a0) rfl) ?_
  refine pl_val (.bool false) (y_pick_f (congrArg Value.bool a2) rfl) ?_
  refine c_nil ?_
  refine c_condF (by rfl) ?_
  refine wp_skip ?_
  refine c_region ?_
  refine pl_val (.int .i64 (w64 (k26 + 1))) (y_add rfl rfl) ?_
  refine pl_val (.int .i64 (w64 (k26 + 1))) (y_move rfl) ?_
  refine c_nil ?_
  cases hs
  exact ⟨_, fr_ovl 50 ⟨rfl, rfl, rfl, rfl, congrArg (Value.int .i64) hw, trivial⟩, hC, hO, h0, a1⟩
 ·skip
  exact ⟨_, fr_ovl 50 ⟨rfl, rfl, rfl, rfl, rfl, trivial⟩, hC, hO, h0, a1⟩
 cases o28 with
 | nx _ => exact True.intro
 | rt r_ =>
  have hs := after_rt hs
  intro c1 c2 hK
  cases hs
  exact hK
 | br s24 =>
  have hs := after_br hs
  rintro c1 a4 ⟨σ, rfl, hC, hO, h0, a1⟩
  refine c_sr ?_
  refine pl_val (.bool true) (y_assign rfl) ?_
  refine c_nil ?_
  refine wp_ret ?_
  cases hs
  exact ⟨_, fr_ovl 50 ⟨rfl, trivial⟩, hC⟩

theorem Bd118 : Bodied Try.prog 118 := bodied Try.func118 (by kernel_rfl) rfl

def k_impl_isTemplate (M : Nat → Prop) (w0 : World) (r : Bool) (a : Act) (w : World) : Prop :=
  ∃ (σ : Nat → Value) , a = fr 21 (ovl σ [(4, (.bool r))]) ∧ Chg [] w0 w
def s_impl_isTemplate (n : Int) (rels : List (Int × (List (List Int)))) : Option (Bool) :=
  (bif (decide (4 < (rels.length : Int))) then some false else (forR (S := Unit) (R := Bool) (fun _ x14 s11 =>
  (s_impl_isRelation n (x14.1, x14.2)).bind fun r23 =>
  (bif (!r23) then some (.rt false) else some (.nx ()))) 0 rels ()).bind fun o15 => after o15 (fun r_ => some r_) (fun s11 =>
  some true))
set_option maxHeartbeats 4000000 in
theorem c_impl_isTemplate {M : Nat → Prop} {w : World} {pa0 : Option Addr} {pn0 pc0 : Nat} (n : Int) (rels : List (Int × (List (List Int)))) (h0 : (RT.rs (RT.pr (RT.int .i64) (RT.rs (RT.rs (RT.int .i64))))).val M w (.slice pa0 pn0 pc0) rels ([])) (hM : ∀ g, w.heap.size ≤ g → M g) {r : Bool} (hs : s_impl_isTemplate n rels = some r) :
    Gives Try.prog 110 [(.int .i64 n), (.slice pa0 pn0 pc0)] w (fun v w' => v = (.bool r) ∧ Chg [] w w') := by
 refine calls_fr Try.func110 rfl Try.ntmps110 (Nat.le_of_ble_eq_true rfl) ?_
 have hO := Own.start (N := Nw w []) hM Nw.fut
 have hC := Chg.refl [] w
 unfold s_impl_isTemplate at hs
 refine wp_mono (Q := KPost (k_impl_isTemplate M w r)) ?_ (fun e a b6 h => ?_)
 rotate_left
 ·cases e
  case ret =>
   obtain ⟨σ, rfl, hrest⟩ := h
   exact ret1x Try.results110 (res_tmp rfl) ⟨rfl, hrest⟩
  all_goals exact (h : False).elim
 refine c_sr ?_
 refine pl_val (.bool false) (y_assign rfl) ?_
 refine c_nil ?_
 refine c_seq ?_
 refine c_sr ?_
 refine pl_val (.slice pa0 pn0 pc0) (y_move rfl) ?_
 refine pl_val (.int .i64 (rels.length : Int)) (y_len' Sl37 (rs_len h0) rfl) ?_
 refine pl_val (.bool (decide (4 < (rels.length : Int)))) (y_gtr rfl rfl) ?_
 refine c_nil ?_
 rcases bif_some hs with ⟨b0, hs⟩ | ⟨b0, hs⟩
 ·refine c_condT (congrArg Value.bool b0) ?_
  refine c_sr ?_
  refine pl_val (.bool false) (y_assign rfl) ?_
  refine c_nil ?_
  refine wp_ret ?_
  cases hs
  exact ⟨_, fr_ovl 21 ⟨rfl, trivial⟩, hC⟩
 refine c_condF (congrArg Value.bool b0) ?_
 refine wp_skip ?_
 refine c_seq ?_
 refine c_sr ?_
 refine pl_val (.slice pa0 pn0 pc0) (y_move rfl) ?_
 refine pl_val (.int .i64 (rels.length : Int)) (y_len' Sl37 (rs_len h0) rfl) ?_
 refine pl_val (.int .i64 0) (y_move rfl) ?_
 refine c_nil ?_
 obtain ⟨o15, b7, hs⟩ := bind_some hs
 refine wp_block ?_
 refine wp_forR (id := 0) (I := fun i_ xs_ s11 a a0 => ∃ a1 : Nat, i_ = (a1 : Int) ∧ List.drop a1 rels = xs_ ∧ (∃ (σ : Nat → Value), a = fr 21 (ovl σ [(0, (.int .i64 n)), (10, (.slice pa0 pn0 pc0)), (11, (.int .i64 (rels.length : Int))), (12, (.int .i64 (a1 : Int)))]) ∧ Chg [] w a0 ∧ Own (Nw w []) M a0 ([]) ∧ (RT.rs (RT.pr (RT.int .i64) (RT.rs (RT.rs (RT.int .i64))))).val M a0 (.slice pa0 pn0 pc0) rels ([]))) (J := fun s11 a a0 => ∃ (σ : Nat → Value), a = fr 21 (ovl σ []) ∧ Chg [] w a0 ∧ Own (Nw w []) M a0 ([]) ∧ (RT.rs (RT.pr (RT.int .i64) (RT.rs (RT.rs (RT.int .i64))))).val M a0 (.slice pa0 pn0 pc0) rels ([])) (K := (k_impl_isTemplate M w)) ?_ ?_ rels 0 () o15 _ _ ?_ b7 ?_
 ·rintro _ s11 a a0 ⟨a1, rfl, hd, σ, rfl, hC, hO, h0⟩
  have hlt := drop_nil_ge hd
  refine c_sr ?_
  refine pl_val (.bool (decide ((a1 : Int) < (rels.length : Int)))) (y_lss rfl rfl) ?_
  refine c_nil ?_
  refine c_seq ?_
  refine c_condF (congrArg Value.bool (decide_eq_false hlt)) ?_
  refine wp_exit ?_
  exact ⟨rfl, _, fr_ovl 21 trivial, hC, hO, h0⟩
 ·rintro _ x14 xs_ s11 o15 a a0 ⟨a1, rfl, hd, σ, rfl, hC, hO, h0⟩ hs
  have hlt := drop_cons_lt hd
  have b8 := drop_cons_idx hd
  refine c_sr ?_
  refine pl_val (.bool (decide ((a1 : Int) < (rels.length : Int)))) (y_lss rfl rfl) ?_
  refine c_nil ?_
  refine c_seq ?_
  refine c_condT (congrArg Value.bool (decide_eq_true hlt)) ?_
  refine wp_skip ?_
  refine c_seq ?_
  refine wp_block ?_
  refine c_sr ?_
  obtain ⟨b9, c0, c1, c2⟩ := rs_idx Sl37 Sz54 h0 b8
  refine pl_val (.pointer (some ⟨b9, c0, none⟩)) (c1 _ _ _ _ _ _ _ _ _ rfl rfl) ?_
  obtain ⟨d3, c3, c4⟩ := at_load Ag54 Sz54 (by intro h; cases h) c2
  obtain ⟨d4, rfl, c5⟩ := c4
  obtain ⟨d5, d6, rfl, c6, c7⟩ := pr_open c5
  obtain rfl := int_rel c6
  obtain ⟨a3, a4, a5, rfl, a2⟩ := rs_rel c7
  refine pl_val (.agg #[(.int .i64 x14.1), (.slice a3 a4 a5)]) (y_load rfl (c3 _ (Chg.refl _ _))) ?_
  obtain ⟨c8, b2, c9, b3, a8, b4⟩ := new_block a0 [(.int .i64 0), (.slice none 0 0)] 54
  refine pl_val (w' := c8) (.pointer (some ⟨b2, 0, none⟩)) (y_alloc (by rw [c9, b3]; kernel_rfl)) ?_
  have h0 := h0.ext a8
  have a2 := a2.ext a8
  have hC := hC.ext a8
  have hO := hO.new1 a8 b3 b4.lt
  obtain ⟨b5, d0, a9, a6⟩ := box_store (P := Try.prog) b4 [] [(.int .i64 0), (.slice none 0 0)] [] [(.int .i64 x14.1), (.slice a3 a4 a5)] rfl rfl (by intro u hu; simp only [List.mem_cons, List.not_mem_nil, or_false] at hu; rcases hu with rfl | rfl <;> rfl)
  refine pl_skip (w' := b5) (ys_store rfl rfl (d0 _ _ rfl Sz54)) ?_
  have h0 := h0.mt a9 hO same_
  have a2 := a2.mt a9 hO same_
  have hC := hC.st a9 hO same_
  have hO := hO.ext a9
  have a6 : BoxV b5 b2 54 [(.int .i64 x14.1), (.slice a3 a4 a5)] := a6
  refine c_nil ?_
  refine c_sr ?_
  refine pl_val (.int .i64 n) (y_move rfl) ?_
  refine pl_val (.agg #[(.int .i64 x14.1), (.slice a3 a4 a5)]) (y_load rfl ((box_load Ag54 Sz54 a6 [] [(.int .i64 x14.1), (.slice a3 a4 a5)] [] rfl rfl (fun h => nomatch h)) _ (Chg.refl _ _))) ?_
  obtain ⟨r23, d1, hs⟩ := bind_some hs
  refine pl_call Bd118 rfl (c_impl_isRelation (M := M) n (x14.1, x14.2) a2 hO.fut d1) ?_
  rintro _ d7 ⟨rfl, a7⟩
  have h0 := h0.ext a7
  have a2 := a2.ext a7
  have a6 := a6.cn a7
  have hC := hC.ext a7
  have hO := hO.ext a7
  refine pl_val (.bool (!r23)) (y_not rfl) ?_
  refine c_nil ?_
  rcases bif_some hs with ⟨b1, hs⟩ | ⟨b1, hs⟩
  ·refine c_condT (congrArg Value.bool b1) ?_
   refine c_sr ?_
   refine pl_val (.bool false) (y_assign rfl) ?_
   refine c_nil ?_
   refine wp_ret ?_
   cases hs
   exact ⟨_, fr_ovl 21 ⟨rfl, trivial⟩, hC⟩
  refine c_condF (congrArg Value.bool b1) ?_
  refine wp_skip ?_
  refine c_region ?_
  refine pl_val (.int .i64 (w64 ((a1 : Int) + 1))) (y_add rfl rfl) ?_
  refine pl_val (.int .i64 (w64 ((a1 : Int) + 1))) (y_move rfl) ?_
  refine c_nil ?_
  cases hs
  have hO := hO.drop
  exact ⟨_, rfl, drop_cons_next hd, _, fr_ovl 21 ⟨rfl, rfl, rfl, congrArg (Value.int .i64) (w64_succ hlt (Int.natCast_nonneg _) (rs_max h0)), trivial⟩, hC, hO, h0⟩
 ·skip
  exact ⟨0, rfl, rfl, _, fr_ovl 21 ⟨rfl, rfl, rfl, rfl, trivial⟩, hC, hO, h0⟩
 cases o15 with
 | nx _ => exact True.intro
 | rt r_ =>
  have hs := after_rt hs
  intro d2 b6 hK
  cases hs
  exact hK
 | br s11 =>
  have hs := after_br hs
  rintro d2 a0 ⟨σ, rfl, hC, hO, h0⟩
  refine c_sr ?_
  refine pl_val (.bool true) (y_assign rfl) ?_
  refine c_nil ?_
  refine wp_ret ?_
  cases hs
  exact ⟨_, fr_ovl 21 ⟨rfl, trivial⟩, hC⟩

theorem Bd103 : Bodied Try.prog 103 := bodied Try.func103 (by kernel_rfl) rfl

theorem Bd110 : Bodied Try.prog 110 := bodied Try.func110 (by kernel_rfl) rfl

def k_impl_canAsk (M : Nat → Prop) (w0 : World) (r : Bool) (a : Act) (w : World) : Prop :=
  ∃ (σ : Nat → Value) , a = fr 33 (ovl σ [(6, (.bool r))]) ∧ Chg [] w0 w
def s_impl_canAsk (n : Int) (rels : List (Int × (List (List Int)))) (k : Int) : Option (Bool) :=
  ((s_impl_isTemplateSize n).bind fun r6 =>
  (bif (!r6) then some true else (s_impl_isTemplate n rels).bind fun r9 =>
  some (!r9))).bind fun s2 =>
  (bif s2 then some false else (forR (S := Unit) (R := Bool) (fun _ x21 s18 =>
  (bif (k == 3) then (bif (decide (12 < (x21.2.length : Int))) then some (.rt false) else some (.nx ())) else some (.nx ()))) 0 rels ()).bind fun o22 => after o22 (fun r_ => some r_) (fun s18 =>
  some true))
set_option maxHeartbeats 4000000 in
theorem c_impl_canAsk {M : Nat → Prop} {w : World} {pa0 : Option Addr} {pn0 pc0 : Nat} (n : Int) (rels : List (Int × (List (List Int)))) (k : Int) (h0 : (RT.rs (RT.pr (RT.int .i64) (RT.rs (RT.rs (RT.int .i64))))).val M w (.slice pa0 pn0 pc0) rels ([])) (hM : ∀ g, w.heap.size ≤ g → M g) {r : Bool} (hs : s_impl_canAsk n rels k = some r) :
    Gives Try.prog 60 [(.int .i64 n), (.slice pa0 pn0 pc0), (.int .i64 k)] w (fun v w' => v = (.bool r) ∧ Chg [] w w') := by
 refine calls_fr Try.func60 rfl Try.ntmps60 (Nat.le_of_ble_eq_true rfl) ?_
 have hO := Own.start (N := Nw w []) hM Nw.fut
 have hC := Chg.refl [] w
 unfold s_impl_canAsk at hs
 refine wp_mono (Q := KPost (k_impl_canAsk M w r)) ?_ (fun e a c2 h => ?_)
 rotate_left
 ·cases e
  case ret =>
   obtain ⟨σ, rfl, hrest⟩ := h
   exact ret1x Try.results60 (res_tmp rfl) ⟨rfl, hrest⟩
  all_goals exact (h : False).elim
 refine c_sr ?_
 refine pl_val (.bool false) (y_assign rfl) ?_
 refine c_nil ?_
 refine c_seq ?_
 refine c_seq ?_
 obtain ⟨s2, c3, hs⟩ := bind_some hs
 refine c_mid (I := fun a b7 => ∃ (σ : Nat → Value), a = fr 33 (ovl σ [(1, (.slice pa0 pn0 pc0)), (2, (.int .i64 k)), (6, (.bool false)), (17, (.bool s2))]) ∧ Chg [] w b7) ?_ ?_
 ·replace hs := c3
  have hMid := Chg.refl [] w
  refine c_region ?_
  refine pl_val (.int .i64 n) (y_move rfl) ?_
  obtain ⟨r6, c4, hs⟩ := bind_some hs
  refine pl_call Bd103 rfl (c_impl_isTemplateSize (M := M) n  hO.fut c4) ?_
  rintro _ e0 ⟨rfl, a8⟩
  have h0 := h0.ext a8
  have hMid := hMid.ext a8
  have hC := hC.ext a8
  have hO := hO.ext a8
  refine pl_val (.bool (!r6)) (y_not rfl) ?_
  refine pl_val (.bool (!r6)) (y_move rfl) ?_
  rcases bif_some hs with ⟨a0, hs⟩ | ⟨a0, hs⟩
  ·skip
   refine pl_not (tg := 12) (by kernel_rfl) (congrArg Value.bool a0) ?_
   refine pl_not (tg := 12) (by kernel_rfl) (congrArg Value.bool a0) ?_
   refine pl_not (tg := 12) (by kernel_rfl) (congrArg Value.bool a0) ?_
   refine pl_not (tg := 12) (by kernel_rfl) (congrArg Value.bool a0) ?_
   refine pl_val (.bool true) (y_pick_t (congrArg Value.bool a0) rfl) ?_
   refine c_nil ?_
   cases hs
   exact ⟨_, fr_ovl 33 ⟨rfl, rfl, rfl, rfl, trivial⟩, hMid⟩
  refine pl_yes (.int .i64 n) (tg := 12) (by kernel_rfl) (congrArg Value.bool a0) (y_move rfl) ?_
  refine pl_yes (.slice pa0 pn0 pc0) (tg := 12) (by kernel_rfl) (congrArg Value.bool a0) (y_move rfl) ?_
  obtain ⟨r9, c5, hs⟩ := bind_some hs
  refine pl_cally (tg := 12) (by kernel_rfl) (congrArg Value.bool a0) Bd110 rfl (c_impl_isTemplate (M := M) n rels h0 hO.fut c5) ?_
  rintro _ e1 ⟨rfl, a9⟩
  have h0 := h0.ext a9
  have hMid := hMid.ext a9
  have hC := hC.ext a9
  have hO := hO.ext a9
  refine pl_yes (.bool (!r9)) (tg := 12) (by kernel_rfl) (congrArg Value.bool a0) (y_not rfl) ?_
  refine pl_val (.bool (!r9)) (y_pick_f (congrArg Value.bool a0) rfl) ?_
  refine c_nil ?_
  cases hs
  exact ⟨_, fr_ovl 33 ⟨rfl, rfl, rfl, rfl, trivial⟩, hMid⟩
 rintro b8 b7 ⟨σ, rfl, b2⟩
 have h0 := h0.ext b2
 have hC := hC.ext b2
 have hO := hO.ext b2
 rcases bif_some hs with ⟨b3, hs⟩ | ⟨b3, hs⟩
 ·refine c_condT (congrArg Value.bool b3) ?_
  refine c_sr ?_
  refine pl_val (.bool false) (y_assign rfl) ?_
  refine c_nil ?_
  refine wp_ret ?_
  cases hs
  exact ⟨_, fr_ovl 33 ⟨rfl, trivial⟩, hC⟩
 refine c_condF (congrArg Value.bool b3) ?_
 refine wp_skip ?_
 refine c_seq ?_
 refine c_sr ?_
 refine pl_val (.slice pa0 pn0 pc0) (y_move rfl) ?_
 refine pl_val (.int .i64 (rels.length : Int)) (y_len' Sl37 (rs_len h0) rfl) ?_
 refine pl_val (.int .i64 0) (y_move rfl) ?_
 refine c_nil ?_
 obtain ⟨o22, c6, hs⟩ := bind_some hs
 refine wp_block ?_
 refine wp_forR (id := 0) (I := fun i_ xs_ s18 a a1 => ∃ a2 : Nat, i_ = (a2 : Int) ∧ List.drop a2 rels = xs_ ∧ (∃ (σ : Nat → Value), a = fr 33 (ovl σ [(2, (.int .i64 k)), (18, (.slice pa0 pn0 pc0)), (19, (.int .i64 (rels.length : Int))), (20, (.int .i64 (a2 : Int)))]) ∧ Chg [] w a1 ∧ Own (Nw w []) M a1 ([]) ∧ (RT.rs (RT.pr (RT.int .i64) (RT.rs (RT.rs (RT.int .i64))))).val M a1 (.slice pa0 pn0 pc0) rels ([]))) (J := fun s18 a a1 => ∃ (σ : Nat → Value), a = fr 33 (ovl σ []) ∧ Chg [] w a1 ∧ Own (Nw w []) M a1 ([]) ∧ (RT.rs (RT.pr (RT.int .i64) (RT.rs (RT.rs (RT.int .i64))))).val M a1 (.slice pa0 pn0 pc0) rels ([])) (K := (k_impl_canAsk M w)) ?_ ?_ rels 0 () o22 _ _ ?_ c6 ?_
 ·rintro _ s18 a a1 ⟨a2, rfl, hd, σ, rfl, hC, hO, h0⟩
  have hlt := drop_nil_ge hd
  refine c_sr ?_
  refine pl_val (.bool (decide ((a2 : Int) < (rels.length : Int)))) (y_lss rfl rfl) ?_
  refine c_nil ?_
  refine c_seq ?_
  refine c_condF (congrArg Value.bool (decide_eq_false hlt)) ?_
  refine wp_exit ?_
  exact ⟨rfl, _, fr_ovl 33 trivial, hC, hO, h0⟩
 ·rintro _ x21 xs_ s18 o22 a a1 ⟨a2, rfl, hd, σ, rfl, hC, hO, h0⟩ hs
  have hlt := drop_cons_lt hd
  have c7 := drop_cons_idx hd
  refine c_sr ?_
  refine pl_val (.bool (decide ((a2 : Int) < (rels.length : Int)))) (y_lss rfl rfl) ?_
  refine c_nil ?_
  refine c_seq ?_
  refine c_condT (congrArg Value.bool (decide_eq_true hlt)) ?_
  refine wp_skip ?_
  refine c_seq ?_
  refine wp_block ?_
  refine c_sr ?_
  obtain ⟨c8, c9, d0, d1⟩ := rs_idx Sl37 Sz54 h0 c7
  refine pl_val (.pointer (some ⟨c8, c9, none⟩)) (d0 _ _ _ _ _ _ _ _ _ rfl rfl) ?_
  obtain ⟨e2, d2, d3⟩ := at_load Ag54 Sz54 (by intro h; cases h) d1
  obtain ⟨e3, rfl, d4⟩ := d3
  obtain ⟨e4, e5, rfl, d5, d6⟩ := pr_open d4
  obtain rfl := int_rel d5
  obtain ⟨a4, a5, a6, rfl, a7⟩ := rs_rel d6
  refine pl_val (.agg #[(.int .i64 x21.1), (.slice a4 a5 a6)]) (y_load rfl (d2 _ (Chg.refl _ _))) ?_
  obtain ⟨d7, b4, d8, b9, b0, c0⟩ := new_block a1 [(.int .i64 0), (.slice none 0 0)] 54
  refine pl_val (w' := d7) (.pointer (some ⟨b4, 0, none⟩)) (y_alloc (by rw [d8, b9]; kernel_rfl)) ?_
  have h0 := h0.ext b0
  have a7 := a7.ext b0
  have hC := hC.ext b0
  have hO := hO.new1 b0 b9 c0.lt
  obtain ⟨c1, d9, b1, b5⟩ := box_store (P := Try.prog) c0 [] [(.int .i64 0), (.slice none 0 0)] [] [(.int .i64 x21.1), (.slice a4 a5 a6)] rfl rfl (by intro u hu; simp only [List.mem_cons, List.not_mem_nil, or_false] at hu; rcases hu with rfl | rfl <;> rfl)
  refine pl_skip (w' := c1) (ys_store rfl rfl (d9 _ _ rfl Sz54)) ?_
  have h0 := h0.mt b1 hO same_
  have a7 := a7.mt b1 hO same_
  have hC := hC.st b1 hO same_
  have hO := hO.ext b1
  have b5 : BoxV c1 b4 54 [(.int .i64 x21.1), (.slice a4 a5 a6)] := b5
  refine c_nil ?_
  refine c_sr ?_
  refine pl_val (.int .i64 k) (y_move rfl) ?_
  refine pl_val (.bool (k == 3)) (y_eql rfl rfl) ?_
  refine pl_val (.bool (k == 3)) (y_move rfl) ?_
  rcases bif_some hs with ⟨a3, hs⟩ | ⟨a3, hs⟩
  ·skip
   refine pl_yes (.pointer (some ⟨b4, 1, none⟩)) (tg := 26) (by kernel_rfl) (congrArg Value.bool a3) (y_faddr rfl Fa54x1) ?_
   refine pl_yes (.slice a4 a5 a6) (tg := 26) (by kernel_rfl) (congrArg Value.bool a3) (y_load rfl ((box_load Ag47 Sz47 b5 [(.int .i64 x21.1)] [(.slice a4 a5 a6)] [] rfl rfl (fun _ => rfl)) _ (Chg.refl _ _))) ?_
   refine pl_yes (.int .i64 (x21.2.length : Int)) (tg := 26) (by kernel_rfl) (congrArg Value.bool a3) (y_len' Sl47 (rs_len a7) rfl) ?_
   refine pl_yes (.bool (decide (12 < (x21.2.length : Int)))) (tg := 26) (by kernel_rfl) (congrArg Value.bool a3) (y_gtr rfl rfl) ?_
   refine pl_val (.bool (decide (12 < (x21.2.length : Int)))) (y_pick_t (congrArg Value.bool a3) rfl) ?_
   refine c_nil ?_
   rcases bif_some hs with ⟨b6, hs⟩ | ⟨b6, hs⟩
   ·refine c_condT (congrArg Value.bool b6) ?_
    refine c_sr ?_
    refine pl_val (.bool false) (y_assign rfl) ?_
    refine c_nil ?_
    refine wp_ret ?_
    cases hs
    exact ⟨_, fr_ovl 33 ⟨rfl, trivial⟩, hC⟩
   refine c_condF (congrArg Value.bool b6) ?_
   refine wp_skip ?_
   refine c_region ?_
   refine pl_val (.int .i64 (w64 ((a2 : Int) + 1))) (y_add rfl rfl) ?_
   refine pl_val (.int .i64 (w64 ((a2 : Int) + 1))) (y_move rfl) ?_
   refine c_nil ?_
   cases hs
   have hO := hO.drop
   exact ⟨_, rfl, drop_cons_next hd, _, fr_ovl 33 ⟨rfl, rfl, rfl, congrArg (Value.int .i64) (w64_succ hlt (Int.natCast_nonneg _) (rs_max h0)), trivial⟩, hC, hO, h0⟩
  refine pl_not (tg := 26) (by kernel_rfl) (congrArg Value.bool a3) ?_
  refine pl_not (tg := 26) (by kernel_rfl) (congrArg Value.bool a3) ?_
  refine pl_not (tg := 26) (by kernel_rfl) (congrArg Value.bool a3) ?_
  refine pl_not (tg := 26) (by kernel_rfl) (congrArg Value.bool a3) ?_
  refine pl_val (.bool false) (y_pick_f (congrArg Value.bool a3) rfl) ?_
  refine c_nil ?_
  refine c_condF (by rfl) ?_
  refine wp_skip ?_
  refine c_region ?_
  refine pl_val (.int .i64 (w64 ((a2 : Int) + 1))) (y_add rfl rfl) ?_
  refine pl_val (.int .i64 (w64 ((a2 : Int) + 1))) (y_move rfl) ?_
  refine c_nil ?_
  cases hs
  have hO := hO.drop
  exact ⟨_, rfl, drop_cons_next hd, _, fr_ovl 33 ⟨rfl, rfl, rfl, congrArg (Value.int .i64) (w64_succ hlt (Int.natCast_nonneg _) (rs_max h0)), trivial⟩, hC, hO, h0⟩
 ·skip
  exact ⟨0, rfl, rfl, _, fr_ovl 33 ⟨rfl, rfl, rfl, rfl, trivial⟩, hC, hO, h0⟩
 cases o22 with
 | nx _ => exact True.intro
 | rt r_ =>
  have hs := after_rt hs
  intro b8 c2 hK
  cases hs
  exact hK
 | br s18 =>
  have hs := after_br hs
  rintro b8 a1 ⟨σ, rfl, hC, hO, h0⟩
  refine c_sr ?_
  refine pl_val (.bool true) (y_assign rfl) ?_
  refine c_nil ?_
  refine wp_ret ?_
  cases hs
  exact ⟨_, fr_ovl 33 ⟨rfl, trivial⟩, hC⟩

def k_impl_power (M : Nat → Prop) (w0 : World) (r : Int) (a : Act) (w : World) : Prop :=
  ∃ (σ : Nat → Value) , a = fr 14 (ovl σ [(4, (.int .i64 r))]) ∧ Chg [] w0 w
def s_impl_power (n : Int) (k : Int) : Option (Int) :=
  (iter (S := Int × Int) (R := Int) (fun s2 =>
  (bif (decide (0 < s2.1)) then some (.nx (w64 (s2.1 - 1), w64 (s2.2 * n))) else some (.br (s2.1, s2.2)))) FU (k, 1)).bind fun o6 => after o6 (fun r_ => some r_) (fun s2 =>
  some s2.2)
set_option maxHeartbeats 4000000 in
theorem c_impl_power {M : Nat → Prop} {w : World}  (n : Int) (k : Int)  (hM : ∀ g, w.heap.size ≤ g → M g) {r : Int} (hs : s_impl_power n k = some r) :
    Gives Try.prog 65 [(.int .i64 n), (.int .i64 k)] w (fun v w' => v = (.int .i64 r) ∧ Chg [] w w') := by
 refine calls_fr Try.func65 rfl Try.ntmps65 (Nat.le_of_ble_eq_true rfl) ?_
 have hO := Own.start (N := Nw w []) hM Nw.fut
 have hC := Chg.refl [] w
 unfold s_impl_power at hs
 refine wp_mono (Q := KPost (k_impl_power M w r)) ?_ (fun e a a2 h => ?_)
 rotate_left
 ·cases e
  case ret =>
   obtain ⟨σ, rfl, hrest⟩ := h
   exact ret1x Try.results65 (res_tmp rfl) ⟨rfl, hrest⟩
  all_goals exact (h : False).elim
 refine c_sr ?_
 refine pl_val (.int .i64 0) (y_assign rfl) ?_
 refine c_nil ?_
 refine c_sr ?_
 refine pl_val (.int .i64 1) (y_assign rfl) ?_
 refine c_nil ?_
 refine c_seq ?_
 obtain ⟨o6, a3, hs⟩ := bind_some hs
 refine wp_block ?_
 refine wp_iter (id := 0) (I := fun s2 a a0 => ∃ (σ : Nat → Value), a = fr 14 (ovl σ [(0, (.int .i64 n)), (1, (.int .i64 s2.1)), (5, (.int .i64 s2.2))]) ∧ Chg [] w a0 ∧ Own (Nw w []) M a0 ([])) (J := fun s2 a a0 => ∃ (σ : Nat → Value), a = fr 14 (ovl σ [(5, (.int .i64 s2.2))]) ∧ Chg [] w a0 ∧ Own (Nw w []) M a0 ([])) (K := (k_impl_power M w)) ?_ FU (k, 1) o6 _ _ ?_ a3 ?_
 ·rintro s2 o6 a a0 ⟨σ, rfl, hC, hO⟩ hs
  refine c_seq ?_
  refine c_sr ?_
  refine pl_val (.int .i64 s2.1) (y_move rfl) ?_
  refine pl_val (.bool (decide (0 < s2.1))) (y_gtr rfl rfl) ?_
  refine c_nil ?_
  rcases bif_some hs with ⟨a1, hs⟩ | ⟨a1, hs⟩
  ·refine c_condT (congrArg Value.bool a1) ?_
   refine wp_skip ?_
   refine c_seq ?_
   refine wp_block ?_
   refine c_region ?_
   refine pl_val (.int .i64 s2.2) (y_move rfl) ?_
   refine pl_val (.int .i64 n) (y_move rfl) ?_
   refine pl_val (.int .i64 (w64 (s2.2 * n))) (y_mul rfl rfl) ?_
   refine pl_val (.int .i64 (w64 (s2.2 * n))) (y_assign rfl) ?_
   refine c_nil ?_
   refine c_region ?_
   refine pl_val (.int .i64 s2.1) (y_move rfl) ?_
   refine pl_val (.int .i64 (w64 (s2.1 - 1))) (y_sub rfl rfl) ?_
   refine pl_val (.int .i64 (w64 (s2.1 - 1))) (y_assign rfl) ?_
   refine c_nil ?_
   cases hs
   exact ⟨_, fr_ovl 14 ⟨rfl, rfl, rfl, trivial⟩, hC, hO⟩
  refine c_condF (congrArg Value.bool a1) ?_
  refine wp_exit ?_
  cases hs
  exact ⟨rfl, _, fr_ovl 14 ⟨rfl, trivial⟩, hC, hO⟩
 ·skip
  exact ⟨_, fr_ovl 14 ⟨rfl, rfl, rfl, trivial⟩, hC, hO⟩
 cases o6 with
 | nx _ => exact True.intro
 | rt r_ =>
  have hs := after_rt hs
  intro a4 a2 hK
  cases hs
  exact hK
 | br s2 =>
  have hs := after_br hs
  rintro a4 a0 ⟨σ, rfl, hC, hO⟩
  refine c_sr ?_
  refine pl_val (.int .i64 s2.2) (y_move rfl) ?_
  refine pl_val (.int .i64 s2.2) (y_assign rfl) ?_
  refine c_nil ?_
  refine wp_ret ?_
  cases hs
  exact ⟨_, fr_ovl 14 ⟨rfl, trivial⟩, hC⟩

theorem Bd65 : Bodied Try.prog 65 := bodied Try.func65 (by kernel_rfl) rfl

def k_impl_isPolyRange (M : Nat → Prop) (w0 : World) (r : Bool) (a : Act) (w : World) : Prop :=
  ∃ (σ : Nat → Value) , a = fr 17 (ovl σ [(4, (.bool r))]) ∧ Chg [] w0 w
def s_impl_isPolyRange (n : Int) (k : Int) : Option (Bool) :=
  (bif (decide (1 ≤ k)) then (bif (decide (k ≤ 3)) then (s_impl_power n k).bind fun r4 =>
  some (decide (r4 ≤ 9)) else some false) else some false)
set_option maxHeartbeats 4000000 in
theorem c_impl_isPolyRange {M : Nat → Prop} {w : World}  (n : Int) (k : Int)  (hM : ∀ g, w.heap.size ≤ g → M g) {r : Bool} (hs : s_impl_isPolyRange n k = some r) :
    Gives Try.prog 61 [(.int .i64 n), (.int .i64 k)] w (fun v w' => v = (.bool r) ∧ Chg [] w w') := by
 refine calls_fr Try.func61 rfl Try.ntmps61 (Nat.le_of_ble_eq_true rfl) ?_
 have hO := Own.start (N := Nw w []) hM Nw.fut
 have hC := Chg.refl [] w
 unfold s_impl_isPolyRange at hs
 refine wp_mono (Q := KPost (k_impl_isPolyRange M w r)) ?_ (fun e a a4 h => ?_)
 rotate_left
 ·cases e
  case ret =>
   obtain ⟨σ, rfl, hrest⟩ := h
   exact ret1x Try.results61 (res_tmp rfl) ⟨rfl, hrest⟩
  all_goals exact (h : False).elim
 refine c_sr ?_
 refine pl_val (.bool false) (y_assign rfl) ?_
 refine c_nil ?_
 refine c_sr ?_
 refine pl_val (.int .i64 k) (y_move rfl) ?_
 refine pl_val (.bool (decide (1 ≤ k))) (y_geq rfl rfl) ?_
 refine pl_val (.bool (decide (1 ≤ k))) (y_move rfl) ?_
 rcases bif_some hs with ⟨a1, hs⟩ | ⟨a1, hs⟩
 ·skip
  refine pl_yes (.int .i64 k) (tg := 7) (by kernel_rfl) (congrArg Value.bool a1) (y_move rfl) ?_
  refine pl_yes (.bool (decide (k ≤ 3))) (tg := 7) (by kernel_rfl) (congrArg Value.bool a1) (y_leq rfl rfl) ?_
  refine pl_val (.bool (decide (k ≤ 3))) (y_pick_t (congrArg Value.bool a1) rfl) ?_
  refine pl_val (.bool (decide (k ≤ 3))) (y_move rfl) ?_
  rcases bif_some hs with ⟨a0, hs⟩ | ⟨a0, hs⟩
  ·skip
   refine pl_yes (.int .i64 n) (tg := 11) (by kernel_rfl) (congrArg Value.bool a0) (y_move rfl) ?_
   refine pl_yes (.int .i64 k) (tg := 11) (by kernel_rfl) (congrArg Value.bool a0) (y_move rfl) ?_
   obtain ⟨r4, a3, hs⟩ := bind_some hs
   refine pl_cally (tg := 11) (by kernel_rfl) (congrArg Value.bool a0) Bd65 rfl (c_impl_power (M := M) n k  hO.fut a3) ?_
   rintro _ a5 ⟨rfl, a2⟩
   have hC := hC.ext a2
   have hO := hO.ext a2
   refine pl_yes (.bool (decide (r4 ≤ 9))) (tg := 11) (by kernel_rfl) (congrArg Value.bool a0) (y_leq rfl rfl) ?_
   refine pl_val (.bool (decide (r4 ≤ 9))) (y_pick_t (congrArg Value.bool a0) rfl) ?_
   refine pl_val (.bool (decide (r4 ≤ 9))) (y_assign rfl) ?_
   refine c_nil ?_
   refine wp_ret ?_
   cases hs
   exact ⟨_, fr_ovl 17 ⟨rfl, trivial⟩, hC⟩
  refine pl_not (tg := 11) (by kernel_rfl) (congrArg Value.bool a0) ?_
  refine pl_not (tg := 11) (by kernel_rfl) (congrArg Value.bool a0) ?_
  refine pl_not (tg := 11) (by kernel_rfl) (congrArg Value.bool a0) ?_
  refine pl_not (tg := 11) (by kernel_rfl) (congrArg Value.bool a0) ?_
  refine pl_val (.bool false) (y_pick_f (congrArg Value.bool a0) rfl) ?_
  refine pl_val (.bool false) (y_assign rfl) ?_
  refine c_nil ?_
  refine wp_ret ?_
  cases hs
  exact ⟨_, fr_ovl 17 ⟨rfl, trivial⟩, hC⟩
 refine pl_not (tg := 7) (by kernel_rfl) (congrArg Value.bool a1) ?_
 refine pl_not (tg := 7) (by kernel_rfl) (congrArg Value.bool a1) ?_
 refine pl_val (.bool false) (y_pick_f (congrArg Value.bool a1) rfl) ?_
 refine pl_val (.bool false) (y_move rfl) ?_
 refine pl_not (tg := 11) (by kernel_rfl) (by rfl) ?_
 refine pl_not (tg := 11) (by kernel_rfl) (by rfl) ?_
 refine pl_not (tg := 11) (by kernel_rfl) (by rfl) ?_
 refine pl_not (tg := 11) (by kernel_rfl) (by rfl) ?_
 refine pl_val (.bool false) (y_pick_f (by rfl) rfl) ?_
 refine pl_val (.bool false) (y_assign rfl) ?_
 refine c_nil ?_
 refine wp_ret ?_
 cases hs
 exact ⟨_, fr_ovl 17 ⟨rfl, trivial⟩, hC⟩

def k_impl_clone (M : Nat → Prop) (w0 : World) (r : (List Int)) (a : Act) (w : World) : Prop :=
  ∃ (σ : Nat → Value) (ra0 : Option Addr) (rn0 rc0 : Nat) (rf0 : List Nat), a = fr 6 (ovl σ [(2, (.slice ra0 rn0 rc0))]) ∧ Chg [] w0 w ∧ (RT.os 3 (RT.int .i64)).val M w (.slice ra0 rn0 rc0) r rf0 ∧ Own (Nw w0 []) (fun _ => True) w (rf0 ++ ([]))
def s_impl_clone (list : List Int) : Option ((List Int)) :=
  (app ([]) list).bind fun y5 =>
  some y5
set_option maxHeartbeats 4000000 in
theorem c_impl_clone {M : Nat → Prop} {w : World} {pa0 : Option Addr} {pn0 pc0 : Nat} (list : List Int) (h0 : (RT.rs (RT.int .i64)).val M w (.slice pa0 pn0 pc0) list ([])) (hM : ∀ g, w.heap.size ≤ g → M g) {r : (List Int)} (hs : s_impl_clone list = some r) :
    Gives Try.prog 86 [(.slice pa0 pn0 pc0)] w (fun v w' => ∃ (ra0 : Option Addr) (rn0 rc0 : Nat) (rf0 : List Nat), v = (.slice ra0 rn0 rc0) ∧ Chg [] w w' ∧ (RT.os 3 (RT.int .i64)).val M w' (.slice ra0 rn0 rc0) r rf0 ∧ Own (Nw w []) (fun _ => True) w' (rf0 ++ ([]))) := by
 refine calls_fr Try.func86 rfl Try.ntmps86 (Nat.le_of_ble_eq_true rfl) ?_
 have hO := Own.start (N := Nw w []) hM Nw.fut
 have hC := Chg.refl [] w
 unfold s_impl_clone at hs
 refine wp_mono (Q := KPost (k_impl_clone M w r)) ?_ (fun e a b8 h => ?_)
 rotate_left
 ·cases e
  case ret =>
   obtain ⟨σ, ra0, rn0, rc0, rf0, rfl, hrest⟩ := h
   exact ret1x Try.results86 (res_tmp rfl) ⟨ra0, rn0, rc0, rf0, rfl, hrest⟩
  all_goals exact (h : False).elim
 refine c_sr ?_
 refine pl_val (.slice none 0 0) (y_assign rfl) ?_
 refine c_nil ?_
 refine c_sr ?_
 obtain ⟨a8, a1, b2, a9, a2, b0⟩ := new_block w [] 3
 refine pl_val (w' := a8) (.slice (some ⟨a1, 0, none⟩) 0 0) (y_bslice rfl (by rw [b2, a9]; kernel_rfl)) ?_
 have h0 := h0.ext a2
 have hC := hC.ext a2
 have hO := hO.new1 a2 a9 b0.lt
 have a0 := os_of_box (r := (RT.int .i64)) (M := M) (css := []) (fps := []) (xs := ([] : List Int)) b0 trivial (Nat.zero_le _) (List.nodup_cons.2 ⟨(fun h => nomatch h), List.nodup_nil⟩)
 have a0 : (RT.os 3 (RT.int .i64)).val M a8 (.slice (some ⟨a1, 0, none⟩) 0 0) [] [a1] := a0
 refine pl_val (.slice pa0 pn0 pc0) (y_move rfl) ?_
 obtain ⟨y5, b3, hs⟩ := bind_some hs
 obtain ⟨a3, a4, a5, b4, b5, b6, a6, b7, a7⟩ := app_rs Rw41 b3 a0 h0 hO.inM
 have b1 := os_block a0
 refine pl_val (w' := b4) (.slice a3 a4 a5) (y_append rfl rfl (b6 _)) ?_
 have h0 := h0.mt a6 hO b1
 have hC := hC.st a6 hO b1
 have hO := hO.grow a6 b7 (os_nodup a7) a7.fpl
 refine pl_val (.slice a3 a4 a5) (y_assign rfl) ?_
 refine c_nil ?_
 refine wp_ret ?_
 cases hs
 exact ⟨_, a3, a4, a5, b5, fr_ovl 6 ⟨rfl, trivial⟩, hC, a7, hO.top⟩

theorem Bd86 : Bodied Try.prog 86 := bodied Try.func86 (by kernel_rfl) rfl

def k_impl_cloneRows (M : Nat → Prop) (w0 : World) (r : (List (List Int))) (a : Act) (w : World) : Prop :=
  ∃ (σ : Nat → Value) (ra0 : Option Addr) (rn0 rc0 : Nat) (rf0 : List Nat), a = fr 20 (ovl σ [(2, (.slice ra0 rn0 rc0))]) ∧ Chg [] w0 w ∧ (RT.os 41 (RT.os 3 (RT.int .i64))).val M w (.slice ra0 rn0 rc0) r rf0 ∧ Own (Nw w0 []) (fun _ => True) w (rf0 ++ ([]))
def s_impl_cloneRows (rows : List (List Int)) : Option ((List (List Int))) :=
  (forR (S := (List (List Int))) (R := (List (List Int))) (fun _ x20 s17 =>
  (s_impl_clone x20).bind fun r31 =>
  (app s17 ([r31])).bind fun y36 =>
  some (.nx y36)) 0 rows ([])).bind fun o21 => after o21 (fun r_ => some r_) (fun s17 =>
  some s17)
set_option maxHeartbeats 4000000 in
theorem c_impl_cloneRows {M : Nat → Prop} {w : World} {pa0 : Option Addr} {pn0 pc0 : Nat} (rows : List (List Int)) (h0 : (RT.rs (RT.rs (RT.int .i64))).val M w (.slice pa0 pn0 pc0) rows ([])) (hM : ∀ g, w.heap.size ≤ g → M g) {r : (List (List Int))} (hs : s_impl_cloneRows rows = some r) :
    Gives Try.prog 122 [(.slice pa0 pn0 pc0)] w (fun v w' => ∃ (ra0 : Option Addr) (rn0 rc0 : Nat) (rf0 : List Nat), v = (.slice ra0 rn0 rc0) ∧ Chg [] w w' ∧ (RT.os 41 (RT.os 3 (RT.int .i64))).val M w' (.slice ra0 rn0 rc0) r rf0 ∧ Own (Nw w []) (fun _ => True) w' (rf0 ++ ([]))) := by
 refine calls_fr Try.func122 rfl Try.ntmps122 (Nat.le_of_ble_eq_true rfl) ?_
 have hO := Own.start (N := Nw w []) hM Nw.fut
 have hC := Chg.refl [] w
 unfold s_impl_cloneRows at hs
 refine wp_mono (Q := KPost (k_impl_cloneRows M w r)) ?_ (fun e a d9 h => ?_)
 rotate_left
 ·cases e
  case ret =>
   obtain ⟨σ, ra0, rn0, rc0, rf0, rfl, hrest⟩ := h
   exact ret1x Try.results122 (res_tmp rfl) ⟨ra0, rn0, rc0, rf0, rfl, hrest⟩
  all_goals exact (h : False).elim
 refine c_sr ?_
 refine pl_val (.slice none 0 0) (y_assign rfl) ?_
 refine c_nil ?_
 refine c_sr ?_
 obtain ⟨d0, a5, e0, d1, b8, d2⟩ := new_block w [] 41
 refine pl_val (w' := d0) (.slice (some ⟨a5, 0, none⟩) 0 0) (y_bslice rfl (by rw [e0, d1]; kernel_rfl)) ?_
 have h0 := h0.ext b8
 have hC := hC.ext b8
 have hO := hO.new1 b8 d1 d2.lt
 have b9 := os_of_box (r := (RT.os 3 (RT.int .i64))) (M := M) (css := []) (fps := []) (xs := ([] : List (List Int))) d2 trivial (Nat.zero_le _) (List.nodup_cons.2 ⟨(fun h => nomatch h), List.nodup_nil⟩)
 have b9 : (RT.os 41 (RT.os 3 (RT.int .i64))).val M d0 (.slice (some ⟨a5, 0, none⟩) 0 0) [] [a5] := b9
 refine pl_val (.slice (some ⟨a5, 0, none⟩) 0 0) (y_assign rfl) ?_
 refine c_nil ?_
 refine c_seq ?_
 refine c_sr ?_
 refine pl_val (.slice pa0 pn0 pc0) (y_move rfl) ?_
 refine pl_val (.int .i64 (rows.length : Int)) (y_len' Sl47 (rs_len h0) rfl) ?_
 refine pl_val (.int .i64 0) (y_move rfl) ?_
 refine c_nil ?_
 obtain ⟨o21, e1, hs⟩ := bind_some hs
 refine wp_block ?_
 refine wp_forR (id := 0) (I := fun i_ xs_ s17 a a0 => ∃ a1 : Nat, i_ = (a1 : Int) ∧ List.drop a1 rows = xs_ ∧ (∃ (σ : Nat → Value) (a6 : Option Addr) (a7 : Nat) (a8 : Nat) (a4 : List Nat), a = fr 20 (ovl σ [(3, (.slice a6 a7 a8)), (7, (.slice pa0 pn0 pc0)), (8, (.int .i64 (rows.length : Int))), (9, (.int .i64 (a1 : Int)))]) ∧ Chg [] w a0 ∧ Own (Nw w []) M a0 (a4 ++ []) ∧ (RT.rs (RT.rs (RT.int .i64))).val M a0 (.slice pa0 pn0 pc0) rows ([]) ∧ (RT.os 41 (RT.os 3 (RT.int .i64))).val M a0 (.slice a6 a7 a8) s17 a4)) (J := fun s17 a a0 => ∃ (σ : Nat → Value) (a9 : Option Addr) (b0 : Nat) (b1 : Nat) (b4 : List Nat), a = fr 20 (ovl σ [(3, (.slice a9 b0 b1))]) ∧ Chg [] w a0 ∧ Own (Nw w []) M a0 (b4 ++ []) ∧ (RT.rs (RT.rs (RT.int .i64))).val M a0 (.slice pa0 pn0 pc0) rows ([]) ∧ (RT.os 41 (RT.os 3 (RT.int .i64))).val M a0 (.slice a9 b0 b1) s17 b4) (K := (k_impl_cloneRows M w)) ?_ ?_ rows 0 ([]) o21 _ _ ?_ e1 ?_
 ·rintro _ s17 a a0 ⟨a1, rfl, hd, σ, a6, a7, a8, a4, rfl, hC, hO, h0, a2⟩
  have hlt := drop_nil_ge hd
  refine c_sr ?_
  refine pl_val (.bool (decide ((a1 : Int) < (rows.length : Int)))) (y_lss rfl rfl) ?_
  refine c_nil ?_
  refine c_seq ?_
  refine c_condF (congrArg Value.bool (decide_eq_false hlt)) ?_
  refine wp_exit ?_
  exact ⟨rfl, _, a6, a7, a8, a4, fr_ovl 20 ⟨rfl, trivial⟩, hC, hO, h0, a2⟩
 ·rintro _ x20 xs_ s17 o21 a a0 ⟨a1, rfl, hd, σ, a6, a7, a8, a4, rfl, hC, hO, h0, a2⟩ hs
  have hlt := drop_cons_lt hd
  have e2 := drop_cons_idx hd
  refine c_sr ?_
  refine pl_val (.bool (decide ((a1 : Int) < (rows.length : Int)))) (y_lss rfl rfl) ?_
  refine c_nil ?_
  refine c_seq ?_
  refine c_condT (congrArg Value.bool (decide_eq_true hlt)) ?_
  refine wp_skip ?_
  refine c_seq ?_
  refine wp_block ?_
  refine c_sr ?_
  obtain ⟨e3, e4, e5, e6⟩ := rs_idx Sl47 Sz41 h0 e2
  refine pl_val (.pointer (some ⟨e3, e4, none⟩)) (e5 _ _ _ _ _ _ _ _ _ rfl rfl) ?_
  obtain ⟨g0, e7, a3⟩ := at_load Ag41 Sz41 (fun _ => rfl) e6
  obtain ⟨c0, c1, c2, rfl⟩ := rs_sl a3
  refine pl_val (.slice c0 c1 c2) (y_load rfl (e7 _ (Chg.refl _ _))) ?_
  refine pl_val (.slice c0 c1 c2) (y_assign rfl) ?_
  refine c_nil ?_
  refine c_region ?_
  refine pl_val (.slice a6 a7 a8) (y_move rfl) ?_
  refine pl_val (.slice c0 c1 c2) (y_move rfl) ?_
  obtain ⟨r31, e8, hs⟩ := bind_some hs
  refine pl_call Bd86 rfl (c_impl_clone (M := M) x20 a3 hO.fut e8) ?_
  rintro _ e9 ⟨d3, d4, d5, b5, rfl, b3, c3, f0⟩
  have h0 := h0.ext b3
  have a2 := a2.ext b3
  have a3 := a3.ext b3
  have hC := hC.ext b3
  have hO := Own.join0 hO b3 f0
  have hO := hO.perm (R := b5 ++ (a4 ++ ([]))) (by simp)
  obtain ⟨d6, b6, f1, d7, b2, d8⟩ := new_block e9 [(.slice d3 d4 d5)] 41
  refine pl_val (w' := d6) (.slice (some ⟨b6, 0, none⟩) 1 1) (y_bslice rfl (by rw [f1, d7]; kernel_rfl)) ?_
  have h0 := h0.ext b2
  have a2 := a2.ext b2
  have a3 := a3.ext b2
  have c3 := c3.ext b2
  have hC := hC.ext b2
  have hO := hO.new1 b2 d7 d8.lt
  have hO := hO.perm (R := (b6 :: ((b5) ++ ([]))) ++ (a4 ++ ([]))) (by simp)
  have f2 := hO.nd
  have c4 := os_of_box (r := (RT.os 3 (RT.int .i64))) (M := M) (css := [[(.slice d3 d4 d5)]]) (fps := [(b5 : List Nat)]) (xs := ([r31] : List (List Int))) d8 ⟨(os_unval c3), trivial⟩ (Nat.le_of_ble_eq_true rfl) f2
  have c4 : (RT.os 41 (RT.os 3 (RT.int .i64))).val M d6 (.slice (some ⟨b6, 0, none⟩) 1 1) [r31] (b6 :: ((b5) ++ ([]))) := c4
  obtain ⟨y36, f3, hs⟩ := bind_some hs
  have hO := hO.fr1
  obtain ⟨c5, c6, c7, f4, f5, f6, b7, f7, c8⟩ := app_os Rw47 f3 a2 c4 hO.inM (fun g hg hq => hO.apart g hq (mem_l hg))
  have c9 := os_block a2
  refine pl_val (w' := f4) (.slice c5 c6 c7) (y_append rfl rfl (f6 _)) ?_
  have hO := hO.fr1
  have hO := hO.fr1
  have h0 := h0.mt b7 hO c9
  have a3 := a3.mt b7 hO c9
  have hC := hC.st b7 hO c9
  have hO := hO.eat b7 f7 (os_nodup c8) c8.fpl
  refine pl_val (.slice c5 c6 c7) (y_assign rfl) ?_
  refine c_nil ?_
  refine c_region ?_
  refine pl_val (.int .i64 (w64 ((a1 : Int) + 1))) (y_add rfl rfl) ?_
  refine pl_val (.int .i64 (w64 ((a1 : Int) + 1))) (y_move rfl) ?_
  refine c_nil ?_
  cases hs
  exact ⟨_, rfl, drop_cons_next hd, _, c5, c6, c7, f5, fr_ovl 20 ⟨rfl, rfl, rfl, congrArg (Value.int .i64) (w64_succ hlt (Int.natCast_nonneg _) (rs_max h0)), trivial⟩, hC, hO, h0, c8⟩
 ·skip
  exact ⟨0, rfl, rfl, _, (some ⟨a5, 0, none⟩), 0, 0, ([a5]), fr_ovl 20 ⟨rfl, rfl, rfl, rfl, trivial⟩, hC, hO, h0, b9⟩
 cases o21 with
 | nx _ => exact True.intro
 | rt r_ =>
  have hs := after_rt hs
  intro f8 d9 hK
  cases hs
  exact hK
 | br s17 =>
  have hs := after_br hs
  rintro f8 a0 ⟨σ, a9, b0, b1, b4, rfl, hC, hO, h0, f9⟩
  refine c_sr ?_
  refine pl_val (.slice a9 b0 b1) (y_move rfl) ?_
  refine pl_val (.slice a9 b0 b1) (y_assign rfl) ?_
  refine c_nil ?_
  refine wp_ret ?_
  cases hs
  exact ⟨_, a9, b0, b1, b4, fr_ovl 20 ⟨rfl, trivial⟩, hC, f9, hO.top⟩

theorem Bd122 : Bodied Try.prog 122 := bodied Try.func122 (by kernel_rfl) rfl

def k_impl_cloneRelation (M : Nat → Prop) (w0 : World) (r : (Int × (List (List Int)))) (a : Act) (w : World) : Prop :=
  ∃ (σ : Nat → Value) (rg2 : Nat) (ra0 : Option Addr) (rn0 rc0 : Nat) (rf0 : List Nat), a = fr 9 (ovl σ [(2, (.pointer (some ⟨rg2, 0, none⟩)))]) ∧ BoxV w rg2 54 [(.int .i64 r.1), (.slice ra0 rn0 rc0)] ∧ Chg [] w0 w ∧ (RT.os 41 (RT.os 3 (RT.int .i64))).val M w (.slice ra0 rn0 rc0) r.2 rf0 ∧ Own (Nw w0 []) (fun _ => True) w (rf0 ++ ([]))
def s_impl_cloneRelation (r_ : Int × (List (List Int))) : Option ((Int × (List (List Int)))) :=
  (s_impl_cloneRows r_.2).bind fun r6 =>
  some (r_.1, r6)
set_option maxHeartbeats 4000000 in
theorem c_impl_cloneRelation {M : Nat → Prop} {w : World} {pa0 : Option Addr} {pn0 pc0 : Nat} (r_ : Int × (List (List Int))) (h0 : (RT.rs (RT.rs (RT.int .i64))).val M w (.slice pa0 pn0 pc0) r_.2 ([])) (hM : ∀ g, w.heap.size ≤ g → M g) {r : (Int × (List (List Int)))} (hs : s_impl_cloneRelation r_ = some r) :
    Gives Try.prog 90 [(.agg #[(.int .i64 r_.1), (.slice pa0 pn0 pc0)])] w (fun v w' => ∃ (ra0 : Option Addr) (rn0 rc0 : Nat) (rf0 : List Nat), v = (.agg #[(.int .i64 r.1), (.slice ra0 rn0 rc0)]) ∧ Chg [] w w' ∧ (RT.os 41 (RT.os 3 (RT.int .i64))).val M w' (.slice ra0 rn0 rc0) r.2 rf0 ∧ Own (Nw w []) (fun _ => True) w' (rf0 ++ ([]))) := by
 refine calls_fr Try.func90 rfl Try.ntmps90 (Nat.le_of_ble_eq_true rfl) ?_
 have hO := Own.start (N := Nw w []) hM Nw.fut
 have hC := Chg.refl [] w
 unfold s_impl_cloneRelation at hs
 refine wp_mono (Q := KPost (k_impl_cloneRelation M w r)) ?_ (fun e a c6 h => ?_)
 rotate_left
 ·cases e
  case ret =>
   obtain ⟨σ, rg2, ra0, rn0, rc0, rf0, rfl, hbrg2, hrest⟩ := h
   exact ret1x Try.results90 (res_cell rfl (box_load Ag54 Sz54 hbrg2 [] _ [] rfl rfl (fun h => nomatch h))) ⟨ra0, rn0, rc0, rf0, rfl, hrest⟩
  all_goals exact (h : False).elim
 refine c_sr ?_
 obtain ⟨b6, a8, c1, b7, b2, a0⟩ := new_block w [(.int .i64 r_.1), (.slice pa0 pn0 pc0)] 54
 refine pl_val (w' := b6) (.pointer (some ⟨a8, 0, none⟩)) (y_box rfl (by rw [c1, b7]; kernel_rfl)) ?_
 have h0 := h0.ext b2
 have hC := hC.ext b2
 have hO := hO.new1 b2 b7 a0.lt
 obtain ⟨b3, a9, c2, b8, b0, a2⟩ := new_block b6 [(.int .i64 0), (.slice none 0 0)] 54
 refine pl_val (w' := b3) (.pointer (some ⟨a9, 0, none⟩)) (y_alloc (by rw [c2, b8]; kernel_rfl)) ?_
 have h0 := h0.ext b0
 have a0 := a0.cn b0
 have hC := hC.ext b0
 have hO := hO.new1 b0 b8 a2.lt
 refine c_nil ?_
 refine c_seq ?_
 refine x_start [6] Mx rfl ?_
 have a3 := Chg.drew b3
 generalize World.drew b3 = c3 at a3 ⊢
 have h0 := h0.ext a3
 have a0 := a0.cn a3
 have a2 := a2.cn a3
 have hC := hC.ext a3
 have hO := hO.ext a3
 have hS := Chg.refl [] c3
 refine x_p 0 (.pointer (some ⟨a8, 0, none⟩)) rfl (by kernel_rfl)  (fun _ => y_faddr rfl Fa54x0) (fun _ => hS) ?_
 refine x_l 1 (.int .i64 r_.1) rfl (by kernel_rfl)  (fun w' hw' => y_load rfl ((box_load Ag3 Sz3 a0 [] [(.int .i64 r_.1)] [(.slice pa0 pn0 pc0)] rfl rfl (fun _ => rfl)) w' hw')) hS ?_
 refine x_p 2 (.pointer (some ⟨a8, 1, none⟩)) rfl (by kernel_rfl)  (fun _ => y_faddr rfl Fa54x1) (fun _ => hS) ?_
 refine x_l 3 (.slice pa0 pn0 pc0) rfl (by kernel_rfl)  (fun w' hw' => y_load rfl ((box_load Ag47 Sz47 a0 [(.int .i64 r_.1)] [(.slice pa0 pn0 pc0)] [] rfl rfl (fun _ => rfl)) w' hw')) hS ?_
 refine x_one (i := 4) (by kernel_rfl) ?_
 obtain ⟨r6, c4, hs⟩ := bind_some hs
 refine xk_call (b := false) rfl  Bd122 rfl (c_impl_cloneRows (M := M) r_.2 h0 hO.fut c4) rfl (by rintro _ _ _ ⟨a4, a5, a6, b4, rfl, a1, b1, b9⟩; exact hS.ext a1) ?_
 rintro _ c7 ⟨a4, a5, a6, b4, rfl, a1, b1, b9⟩
 have h0 := h0.ext a1
 have a0 := a0.cn a1
 have a2 := a2.cn a1
 have hC := hC.ext a1
 have hO := Own.join0 hO a1 b9
 have hO := hO.perm (R := b4 ++ (([a9]) ++ (([a8]) ++ ([])))) (by simp)
 have hS := hS.ext a1
 refine x_p 5 (.agg #[(.int .i64 r_.1), (.slice a4 a5 a6)]) rfl (by kernel_rfl)  (fun _ => y_build rfl (by kernel_rfl)) (fun _ => hS) ?_
 refine x_one (i := 6) (by kernel_rfl) ?_
 obtain ⟨c0, c5, a7, b5⟩ := box_store (P := Try.prog) a2 [] [(.int .i64 0), (.slice none 0 0)] [] [(.int .i64 r_.1), (.slice a4 a5 a6)] rfl rfl (by intro u hu; simp only [List.mem_cons, List.not_mem_nil, or_false] at hu; rcases hu with rfl | rfl <;> rfl)
 refine xk_skip (w' := c0) (b := true) rfl (ys_store rfl rfl (c5 _ _ rfl Sz54)) rfl (fun h => nomatch h) ?_
 have hO := hO.fr1
 have h0 := h0.mt a7 hO same_
 have a0 := a0.ap a7 hO same_ (mem_r (mem_l (List.mem_singleton.2 rfl)))
 have b1 := b1.ma a7 hO same_ (fun _ e => (mem_l (e)))
 have hC := hC.st a7 hO same_
 have hO := hO.ext a7
 have b5 : BoxV c0 a9 54 [(.int .i64 r_.1), (.slice a4 a5 a6)] := b5
 refine x_end (by kernel_rfl) ?_
 clear hS
 refine wp_ret ?_
 cases hs
 have hO := hO.drop
 have hO := hO.fr1
 have hO := hO.drop
 exact ⟨_, a9, a4, a5, a6, b4, fr_ovl 9 ⟨rfl, trivial⟩, b5, hC, b1, hO.top⟩

def k_impl_argsAt (M : Nat → Prop) (w0 : World) (r : (List Int)) (a : Act) (w : World) : Prop :=
  ∃ (σ : Nat → Value) (ra0 : Option Addr) (rn0 rc0 : Nat) (rf0 : List Nat), a = fr 27 (ovl σ [(6, (.slice ra0 rn0 rc0))]) ∧ Chg [] w0 w ∧ (RT.os 3 (RT.int .i64)).val M w (.slice ra0 rn0 rc0) r rf0 ∧ Own (Nw w0 []) (fun _ => True) w (rf0 ++ ([]))
def s_impl_argsAt (i : Int) (k : Int) (n : Int) : Option ((List Int)) :=
  (mks k (0 : Int)).bind fun y2 =>
  (iter (S := Int × Int × (List Int)) (R := (List Int)) (fun s17 =>
  (bif (decide (0 ≤ s17.2.1)) then (nz n).bind fun u26 =>
  (idx s17.2.2 s17.2.1).bind fun x27 =>
  (nz n).bind fun u30 =>
  some (.nx (w64 (Int.tdiv s17.1 n), w64 (s17.2.1 - 1), List.set s17.2.2 (Int.toNat s17.2.1) (Int.tmod s17.1 n))) else some (.br (s17.1, s17.2.1, s17.2.2)))) FU (i, w64 (k - 1), y2)).bind fun o21 => after o21 (fun r_ => some r_) (fun s17 =>
  some s17.2.2)
set_option maxHeartbeats 4000000 in
theorem c_impl_argsAt {M : Nat → Prop} {w : World}  (i : Int) (k : Int) (n : Int)  (hM : ∀ g, w.heap.size ≤ g → M g) {r : (List Int)} (hs : s_impl_argsAt i k n = some r) :
    Gives Try.prog 91 [(.int .i64 i), (.int .i64 k), (.int .i64 n)] w (fun v w' => ∃ (ra0 : Option Addr) (rn0 rc0 : Nat) (rf0 : List Nat), v = (.slice ra0 rn0 rc0) ∧ Chg [] w w' ∧ (RT.os 3 (RT.int .i64)).val M w' (.slice ra0 rn0 rc0) r rf0 ∧ Own (Nw w []) (fun _ => True) w' (rf0 ++ ([]))) := by
 refine calls_fr Try.func91 rfl Try.ntmps91 (Nat.le_of_ble_eq_true rfl) ?_
 have hO := Own.start (N := Nw w []) hM Nw.fut
 have hC := Chg.refl [] w
 unfold s_impl_argsAt at hs
 refine wp_mono (Q := KPost (k_impl_argsAt M w r)) ?_ (fun e a a7 h => ?_)
 rotate_left
 ·cases e
  case ret =>
   obtain ⟨σ, ra0, rn0, rc0, rf0, rfl, hrest⟩ := h
   exact ret1x Try.results91 (res_tmp rfl) ⟨ra0, rn0, rc0, rf0, rfl, hrest⟩
  all_goals exact (h : False).elim
 refine c_sr ?_
 refine pl_val (.slice none 0 0) (y_assign rfl) ?_
 refine c_nil ?_
 refine c_sr ?_
 refine pl_val (.int .i64 k) (y_move rfl) ?_
 obtain ⟨y2, b5, hs⟩ := bind_some hs
 obtain ⟨a0, a1, a2, a7, b6, b7, b1, b8, a8⟩ := mk_os (M := M) (w := w) (r := (RT.int .i64)) Rw41 b5 (fun _ _ => ⟨rfl, rfl⟩)
 refine pl_val (w' := a7) (.slice a0 a1 a2) (y_make rfl rfl b7) ?_
 have hC := hC.ext b1
 have hO := hO.new b1 b8 (os_nodup a8) a8.fpl
 refine pl_val (.slice a0 a1 a2) (y_assign rfl) ?_
 refine c_nil ?_
 refine c_seq ?_
 refine c_sr ?_
 refine pl_val (.int .i64 k) (y_move rfl) ?_
 refine pl_val (.int .i64 (w64 (k - 1))) (y_sub rfl rfl) ?_
 refine pl_val (.int .i64 (w64 (k - 1))) (y_assign rfl) ?_
 refine c_nil ?_
 obtain ⟨o21, b9, hs⟩ := bind_some hs
 refine wp_block ?_
 refine wp_iter (id := 0) (I := fun s17 a a3 => ∃ (σ : Nat → Value) (a4 : List Nat), a = fr 27 (ovl σ [(0, (.int .i64 s17.1)), (2, (.int .i64 n)), (7, (.slice a0 a1 a2)), (8, (.int .i64 s17.2.1))]) ∧ Chg [] w a3 ∧ Own (Nw w []) M a3 (a4 ++ []) ∧ (RT.os 3 (RT.int .i64)).val M a3 (.slice a0 a1 a2) s17.2.2 a4) (J := fun s17 a a3 => ∃ (σ : Nat → Value) (a6 : List Nat), a = fr 27 (ovl σ [(7, (.slice a0 a1 a2))]) ∧ Chg [] w a3 ∧ Own (Nw w []) M a3 (a6 ++ []) ∧ (RT.os 3 (RT.int .i64)).val M a3 (.slice a0 a1 a2) s17.2.2 a6) (K := (k_impl_argsAt M w)) ?_ FU (i, w64 (k - 1), y2) o21 _ _ ?_ b9 ?_
 ·rintro s17 o21 a a3 ⟨σ, a4, rfl, hC, hO, a5⟩ hs
  refine c_seq ?_
  refine c_sr ?_
  refine pl_val (.int .i64 s17.2.1) (y_move rfl) ?_
  refine pl_val (.bool (decide (0 ≤ s17.2.1))) (y_geq rfl rfl) ?_
  refine c_nil ?_
  rcases bif_some hs with ⟨a9, hs⟩ | ⟨a9, hs⟩
  ·refine c_condT (congrArg Value.bool a9) ?_
   refine wp_skip ?_
   refine c_seq ?_
   refine wp_block ?_
   refine c_sr ?_
   refine pl_val (.slice a0 a1 a2) (y_move rfl) ?_
   refine pl_val (.int .i64 s17.2.1) (y_move rfl) ?_
   refine pl_val (.int .i64 s17.1) (y_move rfl) ?_
   refine pl_val (.int .i64 n) (y_move rfl) ?_
   obtain ⟨u26, c0, hs⟩ := bind_some hs
   refine pl_val (.int .i64 (Int.tmod s17.1 n)) (y_rem rfl rfl (nz_ne c0)) ?_
   obtain ⟨x27, c1, hs⟩ := bind_some hs
   obtain ⟨b2, d1, b3, c2, c3, d2, d3⟩ := os_idx Sl41 Sz3 a5 c1
   refine pl_val (.pointer (some ⟨b2, 0 + Int.toNat s17.2.1 * 1, none⟩)) (c3 _ _ _ _ _ _ _ _ _ rfl rfl) ?_
   obtain ⟨c4, c5, c6, b4, c7, b0⟩ := os_store (P := Try.prog) (c' := [(.int .i64 (Int.tmod s17.1 n))]) b3 a5 c2 (fun g hg => hO.inM g (os_block a5 g (by simpa using hg))) ⟨rfl, rfl⟩ List.nodup_nil (fun _ h => nomatch h) (fun _ h => .inl h)
   have c8 : ∀ q ∈ [b2], q ∈ a4 := fun q hq => os_block a5 q (by rw [b3]; exact hq)
   refine pl_skip (w' := c4) (ys_store rfl rfl (c6 _ _ rfl Sz3)) ?_
   have hC := hC.st b4 hO c8
   have hO := hO.grow b4 (fun q hq => .inl ((c7 q hq).resolve_right (fun h => nomatch h))) (os_nodup b0) b0.fpl
   refine c_nil ?_
   refine c_region ?_
   refine pl_val (.int .i64 s17.1) (y_move rfl) ?_
   refine pl_val (.int .i64 n) (y_move rfl) ?_
   obtain ⟨u30, c9, hs⟩ := bind_some hs
   refine pl_val (.int .i64 (w64 (Int.tdiv s17.1 n))) (y_quo rfl rfl (nz_ne c9)) ?_
   refine pl_val (.int .i64 (w64 (Int.tdiv s17.1 n))) (y_assign rfl) ?_
   refine c_nil ?_
   refine c_region ?_
   refine pl_val (.int .i64 s17.2.1) (y_move rfl) ?_
   refine pl_val (.int .i64 (w64 (s17.2.1 - 1))) (y_sub rfl rfl) ?_
   refine pl_val (.int .i64 (w64 (s17.2.1 - 1))) (y_assign rfl) ?_
   refine c_nil ?_
   cases hs
   exact ⟨_, c5, fr_ovl 27 ⟨rfl, rfl, rfl, rfl, trivial⟩, hC, hO, b0⟩
  refine c_condF (congrArg Value.bool a9) ?_
  refine wp_exit ?_
  cases hs
  exact ⟨rfl, _, a4, fr_ovl 27 ⟨rfl, trivial⟩, hC, hO, a5⟩
 ·skip
  exact ⟨_, b6, fr_ovl 27 ⟨rfl, rfl, rfl, rfl, trivial⟩, hC, hO, a8⟩
 cases o21 with
 | nx _ => exact True.intro
 | rt r_ =>
  have hs := after_rt hs
  intro a0 a7 hK
  cases hs
  exact hK
 | br s17 =>
  have hs := after_br hs
  rintro a0 a3 ⟨σ, a6, rfl, hC, hO, d0⟩
  refine c_sr ?_
  refine pl_val (.slice a0 a1 a2) (y_move rfl) ?_
  refine pl_val (.slice a0 a1 a2) (y_assign rfl) ?_
  refine c_nil ?_
  refine wp_ret ?_
  cases hs
  exact ⟨_, a0, a1, a2, a6, fr_ovl 27 ⟨rfl, trivial⟩, hC, d0, hO.top⟩

def k_impl_sameList (M : Nat → Prop) (w0 : World) (r : Bool) (a : Act) (w : World) : Prop :=
  ∃ (σ : Nat → Value) , a = fr 26 (ovl σ [(4, (.bool r))]) ∧ Chg [] w0 w
def s_impl_sameList (a_ : List Int) (b : List Int) : Option (Bool) :=
  (bif ((a_.length : Int) != (b.length : Int)) then some false else (forC (S := Unit) (R := Bool) (fun k11 s9 =>
  (idx a_ k11).bind fun x15 =>
  (idx b k11).bind fun x17 =>
  (bif (x17 != x15) then some (.rt false) else some (.nx ()))) 0 (a_.length : Int) ()).bind fun o13 => after o13 (fun r_ => some r_) (fun s9 =>
  some true))
set_option maxHeartbeats 4000000 in
theorem c_impl_sameList {M : Nat → Prop} {w : World} {pa0 : Option Addr} {pn0 pc0 : Nat} {pa1 : Option Addr} {pn1 pc1 : Nat} (a_ : List Int) (b : List Int) (h0 : (RT.rs (RT.int .i64)).val M w (.slice pa0 pn0 pc0) a_ ([])) (h1 : (RT.rs (RT.int .i64)).val M w (.slice pa1 pn1 pc1) b ([])) (hM : ∀ g, w.heap.size ≤ g → M g) {r : Bool} (hs : s_impl_sameList a_ b = some r) :
    Gives Try.prog 119 [(.slice pa0 pn0 pc0), (.slice pa1 pn1 pc1)] w (fun v w' => v = (.bool r) ∧ Chg [] w w') := by
 refine calls_fr Try.func119 rfl Try.ntmps119 (Nat.le_of_ble_eq_true rfl) ?_
 have hO := Own.start (N := Nw w []) hM Nw.fut
 have hC := Chg.refl [] w
 unfold s_impl_sameList at hs
 refine wp_mono (Q := KPost (k_impl_sameList M w r)) ?_ (fun e a a3 h => ?_)
 rotate_left
 ·cases e
  case ret =>
   obtain ⟨σ, rfl, hrest⟩ := h
   exact ret1x Try.results119 (res_tmp rfl) ⟨rfl, hrest⟩
  all_goals exact (h : False).elim
 refine c_sr ?_
 refine pl_val (.bool false) (y_assign rfl) ?_
 refine c_nil ?_
 refine c_seq ?_
 refine c_sr ?_
 refine pl_val (.slice pa0 pn0 pc0) (y_move rfl) ?_
 refine pl_val (.int .i64 (a_.length : Int)) (y_len' Sl41 (rs_len h0) rfl) ?_
 refine pl_val (.slice pa1 pn1 pc1) (y_move rfl) ?_
 refine pl_val (.int .i64 (b.length : Int)) (y_len' Sl41 (rs_len h1) rfl) ?_
 refine pl_val (.bool ((a_.length : Int) != (b.length : Int))) (y_neq rfl rfl) ?_
 refine c_nil ?_
 rcases bif_some hs with ⟨a1, hs⟩ | ⟨a1, hs⟩
 ·refine c_condT (congrArg Value.bool a1) ?_
  refine c_sr ?_
  refine pl_val (.bool false) (y_assign rfl) ?_
  refine c_nil ?_
  refine wp_ret ?_
  cases hs
  exact ⟨_, fr_ovl 26 ⟨rfl, trivial⟩, hC⟩
 refine c_condF (congrArg Value.bool a1) ?_
 refine wp_skip ?_
 refine c_seq ?_
 refine c_sr ?_
 refine pl_val (.slice pa0 pn0 pc0) (y_move rfl) ?_
 refine pl_val (.int .i64 (a_.length : Int)) (y_len' Sl41 (rs_len h0) rfl) ?_
 refine pl_val (.int .i64 0) (y_move rfl) ?_
 refine c_nil ?_
 obtain ⟨o13, a4, hs⟩ := bind_some hs
 refine wp_block ?_
 refine wp_forC (id := 0) (a_.length : Int) (I := fun k11 s9 a a0 => ∃ (σ : Nat → Value), a = fr 26 (ovl σ [(1, (.slice pa1 pn1 pc1)), (12, (.slice pa0 pn0 pc0)), (13, (.int .i64 (a_.length : Int))), (14, (.int .i64 k11))]) ∧ Chg [] w a0 ∧ Own (Nw w []) M a0 ([]) ∧ (RT.rs (RT.int .i64)).val M a0 (.slice pa0 pn0 pc0) a_ ([]) ∧ (RT.rs (RT.int .i64)).val M a0 (.slice pa1 pn1 pc1) b ([])) (J := fun s9 a a0 => ∃ (σ : Nat → Value), a = fr 26 (ovl σ []) ∧ Chg [] w a0 ∧ Own (Nw w []) M a0 ([]) ∧ (RT.rs (RT.int .i64)).val M a0 (.slice pa0 pn0 pc0) a_ ([]) ∧ (RT.rs (RT.int .i64)).val M a0 (.slice pa1 pn1 pc1) b ([])) (K := (k_impl_sameList M w)) ?_ ?_ 0 () o13 _ _ ?_ a4 ?_
 ·rintro k11 s9 a a0 ⟨σ, rfl, hC, hO, h0, h1⟩ hlt
  refine c_sr ?_
  refine pl_val (.bool (decide (k11 < (a_.length : Int)))) (y_lss rfl rfl) ?_
  refine c_nil ?_
  refine c_seq ?_
  refine c_condF (congrArg Value.bool (decide_eq_false hlt)) ?_
  refine wp_exit ?_
  exact ⟨rfl, _, fr_ovl 26 trivial, hC, hO, h0, h1⟩
 ·rintro k11 s9 o13 a a0 ⟨σ, rfl, hC, hO, h0, h1⟩ hlt hw hs
  refine c_sr ?_
  refine pl_val (.bool (decide (k11 < (a_.length : Int)))) (y_lss rfl rfl) ?_
  refine c_nil ?_
  refine c_seq ?_
  refine c_condT (congrArg Value.bool (decide_eq_true hlt)) ?_
  refine wp_skip ?_
  refine c_seq ?_
  refine wp_block ?_
  refine c_sr ?_
  refine pl_val (.int .i64 k11) (y_move rfl) ?_
  obtain ⟨x15, a5, hs⟩ := bind_some hs
  obtain ⟨a6, a7, a8, a9⟩ := rs_idx Sl41 Sz3 h0 a5
  refine pl_val (.pointer (some ⟨a6, a7, none⟩)) (a8 _ _ _ _ _ _ _ _ _ rfl rfl) ?_
  refine pl_val (.int .i64 x15) (y_load rfl ((at_load_int Ag3 Sz3 a9) _ (Chg.refl _ _))) ?_
  refine pl_val (.int .i64 k11) (y_assign rfl) ?_
  refine pl_val (.int .i64 x15) (y_assign rfl) ?_
  refine c_nil ?_
  refine c_sr ?_
  refine pl_val (.slice pa1 pn1 pc1) (y_move rfl) ?_
  refine pl_val (.int .i64 k11) (y_move rfl) ?_
  obtain ⟨x17, b0, hs⟩ := bind_some hs
  obtain ⟨b1, b2, b3, b4⟩ := rs_idx Sl41 Sz3 h1 b0
  refine pl_val (.pointer (some ⟨b1, b2, none⟩)) (b3 _ _ _ _ _ _ _ _ _ rfl rfl) ?_
  refine pl_val (.int .i64 x17) (y_load rfl ((at_load_int Ag3 Sz3 b4) _ (Chg.refl _ _))) ?_
  refine pl_val (.int .i64 x15) (y_move rfl) ?_
  refine pl_val (.bool (x17 != x15)) (y_neq rfl rfl) ?_
  refine c_nil ?_
  rcases bif_some hs with ⟨a2, hs⟩ | ⟨a2, hs⟩
  ·refine c_condT (congrArg Value.bool a2) ?_
   refine c_sr ?_
   refine pl_val (.bool false) (y_assign rfl) ?_
   refine c_nil ?_
   refine wp_ret ?_
   cases hs
   exact ⟨_, fr_ovl 26 ⟨rfl, trivial⟩, hC⟩
  refine c_condF (congrArg Value.bool a2) ?_
  refine wp_skip ?_
  refine c_region ?_
  refine pl_val (.int .i64 (w64 (k11 + 1))) (y_add rfl rfl) ?_
  refine pl_val (.int .i64 (w64 (k11 + 1))) (y_move rfl) ?_
  refine c_nil ?_
  cases hs
  exact ⟨_, fr_ovl 26 ⟨rfl, rfl, rfl, congrArg (Value.int .i64) hw, trivial⟩, hC, hO, h0, h1⟩
 ·skip
  exact ⟨_, fr_ovl 26 ⟨rfl, rfl, rfl, rfl, trivial⟩, hC, hO, h0, h1⟩
 cases o13 with
 | nx _ => exact True.intro
 | rt r_ =>
  have hs := after_rt hs
  intro b5 a3 hK
  cases hs
  exact hK
 | br s9 =>
  have hs := after_br hs
  rintro b5 a0 ⟨σ, rfl, hC, hO, h0, h1⟩
  refine c_sr ?_
  refine pl_val (.bool true) (y_assign rfl) ?_
  refine c_nil ?_
  refine wp_ret ?_
  cases hs
  exact ⟨_, fr_ovl 26 ⟨rfl, trivial⟩, hC⟩

theorem Bd119 : Bodied Try.prog 119 := bodied Try.func119 (by kernel_rfl) rfl

end Go.Proofs
