/- What functions of the program compute, as plain functions, and that a call gives just that. Conditions: those named in each theorem. -/
import Derived.Test.YtceenhnjdnggjaaF0
set_option linter.unusedVariables false
namespace Go.Proofs
open Go.G Go.RowKit
set_option maxRecDepth 100000

def k_impl_relationTable (M : Nat → Prop) (w0 : World) (r : (List (List Bool))) (a : Act) (w : World) : Prop :=
  ∃ (σ : Nat → Value) (ra0 : Option Addr) (rn0 rc0 : Nat) (rf0 : List Nat), a = fr 41 (ovl σ [(4, (.slice ra0 rn0 rc0))]) ∧ Chg [] w0 w ∧ (RT.os 57 (RT.os 4 RT.bool)).val M w (.slice ra0 rn0 rc0) r rf0 ∧ Own (Nw w0 []) (fun _ => True) w (rf0 ++ ([]))
def s_impl_relationTable (n : Int) (r_ : Int × (List (List Int))) : Option ((List (List Bool))) :=
  (mks n ([] : List Bool)).bind fun y4 =>
  (forC (S := (List (List Bool))) (R := (List (List Bool))) (fun k21 s19 =>
  (mks n (false : Bool)).bind fun y28 =>
  (idx s19 k21).bind fun x30 =>
  some (.nx (List.set s19 (Int.toNat k21) y28))) 0 (y4.length : Int) y4).bind fun o23 => after o23 (fun r_ => some r_) (fun s19 =>
  (forR (S := (List (List Bool))) (R := (List (List Bool))) (fun _ x67 s64 =>
  (idx x67 0).bind fun x76 =>
  (idx s64 x76).bind fun x78 =>
  (idx x67 1).bind fun x82 =>
  (idx x78 x82).bind fun x84 =>
  some (.nx (List.set s64 (Int.toNat x76) (List.set x78 (Int.toNat x82) true)))) 0 r_.2 s19).bind fun o68 => after o68 (fun r_ => some r_) (fun s64 =>
  some s64))
set_option maxHeartbeats 4000000 in
theorem c_impl_relationTable {M : Nat → Prop} {w : World} {pa0 : Option Addr} {pn0 pc0 : Nat} (n : Int) (r_ : Int × (List (List Int))) (h0 : (RT.rs (RT.rs (RT.int .i64))).val M w (.slice pa0 pn0 pc0) r_.2 ([])) (hM : ∀ g, w.heap.size ≤ g → M g) {r : (List (List Bool))} (hs : s_impl_relationTable n r_ = some r) :
    Gives Try.prog 86 [(.int .i64 n), (.agg #[(.int .i64 r_.1), (.slice pa0 pn0 pc0)])] w (fun v w' => ∃ (ra0 : Option Addr) (rn0 rc0 : Nat) (rf0 : List Nat), v = (.slice ra0 rn0 rc0) ∧ Chg [] w w' ∧ (RT.os 57 (RT.os 4 RT.bool)).val M w' (.slice ra0 rn0 rc0) r rf0 ∧ Own (Nw w []) (fun _ => True) w' (rf0 ++ ([]))) := by
  refine calls_fr Try.func86 rfl Try.ntmps86 (Nat.le_of_ble_eq_true rfl) ?_
  have hO := Own.start (N := Nw w []) hM Nw.fut
  have hC := Chg.refl [] w
  unfold s_impl_relationTable at hs
  refine wp_mono (Q := KPost (k_impl_relationTable M w r)) ?_ (fun e a w1 h => ?_)
  rotate_left
  · cases e
    case ret =>
      obtain ⟨σ, ra0, rn0, rc0, rf0, rfl, hrest⟩ := h
      exact ret1x Try.results86 (res_tmp rfl) ⟨ra0, rn0, rc0, rf0, rfl, hrest⟩
    all_goals exact (h : False).elim
  refine c_seq ?_
  refine c_region ?_
  obtain ⟨w2, g2, ew2, eg2, hC2, hb2⟩ := new_block w [(.int .i64 r_.1), (.slice pa0 pn0 pc0)] 31
  refine pl_val (w' := w2) (.pointer (some ⟨g2, 0, none⟩)) (y_box rfl (by rw [ew2, eg2]; kernel_rfl)) ?_
  have h0 := h0.ext hC2
  have hC := hC.ext hC2
  have hO := hO.new (X' := [g2]) hC2 (fun q hq => by rw [List.mem_singleton.1 hq, eg2]; exact Nat.le_refl _) (List.nodup_cons.2 ⟨(fun h => nomatch h), List.nodup_nil⟩) (fun q hq => by rw [List.mem_singleton.1 hq]; exact hb2.lt)
  refine pl_val (.slice none 0 0) (y_assign rfl) ?_
  refine c_nil ?_
  refine c_seq ?_
  refine c_region ?_
  refine pl_val (.int .i64 n) (y_move rfl) ?_
  obtain ⟨y4, hy4, hs⟩ := bind_some hs
  obtain ⟨a3, n3, c3, w3, f3, hm3, hC3, hfr3, hv3⟩ := mk_os (M := M) (w := w2) (r := (RT.os 4 RT.bool)) Rw100 hy4 (fun _ _ => (os_unval os_nil))
  refine pl_val (w' := w3) (.slice a3 n3 c3) (y_make rfl rfl hm3) ?_
  have h0 := h0.ext hC3
  have hb2 := hb2.chg hC3 (fun h => nomatch h)
  have hC := hC.ext hC3
  have hO := hO.new hC3 hfr3 (os_nodup hv3) hv3.fpl
  refine pl_val (.slice a3 n3 c3) (y_assign rfl) ?_
  refine c_nil ?_
  refine c_seq ?_
  refine c_seq ?_
  refine c_region ?_
  refine pl_val (.slice a3 n3 c3) (y_move rfl) ?_
  refine pl_val (.int .i64 (y4.length : Int)) (y_len' Sl100 (os_len hv3) rfl) ?_
  refine pl_val (.int .i64 0) (y_move rfl) ?_
  refine c_nil ?_
  obtain ⟨o23, hl24, hs⟩ := bind_some hs
  refine wp_block ?_
  refine wp_forC (id := 0) (y4.length : Int) (I := fun k21 s19 a w20 => ∃ (σ : Nat → Value) (f25 : List Nat), a = fr 41 (ovl σ [(0, (.int .i64 n)), (3, (.pointer (some ⟨g2, 0, none⟩))), (5, (.slice a3 n3 c3)), (12, (.int .i64 (y4.length : Int))), (13, (.int .i64 k21))]) ∧ Chg [] w w20 ∧ Own (Nw w []) M w20 (f25 ++ (([g2]) ++ [])) ∧ (RT.rs (RT.rs (RT.int .i64))).val M w20 (.slice pa0 pn0 pc0) r_.2 ([]) ∧ BoxV w20 g2 31 [(.int .i64 r_.1), (.slice pa0 pn0 pc0)] ∧ (RT.os 57 (RT.os 4 RT.bool)).val M w20 (.slice a3 n3 c3) s19 f25) (J := fun s19 a w20 => ∃ (σ : Nat → Value) (f26 : List Nat), a = fr 41 (ovl σ [(3, (.pointer (some ⟨g2, 0, none⟩))), (5, (.slice a3 n3 c3))]) ∧ Chg [] w w20 ∧ Own (Nw w []) M w20 (f26 ++ (([g2]) ++ [])) ∧ (RT.rs (RT.rs (RT.int .i64))).val M w20 (.slice pa0 pn0 pc0) r_.2 ([]) ∧ BoxV w20 g2 31 [(.int .i64 r_.1), (.slice pa0 pn0 pc0)] ∧ (RT.os 57 (RT.os 4 RT.bool)).val M w20 (.slice a3 n3 c3) s19 f26) (K := (k_impl_relationTable M w)) ?_ ?_ 0 y4 o23 _ _ ?_ hl24 ?_
  · rintro k21 s19 a w20 ⟨σ, f25, rfl, hC, hO, h0, hb2, hv25⟩ hlt
    refine c_seq ?_
    refine c_region ?_
    refine pl_val (.bool (decide (k21 < (y4.length : Int)))) (y_lss rfl rfl) ?_
    refine c_nil ?_
    refine c_seq ?_
    refine c_condF (congrArg Value.bool (decide_eq_false hlt)) ?_
    refine wp_exit ?_
    have hO := hO.fr1
    have hO := hO.fr1
    exact ⟨rfl, _, f25, fr_ovl 41 ⟨rfl, rfl, trivial⟩, hC, hO, h0, hb2, hv25⟩
  · rintro k21 s19 o23 a w20 ⟨σ, f25, rfl, hC, hO, h0, hb2, hv25⟩ hlt hw hs
    refine c_seq ?_
    refine c_region ?_
    refine pl_val (.bool (decide (k21 < (y4.length : Int)))) (y_lss rfl rfl) ?_
    refine c_nil ?_
    refine c_seq ?_
    refine c_condT (congrArg Value.bool (decide_eq_true hlt)) ?_
    refine wp_skip ?_
    refine c_seq ?_
    refine wp_block ?_
    refine c_seq ?_
    refine c_region ?_
    refine pl_val (.int .i64 k21) (y_move rfl) ?_
    refine pl_val (.int .i64 k21) (y_assign rfl) ?_
    refine c_nil ?_
    refine c_region ?_
    refine pl_val (.slice a3 n3 c3) (y_move rfl) ?_
    refine pl_val (.int .i64 k21) (y_move rfl) ?_
    refine pl_val (.int .i64 n) (y_move rfl) ?_
    obtain ⟨y28, hy28, hs⟩ := bind_some hs
    obtain ⟨a27, n27, c27, w27, f27, hm27, hC27, hfr27, hv27⟩ := mk_os (M := M) (w := w20) (r := RT.bool) Rw57 hy28 (fun _ _ => ⟨rfl, rfl⟩)
    refine pl_val (w' := w27) (.slice a27 n27 c27) (y_make rfl rfl hm27) ?_
    have h0 := h0.ext hC27
    have hb2 := hb2.chg hC27 (fun h => nomatch h)
    have hv25 := hv25.ext hC27
    have hC := hC.ext hC27
    have hO := hO.new hC27 hfr27 (os_nodup hv27) hv27.fpl
    obtain ⟨x30, hx30, hs⟩ := bind_some hs
    obtain ⟨g31, f31, hg31, hk31, hp31, ha31, hf31⟩ := os_idx Sl100 Sz57 hv25 hx30
    have hb31 := own_row (Frz.os Frz.bool) ha31 hf31
    refine pl_val (.pointer (some ⟨g31, 0 + Int.toNat k21 * 1, none⟩)) (hp31 _ _ _ _ _ _ _ _ _ rfl rfl) ?_
    have hO := hO.fr1
    obtain ⟨w32, f32, hst32, hC32, hf32, hv32⟩ := os_store (P := Try.prog) (c' := [(.slice a27 n27 c27)]) hg31 hv25 hk31 (fun g hg => hO.inM g (os_block hv25 g (by simpa using hg))) (os_unval hv27) (hO.drop.perm (R := f27 ++ (([g2]) ++ ([]))) (by simp)).nd (fun g hg hq => hO.apart g hq (by simp only [List.mem_append, List.not_mem_nil, false_or, or_false] at hg ⊢; simp [hg])) (fun _ h => .inl h)
    have hG32 : ∀ q ∈ [g31], q ∈ f25 := fun q hq => os_block hv25 q (by rw [hg31]; exact hq)
    refine pl_skip (w' := w32) (ys_store rfl rfl (hst32 _ _ rfl Sz57)) ?_
    have hO := hO.fr1
    have hO := hO.fr1
    have h0 := h0.mut hC32 (fun g hg => hO.inM g (hG32 g hg)) (fun _ _ h => nomatch h)
    have hb2 := hb2.chg hC32 (fun hg => hO.apart _ (hG32 _ hg) (mem_r (mem_l (List.mem_singleton.2 rfl))))
    have hC := hC.step hC32 (fun g hg => hO.inN g (hG32 g hg))
    have hO := hO.perm (R := f25 ++ (f27 ++ (([g2]) ++ ([])))) (by simp)
    have hO := hO.eat hC32 (fun q hq => (hf32 q hq).elim .inl (fun h => .inr (.inl h))) (os_nodup hv32) hv32.fpl
    refine c_nil ?_
    refine c_region ?_
    refine pl_val (.int .i64 (w64 (k21 + 1))) (y_add rfl rfl) ?_
    refine pl_val (.int .i64 (w64 (k21 + 1))) (y_move rfl) ?_
    refine c_nil ?_
    cases hs
    have hO := hO.fr1
    have hO := hO.fr1
    exact ⟨_, f32, fr_ovl 41 ⟨rfl, rfl, rfl, rfl, congrArg (Value.int .i64) hw, trivial⟩, hC, hO, h0, hb2, hv32⟩
  · skip
    have hO := hO.fr1
    have hO := hO.fr1
    exact ⟨_, f3, fr_ovl 41 ⟨rfl, rfl, rfl, rfl, rfl, trivial⟩, hC, hO, h0, hb2, hv3⟩
  · cases o23 with
    | nx _ => exact True.intro
    | rt r_ =>
      have hs := after_rt hs
      intro a1 w1 hK
      cases hs
      exact hK
    | br s19 =>
      have hs := after_br hs
      rintro a1 w20 ⟨σ, f26, rfl, hC, hO, h0, hb2, hv26⟩
      refine c_seq ?_
      refine c_seq ?_
      refine c_region ?_
      refine pl_val (.pointer (some ⟨g2, 1, none⟩)) (y_faddr rfl Fa31x1) ?_
      refine pl_val (.slice pa0 pn0 pc0) (y_load rfl ((box_load Ag29 Sz29 hb2 [(.int .i64 r_.1)] [(.slice pa0 pn0 pc0)] [] rfl rfl (fun _ => rfl)) _ (Chg.refl _ _))) ?_
      refine pl_val (.int .i64 (r_.2.length : Int)) (y_len' Sl29 (rs_len h0) rfl) ?_
      refine pl_val (.int .i64 0) (y_move rfl) ?_
      refine c_nil ?_
      have hO := hO.fr1
      have hO := hO.drop
      obtain ⟨o68, hl69, hs⟩ := bind_some hs
      refine wp_block ?_
      refine wp_forR (id := 2) (I := fun i_ xs_ s64 a w65 => ∃ k66 : Nat, i_ = (k66 : Int) ∧ List.drop k66 r_.2 = xs_ ∧ (∃ (σ : Nat → Value) (f70 : List Nat), a = fr 41 (ovl σ [(5, (.slice a3 n3 c3)), (23, (.slice pa0 pn0 pc0)), (24, (.int .i64 (r_.2.length : Int))), (25, (.int .i64 (k66 : Int)))]) ∧ Chg [] w w65 ∧ Own (Nw w []) M w65 (f70 ++ []) ∧ (RT.rs (RT.rs (RT.int .i64))).val M w65 (.slice pa0 pn0 pc0) r_.2 ([]) ∧ (RT.os 57 (RT.os 4 RT.bool)).val M w65 (.slice a3 n3 c3) s64 f70)) (J := fun s64 a w65 => ∃ (σ : Nat → Value) (f71 : List Nat), a = fr 41 (ovl σ [(5, (.slice a3 n3 c3))]) ∧ Chg [] w w65 ∧ Own (Nw w []) M w65 (f71 ++ []) ∧ (RT.rs (RT.rs (RT.int .i64))).val M w65 (.slice pa0 pn0 pc0) r_.2 ([]) ∧ (RT.os 57 (RT.os 4 RT.bool)).val M w65 (.slice a3 n3 c3) s64 f71) (K := (k_impl_relationTable M w)) ?_ ?_ r_.2 0 s19 o68 _ _ ?_ hl69 ?_
      · rintro _ s64 a w65 ⟨k66, rfl, hd, σ, f70, rfl, hC, hO, h0, hv70⟩
        have hlt := drop_nil_ge hd
        refine c_seq ?_
        refine c_region ?_
        refine pl_val (.bool (decide ((k66 : Int) < (r_.2.length : Int)))) (y_lss rfl rfl) ?_
        refine c_nil ?_
        refine c_seq ?_
        refine c_condF (congrArg Value.bool (decide_eq_false hlt)) ?_
        refine wp_exit ?_
        exact ⟨rfl, _, f70, fr_ovl 41 ⟨rfl, trivial⟩, hC, hO, h0, hv70⟩
      · rintro _ x67 xs_ s64 o68 a w65 ⟨k66, rfl, hd, σ, f70, rfl, hC, hO, h0, hv70⟩ hs
        have hlt := drop_cons_lt hd
        have hxk66 := drop_cons_idx hd
        refine c_seq ?_
        refine c_region ?_
        refine pl_val (.bool (decide ((k66 : Int) < (r_.2.length : Int)))) (y_lss rfl rfl) ?_
        refine c_nil ?_
        refine c_seq ?_
        refine c_condT (congrArg Value.bool (decide_eq_true hlt)) ?_
        refine wp_skip ?_
        refine c_seq ?_
        refine wp_block ?_
        refine c_seq ?_
        refine c_region ?_
        obtain ⟨b72, o72, hp72, ha72⟩ := rs_idx Sl29 Sz22 h0 hxk66
        refine pl_val (.pointer (some ⟨b72, o72, none⟩)) (hp72 _ _ _ _ _ _ _ _ _ rfl rfl) ?_
        obtain ⟨v73, hl73, hv73⟩ := at_load Ag22 Sz22 (fun _ => rfl) ha72
        obtain ⟨a73, n73, c73, rfl⟩ := rs_sl hv73
        refine pl_val (.slice a73 n73 c73) (y_load rfl (hl73 _ (Chg.refl _ _))) ?_
        refine pl_val (.slice a73 n73 c73) (y_assign rfl) ?_
        refine c_nil ?_
        refine x_start [10] Mx rfl ?_
        have hCw75 := Chg.drew w65
        generalize World.drew w65 = w75 at hCw75 ⊢
        have h0 := h0.ext hCw75
        have hv70 := hv70.ext hCw75
        have hv73 := hv73.ext hCw75
        have hC := hC.ext hCw75
        have hO := hO.ext hCw75
        have hS := Chg.refl [] w75
        refine x_p 0 (.slice a3 n3 c3) rfl (by kernel_rfl)  (fun _ => y_move rfl) (fun _ => hS) ?_
        refine x_p 1 (.slice a73 n73 c73) rfl (by kernel_rfl)  (fun _ => y_move rfl) (fun _ => hS) ?_
        obtain ⟨x76, hx76, hs⟩ := bind_some hs
        obtain ⟨b77, o77, hp77, ha77⟩ := rs_idx Sl22 Sz3 hv73 hx76
        refine x_p 2 (.pointer (some ⟨b77, o77, none⟩)) rfl (by kernel_rfl)  (fun _ => hp77 _ _ _ _ _ _ _ _ _ rfl rfl) (fun _ => hS) ?_
        refine x_l 3 (.int .i64 x76) rfl (by kernel_rfl)  (fun w' hw' => y_load rfl ((at_load_int Ag3 Sz3 ha77) w' hw')) hS ?_
        obtain ⟨x78, hx78, hs⟩ := bind_some hs
        obtain ⟨g79, f79, hg79, hk79, hp79, ha79, hf79⟩ := os_idx Sl100 Sz57 hv70 hx78
        have hb79 := own_row (Frz.os Frz.bool) ha79 hf79
        refine x_p 4 (.pointer (some ⟨g79, 0 + Int.toNat x76 * 1, none⟩)) rfl (by kernel_rfl)  (fun _ => hp79 _ _ _ _ _ _ _ _ _ rfl rfl) (fun _ => hS) ?_
        obtain ⟨v80, hl80, hrow80, hv80⟩ := at_load1 Ag57 Sz57 rfl rfl hb79
        obtain ⟨a80, n80, c80, rfl⟩ := rs_sl hv80
        refine x_l 5 (.slice a80 n80 c80) rfl (by kernel_rfl)  (fun w' hw' => y_load rfl (hl80 w' hw')) hS ?_
        refine x_p 6 (.slice a73 n73 c73) rfl (by kernel_rfl)  (fun _ => y_move rfl) (fun _ => hS) ?_
        obtain ⟨x82, hx82, hs⟩ := bind_some hs
        obtain ⟨b83, o83, hp83, ha83⟩ := rs_idx Sl22 Sz3 hv73 hx82
        refine x_p 7 (.pointer (some ⟨b83, o83, none⟩)) rfl (by kernel_rfl)  (fun _ => hp83 _ _ _ _ _ _ _ _ _ rfl rfl) (fun _ => hS) ?_
        refine x_l 8 (.int .i64 x82) rfl (by kernel_rfl)  (fun w' hw' => y_load rfl ((at_load_int Ag3 Sz3 ha83) w' hw')) hS ?_
        obtain ⟨x84, hx84, hs⟩ := bind_some hs
        obtain ⟨fr85, hrr85, hfr85, _, _⟩ := os_put hg79 hv70 hx78 hrow80 rfl hO.inM
        obtain ⟨g85, f85, hg85, hk85, hp85, ha85, hf85⟩ := os_idx Sl57 Sz4 (show (RT.os 4 RT.bool).val M w75 (.slice a80 n80 c80) _ fr85 from ⟨[_], rfl, hrr85⟩) hx84
        refine x_p 9 (.pointer (some ⟨g85, 0 + Int.toNat x82 * 1, none⟩)) rfl (by kernel_rfl)  (fun _ => hp85 _ _ _ _ _ _ _ _ _ rfl rfl) (fun _ => hS) ?_
        refine x_one (i := 10) (by kernel_rfl) ?_
        obtain ⟨w86, f86, hst86, hC86, hG86, hf86, hv86⟩ := os_store2 (P := Try.prog) (c' := [(.bool true)]) hg79 hv70 hx78 hrow80 hg85 hk85 hO.inM ⟨rfl, rfl⟩
        refine xk_skip (w' := w86) (b := true) rfl (ys_store rfl rfl (hst86 _ _ rfl Sz4)) rfl (fun h => nomatch h) ?_
        have h0 := h0.mut hC86 (fun g hg => hO.inM g (hG86 g hg)) (fun _ _ h => nomatch h)
        have hv73 := hv73.mut hC86 (fun g hg => hO.inM g (hG86 g hg)) (fun _ _ h => nomatch h)
        have hC := hC.step hC86 (fun g hg => hO.inN g (hG86 g hg))
        have hO := hO.grow hC86 hf86 (os_nodup hv86) hv86.fpl
        refine x_end (by kernel_rfl) ?_
        clear hS
        refine c_region ?_
        refine pl_val (.int .i64 (w64 ((k66 : Int) + 1))) (y_add rfl rfl) ?_
        refine pl_val (.int .i64 (w64 ((k66 : Int) + 1))) (y_move rfl) ?_
        refine c_nil ?_
        cases hs
        exact ⟨_, rfl, drop_cons_next hd, _, f86, fr_ovl 41 ⟨rfl, rfl, rfl, congrArg (Value.int .i64) (w64_succ hlt (Int.natCast_nonneg _) (rs_max h0)), trivial⟩, hC, hO, h0, hv86⟩
      · skip
        exact ⟨0, rfl, rfl, _, f26, fr_ovl 41 ⟨rfl, rfl, rfl, rfl, trivial⟩, hC, hO, h0, hv26⟩
      · cases o68 with
        | nx _ => exact True.intro
        | rt r_ =>
          have hs := after_rt hs
          intro a1 w1 hK
          cases hs
          exact hK
        | br s64 =>
          have hs := after_br hs
          rintro a1 w65 ⟨σ, f71, rfl, hC, hO, h0, hv71⟩
          refine c_seq ?_
          refine c_region ?_
          refine pl_val (.slice a3 n3 c3) (y_move rfl) ?_
          refine pl_val (.slice a3 n3 c3) (y_assign rfl) ?_
          refine c_nil ?_
          refine wp_ret ?_
          cases hs
          exact ⟨_, a3, n3, c3, f71, fr_ovl 41 ⟨rfl, trivial⟩, hC, hv71, hO.top⟩

theorem Bd85 : Bodied Try.prog 85 := bodied Try.func85 (by kernel_rfl) rfl

theorem Bd86 : Bodied Try.prog 86 := bodied Try.func86 (by kernel_rfl) rfl

theorem Ag4 : AggT Try.prog 4 false := fun _ => by kernel_rfl

def k_impl_IsRectangular (M : Nat → Prop) (w0 : World) (r : Bool × Bool) (a : Act) (w : World) : Prop :=
  ∃ (σ : Nat → Value) , a = fr 50 (ovl σ [(4, (.bool r.1)), (5, (.bool r.2))]) ∧ Chg [] w0 w
def s_impl_IsRectangular (n : Int) (r_ : Int × (List (List Int))) : Option (Bool × Bool) :=
  ((s_impl_hasRelation n (r_.1, r_.2)).bind fun r7 =>
  (bif (!r7) then some true else some (r_.1 != 2))).bind fun s3 =>
  (bif s3 then some (false, false) else (s_impl_relationTable n (r_.1, r_.2)).bind fun r11 =>
  (forR (S := Unit) (R := Bool × Bool) (fun _ x55 s52 =>
  (forR (S := Unit) (R := Bool × Bool) (fun _ x80 s77 =>
  (idx x55 0).bind fun x87 =>
  (idx r11 x87).bind fun x89 =>
  (idx x80 1).bind fun x93 =>
  (idx x89 x93).bind fun x95 =>
  (bif x95 then some (.nx ()) else some (.rt (false, true)))) 0 r_.2 ()).bind fun o81 => after o81 (fun r_ => some (.rt r_)) (fun s77 =>
  some (.nx ()))) 0 r_.2 ()).bind fun o56 => after o56 (fun r_ => some r_) (fun s52 =>
  some (true, true)))
set_option maxHeartbeats 4000000 in
theorem c_impl_IsRectangular {M : Nat → Prop} {w : World} {pa0 : Option Addr} {pn0 pc0 : Nat} (n : Int) (r_ : Int × (List (List Int))) (h0 : (RT.rs (RT.rs (RT.int .i64))).val M w (.slice pa0 pn0 pc0) r_.2 ([])) (hM : ∀ g, w.heap.size ≤ g → M g) {r : Bool × Bool} (hs : s_impl_IsRectangular n r_ = some r) :
    Gives Try.prog 29 [(.int .i64 n), (.agg #[(.int .i64 r_.1), (.slice pa0 pn0 pc0)])] w (fun v w' => v = (.tuple #[(.bool r.1), (.bool r.2)]) ∧ Chg [] w w') := by
  refine calls_fr Try.func29 rfl Try.ntmps29 (Nat.le_of_ble_eq_true rfl) ?_
  have hO := Own.start (N := Nw w []) hM Nw.fut
  have hC := Chg.refl [] w
  unfold s_impl_IsRectangular at hs
  refine wp_mono (Q := KPost (k_impl_IsRectangular M w r)) ?_ (fun e a w1 h => ?_)
  rotate_left
  · cases e
    case ret =>
      obtain ⟨σ, rfl, hrest⟩ := h
      exact ret2x Try.results29 (res_tmp rfl) (res_tmp rfl) ⟨rfl, hrest⟩
    all_goals exact (h : False).elim
  refine c_seq ?_
  refine c_region ?_
  obtain ⟨w2, g2, ew2, eg2, hC2, hb2⟩ := new_block w [(.int .i64 r_.1), (.slice pa0 pn0 pc0)] 31
  refine pl_val (w' := w2) (.pointer (some ⟨g2, 0, none⟩)) (y_box rfl (by rw [ew2, eg2]; kernel_rfl)) ?_
  have h0 := h0.ext hC2
  have hC := hC.ext hC2
  have hO := hO.new (X' := [g2]) hC2 (fun q hq => by rw [List.mem_singleton.1 hq, eg2]; exact Nat.le_refl _) (List.nodup_cons.2 ⟨(fun h => nomatch h), List.nodup_nil⟩) (fun q hq => by rw [List.mem_singleton.1 hq]; exact hb2.lt)
  refine pl_val (.bool false) (y_assign rfl) ?_
  refine pl_val (.bool false) (y_assign rfl) ?_
  refine c_nil ?_
  refine c_seq ?_
  refine c_seq ?_
  obtain ⟨s3, hm5, hs⟩ := bind_some hs
  refine c_mid (I := fun a w4 => ∃ (σ : Nat → Value), a = fr 50 (ovl σ [(0, (.int .i64 n)), (3, (.pointer (some ⟨g2, 0, none⟩))), (4, (.bool false)), (5, (.bool false)), (19, (.bool s3))]) ∧ Chg [] w2 w4) ?_ ?_
  · replace hs := hm5
    have hMid := Chg.refl [] w2
    refine c_region ?_
    refine pl_val (.int .i64 n) (y_move rfl) ?_
    refine pl_val (.agg #[(.int .i64 r_.1), (.slice pa0 pn0 pc0)]) (y_load rfl ((box_load Ag31 Sz31 hb2 [] [(.int .i64 r_.1), (.slice pa0 pn0 pc0)] [] rfl rfl (fun h => nomatch h)) _ (Chg.refl _ _))) ?_
    obtain ⟨r7, hr7, hs⟩ := bind_some hs
    refine pl_call Bd85 rfl (c_impl_hasRelation (M := M) n (r_.1, r_.2) h0 hO.fut hr7) ?_
    rintro _ w6 ⟨rfl, hC6⟩
    have h0 := h0.ext hC6
    have hb2 := hb2.chg hC6 (fun h => nomatch h)
    have hMid := hMid.ext hC6
    have hC := hC.ext hC6
    have hO := hO.ext hC6
    refine pl_val (.bool (!r7)) (y_not rfl) ?_
    refine pl_val (.bool (!r7)) (y_move rfl) ?_
    rcases bif_some hs with ⟨hc8, hs⟩ | ⟨hc8, hs⟩
    · skip
      refine pl_not (tg := 15) (by kernel_rfl) (congrArg Value.bool hc8) ?_
      refine pl_not (tg := 15) (by kernel_rfl) (congrArg Value.bool hc8) ?_
      refine pl_not (tg := 15) (by kernel_rfl) (congrArg Value.bool hc8) ?_
      refine pl_val (.bool true) (y_pick_t (congrArg Value.bool hc8) rfl) ?_
      refine c_nil ?_
      cases hs
      exact ⟨_, fr_ovl 50 ⟨rfl, rfl, rfl, rfl, rfl, trivial⟩, hMid⟩
    · skip
      refine pl_yes (.pointer (some ⟨g2, 0, none⟩)) (tg := 15) (by kernel_rfl) (congrArg Value.bool hc8) (y_faddr rfl Fa31x0) ?_
      refine pl_yes (.int .i64 r_.1) (tg := 15) (by kernel_rfl) (congrArg Value.bool hc8) (y_load rfl ((box_load Ag3 Sz3 hb2 [] [(.int .i64 r_.1)] [(.slice pa0 pn0 pc0)] rfl rfl (fun _ => rfl)) _ (Chg.refl _ _))) ?_
      refine pl_yes (.bool (r_.1 != 2)) (tg := 15) (by kernel_rfl) (congrArg Value.bool hc8) (y_neq rfl rfl) ?_
      refine pl_val (.bool (r_.1 != 2)) (y_pick_f (congrArg Value.bool hc8) rfl) ?_
      refine c_nil ?_
      cases hs
      exact ⟨_, fr_ovl 50 ⟨rfl, rfl, rfl, rfl, rfl, trivial⟩, hMid⟩
  · rintro a1 w4 ⟨σ, rfl, hCs3⟩
    have h0 := h0.ext hCs3
    have hb2 := hb2.chg hCs3 (fun h => nomatch h)
    have hC := hC.ext hCs3
    have hO := hO.ext hCs3
    rcases bif_some hs with ⟨hc9, hs⟩ | ⟨hc9, hs⟩
    · skip
      refine c_condT (congrArg Value.bool hc9) ?_
      refine c_seq ?_
      refine c_region ?_
      refine pl_val (.bool false) (y_assign rfl) ?_
      refine pl_val (.bool false) (y_assign rfl) ?_
      refine c_nil ?_
      refine wp_ret ?_
      cases hs
      exact ⟨_, fr_ovl 50 ⟨rfl, rfl, trivial⟩, hC⟩
    · skip
      refine c_condF (congrArg Value.bool hc9) ?_
      refine wp_skip ?_
      refine c_seq ?_
      refine c_region ?_
      refine pl_val (.int .i64 n) (y_move rfl) ?_
      refine pl_val (.agg #[(.int .i64 r_.1), (.slice pa0 pn0 pc0)]) (y_load rfl ((box_load Ag31 Sz31 hb2 [] [(.int .i64 r_.1), (.slice pa0 pn0 pc0)] [] rfl rfl (fun h => nomatch h)) _ (Chg.refl _ _))) ?_
      obtain ⟨r11, hr11, hs⟩ := bind_some hs
      refine pl_call Bd86 rfl (c_impl_relationTable (M := M) n (r_.1, r_.2) h0 hO.fut hr11) ?_
      rintro _ w10 ⟨a10x0, n10x0, c10x0, f10x0, rfl, hC10, hv10x0, hOc10⟩
      have h0 := h0.ext hC10
      have hb2 := hb2.chg hC10 (fun h => nomatch h)
      have hC := hC.ext hC10
      have hO := Own.join0 hO hC10 hOc10
      have hO := hO.perm (R := f10x0 ++ (([g2]) ++ ([]))) (by simp)
      refine pl_val (.slice a10x0 n10x0 c10x0) (y_assign rfl) ?_
      refine c_nil ?_
      refine c_seq ?_
      refine c_seq ?_
      refine c_region ?_
      refine pl_val (.pointer (some ⟨g2, 1, none⟩)) (y_faddr rfl Fa31x1) ?_
      refine pl_val (.slice pa0 pn0 pc0) (y_load rfl ((box_load Ag29 Sz29 hb2 [(.int .i64 r_.1)] [(.slice pa0 pn0 pc0)] [] rfl rfl (fun _ => rfl)) _ (Chg.refl _ _))) ?_
      refine pl_val (.int .i64 (r_.2.length : Int)) (y_len' Sl29 (rs_len h0) rfl) ?_
      refine pl_val (.int .i64 0) (y_move rfl) ?_
      refine c_nil ?_
      obtain ⟨o56, hl57, hs⟩ := bind_some hs
      refine wp_block ?_
      refine wp_forR (id := 0) (I := fun i_ xs_ s52 a w53 => ∃ k54 : Nat, i_ = (k54 : Int) ∧ List.drop k54 r_.2 = xs_ ∧ (∃ (σ : Nat → Value), a = fr 50 (ovl σ [(3, (.pointer (some ⟨g2, 0, none⟩))), (6, (.slice a10x0 n10x0 c10x0)), (24, (.slice pa0 pn0 pc0)), (25, (.int .i64 (r_.2.length : Int))), (26, (.int .i64 (k54 : Int)))]) ∧ Chg [] w w53 ∧ Own (Nw w []) M w53 (f10x0 ++ (([g2]) ++ [])) ∧ (RT.rs (RT.rs (RT.int .i64))).val M w53 (.slice pa0 pn0 pc0) r_.2 ([]) ∧ BoxV w53 g2 31 [(.int .i64 r_.1), (.slice pa0 pn0 pc0)] ∧ (RT.os 57 (RT.os 4 RT.bool)).val M w53 (.slice a10x0 n10x0 c10x0) r11 f10x0)) (J := fun s52 a w53 => ∃ (σ : Nat → Value), a = fr 50 (ovl σ []) ∧ Chg [] w w53 ∧ Own (Nw w []) M w53 (f10x0 ++ (([g2]) ++ [])) ∧ (RT.rs (RT.rs (RT.int .i64))).val M w53 (.slice pa0 pn0 pc0) r_.2 ([]) ∧ BoxV w53 g2 31 [(.int .i64 r_.1), (.slice pa0 pn0 pc0)] ∧ (RT.os 57 (RT.os 4 RT.bool)).val M w53 (.slice a10x0 n10x0 c10x0) r11 f10x0) (K := (k_impl_IsRectangular M w)) ?_ ?_ r_.2 0 () o56 _ _ ?_ hl57 ?_
      · rintro _ s52 a w53 ⟨k54, rfl, hd, σ, rfl, hC, hO, h0, hb2, hv10x0⟩
        have hlt := drop_nil_ge hd
        refine c_seq ?_
        refine c_region ?_
        refine pl_val (.bool (decide ((k54 : Int) < (r_.2.length : Int)))) (y_lss rfl rfl) ?_
        refine c_nil ?_
        refine c_seq ?_
        refine c_condF (congrArg Value.bool (decide_eq_false hlt)) ?_
        refine wp_exit ?_
        have hO := hO.fr1
        have hO := hO.fr1
        exact ⟨rfl, _, fr_ovl 50 trivial, hC, hO, h0, hb2, hv10x0⟩
      · rintro _ x55 xs_ s52 o56 a w53 ⟨k54, rfl, hd, σ, rfl, hC, hO, h0, hb2, hv10x0⟩ hs
        have hlt := drop_cons_lt hd
        have hxk54 := drop_cons_idx hd
        refine c_seq ?_
        refine c_region ?_
        refine pl_val (.bool (decide ((k54 : Int) < (r_.2.length : Int)))) (y_lss rfl rfl) ?_
        refine c_nil ?_
        refine c_seq ?_
        refine c_condT (congrArg Value.bool (decide_eq_true hlt)) ?_
        refine wp_skip ?_
        refine c_seq ?_
        refine wp_block ?_
        refine c_seq ?_
        refine c_region ?_
        obtain ⟨b58, o58, hp58, ha58⟩ := rs_idx Sl29 Sz22 h0 hxk54
        refine pl_val (.pointer (some ⟨b58, o58, none⟩)) (hp58 _ _ _ _ _ _ _ _ _ rfl rfl) ?_
        obtain ⟨v59, hl59, hv59⟩ := at_load Ag22 Sz22 (fun _ => rfl) ha58
        obtain ⟨a59, n59, c59, rfl⟩ := rs_sl hv59
        refine pl_val (.slice a59 n59 c59) (y_load rfl (hl59 _ (Chg.refl _ _))) ?_
        refine pl_val (.slice a59 n59 c59) (y_assign rfl) ?_
        refine c_nil ?_
        refine c_seq ?_
        refine c_region ?_
        refine pl_val (.pointer (some ⟨g2, 1, none⟩)) (y_faddr rfl Fa31x1) ?_
        refine pl_val (.slice pa0 pn0 pc0) (y_load rfl ((box_load Ag29 Sz29 hb2 [(.int .i64 r_.1)] [(.slice pa0 pn0 pc0)] [] rfl rfl (fun _ => rfl)) _ (Chg.refl _ _))) ?_
        refine pl_val (.int .i64 (r_.2.length : Int)) (y_len' Sl29 (rs_len h0) rfl) ?_
        refine pl_val (.int .i64 0) (y_move rfl) ?_
        refine c_nil ?_
        obtain ⟨o81, hl82, hs⟩ := bind_some hs
        refine wp_block ?_
        refine wp_forR (id := 2) (I := fun i_ xs_ s77 a w78 => ∃ k79 : Nat, i_ = (k79 : Int) ∧ List.drop k79 r_.2 = xs_ ∧ (∃ (σ : Nat → Value), a = fr 50 (ovl σ [(3, (.pointer (some ⟨g2, 0, none⟩))), (6, (.slice a10x0 n10x0 c10x0)), (8, (.slice a59 n59 c59)), (24, (.slice pa0 pn0 pc0)), (25, (.int .i64 (r_.2.length : Int))), (26, (.int .i64 (k54 : Int))), (31, (.slice pa0 pn0 pc0)), (32, (.int .i64 (r_.2.length : Int))), (33, (.int .i64 (k79 : Int)))]) ∧ Chg [] w w78 ∧ Own (Nw w []) M w78 (f10x0 ++ (([g2]) ++ [])) ∧ (RT.rs (RT.rs (RT.int .i64))).val M w78 (.slice pa0 pn0 pc0) r_.2 ([]) ∧ BoxV w78 g2 31 [(.int .i64 r_.1), (.slice pa0 pn0 pc0)] ∧ (RT.os 57 (RT.os 4 RT.bool)).val M w78 (.slice a10x0 n10x0 c10x0) r11 f10x0 ∧ (RT.rs (RT.int .i64)).val M w78 (.slice a59 n59 c59) x55 ([]))) (J := fun s77 a w78 => ∃ (σ : Nat → Value), a = fr 50 (ovl σ [(3, (.pointer (some ⟨g2, 0, none⟩))), (6, (.slice a10x0 n10x0 c10x0)), (24, (.slice pa0 pn0 pc0)), (25, (.int .i64 (r_.2.length : Int))), (26, (.int .i64 (k54 : Int)))]) ∧ Chg [] w w78 ∧ Own (Nw w []) M w78 (f10x0 ++ (([g2]) ++ [])) ∧ (RT.rs (RT.rs (RT.int .i64))).val M w78 (.slice pa0 pn0 pc0) r_.2 ([]) ∧ BoxV w78 g2 31 [(.int .i64 r_.1), (.slice pa0 pn0 pc0)] ∧ (RT.os 57 (RT.os 4 RT.bool)).val M w78 (.slice a10x0 n10x0 c10x0) r11 f10x0 ∧ (RT.rs (RT.int .i64)).val M w78 (.slice a59 n59 c59) x55 ([])) (K := (k_impl_IsRectangular M w)) ?_ ?_ r_.2 0 () o81 _ _ ?_ hl82 ?_
        · rintro _ s77 a w78 ⟨k79, rfl, hd, σ, rfl, hC, hO, h0, hb2, hv10x0, hv59⟩
          have hlt := drop_nil_ge hd
          refine c_seq ?_
          refine c_region ?_
          refine pl_val (.bool (decide ((k79 : Int) < (r_.2.length : Int)))) (y_lss rfl rfl) ?_
          refine c_nil ?_
          refine c_seq ?_
          refine c_condF (congrArg Value.bool (decide_eq_false hlt)) ?_
          refine wp_exit ?_
          have hO := hO.fr1
          have hO := hO.fr1
          exact ⟨rfl, _, fr_ovl 50 ⟨rfl, rfl, rfl, rfl, rfl, trivial⟩, hC, hO, h0, hb2, hv10x0, hv59⟩
        · rintro _ x80 xs_ s77 o81 a w78 ⟨k79, rfl, hd, σ, rfl, hC, hO, h0, hb2, hv10x0, hv59⟩ hs
          have hlt := drop_cons_lt hd
          have hxk79 := drop_cons_idx hd
          refine c_seq ?_
          refine c_region ?_
          refine pl_val (.bool (decide ((k79 : Int) < (r_.2.length : Int)))) (y_lss rfl rfl) ?_
          refine c_nil ?_
          refine c_seq ?_
          refine c_condT (congrArg Value.bool (decide_eq_true hlt)) ?_
          refine wp_skip ?_
          refine c_seq ?_
          refine wp_block ?_
          refine c_seq ?_
          refine c_region ?_
          obtain ⟨b83, o83, hp83, ha83⟩ := rs_idx Sl29 Sz22 h0 hxk79
          refine pl_val (.pointer (some ⟨b83, o83, none⟩)) (hp83 _ _ _ _ _ _ _ _ _ rfl rfl) ?_
          obtain ⟨v84, hl84, hv84⟩ := at_load Ag22 Sz22 (fun _ => rfl) ha83
          obtain ⟨a84, n84, c84, rfl⟩ := rs_sl hv84
          refine pl_val (.slice a84 n84 c84) (y_load rfl (hl84 _ (Chg.refl _ _))) ?_
          refine pl_val (.slice a84 n84 c84) (y_assign rfl) ?_
          refine c_nil ?_
          refine c_seq ?_
          refine c_seq ?_
          refine x_start [] Mx rfl ?_
          have hCw86 := Chg.drew w78
          generalize World.drew w78 = w86 at hCw86 ⊢
          have h0 := h0.ext hCw86
          have hb2 := hb2.chg hCw86 (fun h => nomatch h)
          have hv10x0 := hv10x0.ext hCw86
          have hv59 := hv59.ext hCw86
          have hv84 := hv84.ext hCw86
          have hC := hC.ext hCw86
          have hO := hO.ext hCw86
          have hS := Chg.refl [] w86
          refine x_p 0 (.slice a10x0 n10x0 c10x0) rfl (by kernel_rfl)  (fun _ => y_move rfl) (fun _ => hS) ?_
          refine x_p 1 (.slice a59 n59 c59) rfl (by kernel_rfl)  (fun _ => y_move rfl) (fun _ => hS) ?_
          obtain ⟨x87, hx87, hs⟩ := bind_some hs
          obtain ⟨b88, o88, hp88, ha88⟩ := rs_idx Sl22 Sz3 hv59 hx87
          refine x_p 2 (.pointer (some ⟨b88, o88, none⟩)) rfl (by kernel_rfl)  (fun _ => hp88 _ _ _ _ _ _ _ _ _ rfl rfl) (fun _ => hS) ?_
          refine x_l 3 (.int .i64 x87) rfl (by kernel_rfl)  (fun w' hw' => y_load rfl ((at_load_int Ag3 Sz3 ha88) w' hw')) hS ?_
          obtain ⟨x89, hx89, hs⟩ := bind_some hs
          obtain ⟨g90, f90, hg90, hk90, hp90, ha90, hf90⟩ := os_idx Sl100 Sz57 hv10x0 hx89
          have hb90 := own_row (Frz.os Frz.bool) ha90 hf90
          refine x_p 4 (.pointer (some ⟨g90, 0 + Int.toNat x87 * 1, none⟩)) rfl (by kernel_rfl)  (fun _ => hp90 _ _ _ _ _ _ _ _ _ rfl rfl) (fun _ => hS) ?_
          obtain ⟨v91, hl91, hrow91, hv91⟩ := at_load1 Ag57 Sz57 rfl rfl hb90
          obtain ⟨a91, n91, c91, rfl⟩ := rs_sl hv91
          refine x_l 5 (.slice a91 n91 c91) rfl (by kernel_rfl)  (fun w' hw' => y_load rfl (hl91 w' hw')) hS ?_
          refine x_p 6 (.slice a84 n84 c84) rfl (by kernel_rfl)  (fun _ => y_move rfl) (fun _ => hS) ?_
          obtain ⟨x93, hx93, hs⟩ := bind_some hs
          obtain ⟨b94, o94, hp94, ha94⟩ := rs_idx Sl22 Sz3 hv84 hx93
          refine x_p 7 (.pointer (some ⟨b94, o94, none⟩)) rfl (by kernel_rfl)  (fun _ => hp94 _ _ _ _ _ _ _ _ _ rfl rfl) (fun _ => hS) ?_
          refine x_l 8 (.int .i64 x93) rfl (by kernel_rfl)  (fun w' hw' => y_load rfl ((at_load_int Ag3 Sz3 ha94) w' hw')) hS ?_
          obtain ⟨x95, hx95, hs⟩ := bind_some hs
          obtain ⟨fr96, hrr96, hfr96, _, _⟩ := os_put hg90 hv10x0 hx89 hrow91 rfl hO.inM
          obtain ⟨g96, f96, hg96, hk96, hp96, ha96, hf96⟩ := os_idx Sl57 Sz4 (show (RT.os 4 RT.bool).val M w86 (.slice a91 n91 c91) _ fr96 from ⟨[_], rfl, hrr96⟩) hx95
          refine x_p 9 (.pointer (some ⟨g96, 0 + Int.toNat x93 * 1, none⟩)) rfl (by kernel_rfl)  (fun _ => hp96 _ _ _ _ _ _ _ _ _ rfl rfl) (fun _ => hS) ?_
          refine x_l 10 (.bool x95) rfl (by kernel_rfl)  (fun w' hw' => y_load rfl ((at_load_bool Ag4 Sz4 ha96) w' hw')) hS ?_
          refine x_end (by kernel_rfl) ?_
          clear hS
          rcases bif_some hs with ⟨hc97, hs⟩ | ⟨hc97, hs⟩
          · skip
            refine c_condT (congrArg Value.bool hc97) ?_
            refine wp_exit ?_
            refine c_region ?_
            refine pl_val (.int .i64 (w64 ((k79 : Int) + 1))) (y_add rfl rfl) ?_
            refine pl_val (.int .i64 (w64 ((k79 : Int) + 1))) (y_move rfl) ?_
            refine c_nil ?_
            cases hs
            have hO := hO.fr1
            have hO := hO.fr1
            exact ⟨_, rfl, drop_cons_next hd, _, fr_ovl 50 ⟨rfl, rfl, rfl, rfl, rfl, rfl, rfl, rfl, congrArg (Value.int .i64) (w64_succ hlt (Int.natCast_nonneg _) (rs_max h0)), trivial⟩, hC, hO, h0, hb2, hv10x0, hv59⟩
          · skip
            refine c_condF (congrArg Value.bool hc97) ?_
            refine wp_skip ?_
            refine c_seq ?_
            refine c_region ?_
            refine pl_val (.bool false) (y_assign rfl) ?_
            refine pl_val (.bool true) (y_assign rfl) ?_
            refine c_nil ?_
            refine wp_ret ?_
            cases hs
            exact ⟨_, fr_ovl 50 ⟨rfl, rfl, trivial⟩, hC⟩
        · skip
          have hO := hO.fr1
          have hO := hO.fr1
          exact ⟨0, rfl, rfl, _, fr_ovl 50 ⟨rfl, rfl, rfl, rfl, rfl, rfl, rfl, rfl, rfl, trivial⟩, hC, hO, h0, hb2, hv10x0, hv59⟩
        · cases o81 with
          | nx _ => exact True.intro
          | rt r_ =>
            have hs := after_rt hs
            intro a1 w1 hK
            cases hs
            exact hK
          | br s77 =>
            have hs := after_br hs
            rintro a1 w78 ⟨σ, rfl, hC, hO, h0, hb2, hv10x0, hv59⟩
            refine c_region ?_
            refine pl_val (.int .i64 (w64 ((k54 : Int) + 1))) (y_add rfl rfl) ?_
            refine pl_val (.int .i64 (w64 ((k54 : Int) + 1))) (y_move rfl) ?_
            refine c_nil ?_
            cases hs
            have hO := hO.fr1
            have hO := hO.fr1
            exact ⟨_, rfl, drop_cons_next hd, _, fr_ovl 50 ⟨rfl, rfl, rfl, rfl, congrArg (Value.int .i64) (w64_succ hlt (Int.natCast_nonneg _) (rs_max h0)), trivial⟩, hC, hO, h0, hb2, hv10x0⟩
      · skip
        have hO := hO.fr1
        have hO := hO.fr1
        exact ⟨0, rfl, rfl, _, fr_ovl 50 ⟨rfl, rfl, rfl, rfl, rfl, trivial⟩, hC, hO, h0, hb2, hv10x0⟩
      · cases o56 with
        | nx _ => exact True.intro
        | rt r_ =>
          have hs := after_rt hs
          intro a1 w1 hK
          cases hs
          exact hK
        | br s52 =>
          have hs := after_br hs
          rintro a1 w53 ⟨σ, rfl, hC, hO, h0, hb2, hv10x0⟩
          refine c_seq ?_
          refine c_region ?_
          refine pl_val (.bool true) (y_assign rfl) ?_
          refine pl_val (.bool true) (y_assign rfl) ?_
          refine c_nil ?_
          refine wp_ret ?_
          cases hs
          exact ⟨_, fr_ovl 50 ⟨rfl, rfl, trivial⟩, hC⟩

def k_laws_eqIntS (M : Nat → Prop) (w0 : World) (r : Bool) (a : Act) (w : World) : Prop :=
  ∃ (σ : Nat → Value) , a = fr 26 (ovl σ [(4, (.bool r))]) ∧ Chg [] w0 w
def s_laws_eqIntS (a_ : List Int) (b : List Int) : Option (Bool) :=
  (bif ((a_.length : Int) != (b.length : Int)) then some false else (forC (S := Unit) (R := Bool) (fun k12 s10 =>
  (idx a_ k12).bind fun x17 =>
  (idx b k12).bind fun x19 =>
  (bif (x17 != x19) then some (.rt false) else some (.nx ()))) 0 (a_.length : Int) ()).bind fun o14 => after o14 (fun r_ => some r_) (fun s10 =>
  some true))
set_option maxHeartbeats 4000000 in
theorem c_laws_eqIntS {M : Nat → Prop} {w : World} {pa0 : Option Addr} {pn0 pc0 : Nat} {pa1 : Option Addr} {pn1 pc1 : Nat} (a_ : List Int) (b : List Int) (h0 : (RT.rs (RT.int .i64)).val M w (.slice pa0 pn0 pc0) a_ ([])) (h1 : (RT.rs (RT.int .i64)).val M w (.slice pa1 pn1 pc1) b ([])) (hM : ∀ g, w.heap.size ≤ g → M g) {r : Bool} (hs : s_laws_eqIntS a_ b = some r) :
    Gives Try.prog 18 [(.slice pa0 pn0 pc0), (.slice pa1 pn1 pc1)] w (fun v w' => v = (.bool r) ∧ Chg [] w w') := by
  refine calls_fr Try.func18 rfl Try.ntmps18 (Nat.le_of_ble_eq_true rfl) ?_
  have hO := Own.start (N := Nw w []) hM Nw.fut
  have hC := Chg.refl [] w
  unfold s_laws_eqIntS at hs
  refine wp_mono (Q := KPost (k_laws_eqIntS M w r)) ?_ (fun e a w1 h => ?_)
  rotate_left
  · cases e
    case ret =>
      obtain ⟨σ, rfl, hrest⟩ := h
      exact ret1x Try.results18 (res_tmp rfl) ⟨rfl, hrest⟩
    all_goals exact (h : False).elim
  refine c_seq ?_
  refine c_region ?_
  refine pl_val (.bool false) (y_assign rfl) ?_
  refine c_nil ?_
  refine c_seq ?_
  refine c_seq ?_
  refine c_region ?_
  refine pl_val (.slice pa0 pn0 pc0) (y_move rfl) ?_
  refine pl_val (.int .i64 (a_.length : Int)) (y_len' Sl22 (rs_len h0) rfl) ?_
  refine pl_val (.slice pa1 pn1 pc1) (y_move rfl) ?_
  refine pl_val (.int .i64 (b.length : Int)) (y_len' Sl22 (rs_len h1) rfl) ?_
  refine pl_val (.bool ((a_.length : Int) != (b.length : Int))) (y_neq rfl rfl) ?_
  refine c_nil ?_
  rcases bif_some hs with ⟨hc3, hs⟩ | ⟨hc3, hs⟩
  · skip
    refine c_condT (congrArg Value.bool hc3) ?_
    refine c_seq ?_
    refine c_region ?_
    refine pl_val (.bool false) (y_assign rfl) ?_
    refine c_nil ?_
    refine wp_ret ?_
    cases hs
    exact ⟨_, fr_ovl 26 ⟨rfl, trivial⟩, hC⟩
  · skip
    refine c_condF (congrArg Value.bool hc3) ?_
    refine wp_skip ?_
    refine c_seq ?_
    refine c_seq ?_
    refine c_region ?_
    refine pl_val (.int .i64 0) (y_assign rfl) ?_
    refine c_nil ?_
    obtain ⟨o14, hl15, hs⟩ := bind_some hs
    refine wp_block ?_
    refine wp_forC (id := 0) (a_.length : Int) (I := fun k12 s10 a w11 => ∃ (σ : Nat → Value), a = fr 26 (ovl σ [(0, (.slice pa0 pn0 pc0)), (1, (.slice pa1 pn1 pc1)), (5, (.int .i64 k12))]) ∧ Chg [] w w11 ∧ Own (Nw w []) M w11 ([]) ∧ (RT.rs (RT.int .i64)).val M w11 (.slice pa0 pn0 pc0) a_ ([]) ∧ (RT.rs (RT.int .i64)).val M w11 (.slice pa1 pn1 pc1) b ([])) (J := fun s10 a w11 => ∃ (σ : Nat → Value), a = fr 26 (ovl σ []) ∧ Chg [] w w11 ∧ Own (Nw w []) M w11 ([]) ∧ (RT.rs (RT.int .i64)).val M w11 (.slice pa0 pn0 pc0) a_ ([]) ∧ (RT.rs (RT.int .i64)).val M w11 (.slice pa1 pn1 pc1) b ([])) (K := (k_laws_eqIntS M w)) ?_ ?_ 0 () o14 _ _ ?_ hl15 ?_
    · rintro k12 s10 a w11 ⟨σ, rfl, hC, hO, h0, h1⟩ hlt
      refine c_seq ?_
      refine c_seq ?_
      refine c_region ?_
      refine pl_val (.int .i64 k12) (y_move rfl) ?_
      refine pl_val (.slice pa0 pn0 pc0) (y_move rfl) ?_
      refine pl_val (.int .i64 (a_.length : Int)) (y_len' Sl22 (rs_len h0) rfl) ?_
      refine pl_val (.bool (decide (k12 < (a_.length : Int)))) (y_lss rfl rfl) ?_
      refine c_nil ?_
      refine c_condF (congrArg Value.bool (decide_eq_false hlt)) ?_
      refine wp_exit ?_
      exact ⟨rfl, _, fr_ovl 26 trivial, hC, hO, h0, h1⟩
    · rintro k12 s10 o14 a w11 ⟨σ, rfl, hC, hO, h0, h1⟩ hlt hw hs
      refine c_seq ?_
      refine c_seq ?_
      refine c_region ?_
      refine pl_val (.int .i64 k12) (y_move rfl) ?_
      refine pl_val (.slice pa0 pn0 pc0) (y_move rfl) ?_
      refine pl_val (.int .i64 (a_.length : Int)) (y_len' Sl22 (rs_len h0) rfl) ?_
      refine pl_val (.bool (decide (k12 < (a_.length : Int)))) (y_lss rfl rfl) ?_
      refine c_nil ?_
      refine c_condT (congrArg Value.bool (decide_eq_true hlt)) ?_
      refine wp_skip ?_
      refine c_seq ?_
      refine wp_block ?_
      refine c_seq ?_
      refine x_start [] Mx rfl ?_
      have hCw16 := Chg.drew w11
      generalize World.drew w11 = w16 at hCw16 ⊢
      have h0 := h0.ext hCw16
      have h1 := h1.ext hCw16
      have hC := hC.ext hCw16
      have hO := hO.ext hCw16
      have hS := Chg.refl [] w16
      refine x_p 0 (.slice pa0 pn0 pc0) rfl (by kernel_rfl)  (fun _ => y_move rfl) (fun _ => hS) ?_
      refine x_p 1 (.int .i64 k12) rfl (by kernel_rfl)  (fun _ => y_move rfl) (fun _ => hS) ?_
      obtain ⟨x17, hx17, hs⟩ := bind_some hs
      obtain ⟨b18, o18, hp18, ha18⟩ := rs_idx Sl22 Sz3 h0 hx17
      refine x_p 2 (.pointer (some ⟨b18, o18, none⟩)) rfl (by kernel_rfl)  (fun _ => hp18 _ _ _ _ _ _ _ _ _ rfl rfl) (fun _ => hS) ?_
      refine x_l 3 (.int .i64 x17) rfl (by kernel_rfl)  (fun w' hw' => y_load rfl ((at_load_int Ag3 Sz3 ha18) w' hw')) hS ?_
      refine x_p 4 (.slice pa1 pn1 pc1) rfl (by kernel_rfl)  (fun _ => y_move rfl) (fun _ => hS) ?_
      refine x_p 5 (.int .i64 k12) rfl (by kernel_rfl)  (fun _ => y_move rfl) (fun _ => hS) ?_
      obtain ⟨x19, hx19, hs⟩ := bind_some hs
      obtain ⟨b20, o20, hp20, ha20⟩ := rs_idx Sl22 Sz3 h1 hx19
      refine x_p 6 (.pointer (some ⟨b20, o20, none⟩)) rfl (by kernel_rfl)  (fun _ => hp20 _ _ _ _ _ _ _ _ _ rfl rfl) (fun _ => hS) ?_
      refine x_l 7 (.int .i64 x19) rfl (by kernel_rfl)  (fun w' hw' => y_load rfl ((at_load_int Ag3 Sz3 ha20) w' hw')) hS ?_
      refine x_p 8 (.bool (x17 != x19)) rfl (by kernel_rfl)  (fun _ => y_neq rfl rfl) (fun _ => hS) ?_
      refine x_end (by kernel_rfl) ?_
      clear hS
      rcases bif_some hs with ⟨hc21, hs⟩ | ⟨hc21, hs⟩
      · skip
        refine c_condT (congrArg Value.bool hc21) ?_
        refine c_seq ?_
        refine c_region ?_
        refine pl_val (.bool false) (y_assign rfl) ?_
        refine c_nil ?_
        refine wp_ret ?_
        cases hs
        exact ⟨_, fr_ovl 26 ⟨rfl, trivial⟩, hC⟩
      · skip
        refine c_condF (congrArg Value.bool hc21) ?_
        refine wp_skip ?_
        refine c_region ?_
        refine pl_val (.int .i64 k12) (y_move rfl) ?_
        refine pl_val (.int .i64 (w64 (k12 + 1))) (y_add rfl rfl) ?_
        refine pl_val (.int .i64 (w64 (k12 + 1))) (y_assign rfl) ?_
        refine c_nil ?_
        cases hs
        exact ⟨_, fr_ovl 26 ⟨rfl, rfl, congrArg (Value.int .i64) hw, trivial⟩, hC, hO, h0, h1⟩
    · skip
      exact ⟨_, fr_ovl 26 ⟨rfl, rfl, rfl, trivial⟩, hC, hO, h0, h1⟩
    · cases o14 with
      | nx _ => exact True.intro
      | rt r_ =>
        have hs := after_rt hs
        intro a1 w1 hK
        cases hs
        exact hK
      | br s10 =>
        have hs := after_br hs
        rintro a1 w11 ⟨σ, rfl, hC, hO, h0, h1⟩
        refine c_seq ?_
        refine c_region ?_
        refine pl_val (.bool true) (y_assign rfl) ?_
        refine c_nil ?_
        refine wp_ret ?_
        cases hs
        exact ⟨_, fr_ovl 26 ⟨rfl, trivial⟩, hC⟩

theorem Bd18 : Bodied Try.prog 18 := bodied Try.func18 (by kernel_rfl) rfl

def k_laws_eqIntSS (M : Nat → Prop) (w0 : World) (r : Bool) (a : Act) (w : World) : Prop :=
  ∃ (σ : Nat → Value) , a = fr 27 (ovl σ [(4, (.bool r))]) ∧ Chg [] w0 w
def s_laws_eqIntSS (a_ : List (List Int)) (b : List (List Int)) : Option (Bool) :=
  (bif ((a_.length : Int) != (b.length : Int)) then some false else (forC (S := Unit) (R := Bool) (fun k18 s16 =>
  (idx a_ k18).bind fun x23 =>
  (idx b k18).bind fun x27 =>
  (s_laws_eqIntS x23 x27).bind fun r32 =>
  (bif (!r32) then some (.rt false) else some (.nx ()))) 0 (a_.length : Int) ()).bind fun o20 => after o20 (fun r_ => some r_) (fun s16 =>
  some true))
set_option maxHeartbeats 4000000 in
theorem c_laws_eqIntSS {M : Nat → Prop} {w : World} {pa0 : Option Addr} {pn0 pc0 : Nat} {pa1 : Option Addr} {pn1 pc1 : Nat} (a_ : List (List Int)) (b : List (List Int)) (h0 : (RT.rs (RT.rs (RT.int .i64))).val M w (.slice pa0 pn0 pc0) a_ ([])) (h1 : (RT.rs (RT.rs (RT.int .i64))).val M w (.slice pa1 pn1 pc1) b ([])) (hM : ∀ g, w.heap.size ≤ g → M g) {r : Bool} (hs : s_laws_eqIntSS a_ b = some r) :
    Gives Try.prog 52 [(.slice pa0 pn0 pc0), (.slice pa1 pn1 pc1)] w (fun v w' => v = (.bool r) ∧ Chg [] w w') := by
  refine calls_fr Try.func52 rfl Try.ntmps52 (Nat.le_of_ble_eq_true rfl) ?_
  have hO := Own.start (N := Nw w []) hM Nw.fut
  have hC := Chg.refl [] w
  unfold s_laws_eqIntSS at hs
  refine wp_mono (Q := KPost (k_laws_eqIntSS M w r)) ?_ (fun e a w1 h => ?_)
  rotate_left
  · cases e
    case ret =>
      obtain ⟨σ, rfl, hrest⟩ := h
      exact ret1x Try.results52 (res_tmp rfl) ⟨rfl, hrest⟩
    all_goals exact (h : False).elim
  refine c_seq ?_
  refine c_region ?_
  refine pl_val (.bool false) (y_assign rfl) ?_
  refine c_nil ?_
  refine c_seq ?_
  refine c_seq ?_
  refine c_region ?_
  refine pl_val (.slice pa0 pn0 pc0) (y_move rfl) ?_
  refine pl_val (.int .i64 (a_.length : Int)) (y_len' Sl29 (rs_len h0) rfl) ?_
  refine pl_val (.slice pa1 pn1 pc1) (y_move rfl) ?_
  refine pl_val (.int .i64 (b.length : Int)) (y_len' Sl29 (rs_len h1) rfl) ?_
  refine pl_val (.bool ((a_.length : Int) != (b.length : Int))) (y_neq rfl rfl) ?_
  refine c_nil ?_
  rcases bif_some hs with ⟨hc3, hs⟩ | ⟨hc3, hs⟩
  · skip
    refine c_condT (congrArg Value.bool hc3) ?_
    refine c_seq ?_
    refine c_region ?_
    refine pl_val (.bool false) (y_assign rfl) ?_
    refine c_nil ?_
    refine wp_ret ?_
    cases hs
    exact ⟨_, fr_ovl 27 ⟨rfl, trivial⟩, hC⟩
  · skip
    refine c_condF (congrArg Value.bool hc3) ?_
    refine wp_skip ?_
    refine c_seq ?_
    refine c_seq ?_
    refine c_region ?_
    refine pl_val (.int .i64 0) (y_assign rfl) ?_
    refine c_nil ?_
    obtain ⟨o20, hl21, hs⟩ := bind_some hs
    refine wp_block ?_
    refine wp_forC (id := 0) (a_.length : Int) (I := fun k18 s16 a w17 => ∃ (σ : Nat → Value), a = fr 27 (ovl σ [(0, (.slice pa0 pn0 pc0)), (1, (.slice pa1 pn1 pc1)), (5, (.int .i64 k18))]) ∧ Chg [] w w17 ∧ Own (Nw w []) M w17 ([]) ∧ (RT.rs (RT.rs (RT.int .i64))).val M w17 (.slice pa0 pn0 pc0) a_ ([]) ∧ (RT.rs (RT.rs (RT.int .i64))).val M w17 (.slice pa1 pn1 pc1) b ([])) (J := fun s16 a w17 => ∃ (σ : Nat → Value), a = fr 27 (ovl σ []) ∧ Chg [] w w17 ∧ Own (Nw w []) M w17 ([]) ∧ (RT.rs (RT.rs (RT.int .i64))).val M w17 (.slice pa0 pn0 pc0) a_ ([]) ∧ (RT.rs (RT.rs (RT.int .i64))).val M w17 (.slice pa1 pn1 pc1) b ([])) (K := (k_laws_eqIntSS M w)) ?_ ?_ 0 () o20 _ _ ?_ hl21 ?_
    · rintro k18 s16 a w17 ⟨σ, rfl, hC, hO, h0, h1⟩ hlt
      refine c_seq ?_
      refine c_seq ?_
      refine c_region ?_
      refine pl_val (.int .i64 k18) (y_move rfl) ?_
      refine pl_val (.slice pa0 pn0 pc0) (y_move rfl) ?_
      refine pl_val (.int .i64 (a_.length : Int)) (y_len' Sl29 (rs_len h0) rfl) ?_
      refine pl_val (.bool (decide (k18 < (a_.length : Int)))) (y_lss rfl rfl) ?_
      refine c_nil ?_
      refine c_condF (congrArg Value.bool (decide_eq_false hlt)) ?_
      refine wp_exit ?_
      exact ⟨rfl, _, fr_ovl 27 trivial, hC, hO, h0, h1⟩
    · rintro k18 s16 o20 a w17 ⟨σ, rfl, hC, hO, h0, h1⟩ hlt hw hs
      refine c_seq ?_
      refine c_seq ?_
      refine c_region ?_
      refine pl_val (.int .i64 k18) (y_move rfl) ?_
      refine pl_val (.slice pa0 pn0 pc0) (y_move rfl) ?_
      refine pl_val (.int .i64 (a_.length : Int)) (y_len' Sl29 (rs_len h0) rfl) ?_
      refine pl_val (.bool (decide (k18 < (a_.length : Int)))) (y_lss rfl rfl) ?_
      refine c_nil ?_
      refine c_condT (congrArg Value.bool (decide_eq_true hlt)) ?_
      refine wp_skip ?_
      refine c_seq ?_
      refine wp_block ?_
      refine c_seq ?_
      refine x_start [] Mx rfl ?_
      have hCw22 := Chg.drew w17
      generalize World.drew w17 = w22 at hCw22 ⊢
      have h0 := h0.ext hCw22
      have h1 := h1.ext hCw22
      have hC := hC.ext hCw22
      have hO := hO.ext hCw22
      have hS := Chg.refl [] w22
      refine x_p 0 (.slice pa0 pn0 pc0) rfl (by kernel_rfl)  (fun _ => y_move rfl) (fun _ => hS) ?_
      refine x_p 1 (.int .i64 k18) rfl (by kernel_rfl)  (fun _ => y_move rfl) (fun _ => hS) ?_
      obtain ⟨x23, hx23, hs⟩ := bind_some hs
      obtain ⟨b24, o24, hp24, ha24⟩ := rs_idx Sl29 Sz22 h0 hx23
      refine x_p 2 (.pointer (some ⟨b24, o24, none⟩)) rfl (by kernel_rfl)  (fun _ => hp24 _ _ _ _ _ _ _ _ _ rfl rfl) (fun _ => hS) ?_
      obtain ⟨v25, hl25, hv25⟩ := at_load Ag22 Sz22 (fun _ => rfl) ha24
      obtain ⟨a25, n25, c25, rfl⟩ := rs_sl hv25
      refine x_l 3 (.slice a25 n25 c25) rfl (by kernel_rfl)  (fun w' hw' => y_load rfl (hl25 w' hw')) hS ?_
      refine x_p 4 (.slice pa1 pn1 pc1) rfl (by kernel_rfl)  (fun _ => y_move rfl) (fun _ => hS) ?_
      refine x_p 5 (.int .i64 k18) rfl (by kernel_rfl)  (fun _ => y_move rfl) (fun _ => hS) ?_
      obtain ⟨x27, hx27, hs⟩ := bind_some hs
      obtain ⟨b28, o28, hp28, ha28⟩ := rs_idx Sl29 Sz22 h1 hx27
      refine x_p 6 (.pointer (some ⟨b28, o28, none⟩)) rfl (by kernel_rfl)  (fun _ => hp28 _ _ _ _ _ _ _ _ _ rfl rfl) (fun _ => hS) ?_
      obtain ⟨v29, hl29, hv29⟩ := at_load Ag22 Sz22 (fun _ => rfl) ha28
      obtain ⟨a29, n29, c29, rfl⟩ := rs_sl hv29
      refine x_l 7 (.slice a29 n29 c29) rfl (by kernel_rfl)  (fun w' hw' => y_load rfl (hl29 w' hw')) hS ?_
      refine x_one (i := 8) (by kernel_rfl) ?_
      obtain ⟨r32, hr32, hs⟩ := bind_some hs
      refine xk_call (b := false) rfl  Bd18 rfl (c_laws_eqIntS (M := M) x23 x27 hv25 hv29 hO.fut hr32) rfl (by rintro _ _ _ ⟨rfl, hC31⟩; exact hS.ext hC31) ?_
      rintro _ w31 ⟨rfl, hC31⟩
      have h0 := h0.ext hC31
      have h1 := h1.ext hC31
      have hv25 := hv25.ext hC31
      have hv29 := hv29.ext hC31
      have hC := hC.ext hC31
      have hO := hO.ext hC31
      have hS := hS.ext hC31
      refine x_p 9 (.bool (!r32)) rfl (by kernel_rfl)  (fun _ => y_not rfl) (fun _ => hS) ?_
      refine x_end (by kernel_rfl) ?_
      clear hS
      rcases bif_some hs with ⟨hc33, hs⟩ | ⟨hc33, hs⟩
      · skip
        refine c_condT (congrArg Value.bool hc33) ?_
        refine c_seq ?_
        refine c_region ?_
        refine pl_val (.bool false) (y_assign rfl) ?_
        refine c_nil ?_
        refine wp_ret ?_
        cases hs
        exact ⟨_, fr_ovl 27 ⟨rfl, trivial⟩, hC⟩
      · skip
        refine c_condF (congrArg Value.bool hc33) ?_
        refine wp_skip ?_
        refine c_region ?_
        refine pl_val (.int .i64 k18) (y_move rfl) ?_
        refine pl_val (.int .i64 (w64 (k18 + 1))) (y_add rfl rfl) ?_
        refine pl_val (.int .i64 (w64 (k18 + 1))) (y_assign rfl) ?_
        refine c_nil ?_
        cases hs
        exact ⟨_, fr_ovl 27 ⟨rfl, rfl, congrArg (Value.int .i64) hw, trivial⟩, hC, hO, h0, h1⟩
    · skip
      exact ⟨_, fr_ovl 27 ⟨rfl, rfl, rfl, trivial⟩, hC, hO, h0, h1⟩
    · cases o20 with
      | nx _ => exact True.intro
      | rt r_ =>
        have hs := after_rt hs
        intro a1 w1 hK
        cases hs
        exact hK
      | br s16 =>
        have hs := after_br hs
        rintro a1 w17 ⟨σ, rfl, hC, hO, h0, h1⟩
        refine c_seq ?_
        refine c_region ?_
        refine pl_val (.bool true) (y_assign rfl) ?_
        refine c_nil ?_
        refine wp_ret ?_
        cases hs
        exact ⟨_, fr_ovl 27 ⟨rfl, trivial⟩, hC⟩

theorem Bd52 : Bodied Try.prog 52 := bodied Try.func52 (by kernel_rfl) rfl

def k_laws_eqRelation (M : Nat → Prop) (w0 : World) (r : Bool) (a : Act) (w : World) : Prop :=
  ∃ (σ : Nat → Value) , a = fr 16 (ovl σ [(4, (.bool r))]) ∧ Chg [] w0 w
def s_laws_eqRelation (a_ : Int × (List (List Int))) (b : Int × (List (List Int))) : Option (Bool) :=
  (bif (a_.1 != b.1) then some false else (s_laws_eqIntSS a_.2 b.2).bind fun r7 =>
  (bif (!r7) then some false else some true))
set_option maxHeartbeats 4000000 in
theorem c_laws_eqRelation {M : Nat → Prop} {w : World} {pa0 : Option Addr} {pn0 pc0 : Nat} {pa1 : Option Addr} {pn1 pc1 : Nat} (a_ : Int × (List (List Int))) (b : Int × (List (List Int))) (h0 : (RT.rs (RT.rs (RT.int .i64))).val M w (.slice pa0 pn0 pc0) a_.2 ([])) (h1 : (RT.rs (RT.rs (RT.int .i64))).val M w (.slice pa1 pn1 pc1) b.2 ([])) (hM : ∀ g, w.heap.size ≤ g → M g) {r : Bool} (hs : s_laws_eqRelation a_ b = some r) :
    Gives Try.prog 23 [(.agg #[(.int .i64 a_.1), (.slice pa0 pn0 pc0)]), (.agg #[(.int .i64 b.1), (.slice pa1 pn1 pc1)])] w (fun v w' => v = (.bool r) ∧ Chg [] w w') := by
  refine calls_fr Try.func23 rfl Try.ntmps23 (Nat.le_of_ble_eq_true rfl) ?_
  have hO := Own.start (N := Nw w []) hM Nw.fut
  have hC := Chg.refl [] w
  unfold s_laws_eqRelation at hs
  refine wp_mono (Q := KPost (k_laws_eqRelation M w r)) ?_ (fun e a w1 h => ?_)
  rotate_left
  · cases e
    case ret =>
      obtain ⟨σ, rfl, hrest⟩ := h
      exact ret1x Try.results23 (res_tmp rfl) ⟨rfl, hrest⟩
    all_goals exact (h : False).elim
  refine c_seq ?_
  refine c_region ?_
  obtain ⟨w3, g3, ew3, eg3, hC3, hb3⟩ := new_block w [(.int .i64 a_.1), (.slice pa0 pn0 pc0)] 31
  refine pl_val (w' := w3) (.pointer (some ⟨g3, 0, none⟩)) (y_box rfl (by rw [ew3, eg3]; kernel_rfl)) ?_
  have h0 := h0.ext hC3
  have h1 := h1.ext hC3
  have hC := hC.ext hC3
  have hO := hO.new (X' := [g3]) hC3 (fun q hq => by rw [List.mem_singleton.1 hq, eg3]; exact Nat.le_refl _) (List.nodup_cons.2 ⟨(fun h => nomatch h), List.nodup_nil⟩) (fun q hq => by rw [List.mem_singleton.1 hq]; exact hb3.lt)
  obtain ⟨w4, g4, ew4, eg4, hC4, hb4⟩ := new_block w3 [(.int .i64 b.1), (.slice pa1 pn1 pc1)] 31
  refine pl_val (w' := w4) (.pointer (some ⟨g4, 0, none⟩)) (y_box rfl (by rw [ew4, eg4]; kernel_rfl)) ?_
  have h0 := h0.ext hC4
  have h1 := h1.ext hC4
  have hb3 := hb3.chg hC4 (fun h => nomatch h)
  have hC := hC.ext hC4
  have hO := hO.new (X' := [g4]) hC4 (fun q hq => by rw [List.mem_singleton.1 hq, eg4]; exact Nat.le_refl _) (List.nodup_cons.2 ⟨(fun h => nomatch h), List.nodup_nil⟩) (fun q hq => by rw [List.mem_singleton.1 hq]; exact hb4.lt)
  refine pl_val (.bool false) (y_assign rfl) ?_
  refine c_nil ?_
  refine c_seq ?_
  refine c_seq ?_
  refine c_region ?_
  refine pl_val (.pointer (some ⟨g3, 0, none⟩)) (y_faddr rfl Fa31x0) ?_
  refine pl_val (.int .i64 a_.1) (y_load rfl ((box_load Ag3 Sz3 hb3 [] [(.int .i64 a_.1)] [(.slice pa0 pn0 pc0)] rfl rfl (fun _ => rfl)) _ (Chg.refl _ _))) ?_
  refine pl_val (.pointer (some ⟨g4, 0, none⟩)) (y_faddr rfl Fa31x0) ?_
  refine pl_val (.int .i64 b.1) (y_load rfl ((box_load Ag3 Sz3 hb4 [] [(.int .i64 b.1)] [(.slice pa1 pn1 pc1)] rfl rfl (fun _ => rfl)) _ (Chg.refl _ _))) ?_
  refine pl_val (.bool (a_.1 != b.1)) (y_neq rfl rfl) ?_
  refine c_nil ?_
  rcases bif_some hs with ⟨hc5, hs⟩ | ⟨hc5, hs⟩
  · skip
    refine c_condT (congrArg Value.bool hc5) ?_
    refine c_seq ?_
    refine c_region ?_
    refine pl_val (.bool false) (y_assign rfl) ?_
    refine c_nil ?_
    refine wp_ret ?_
    cases hs
    exact ⟨_, fr_ovl 16 ⟨rfl, trivial⟩, hC⟩
  · skip
    refine c_condF (congrArg Value.bool hc5) ?_
    refine wp_skip ?_
    refine c_seq ?_
    refine c_seq ?_
    refine c_region ?_
    refine pl_val (.pointer (some ⟨g3, 1, none⟩)) (y_faddr rfl Fa31x1) ?_
    refine pl_val (.slice pa0 pn0 pc0) (y_load rfl ((box_load Ag29 Sz29 hb3 [(.int .i64 a_.1)] [(.slice pa0 pn0 pc0)] [] rfl rfl (fun _ => rfl)) _ (Chg.refl _ _))) ?_
    refine pl_val (.pointer (some ⟨g4, 1, none⟩)) (y_faddr rfl Fa31x1) ?_
    refine pl_val (.slice pa1 pn1 pc1) (y_load rfl ((box_load Ag29 Sz29 hb4 [(.int .i64 b.1)] [(.slice pa1 pn1 pc1)] [] rfl rfl (fun _ => rfl)) _ (Chg.refl _ _))) ?_
    obtain ⟨r7, hr7, hs⟩ := bind_some hs
    refine pl_call Bd52 rfl (c_laws_eqIntSS (M := M) a_.2 b.2 h0 h1 hO.fut hr7) ?_
    rintro _ w6 ⟨rfl, hC6⟩
    have h0 := h0.ext hC6
    have h1 := h1.ext hC6
    have hb3 := hb3.chg hC6 (fun h => nomatch h)
    have hb4 := hb4.chg hC6 (fun h => nomatch h)
    have hC := hC.ext hC6
    have hO := hO.ext hC6
    refine pl_val (.bool (!r7)) (y_not rfl) ?_
    refine c_nil ?_
    rcases bif_some hs with ⟨hc8, hs⟩ | ⟨hc8, hs⟩
    · skip
      refine c_condT (congrArg Value.bool hc8) ?_
      refine c_seq ?_
      refine c_region ?_
      refine pl_val (.bool false) (y_assign rfl) ?_
      refine c_nil ?_
      refine wp_ret ?_
      cases hs
      exact ⟨_, fr_ovl 16 ⟨rfl, trivial⟩, hC⟩
    · skip
      refine c_condF (congrArg Value.bool hc8) ?_
      refine wp_skip ?_
      refine c_seq ?_
      refine c_region ?_
      refine pl_val (.bool true) (y_assign rfl) ?_
      refine c_nil ?_
      refine wp_ret ?_
      cases hs
      exact ⟨_, fr_ovl 16 ⟨rfl, trivial⟩, hC⟩

theorem Ag36 : AggT Try.prog 36 true := fun _ => by kernel_rfl

theorem Sz36 : SzT Try.prog 36 2 := ⟨_, rfl, rfl⟩

theorem Bd26 : Bodied Try.prog 26 := bodied Try.func26 (by kernel_rfl) rfl

theorem Bd28 : Bodied Try.prog 28 := bodied Try.func28 (by kernel_rfl) rfl

theorem Bd27 : Bodied Try.prog 27 := bodied Try.func27 (by kernel_rfl) rfl

theorem Bd29 : Bodied Try.prog 29 := bodied Try.func29 (by kernel_rfl) rfl

theorem Bd23 : Bodied Try.prog 23 := bodied Try.func23 (by kernel_rfl) rfl

def k_laws_FnExactIsRectangular (M : Nat → Prop) (w0 : World) (r : Bool) (a : Act) (w : World) : Prop :=
  ∃ (σ : Nat → Value) , a = fr 44 (ovl σ [(4, (.bool r))]) ∧ Chg [] w0 w
def s_laws_FnExactIsRectangular (aN : Int) (aR : Int × (List (List Int))) : Option (Bool) :=
  (s_laws_szRelation (aR.1, aR.2) 1048576).bind fun r4 =>
  (bif (decide (r4 < 0)) then some true else (s_laws_toRelation (aR.1, aR.2)).bind fun r7 =>
  (s_spec_IsRectangular aN (r7.1, r7.2)).bind fun r10 =>
  (s_laws_toRelation (aR.1, aR.2)).bind fun r12 =>
  (s_impl_IsRectangular aN (r12.1, r12.2)).bind fun r17 =>
  (bif ((!(r17.1 == r10.1)) || (!(r17.2 == r10.2))) then some false else (s_laws_toRelation (aR.1, aR.2)).bind fun r25 =>
  (s_laws_eqRelation (r12.1, r12.2) (r25.1, r25.2)).bind fun r28 =>
  (bif (!r28) then some false else some true)))
set_option maxHeartbeats 4000000 in
theorem c_laws_FnExactIsRectangular {M : Nat → Prop} {w : World} {pa0 : Option Addr} {pn0 pc0 : Nat} (aN : Int) (aR : Int × (List (List Int))) (h0 : (RT.rs (RT.rs (RT.int .i64))).val M w (.slice pa0 pn0 pc0) aR.2 ([])) (hM : ∀ g, w.heap.size ≤ g → M g) {r : Bool} (hs : s_laws_FnExactIsRectangular aN aR = some r) :
    Gives Try.prog 5 [(.int .i64 aN), (.agg #[(.int .i64 aR.1), (.slice pa0 pn0 pc0)])] w (fun v w' => v = (.bool r) ∧ Chg [] w w') := by
  refine calls_fr Try.func5 rfl Try.ntmps5 (Nat.le_of_ble_eq_true rfl) ?_
  have hO := Own.start (N := Nw w []) hM Nw.fut
  have hC := Chg.refl [] w
  unfold s_laws_FnExactIsRectangular at hs
  refine wp_mono (Q := KPost (k_laws_FnExactIsRectangular M w r)) ?_ (fun e a w1 h => ?_)
  rotate_left
  · cases e
    case ret =>
      obtain ⟨σ, rfl, hrest⟩ := h
      exact ret1x Try.results5 (res_tmp rfl) ⟨rfl, hrest⟩
    all_goals exact (h : False).elim
  refine c_seq ?_
  refine c_region ?_
  obtain ⟨w2, g2, ew2, eg2, hC2, hb2⟩ := new_block w [(.int .i64 aR.1), (.slice pa0 pn0 pc0)] 36
  refine pl_val (w' := w2) (.pointer (some ⟨g2, 0, none⟩)) (y_box rfl (by rw [ew2, eg2]; kernel_rfl)) ?_
  have h0 := h0.ext hC2
  have hC := hC.ext hC2
  have hO := hO.new (X' := [g2]) hC2 (fun q hq => by rw [List.mem_singleton.1 hq, eg2]; exact Nat.le_refl _) (List.nodup_cons.2 ⟨(fun h => nomatch h), List.nodup_nil⟩) (fun q hq => by rw [List.mem_singleton.1 hq]; exact hb2.lt)
  refine pl_val (.bool false) (y_assign rfl) ?_
  refine c_nil ?_
  refine c_seq ?_
  refine c_region ?_
  refine pl_val (.int .i64 1048576) (y_assign rfl) ?_
  refine c_nil ?_
  refine c_seq ?_
  refine c_region ?_
  refine pl_val (.agg #[(.int .i64 aR.1), (.slice pa0 pn0 pc0)]) (y_load rfl ((box_load Ag36 Sz36 hb2 [] [(.int .i64 aR.1), (.slice pa0 pn0 pc0)] [] rfl rfl (fun h => nomatch h)) _ (Chg.refl _ _))) ?_
  refine pl_val (.int .i64 1048576) (y_move rfl) ?_
  obtain ⟨r4, hr4, hs⟩ := bind_some hs
  refine pl_call Bd26 rfl (c_laws_szRelation (M := M) (aR.1, aR.2) 1048576 h0 hO.fut hr4) ?_
  rintro _ w3 ⟨rfl, hC3⟩
  have h0 := h0.ext hC3
  have hb2 := hb2.chg hC3 (fun h => nomatch h)
  have hC := hC.ext hC3
  have hO := hO.ext hC3
  refine pl_val (.int .i64 r4) (y_assign rfl) ?_
  refine c_nil ?_
  refine c_seq ?_
  refine c_seq ?_
  refine c_region ?_
  refine pl_val (.int .i64 r4) (y_move rfl) ?_
  refine pl_val (.bool (decide (r4 < 0))) (y_lss rfl rfl) ?_
  refine c_nil ?_
  rcases bif_some hs with ⟨hc5, hs⟩ | ⟨hc5, hs⟩
  · skip
    refine c_condT (congrArg Value.bool hc5) ?_
    refine c_seq ?_
    refine c_region ?_
    refine pl_val (.bool true) (y_assign rfl) ?_
    refine c_nil ?_
    refine wp_ret ?_
    cases hs
    exact ⟨_, fr_ovl 44 ⟨rfl, trivial⟩, hC⟩
  · skip
    refine c_condF (congrArg Value.bool hc5) ?_
    refine wp_skip ?_
    refine c_seq ?_
    refine c_region ?_
    refine pl_val (.int .i64 aN) (y_move rfl) ?_
    refine pl_val (.agg #[(.int .i64 aR.1), (.slice pa0 pn0 pc0)]) (y_load rfl ((box_load Ag36 Sz36 hb2 [] [(.int .i64 aR.1), (.slice pa0 pn0 pc0)] [] rfl rfl (fun h => nomatch h)) _ (Chg.refl _ _))) ?_
    obtain ⟨r7, hr7, hs⟩ := bind_some hs
    refine pl_call Bd28 rfl (c_laws_toRelation (M := M) (aR.1, aR.2) h0 hO.fut hr7) ?_
    rintro _ w6 ⟨a6x0, n6x0, c6x0, f6x0, rfl, hC6, hv6x0, hOc6⟩
    have h0 := h0.ext hC6
    have hb2 := hb2.chg hC6 (fun h => nomatch h)
    have hC := hC.ext hC6
    have hO := Own.join0 hO hC6 hOc6
    have hO := hO.perm (R := f6x0 ++ (([g2]) ++ ([]))) (by simp)
    obtain ⟨r10, hr10, hs⟩ := bind_some hs
    refine pl_call Bd27 rfl (c_spec_IsRectangular (M := (Less M f6x0)) aN (r7.1, r7.2) (((Frz.os (Frz.os Frz.int))).val hv6x0 Less.sub Less.not) hO.less.fut hr10) ?_
    rintro _ w9 ⟨rfl, hC9⟩
    have h0 := h0.ext hC9
    have hb2 := hb2.chg hC9 (fun h => nomatch h)
    have hv6x0 := hv6x0.ext hC9
    have hC := hC.ext hC9
    have hO := hO.ext hC9
    refine pl_val (.tuple #[(.bool r10.1), (.bool r10.2)]) (y_move rfl) ?_
    refine pl_val (.bool r10.1) (y_extract rfl (by kernel_rfl)) ?_
    refine pl_val (.bool r10.2) (y_extract rfl (by kernel_rfl)) ?_
    refine pl_val (.bool r10.1) (y_assign rfl) ?_
    refine pl_val (.bool r10.2) (y_assign rfl) ?_
    refine c_nil ?_
    refine c_seq ?_
    refine c_region ?_
    refine pl_val (.agg #[(.int .i64 aR.1), (.slice pa0 pn0 pc0)]) (y_load rfl ((box_load Ag36 Sz36 hb2 [] [(.int .i64 aR.1), (.slice pa0 pn0 pc0)] [] rfl rfl (fun h => nomatch h)) _ (Chg.refl _ _))) ?_
    obtain ⟨r12, hr12, hs⟩ := bind_some hs
    refine pl_call Bd28 rfl (c_laws_toRelation (M := M) (aR.1, aR.2) h0 hO.fut hr12) ?_
    rintro _ w11 ⟨a11x0, n11x0, c11x0, f11x0, rfl, hC11, hv11x0, hOc11⟩
    have h0 := h0.ext hC11
    have hb2 := hb2.chg hC11 (fun h => nomatch h)
    have hv6x0 := hv6x0.ext hC11
    have hC := hC.ext hC11
    have hO := Own.join0 hO hC11 hOc11
    have hO := hO.perm (R := f11x0 ++ (f6x0 ++ (([g2]) ++ ([])))) (by simp)
    obtain ⟨w14, g14, ew14, eg14, hC14, hb14⟩ := new_block w11 [(.int .i64 0), (.slice none 0 0)] 31
    refine pl_val (w' := w14) (.pointer (some ⟨g14, 0, none⟩)) (y_alloc (by rw [ew14, eg14]; kernel_rfl)) ?_
    have h0 := h0.ext hC14
    have hb2 := hb2.chg hC14 (fun h => nomatch h)
    have hv6x0 := hv6x0.ext hC14
    have hv11x0 := hv11x0.ext hC14
    have hC := hC.ext hC14
    have hO := hO.new (X' := [g14]) hC14 (fun q hq => by rw [List.mem_singleton.1 hq, eg14]; exact Nat.le_refl _) (List.nodup_cons.2 ⟨(fun h => nomatch h), List.nodup_nil⟩) (fun q hq => by rw [List.mem_singleton.1 hq]; exact hb14.lt)
    obtain ⟨w15, hst15, hC15, hb15⟩ := box_store (P := Try.prog) hb14 [] [(.int .i64 0), (.slice none 0 0)] [] [(.int .i64 r12.1), (.slice a11x0 n11x0 c11x0)] rfl rfl (by intro u hu; simp only [List.mem_cons, List.not_mem_nil, or_false] at hu; rcases hu with rfl | rfl <;> rfl)
    refine pl_skip (w' := w15) (ys_store rfl rfl (hst15 _ _ rfl Sz31)) ?_
    have h0 := h0.mut hC15 (fun g hg => hO.inM g ((fun _ h => h) g hg)) (fun _ _ h => nomatch h)
    have hb2 := hb2.chg hC15 (fun hg => hO.apart _ ((fun _ h => h) _ hg) (mem_r (mem_r (mem_l (List.mem_singleton.2 rfl)))))
    have hv6x0 := hv6x0.mut hC15 (fun g hg => hO.inM g ((fun _ h => h) g hg)) (fun g hg e => hO.apart g ((fun _ h => h) g hg) (mem_r (mem_l (e))))
    have hv11x0 := hv11x0.mut hC15 (fun g hg => hO.inM g ((fun _ h => h) g hg)) (fun g hg e => hO.apart g ((fun _ h => h) g hg) (mem_l (e)))
    have hC := hC.step hC15 (fun g hg => hO.inN g ((fun _ h => h) g hg))
    have hO := hO.ext hC15
    have hb15 : BoxV w15 g14 31 [(.int .i64 r12.1), (.slice a11x0 n11x0 c11x0)] := hb15
    refine c_nil ?_
    refine c_seq ?_
    refine c_region ?_
    refine pl_val (.int .i64 aN) (y_move rfl) ?_
    refine pl_val (.agg #[(.int .i64 r12.1), (.slice a11x0 n11x0 c11x0)]) (y_load rfl ((box_load Ag31 Sz31 hb15 [] [(.int .i64 r12.1), (.slice a11x0 n11x0 c11x0)] [] rfl rfl (fun h => nomatch h)) _ (Chg.refl _ _))) ?_
    have hO := hO.fr1
    obtain ⟨r17, hr17, hs⟩ := bind_some hs
    refine pl_call Bd29 rfl (c_impl_IsRectangular (M := (Less M f11x0)) aN (r12.1, r12.2) (((Frz.os (Frz.os Frz.int))).val hv11x0 Less.sub Less.not) hO.less.fut hr17) ?_
    rintro _ w16 ⟨rfl, hC16⟩
    have h0 := h0.ext hC16
    have hb2 := hb2.chg hC16 (fun h => nomatch h)
    have hv6x0 := hv6x0.ext hC16
    have hv11x0 := hv11x0.ext hC16
    have hb15 := hb15.chg hC16 (fun h => nomatch h)
    have hC := hC.ext hC16
    have hO := hO.ext hC16
    refine pl_val (.tuple #[(.bool r17.1), (.bool r17.2)]) (y_move rfl) ?_
    refine pl_val (.bool r17.1) (y_extract rfl (by kernel_rfl)) ?_
    refine pl_val (.bool r17.2) (y_extract rfl (by kernel_rfl)) ?_
    refine pl_val (.bool r17.1) (y_assign rfl) ?_
    refine pl_val (.bool r17.2) (y_assign rfl) ?_
    refine c_nil ?_
    refine c_seq ?_
    refine c_seq ?_
    refine c_mid (I := fun a w19 => ∃ (σ : Nat → Value), a = fr 44 (ovl σ [(3, (.pointer (some ⟨g2, 0, none⟩))), (4, (.bool false)), (8, (.pointer (some ⟨g14, 0, none⟩))), (38, (.bool ((!(r17.1 == r10.1)) || (!(r17.2 == r10.2)))))]) ∧ Chg [] w16 w19) ?_ ?_
    · have hMid := Chg.refl [] w16
      refine c_region ?_
      refine pl_val (.bool r17.1) (y_move rfl) ?_
      refine pl_val (.bool r10.1) (y_move rfl) ?_
      refine pl_val (.bool (!(r17.1 == r10.1))) (y_bneq Try.underlying4 rfl rfl) ?_
      refine pl_val (.bool (!(r17.1 == r10.1))) (y_move rfl) ?_
      rcases Bool.eq_false_or_eq_true ((!(r17.1 == r10.1))) with hc21 | hc21
      · skip
        refine pl_not (tg := 34) (by kernel_rfl) (congrArg Value.bool hc21) ?_
        refine pl_not (tg := 34) (by kernel_rfl) (congrArg Value.bool hc21) ?_
        refine pl_not (tg := 34) (by kernel_rfl) (congrArg Value.bool hc21) ?_
        refine pl_val (.bool ((!(r17.1 == r10.1)) || (!(r17.2 == r10.2)))) (y_pick_t (congrArg Value.bool hc21) (congrArg Value.bool (by rw [hc21]; rfl))) ?_
        refine c_nil ?_
        exact ⟨_, fr_ovl 44 ⟨rfl, rfl, rfl, rfl, trivial⟩, hMid⟩
      · skip
        refine pl_yes (.bool r17.2) (tg := 34) (by kernel_rfl) (congrArg Value.bool hc21) (y_move rfl) ?_
        refine pl_yes (.bool r10.2) (tg := 34) (by kernel_rfl) (congrArg Value.bool hc21) (y_move rfl) ?_
        refine pl_yes (.bool (!(r17.2 == r10.2))) (tg := 34) (by kernel_rfl) (congrArg Value.bool hc21) (y_bneq Try.underlying4 rfl rfl) ?_
        refine pl_val (.bool ((!(r17.1 == r10.1)) || (!(r17.2 == r10.2)))) (y_pick_f (congrArg Value.bool hc21) (congrArg Value.bool (by rw [hc21]; rfl))) ?_
        refine c_nil ?_
        exact ⟨_, fr_ovl 44 ⟨rfl, rfl, rfl, rfl, trivial⟩, hMid⟩
    · rintro a1 w19 ⟨σ, rfl, hCs18⟩
      have h0 := h0.ext hCs18
      have hb2 := hb2.chg hCs18 (fun h => nomatch h)
      have hv6x0 := hv6x0.ext hCs18
      have hv11x0 := hv11x0.ext hCs18
      have hb15 := hb15.chg hCs18 (fun h => nomatch h)
      have hC := hC.ext hCs18
      have hO := hO.ext hCs18
      rcases bif_some hs with ⟨hc22, hs⟩ | ⟨hc22, hs⟩
      · skip
        refine c_condT (congrArg Value.bool hc22) ?_
        refine c_seq ?_
        refine c_region ?_
        refine pl_val (.bool false) (y_assign rfl) ?_
        refine c_nil ?_
        refine wp_ret ?_
        cases hs
        exact ⟨_, fr_ovl 44 ⟨rfl, trivial⟩, hC⟩
      · skip
        refine c_condF (congrArg Value.bool hc22) ?_
        refine wp_skip ?_
        refine c_seq ?_
        refine c_seq ?_
        refine x_start [] Mx rfl ?_
        have hCw23 := Chg.drew w19
        generalize World.drew w19 = w23 at hCw23 ⊢
        have h0 := h0.ext hCw23
        have hb2 := hb2.chg hCw23 (fun h => nomatch h)
        have hv6x0 := hv6x0.ext hCw23
        have hv11x0 := hv11x0.ext hCw23
        have hb15 := hb15.chg hCw23 (fun h => nomatch h)
        have hC := hC.ext hCw23
        have hO := hO.ext hCw23
        have hS := Chg.refl [] w23
        refine x_l 0 (.agg #[(.int .i64 r12.1), (.slice a11x0 n11x0 c11x0)]) rfl (by kernel_rfl)  (fun w' hw' => y_load rfl ((box_load Ag31 Sz31 hb15 [] [(.int .i64 r12.1), (.slice a11x0 n11x0 c11x0)] [] rfl rfl (fun h => nomatch h)) w' hw')) hS ?_
        refine x_l 1 (.agg #[(.int .i64 aR.1), (.slice pa0 pn0 pc0)]) rfl (by kernel_rfl)  (fun w' hw' => y_load rfl ((box_load Ag36 Sz36 hb2 [] [(.int .i64 aR.1), (.slice pa0 pn0 pc0)] [] rfl rfl (fun h => nomatch h)) w' hw')) hS ?_
        refine x_one (i := 2) (by kernel_rfl) ?_
        obtain ⟨r25, hr25, hs⟩ := bind_some hs
        refine xk_call (b := false) rfl  Bd28 rfl (c_laws_toRelation (M := M) (aR.1, aR.2) h0 hO.fut hr25) rfl (by rintro _ _ _ ⟨a24x0, n24x0, c24x0, f24x0, rfl, hC24, hv24x0, hOc24⟩; exact hS.ext hC24) ?_
        rintro _ w24 ⟨a24x0, n24x0, c24x0, f24x0, rfl, hC24, hv24x0, hOc24⟩
        have h0 := h0.ext hC24
        have hb2 := hb2.chg hC24 (fun h => nomatch h)
        have hv6x0 := hv6x0.ext hC24
        have hv11x0 := hv11x0.ext hC24
        have hb15 := hb15.chg hC24 (fun h => nomatch h)
        have hC := hC.ext hC24
        have hO := Own.join0 hO hC24 hOc24
        have hO := hO.perm (R := f24x0 ++ (f11x0 ++ (([g14]) ++ (f6x0 ++ (([g2]) ++ ([])))))) (by simp)
        have hS := hS.ext hC24
        refine x_one (i := 3) (by kernel_rfl) ?_
        have hO := hO.fr1
        obtain ⟨r28, hr28, hs⟩ := bind_some hs
        refine xk_call (b := false) rfl  Bd23 rfl (c_laws_eqRelation (M := (Less (Less M f11x0) f24x0)) (r12.1, r12.2) (r25.1, r25.2) ((((Frz.os (Frz.os Frz.int))).val hv11x0 Less.sub Less.not).sub Less.sub) (((Frz.os (Frz.os Frz.int))).val (hv24x0.sub Less.sub) Less.sub Less.not) (hO.less).less.fut hr28) rfl (by rintro _ _ _ ⟨rfl, hC27⟩; exact hS.ext hC27) ?_
        rintro _ w27 ⟨rfl, hC27⟩
        have h0 := h0.ext hC27
        have hb2 := hb2.chg hC27 (fun h => nomatch h)
        have hv6x0 := hv6x0.ext hC27
        have hv11x0 := hv11x0.ext hC27
        have hb15 := hb15.chg hC27 (fun h => nomatch h)
        have hv24x0 := hv24x0.ext hC27
        have hC := hC.ext hC27
        have hO := hO.ext hC27
        have hS := hS.ext hC27
        refine x_p 4 (.bool (!r28)) rfl (by kernel_rfl)  (fun _ => y_not rfl) (fun _ => hS) ?_
        refine x_end (by kernel_rfl) ?_
        clear hS
        rcases bif_some hs with ⟨hc29, hs⟩ | ⟨hc29, hs⟩
        · skip
          refine c_condT (congrArg Value.bool hc29) ?_
          refine c_seq ?_
          refine c_region ?_
          refine pl_val (.bool false) (y_assign rfl) ?_
          refine c_nil ?_
          refine wp_ret ?_
          cases hs
          exact ⟨_, fr_ovl 44 ⟨rfl, trivial⟩, hC⟩
        · skip
          refine c_condF (congrArg Value.bool hc29) ?_
          refine wp_skip ?_
          refine c_seq ?_
          refine c_region ?_
          refine pl_val (.bool true) (y_assign rfl) ?_
          refine c_nil ?_
          refine wp_ret ?_
          cases hs
          exact ⟨_, fr_ovl 44 ⟨rfl, trivial⟩, hC⟩

end Go.Proofs
