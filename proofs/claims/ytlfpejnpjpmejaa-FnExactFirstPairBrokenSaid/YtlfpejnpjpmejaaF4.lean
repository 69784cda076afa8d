/- What functions of the program compute, as plain functions, and that a call gives just that. Conditions: those named in each theorem. -/
import Derived.Test.YtlfpejnpjpmejaaF3
set_option linter.unusedVariables false
namespace Go.Proofs
open Go.G Go.RowKit
set_option maxRecDepth 100000

def k_impl_pairRelations (M : Nat → Prop) (w0 : World) (r : (List (Int × (List (List Int)))) × Bool) (a : Act) (w : World) : Prop :=
  ∃ (σ : Nat → Value) (ra0 : Option Addr) (rn0 rc0 : Nat) (rf0 : List Nat), a = fr 120 (ovl σ [(4, (.slice ra0 rn0 rc0)), (5, (.bool r.2))]) ∧ Chg [] w0 w ∧ (RT.os 51 (RT.pr (RT.int .i64) (RT.os 25 (RT.os 3 (RT.int .i64))))).val M w (.slice ra0 rn0 rc0) r.1 rf0 ∧ Own (Nw w0 []) (fun _ => True) w (rf0 ++ ([]))
def s_impl_pairRelations (n : Int) (ops : List (Int × (List Int))) : Option ((List (Int × (List (List Int)))) × Bool) :=
  (mks (w64 (n * n)) (false : Bool)).bind fun y3 =>
  (s_impl_closePairs__take2 n ops y3).bind fun r6 =>
  (s_impl_marked r6).bind fun r9 =>
  (idx ([r9]) 0).bind fun x15 =>
  (s_impl_keyOf x15).bind fun r20 =>
  (iter (S := (List (List Int)) × Int × (List (ByteArray × Bool))) (R := (List (Int × (List (List Int)))) × Bool) (fun s724 =>
  (bif (decide (s724.2.1 < (s724.1.length : Int))) then (forC (S := (List (List Int)) × (List (ByteArray × Bool))) (R := (List (Int × (List (List Int)))) × Bool) (fun k846 s844 =>
  (idx s844.1 s724.2.1).bind fun x856 =>
  (s_impl_hasNot x856 k846).bind fun r861 =>
  (bif (!r861) then some (.nx (s844.1, s844.2)) else (idx s844.1 s724.2.1).bind fun x863 =>
  (s_impl_marks x863 (w64 (n * n))).bind fun r868 =>
  (idx r868 k846).bind fun x870 =>
  (s_impl_closePairs__take2 n ops (List.set r868 (Int.toNat k846) true)).bind fun r874 =>
  (s_impl_marked r874).bind fun r877 =>
  (s_impl_keyOf r877).bind fun r880 =>
  (bif (!((mget s844.2 r880).getD false)) then (app s844.1 ([r877])).bind fun y904 =>
  some (y904, mput s844.2 r880 true) else some (s844.1, s844.2)).bind fun s893 =>
  (bif (decide (200 < (s893.1.length : Int))) then some (.rt ([], false)) else some (.nx (s893.1, s893.2))))) 0 (w64 (n * n)) (s724.1, s724.2.2)).bind fun o848 => after o848 (fun r_ => some (.rt r_)) (fun s844 =>
  some (.nx (s844.1, w64 (s724.2.1 + 1), s844.2))) else some (.br (s724.1, s724.2.1, s724.2.2)))) FU ([r9], 0, mput ([]) r20 true)).bind fun o728 => after o728 (fun r_ => some r_) (fun s724 =>
  (s_impl_sortRows__impl_compareTerms s724.1).bind fun r908 =>
  (forR (S := (List (Int × (List (List Int))))) (R := (List (Int × (List (List Int)))) × Bool) (fun _ x976 s973 =>
  (forR (S := (List (List Int))) (R := (List (Int × (List (List Int)))) × Bool) (fun _ x1019 s1016 =>
  (nz n).bind fun u1028 =>
  (nz n).bind fun u1029 =>
  (app s1016 ([[w64 (Int.tdiv x1019 n), Int.tmod x1019 n]])).bind fun y1035 =>
  some (.nx y1035)) 0 x976 ([])).bind fun o1020 => after o1020 (fun r_ => some (.rt r_)) (fun s1016 =>
  (app s973 ([(2, s1016)])).bind fun y1041 =>
  some (.nx y1041))) 0 r908 ([])).bind fun o977 => after o977 (fun r_ => some r_) (fun s973 =>
  some (s973, true)))
set_option maxHeartbeats 4000000 in
theorem c_impl_pairRelations {M : Nat → Prop} {w : World} {pa0 : Option Addr} {pn0 pc0 : Nat} (n : Int) (ops : List (Int × (List Int))) (h0 : (RT.rs (RT.pr (RT.int .i64) (RT.rs (RT.int .i64)))).val M w (.slice pa0 pn0 pc0) ops ([])) (hM : ∀ g, w.heap.size ≤ g → M g) {r : (List (Int × (List (List Int)))) × Bool} (hs : s_impl_pairRelations n ops = some r) :
    Gives Try.prog 60 [(.int .i64 n), (.slice pa0 pn0 pc0)] w (fun v w' => ∃ (ra0 : Option Addr) (rn0 rc0 : Nat) (rf0 : List Nat), v = (.tuple #[(.slice ra0 rn0 rc0), (.bool r.2)]) ∧ Chg [] w w' ∧ (RT.os 51 (RT.pr (RT.int .i64) (RT.os 25 (RT.os 3 (RT.int .i64))))).val M w' (.slice ra0 rn0 rc0) r.1 rf0 ∧ Own (Nw w []) (fun _ => True) w' (rf0 ++ ([]))) := by
 refine calls_fr Try.func60 rfl Try.ntmps60 (Nat.le_of_ble_eq_true rfl) ?_
 have hO := Own.start (N := Nw w []) hM Nw.fut
 have hC := Chg.refl [] w
 unfold s_impl_pairRelations at hs
 refine wp_mono (Q := KPost (k_impl_pairRelations M w r)) ?_ (fun e a j8 h => ?_)
 rotate_left
 ·cases e
  case ret =>
   obtain ⟨σ, ra0, rn0, rc0, rf0, rfl, hrest⟩ := h
   exact ret2x Try.results60 (res_tmp rfl) (res_tmp rfl) ⟨ra0, rn0, rc0, rf0, rfl, hrest⟩
  all_goals exact (h : False).elim
 refine c_sr ?_
 refine pl_val (.slice none 0 0) (y_assign rfl) ?_
 refine pl_val (.bool false) (y_assign rfl) ?_
 refine c_nil ?_
 refine c_sr ?_
 refine pl_val (.int .i64 n) (y_move rfl) ?_
 refine pl_val (.slice pa0 pn0 pc0) (y_move rfl) ?_
 refine pl_val (.int .i64 n) (y_move rfl) ?_
 refine pl_val (.int .i64 n) (y_move rfl) ?_
 refine pl_val (.int .i64 (w64 (n * n))) (y_mul rfl rfl) ?_
 obtain ⟨y3, t0, hs⟩ := bind_some hs
 obtain ⟨t1, t2, t3, t4, p2, t5, m4, t6, m5⟩ := mk_os (M := M) (w := w) (r := RT.bool) Rw86 t0 (fun _ _ => ⟨rfl, rfl⟩)
 refine pl_val (w' := t4) (.slice t1 t2 t3) (y_make rfl rfl t5) ?_
 have h0 := h0.ext m4
 have hC := hC.ext m4
 have hO := hO.new m4 t6 (os_nodup m5) m5.fpl
 have t7 := hO
 have p3 := Own.lend (F := (p2 ++ ([]))) (R := []) (Own.perm (t7) (by simp))
 obtain ⟨r6, t8, hs⟩ := bind_some hs
 refine pl_call Bd74 rfl (c_impl_closePairs__take2 (M := M) n ops y3 h0 m5 p3 p3.fut t8) ?_
 rintro _ F5 ⟨F6, F7, F8, j9, rfl, m6, b9, t9⟩
 have hO := hO.perm (R := (p2 ++ ([])) ++ ([])) (by simp)
 have h0 := h0.mt m6 hO same_
 have hC := hC.st m6 hO same_
 have hO := Own.join hO m6 t9
 have hO := hO.perm (R := j9 ++ ([])) (by simp)
 obtain ⟨r9, u0, hs⟩ := bind_some hs
 refine pl_call Bd65 rfl (c_impl_marked (M := (Less M j9)) r6 (((Frz.os Frz.bool)).val b9 Less.sub Less.not) hO.less.fut u0) ?_
 rintro _ u1 ⟨p4, p5, p6, f0, rfl, k0, h5, u2⟩
 have h0 := h0.ext k0
 have b9 := b9.ext k0
 have hC := hC.ext k0
 have hO := Own.join0 hO k0 u2
 have hO := hO.perm (R := f0 ++ (j9 ++ ([]))) (by simp)
 have h5 := h5.free (M' := M) (Free.os Free.int)
 obtain ⟨m7, d2, u3, p7, h6, p8⟩ := new_block u1 [(.slice p4 p5 p6)] 25
 refine pl_val (w' := m7) (.slice (some ⟨d2, 0, none⟩) 1 1) (y_bslice rfl (by rw [u3, p7]; kernel_rfl)) ?_
 have h0 := h0.ext h6
 have b9 := b9.ext h6
 have h5 := h5.ext h6
 have hC := hC.ext h6
 have hO := hO.new1 h6 p7 p8.lt
 have hO := hO.perm (R := (d2 :: ((f0) ++ ([]))) ++ (j9 ++ ([]))) (by simp)
 have u4 := hO.nd
 have c2 := os_of_box (r := (RT.os 3 (RT.int .i64))) (M := M) (css := [[(.slice p4 p5 p6)]]) (fps := [(f0 : List Nat)]) (xs := ([r9] : List (List Int))) p8 ⟨(os_unval h5), trivial⟩ (Nat.le_of_ble_eq_true rfl) u4
 have c2 : (RT.os 25 (RT.os 3 (RT.int .i64))).val M m7 (.slice (some ⟨d2, 0, none⟩) 1 1) [r9] (d2 :: ((f0) ++ ([]))) := c2
 refine pl_val (.slice (some ⟨d2, 0, none⟩) 1 1) (y_assign rfl) ?_
 refine c_nil ?_
 refine c_sr ?_
 obtain ⟨u5, a7, u6, p9, h7, k1⟩ := mo_make (enc := Value.bool) (M := M) m7
 refine pl_val (w' := u5) (.map (some a7)) (by rw [u6, p9]; exact y_mmap) ?_
 have h0 := h0.ext h7
 have b9 := b9.ext h7
 have c2 := c2.ext h7
 have hC := hC.ext h7
 have hO := hO.new (X' := [a7]) h7 (fun q hq => by rw [List.mem_singleton.1 hq, p9]; exact Nat.le_refl _) (List.nodup_cons.2 ⟨(fun h => nomatch h), List.nodup_nil⟩) k1.fpl
 refine pl_val (.slice (some ⟨d2, 0, none⟩) 1 1) (y_move rfl) ?_
 obtain ⟨x15, u7, hs⟩ := bind_some hs
 obtain ⟨u9, F9, G0, G1, v0, v1, v2⟩ := os_idx Sl49 Sz25 c2 u7
 have v3 := own_row (Frz.os Frz.int) v1 v2
 refine pl_val (.pointer (some ⟨u9, 0 + Int.toNat 0 * 1, none⟩)) (v0 _ _ _ _ _ _ _ _ _ rfl rfl) ?_
 obtain ⟨G2, v4, hrow17, f1⟩ := at_load1 Ag25 Sz25 rfl rfl v3
 obtain ⟨v5, v6, v7, rfl⟩ := rs_sl f1
 refine pl_val (.slice v5 v6 v7) (y_load rfl (v4 _ (Chg.refl _ _))) ?_
 have hO := hO.fr1
 obtain ⟨r20, v8, hs⟩ := bind_some hs
 refine pl_call Bd68 rfl (c_impl_keyOf (M := (Less M (d2 :: ((f0) ++ ([]))))) x15 f1 hO.less.fut v8) ?_
 rintro _ G3 ⟨rfl, d5⟩
 have h0 := h0.ext d5
 have b9 := b9.ext d5
 have c2 := c2.ext d5
 have k1 := k1.ext d5
 have f1 := f1.ext d5
 have hrow17 := hrow17.cn d5
 have hC := hC.ext d5
 have hO := hO.ext d5
 have hO := hO.fr1
 obtain ⟨v9, w1, f2, w2⟩ := mo_put (P := Try.prog) (t := 88) (key := r20) (x := true) Try.underlying88 Try.underlying9 k1
 refine pl_skip (w' := v9) (ys_ins rfl rfl rfl w1) ?_
 have h0 := h0.mt f2 hO same_
 have b9 := b9.ma f2 hO same_ (fun _ e => (mem_r (mem_l (e))))
 have c2 := c2.ma f2 hO same_ (fun _ e => (mem_l (e)))
 have f1 := f1.mut f2 (fun g hg => ⟨hO.inM g ((fun _ h => h) g hg), fun e => hO.apart g ((fun _ h => h) g hg) (mem_l (e))⟩) (fun _ _ h => nomatch h)
 have hC := hC.st f2 hO same_
 have hO := hO.ext f2
 refine pl_val (.map (some a7)) (y_move rfl) ?_
 refine pl_val (.map (some a7)) (y_assign rfl) ?_
 refine c_nil ?_
 refine c_seq ?_
 refine c_sr ?_
 refine pl_val (.int .i64 0) (y_assign rfl) ?_
 refine c_nil ?_
 have hO := hO.fr2
 have hO := hO.drop
 obtain ⟨o728, w3, hs⟩ := bind_some hs
 refine wp_block ?_
 refine wp_iter (id := 0) (I := fun s724 a b1 => ∃ (σ : Nat → Value) (f3 : Option Addr) (f4 : Nat) (f5 : Nat) (h8 : List Nat) (h9 : List Nat), a = fr 120 (ovl σ [(0, (.int .i64 n)), (1, (.slice pa0 pn0 pc0)), (6, (.slice f3 f4 f5)), (7, (.map (some a7))), (8, (.int .i64 s724.2.1))]) ∧ Chg [] w b1 ∧ Own (Nw w []) M b1 (h8 ++ (h9 ++ [])) ∧ (RT.rs (RT.pr (RT.int .i64) (RT.rs (RT.int .i64)))).val M b1 (.slice pa0 pn0 pc0) ops ([]) ∧ (RT.mo Value.bool).val M b1 (.map (some a7)) s724.2.2 h9 ∧ (RT.os 25 (RT.os 3 (RT.int .i64))).val M b1 (.slice f3 f4 f5) s724.1 h8) (J := fun s724 a b1 => ∃ (σ : Nat → Value) (b5 : Option Addr) (b6 : Nat) (b7 : Nat) (i0 : List Nat) (f6 : List Nat), a = fr 120 (ovl σ [(0, (.int .i64 n)), (6, (.slice b5 b6 b7))]) ∧ Chg [] w b1 ∧ Own (Nw w []) M b1 (i0 ++ (f6 ++ [])) ∧ (RT.rs (RT.pr (RT.int .i64) (RT.rs (RT.int .i64)))).val M b1 (.slice pa0 pn0 pc0) ops ([]) ∧ (RT.mo Value.bool).val M b1 (.map (some a7)) s724.2.2 f6 ∧ (RT.os 25 (RT.os 3 (RT.int .i64))).val M b1 (.slice b5 b6 b7) s724.1 i0) (K := (k_impl_pairRelations M w)) ?_ FU ([r9], 0, mput ([]) r20 true) o728 _ _ ?_ w3 ?_
 ·rintro s724 o728 a b1 ⟨σ, f3, f4, f5, h8, h9, rfl, hC, hO, h0, q0, m8⟩ hs
  refine c_seq ?_
  refine c_sr ?_
  refine pl_val (.int .i64 s724.2.1) (y_move rfl) ?_
  refine pl_val (.slice f3 f4 f5) (y_move rfl) ?_
  refine pl_val (.int .i64 (s724.1.length : Int)) (y_len' Sl49 (os_len m8) rfl) ?_
  refine pl_val (.bool (decide (s724.2.1 < (s724.1.length : Int)))) (y_lss rfl rfl) ?_
  refine c_nil ?_
  rcases bif_some hs with ⟨m9, hs⟩ | ⟨m9, hs⟩
  ·refine c_condT (congrArg Value.bool m9) ?_
   refine wp_skip ?_
   refine c_seq ?_
   refine wp_block ?_
   refine c_sr ?_
   refine pl_val (.int .i64 0) (y_assign rfl) ?_
   refine c_nil ?_
   obtain ⟨o848, w4, hs⟩ := bind_some hs
   refine wp_block ?_
   refine wp_forC (id := 2) (w64 (n * n)) (I := fun k846 s844 a a9 => ∃ (σ : Nat → Value) (c3 : Option Addr) (c4 : Nat) (c5 : Nat) (a8 : List Nat) (b0 : List Nat), a = fr 120 (ovl σ [(0, (.int .i64 n)), (1, (.slice pa0 pn0 pc0)), (6, (.slice c3 c4 c5)), (7, (.map (some a7))), (8, (.int .i64 s724.2.1)), (9, (.int .i64 k846))]) ∧ Chg [] w a9 ∧ Own (Nw w []) M a9 (a8 ++ (b0 ++ [])) ∧ (RT.rs (RT.pr (RT.int .i64) (RT.rs (RT.int .i64)))).val M a9 (.slice pa0 pn0 pc0) ops ([]) ∧ (RT.mo Value.bool).val M a9 (.map (some a7)) s844.2 b0 ∧ (RT.os 25 (RT.os 3 (RT.int .i64))).val M a9 (.slice c3 c4 c5) s844.1 a8) (J := fun s844 a a9 => ∃ (σ : Nat → Value) (k2 : Option Addr) (k3 : Nat) (k4 : Nat) (k5 : List Nat) (k6 : List Nat), a = fr 120 (ovl σ [(0, (.int .i64 n)), (1, (.slice pa0 pn0 pc0)), (6, (.slice k2 k3 k4)), (7, (.map (some a7))), (8, (.int .i64 s724.2.1))]) ∧ Chg [] w a9 ∧ Own (Nw w []) M a9 (k5 ++ (k6 ++ [])) ∧ (RT.rs (RT.pr (RT.int .i64) (RT.rs (RT.int .i64)))).val M a9 (.slice pa0 pn0 pc0) ops ([]) ∧ (RT.mo Value.bool).val M a9 (.map (some a7)) s844.2 k6 ∧ (RT.os 25 (RT.os 3 (RT.int .i64))).val M a9 (.slice k2 k3 k4) s844.1 k5) (K := (k_impl_pairRelations M w)) ?_ ?_ 0 (s724.1, s724.2.2) o848 _ _ ?_ w4 ?_
   ·rintro k846 s844 a a9 ⟨σ, c3, c4, c5, a8, b0, rfl, hC, hO, h0, a6, a3⟩ hlt
    refine c_seq ?_
    refine c_sr ?_
    refine pl_val (.int .i64 k846) (y_move rfl) ?_
    refine pl_val (.int .i64 n) (y_move rfl) ?_
    refine pl_val (.int .i64 n) (y_move rfl) ?_
    refine pl_val (.int .i64 (w64 (n * n))) (y_mul rfl rfl) ?_
    refine pl_val (.bool (decide (k846 < (w64 (n * n))))) (y_lss rfl rfl) ?_
    refine c_nil ?_
    refine c_condF (congrArg Value.bool (decide_eq_false hlt)) ?_
    refine wp_exit ?_
    have hO := hO.fr1
    have hO := hO.fr1
    exact ⟨rfl, _, c3, c4, c5, a8, b0, fr_ovl 120 ⟨rfl, rfl, rfl, rfl, rfl, trivial⟩, hC, hO, h0, a6, a3⟩
   ·rintro k846 s844 o848 a a9 ⟨σ, c3, c4, c5, a8, b0, rfl, hC, hO, h0, a6, a3⟩ hlt hw hs
    refine c_seq ?_
    refine c_sr ?_
    refine pl_val (.int .i64 k846) (y_move rfl) ?_
    refine pl_val (.int .i64 n) (y_move rfl) ?_
    refine pl_val (.int .i64 n) (y_move rfl) ?_
    refine pl_val (.int .i64 (w64 (n * n))) (y_mul rfl rfl) ?_
    refine pl_val (.bool (decide (k846 < (w64 (n * n))))) (y_lss rfl rfl) ?_
    refine c_nil ?_
    refine c_condT (congrArg Value.bool (decide_eq_true hlt)) ?_
    refine wp_skip ?_
    refine c_seq ?_
    refine wp_block ?_
    refine c_seq ?_
    refine c_sr ?_
    refine pl_val (.slice c3 c4 c5) (y_move rfl) ?_
    refine pl_val (.int .i64 s724.2.1) (y_move rfl) ?_
    obtain ⟨x856, w5, hs⟩ := bind_some hs
    obtain ⟨w6, G4, G5, G6, w7, w8, w9⟩ := os_idx Sl49 Sz25 a3 w5
    have x0 := own_row (Frz.os Frz.int) w8 w9
    refine pl_val (.pointer (some ⟨w6, 0 + Int.toNat s724.2.1 * 1, none⟩)) (w7 _ _ _ _ _ _ _ _ _ rfl rfl) ?_
    obtain ⟨G7, x1, hrow858, k7⟩ := at_load1 Ag25 Sz25 rfl rfl x0
    obtain ⟨x2, x3, x4, rfl⟩ := rs_sl k7
    refine pl_val (.slice x2 x3 x4) (y_load rfl (x1 _ (Chg.refl _ _))) ?_
    refine pl_val (.int .i64 k846) (y_move rfl) ?_
    obtain ⟨r861, x5, hs⟩ := bind_some hs
    refine pl_call Bd75 rfl (c_impl_hasNot (M := (Less M a8)) x856 k846 k7 hO.less.fut x5) ?_
    rintro _ G8 ⟨rfl, e2⟩
    have h0 := h0.ext e2
    have a6 := a6.ext e2
    have a3 := a3.ext e2
    have k7 := k7.ext e2
    have hrow858 := hrow858.cn e2
    have hC := hC.ext e2
    have hO := hO.ext e2
    refine pl_val (.bool (!r861)) (y_not rfl) ?_
    refine c_nil ?_
    rcases bif_some hs with ⟨n0, hs⟩ | ⟨n0, hs⟩
    ·refine c_condT (congrArg Value.bool n0) ?_
     refine wp_exit ?_
     refine c_region ?_
     refine pl_val (.int .i64 k846) (y_move rfl) ?_
     refine pl_val (.int .i64 (w64 (k846 + 1))) (y_add rfl rfl) ?_
     refine pl_val (.int .i64 (w64 (k846 + 1))) (y_assign rfl) ?_
     refine c_nil ?_
     cases hs
     have hO := hO.fr1
     have hO := hO.fr1
     exact ⟨_, c3, c4, c5, a8, b0, fr_ovl 120 ⟨rfl, rfl, rfl, rfl, rfl, congrArg (Value.int .i64) hw, trivial⟩, hC, hO, h0, a6, a3⟩
    refine c_condF (congrArg Value.bool n0) ?_
    refine wp_skip ?_
    refine c_sr ?_
    refine pl_val (.slice c3 c4 c5) (y_move rfl) ?_
    refine pl_val (.int .i64 s724.2.1) (y_move rfl) ?_
    obtain ⟨x863, x6, hs⟩ := bind_some hs
    obtain ⟨x7, G9, H0, H1, x8, x9, y0⟩ := os_idx Sl49 Sz25 a3 x6
    have y1 := own_row (Frz.os Frz.int) x9 y0
    refine pl_val (.pointer (some ⟨x7, 0 + Int.toNat s724.2.1 * 1, none⟩)) (x8 _ _ _ _ _ _ _ _ _ rfl rfl) ?_
    obtain ⟨H2, y2, hrow865, k8⟩ := at_load1 Ag25 Sz25 rfl rfl y1
    obtain ⟨y4, y5, y6, rfl⟩ := rs_sl k8
    refine pl_val (.slice y4 y5 y6) (y_load rfl (y2 _ (Chg.refl _ _))) ?_
    refine pl_val (.int .i64 n) (y_move rfl) ?_
    refine pl_val (.int .i64 n) (y_move rfl) ?_
    refine pl_val (.int .i64 (w64 (n * n))) (y_mul rfl rfl) ?_
    obtain ⟨r868, y7, hs⟩ := bind_some hs
    refine pl_call Bd76 rfl (c_impl_marks (M := (Less M a8)) x863 (w64 (n * n)) k8 hO.less.fut y7) ?_
    rintro _ H3 ⟨n1, n2, n3, q1, rfl, e3, f7, y8⟩
    have h0 := h0.ext e3
    have a6 := a6.ext e3
    have a3 := a3.ext e3
    have k8 := k8.ext e3
    have hrow865 := hrow865.cn e3
    have hC := hC.ext e3
    have hO := Own.join0 hO e3 y8
    have hO := hO.perm (R := q1 ++ (a8 ++ (b0 ++ ([])))) (by simp)
    have f7 := f7.free (M' := M) (Free.os Free.bool)
    refine pl_val (.slice n1 n2 n3) (y_assign rfl) ?_
    refine c_nil ?_
    refine c_sr ?_
    refine pl_val (.slice n1 n2 n3) (y_move rfl) ?_
    refine pl_val (.int .i64 k846) (y_move rfl) ?_
    obtain ⟨x870, y9, hs⟩ := bind_some hs
    obtain ⟨q2, H4, q3, z0, z1, H5, H6⟩ := os_idx Sl86 Sz4 f7 y9
    refine pl_val (.pointer (some ⟨q2, 0 + Int.toNat k846 * 1, none⟩)) (z1 _ _ _ _ _ _ _ _ _ rfl rfl) ?_
    obtain ⟨z2, q4, z3, i1, z4, n4⟩ := os_store (P := Try.prog) (c' := [(.bool true)]) q3 f7 z0 (fun g hg => hO.inM g (os_block f7 g (by simpa using hg))) ⟨rfl, rfl⟩ List.nodup_nil (fun _ h => nomatch h) (fun _ h => .inl h)
    have k9 : ∀ q ∈ [q2], q ∈ q1 := fun q hq => os_block f7 q (by rw [q3]; exact hq)
    refine pl_skip (w' := z2) (ys_store rfl rfl (z3 _ _ rfl Sz4)) ?_
    have h0 := h0.mt i1 hO k9
    have a6 := a6.ma i1 hO k9 (fun _ e => (mem_r (mem_l (e))))
    have a3 := a3.ma i1 hO k9 (fun _ e => (mem_l (e)))
    have hC := hC.st i1 hO k9
    have hO := hO.grow i1 (fun q hq => .inl ((z4 q hq).resolve_right (fun h => nomatch h))) (os_nodup n4) n4.fpl
    refine c_nil ?_
    refine c_sr ?_
    refine pl_val (.int .i64 n) (y_move rfl) ?_
    refine pl_val (.slice pa0 pn0 pc0) (y_move rfl) ?_
    refine pl_val (.slice n1 n2 n3) (y_move rfl) ?_
    have z5 := hO
    have q5 := Own.lend (F := (q4 ++ ([]))) (R := a8 ++ (b0 ++ ([]))) (Own.perm (z5) (by simp))
    obtain ⟨r874, z6, hs⟩ := bind_some hs
    refine pl_call Bd74 rfl (c_impl_closePairs__take2 (M := M) n ops (List.set r868 (Int.toNat k846) true) h0 n4 q5 q5.fut z6) ?_
    rintro _ H7 ⟨H8, H9, I0, l0, rfl, i2, c0, z7⟩
    have hO := hO.perm (R := (q4 ++ ([])) ++ (a8 ++ (b0 ++ ([])))) (by simp)
    have h0 := h0.mt i2 hO same_
    have a6 := a6.ma i2 hO same_ (fun _ e => (mem_r (mem_l (e))))
    have a3 := a3.ma i2 hO same_ (fun _ e => (mem_l (e)))
    have hC := hC.st i2 hO same_
    have hO := Own.join hO i2 z7
    have hO := hO.perm (R := l0 ++ (a8 ++ (b0 ++ ([])))) (by simp)
    obtain ⟨r877, z8, hs⟩ := bind_some hs
    refine pl_call Bd65 rfl (c_impl_marked (M := (Less M l0)) r874 (((Frz.os Frz.bool)).val c0 Less.sub Less.not) hO.less.fut z8) ?_
    rintro _ I1 ⟨i3, i4, i5, i6, rfl, f8, c6, z9⟩
    have h0 := h0.ext f8
    have a6 := a6.ext f8
    have a3 := a3.ext f8
    have c0 := c0.ext f8
    have hC := hC.ext f8
    have hO := Own.join0 hO f8 z9
    have hO := hO.perm (R := i6 ++ (l0 ++ (a8 ++ (b0 ++ ([]))))) (by simp)
    have c6 := c6.free (M' := M) (Free.os Free.int)
    refine pl_val (.slice i3 i4 i5) (y_assign rfl) ?_
    refine c_nil ?_
    refine c_seq ?_
    refine c_sr ?_
    refine pl_val (.slice i3 i4 i5) (y_move rfl) ?_
    obtain ⟨r880, A0, hs⟩ := bind_some hs
    refine pl_call Bd68 rfl (c_impl_keyOf (M := (Less M i6)) r877 (((Frz.os Frz.int)).val c6 Less.sub Less.not) hO.less.fut A0) ?_
    rintro _ I2 ⟨rfl, e4⟩
    have h0 := h0.ext e4
    have a6 := a6.ext e4
    have a3 := a3.ext e4
    have c0 := c0.ext e4
    have c6 := c6.ext e4
    have hC := hC.ext e4
    have hO := hO.ext e4
    refine pl_val (.string r880) (y_assign rfl) ?_
    refine c_nil ?_
    refine c_sr ?_
    refine pl_val (.map (some a7)) (y_move rfl) ?_
    refine pl_val (.string r880) (y_move rfl) ?_
    refine pl_val (.bool ((mget s844.2 r880).getD false)) (y_look (enc := Value.bool) Try.underlying88 Try.underlying9 Zv4 (mo_at a6) rfl rfl) ?_
    refine pl_val (.bool (!((mget s844.2 r880).getD false))) (y_not rfl) ?_
    refine c_nil ?_
    obtain ⟨s893, A1, hs⟩ := bind_some hs
    refine c_mid (I := fun a f9 => ∃ (σ : Nat → Value) (i7 : Option Addr) (i9 : Nat) (j0 : Nat) (l1 : List Nat) (l2 : List Nat), a = fr 120 (ovl σ [(0, (.int .i64 n)), (1, (.slice pa0 pn0 pc0)), (6, (.slice i7 i9 j0)), (7, (.map (some a7))), (8, (.int .i64 s724.2.1)), (9, (.int .i64 k846))]) ∧ Chg [] w f9 ∧ Own (Nw w []) M f9 (l1 ++ (l2 ++ [])) ∧ (RT.rs (RT.pr (RT.int .i64) (RT.rs (RT.int .i64)))).val M f9 (.slice pa0 pn0 pc0) ops ([]) ∧ (RT.mo Value.bool).val M f9 (.map (some a7)) s893.2 l2 ∧ (RT.os 25 (RT.os 3 (RT.int .i64))).val M f9 (.slice i7 i9 j0) s893.1 l1) ?_ ?_
    ·replace hs := A1
     rcases bif_some hs with ⟨n5, hs⟩ | ⟨n5, hs⟩
     ·refine c_condT (congrArg Value.bool n5) ?_
      refine c_sr ?_
      refine pl_val (.map (some a7)) (y_move rfl) ?_
      refine pl_val (.string r880) (y_move rfl) ?_
      have hO := hO.fr3
      obtain ⟨q6, A2, g0, j1⟩ := mo_put (P := Try.prog) (t := 88) (key := r880) (x := true) Try.underlying88 Try.underlying9 a6
      refine pl_skip (w' := q6) (ys_put rfl rfl rfl A2) ?_
      have h0 := h0.mt g0 hO same_
      have a3 := a3.ma g0 hO same_ (fun _ e => (mem_r (mem_r (mem_l (e)))))
      have c0 := c0.ma g0 hO same_ (fun _ e => (mem_r (mem_l (e))))
      have c6 := c6.ma g0 hO same_ (fun _ e => (mem_l (e)))
      have hC := hC.st g0 hO same_
      have hO := hO.ext g0
      refine c_nil ?_
      refine c_region ?_
      refine pl_val (.slice c3 c4 c5) (y_move rfl) ?_
      refine pl_val (.slice i3 i4 i5) (y_move rfl) ?_
      obtain ⟨q7, l3, A3, q8, e5, q9⟩ := new_block q6 [(.slice i3 i4 i5)] 25
      refine pl_val (w' := q7) (.slice (some ⟨l3, 0, none⟩) 1 1) (y_bslice rfl (by rw [A3, q8]; kernel_rfl)) ?_
      have h0 := h0.ext e5
      have j1 := j1.ext e5
      have a3 := a3.ext e5
      have c0 := c0.ext e5
      have c6 := c6.ext e5
      have hC := hC.ext e5
      have hO := hO.fr1
      have hO := hO.new1 e5 q8 q9.lt
      have hO := hO.perm (R := (l3 :: ((i6) ++ ([]))) ++ (b0 ++ (l0 ++ (a8 ++ ([]))))) (by simp)
      have A4 := hO.nd
      have n6 := os_of_box (r := (RT.os 3 (RT.int .i64))) (M := M) (css := [[(.slice i3 i4 i5)]]) (fps := [(i6 : List Nat)]) (xs := ([r877] : List (List Int))) q9 ⟨(os_unval c6), trivial⟩ (Nat.le_of_ble_eq_true rfl) A4
      have n6 : (RT.os 25 (RT.os 3 (RT.int .i64))).val M q7 (.slice (some ⟨l3, 0, none⟩) 1 1) [r877] (l3 :: ((i6) ++ ([]))) := n6
      obtain ⟨y904, A5, hs⟩ := bind_some hs
      have hO := hO.fr3
      obtain ⟨n7, n8, n9, A6, A7, A8, j2, A9, o0⟩ := app_os Rw49 A5 a3 n6 hO.inM (fun g hg hq => hO.apart g hq (mem_l hg))
      have l4 := os_block a3
      refine pl_val (w' := A6) (.slice n7 n8 n9) (y_append rfl rfl (A8 _)) ?_
      have hO := hO.fr1
      have hO := hO.fr1
      have h0 := h0.mt j2 hO l4
      have j1 := j1.ma j2 hO l4 (fun _ e => (mem_r (mem_l (e))))
      have c0 := c0.ma j2 hO l4 (fun _ e => (mem_r (mem_r (mem_l (e)))))
      have hC := hC.st j2 hO l4
      have hO := hO.eat j2 A9 (os_nodup o0) o0.fpl
      refine pl_val (.slice n7 n8 n9) (y_assign rfl) ?_
      refine c_nil ?_
      cases hs
      have hO := hO.fr2
      have hO := hO.drop
      have hO := hO.fr1
      have hO := hO.fr1
      exact ⟨_, n7, n8, n9, A7, b0, fr_ovl 120 ⟨rfl, rfl, rfl, rfl, rfl, rfl, trivial⟩, hC, hO, h0, j1, o0⟩
     refine c_condF (congrArg Value.bool n5) ?_
     refine wp_skip ?_
     cases hs
     have hO := hO.drop
     have hO := hO.drop
     have hO := hO.fr1
     have hO := hO.fr1
     exact ⟨_, c3, c4, c5, a8, b0, fr_ovl 120 ⟨rfl, rfl, rfl, rfl, rfl, rfl, trivial⟩, hC, hO, h0, a6, a3⟩
    rintro d6 f9 ⟨σ, i7, i9, j0, l1, l2, rfl, hC, hO, h0, B0, r0⟩
    refine c_sr ?_
    refine pl_val (.slice i7 i9 j0) (y_move rfl) ?_
    refine pl_val (.int .i64 (s893.1.length : Int)) (y_len' Sl49 (os_len r0) rfl) ?_
    refine pl_val (.bool (decide (200 < (s893.1.length : Int)))) (y_gtr rfl rfl) ?_
    refine c_nil ?_
    rcases bif_some hs with ⟨o1, hs⟩ | ⟨o1, hs⟩
    ·refine c_condT (congrArg Value.bool o1) ?_
     refine c_sr ?_
     refine pl_val (.slice none 0 0) (y_assign rfl) ?_
     refine pl_val (.bool false) (y_assign rfl) ?_
     refine c_nil ?_
     refine wp_ret ?_
     cases hs
     have hO := hO.drop
     have hO := hO.drop
     have hO := hO.nil
     exact ⟨_, none, 0, 0, [], fr_ovl 120 ⟨rfl, rfl, trivial⟩, hC, os_nil, hO.top⟩
    refine c_condF (congrArg Value.bool o1) ?_
    refine wp_skip ?_
    refine c_region ?_
    refine pl_val (.int .i64 k846) (y_move rfl) ?_
    refine pl_val (.int .i64 (w64 (k846 + 1))) (y_add rfl rfl) ?_
    refine pl_val (.int .i64 (w64 (k846 + 1))) (y_assign rfl) ?_
    refine c_nil ?_
    cases hs
    have hO := hO.fr1
    have hO := hO.fr1
    exact ⟨_, i7, i9, j0, l1, l2, fr_ovl 120 ⟨rfl, rfl, rfl, rfl, rfl, congrArg (Value.int .i64) hw, trivial⟩, hC, hO, h0, B0, r0⟩
   ·skip
    have hO := hO.fr1
    have hO := hO.fr1
    exact ⟨_, f3, f4, f5, h8, h9, fr_ovl 120 ⟨rfl, rfl, rfl, rfl, rfl, rfl, trivial⟩, hC, hO, h0, q0, m8⟩
   cases o848 with
   | nx _ => exact True.intro
   | rt r_ =>
    have hs := after_rt hs
    intro d6 j8 hK
    cases hs
    exact hK
   | br s844 =>
    have hs := after_br hs
    rintro d6 a9 ⟨σ, k2, k3, k4, k5, k6, rfl, hC, hO, h0, B1, B2⟩
    refine c_region ?_
    refine pl_val (.int .i64 s724.2.1) (y_move rfl) ?_
    refine pl_val (.int .i64 (w64 (s724.2.1 + 1))) (y_add rfl rfl) ?_
    refine pl_val (.int .i64 (w64 (s724.2.1 + 1))) (y_assign rfl) ?_
    refine c_nil ?_
    cases hs
    have hO := hO.fr1
    have hO := hO.fr1
    exact ⟨_, k2, k3, k4, k5, k6, fr_ovl 120 ⟨rfl, rfl, rfl, rfl, rfl, trivial⟩, hC, hO, h0, B1, B2⟩
  refine c_condF (congrArg Value.bool m9) ?_
  refine wp_exit ?_
  cases hs
  have hO := hO.fr1
  have hO := hO.fr1
  exact ⟨rfl, _, f3, f4, f5, h8, h9, fr_ovl 120 ⟨rfl, rfl, trivial⟩, hC, hO, h0, q0, m8⟩
 ·skip
  have hO := hO.fr1
  exact ⟨_, (some ⟨d2, 0, none⟩), 1, 1, (d2 :: ((f0) ++ ([]))), [a7], fr_ovl 120 ⟨rfl, rfl, rfl, rfl, rfl, trivial⟩, hC, hO, h0, w2, c2⟩
 cases o728 with
 | nx _ => exact True.intro
 | rt r_ =>
  have hs := after_rt hs
  intro d6 j8 hK
  cases hs
  exact hK
 | br s724 =>
  have hs := after_br hs
  rintro d6 b1 ⟨σ, b5, b6, b7, i0, f6, rfl, hC, hO, h0, l5, B3⟩
  refine c_sr ?_
  refine pl_val (.slice b5 b6 b7) (y_move rfl) ?_
  have B4 := hO
  have r1 := Own.lend (F := (i0 ++ ([]))) (R := f6 ++ ([])) (Own.perm (B4) (by simp))
  obtain ⟨r908, B5, hs⟩ := bind_some hs
  refine pl_call Bd77 rfl (c_impl_sortRows__impl_compareTerms (M := M) s724.1 B3 r1 r1.fut B5) ?_
  rintro _ B6 ⟨b2, rfl, l6, a0, B7⟩
  have hO := hO.perm (R := (i0 ++ ([])) ++ (f6 ++ ([]))) (by simp)
  have h0 := h0.mt l6 hO same_
  have l5 := l5.ma l6 hO same_ (fun _ e => (mem_l (e)))
  have hC := hC.st l6 hO same_
  have hO := Own.join hO l6 B7
  have hO := hO.perm (R := b2 ++ (f6 ++ ([]))) (by simp)
  refine c_nil ?_
  refine c_sr ?_
  obtain ⟨r2, g1, B8, r3, l7, r4⟩ := new_block B6 [] 51
  refine pl_val (w' := r2) (.slice (some ⟨g1, 0, none⟩) 0 0) (y_bslice rfl (by rw [B8, r3]; kernel_rfl)) ?_
  have l5 := l5.ext l7
  have a0 := a0.ext l7
  have hC := hC.ext l7
  have hO := hO.new1 l7 r3 r4.lt
  have o2 := os_of_box (r := (RT.pr (RT.int .i64) (RT.os 25 (RT.os 3 (RT.int .i64))))) (M := M) (css := []) (fps := []) (xs := ([] : List (Int × (List (List Int))))) r4 trivial (Nat.zero_le _) (List.nodup_cons.2 ⟨(fun h => nomatch h), List.nodup_nil⟩)
  have o2 : (RT.os 51 (RT.pr (RT.int .i64) (RT.os 25 (RT.os 3 (RT.int .i64))))).val M r2 (.slice (some ⟨g1, 0, none⟩) 0 0) [] [g1] := o2
  refine pl_val (.slice (some ⟨g1, 0, none⟩) 0 0) (y_assign rfl) ?_
  refine c_nil ?_
  refine c_seq ?_
  refine c_sr ?_
  refine pl_val (.slice b5 b6 b7) (y_move rfl) ?_
  refine pl_val (.int .i64 (r908.length : Int)) (y_len' Sl49 (os_len a0) rfl) ?_
  refine pl_val (.int .i64 0) (y_move rfl) ?_
  refine c_nil ?_
  have hO := hO.fr2
  have hO := hO.drop
  obtain ⟨o977, B9, hs⟩ := bind_some hs
  refine wp_block ?_
  refine wp_forR (id := 4) (I := fun i_ xs_ s973 a b3 => ∃ b8 : Nat, i_ = (b8 : Int) ∧ List.drop b8 r908 = xs_ ∧ (∃ (σ : Nat → Value) (c7 : Option Addr) (c8 : Nat) (c9 : Nat) (c1 : List Nat), a = fr 120 (ovl σ [(0, (.int .i64 n)), (13, (.slice c7 c8 c9)), (88, (.slice b5 b6 b7)), (89, (.int .i64 (r908.length : Int))), (90, (.int .i64 (b8 : Int)))]) ∧ Chg [] w b3 ∧ Own (Nw w []) M b3 (c1 ++ (b2 ++ [])) ∧ (RT.os 25 (RT.os 3 (RT.int .i64))).val M b3 (.slice b5 b6 b7) r908 b2 ∧ (RT.os 51 (RT.pr (RT.int .i64) (RT.os 25 (RT.os 3 (RT.int .i64))))).val M b3 (.slice c7 c8 c9) s973 c1)) (J := fun s973 a b3 => ∃ (σ : Nat → Value) (g2 : Option Addr) (g3 : Nat) (g4 : Nat) (l8 : List Nat), a = fr 120 (ovl σ [(13, (.slice g2 g3 g4))]) ∧ Chg [] w b3 ∧ Own (Nw w []) M b3 (l8 ++ (b2 ++ [])) ∧ (RT.os 25 (RT.os 3 (RT.int .i64))).val M b3 (.slice b5 b6 b7) r908 b2 ∧ (RT.os 51 (RT.pr (RT.int .i64) (RT.os 25 (RT.os 3 (RT.int .i64))))).val M b3 (.slice g2 g3 g4) s973 l8) (K := (k_impl_pairRelations M w)) ?_ ?_ r908 0 ([]) o977 _ _ ?_ B9 ?_
  ·rintro _ s973 a b3 ⟨b8, rfl, hd, σ, c7, c8, c9, c1, rfl, hC, hO, a0, a2⟩
   have hlt := drop_nil_ge hd
   refine c_sr ?_
   refine pl_val (.bool (decide ((b8 : Int) < (r908.length : Int)))) (y_lss rfl rfl) ?_
   refine c_nil ?_
   refine c_seq ?_
   refine c_condF (congrArg Value.bool (decide_eq_false hlt)) ?_
   refine wp_exit ?_
   have hO := hO.fr1
   have hO := hO.fr1
   exact ⟨rfl, _, c7, c8, c9, c1, fr_ovl 120 ⟨rfl, trivial⟩, hC, hO, a0, a2⟩
  ·rintro _ x976 xs_ s973 o977 a b3 ⟨b8, rfl, hd, σ, c7, c8, c9, c1, rfl, hC, hO, a0, a2⟩ hs
   have hlt := drop_cons_lt hd
   have C0 := drop_cons_idx hd
   refine c_sr ?_
   refine pl_val (.bool (decide ((b8 : Int) < (r908.length : Int)))) (y_lss rfl rfl) ?_
   refine c_nil ?_
   refine c_seq ?_
   refine c_condT (congrArg Value.bool (decide_eq_true hlt)) ?_
   refine wp_skip ?_
   refine c_seq ?_
   refine wp_block ?_
   refine c_sr ?_
   obtain ⟨C1, I3, I4, I5, C2, C3, C4⟩ := os_idx Sl49 Sz25 a0 C0
   have C5 := own_row (Frz.os Frz.int) C3 C4
   refine pl_val (.pointer (some ⟨C1, 0 + Int.toNat (b8 : Int) * 1, none⟩)) (C2 _ _ _ _ _ _ _ _ _ rfl rfl) ?_
   obtain ⟨I6, C6, hrow984, a1⟩ := at_load1 Ag25 Sz25 rfl rfl C5
   obtain ⟨g5, g6, g7, rfl⟩ := rs_sl a1
   refine pl_val (.slice g5 g6 g7) (y_load rfl (C6 _ (Chg.refl _ _))) ?_
   refine pl_val (.slice g5 g6 g7) (y_assign rfl) ?_
   refine c_nil ?_
   refine c_sr ?_
   refine pl_val (.agg #[(.int .i64 2), (.slice none 0 0)]) (y_build rfl (by kernel_rfl)) ?_
   obtain ⟨C7, b4, C8, r5, g8, r7⟩ := new_block b3 [(.int .i64 0), (.slice none 0 0)] 51
   refine pl_val (w' := C7) (.pointer (some ⟨b4, 0, none⟩)) (y_alloc (by rw [C8, r5]; kernel_rfl)) ?_
   have a0 := a0.ext g8
   have a2 := a2.ext g8
   have a1 := a1.ext g8
   have hrow984 := hrow984.cn g8
   have hC := hC.ext g8
   have hO := hO.new1 g8 r5 r7.lt
   obtain ⟨r8, C9, j3, a4⟩ := box_store (P := Try.prog) r7 [] [(.int .i64 0), (.slice none 0 0)] [] [(.int .i64 2), (.slice none 0 0)] rfl rfl (by intro u hu; simp only [List.mem_cons, List.not_mem_nil, or_false] at hu; rcases hu with rfl | rfl <;> rfl)
   refine pl_skip (w' := r8) (ys_store rfl rfl (C9 _ _ rfl Sz51)) ?_
   have a0 := a0.ma j3 hO same_ (fun _ e => (mem_r (mem_l (e))))
   have a2 := a2.ma j3 hO same_ (fun _ e => (mem_l (e)))
   have a1 := a1.mut j3 (fun g hg => ⟨hO.inM g ((fun _ h => h) g hg), fun e => hO.apart g ((fun _ h => h) g hg) (mem_r (mem_l (e)))⟩) (fun _ _ h => nomatch h)
   have hC := hC.st j3 hO same_
   have hO := hO.ext j3
   have a4 : BoxV r8 b4 51 [(.int .i64 2), (.slice none 0 0)] := a4
   refine c_nil ?_
   refine c_seq ?_
   refine c_sr ?_
   refine pl_val (.slice g5 g6 g7) (y_move rfl) ?_
   refine pl_val (.int .i64 (x976.length : Int)) (y_len' Sl25 (rs_len a1) rfl) ?_
   refine pl_val (.int .i64 0) (y_move rfl) ?_
   refine c_nil ?_
   obtain ⟨o1020, D0, hs⟩ := bind_some hs
   refine wp_block ?_
   refine wp_forR (id := 6) (I := fun i_ xs_ s1016 a a5 => ∃ d3 : Nat, i_ = (d3 : Int) ∧ List.drop d3 x976 = xs_ ∧ (∃ (σ : Nat → Value) (d7 : Option Addr) (d8 : Nat) (d9 : Nat) (g9 : List Nat), a = fr 120 (ovl σ [(0, (.int .i64 n)), (13, (.slice c7 c8 c9)), (16, (.pointer (some ⟨b4, 0, none⟩))), (88, (.slice b5 b6 b7)), (89, (.int .i64 (r908.length : Int))), (90, (.int .i64 (b8 : Int))), (95, (.slice g5 g6 g7)), (96, (.int .i64 (x976.length : Int))), (97, (.int .i64 (d3 : Int)))]) ∧ Chg [] w a5 ∧ Own (Nw w []) M a5 (g9 ++ (([b4]) ++ (c1 ++ (b2 ++ [])))) ∧ (RT.os 25 (RT.os 3 (RT.int .i64))).val M a5 (.slice b5 b6 b7) r908 b2 ∧ (RT.os 51 (RT.pr (RT.int .i64) (RT.os 25 (RT.os 3 (RT.int .i64))))).val M a5 (.slice c7 c8 c9) s973 c1 ∧ (RT.rs (RT.int .i64)).val (Less M b2) a5 (.slice g5 g6 g7) x976 ([]) ∧ BoxV a5 b4 51 [(.int .i64 2), (.slice d7 d8 d9)] ∧ (RT.os 25 (RT.os 3 (RT.int .i64))).val M a5 (.slice d7 d8 d9) s1016 g9)) (J := fun s1016 a a5 => ∃ (σ : Nat → Value) (e6 : Option Addr) (e7 : Nat) (e8 : Nat) (h1 : List Nat), a = fr 120 (ovl σ [(0, (.int .i64 n)), (13, (.slice c7 c8 c9)), (16, (.pointer (some ⟨b4, 0, none⟩))), (88, (.slice b5 b6 b7)), (89, (.int .i64 (r908.length : Int))), (90, (.int .i64 (b8 : Int)))]) ∧ Chg [] w a5 ∧ Own (Nw w []) M a5 (h1 ++ (([b4]) ++ (c1 ++ (b2 ++ [])))) ∧ (RT.os 25 (RT.os 3 (RT.int .i64))).val M a5 (.slice b5 b6 b7) r908 b2 ∧ (RT.os 51 (RT.pr (RT.int .i64) (RT.os 25 (RT.os 3 (RT.int .i64))))).val M a5 (.slice c7 c8 c9) s973 c1 ∧ (RT.rs (RT.int .i64)).val (Less M b2) a5 (.slice g5 g6 g7) x976 ([]) ∧ BoxV a5 b4 51 [(.int .i64 2), (.slice e6 e7 e8)] ∧ (RT.os 25 (RT.os 3 (RT.int .i64))).val M a5 (.slice e6 e7 e8) s1016 h1) (K := (k_impl_pairRelations M w)) ?_ ?_ x976 0 ([]) o1020 _ _ ?_ D0 ?_
   ·rintro _ s1016 a a5 ⟨d3, rfl, hd, σ, d7, d8, d9, g9, rfl, hC, hO, a0, a2, a1, a4, d0⟩
    have hlt := drop_nil_ge hd
    refine c_sr ?_
    refine pl_val (.bool (decide ((d3 : Int) < (x976.length : Int)))) (y_lss rfl rfl) ?_
    refine c_nil ?_
    refine c_seq ?_
    refine c_condF (congrArg Value.bool (decide_eq_false hlt)) ?_
    refine wp_exit ?_
    have hO := hO.fr3
    have hO := hO.fr3
    have hO := hO.fr3
    have hO := hO.fr3
    exact ⟨rfl, _, d7, d8, d9, g9, fr_ovl 120 ⟨rfl, rfl, rfl, rfl, rfl, rfl, trivial⟩, hC, hO, a0, a2, a1, a4, d0⟩
   ·rintro _ x1019 xs_ s1016 o1020 a a5 ⟨d3, rfl, hd, σ, d7, d8, d9, g9, rfl, hC, hO, a0, a2, a1, a4, d0⟩ hs
    have hlt := drop_cons_lt hd
    have D1 := drop_cons_idx hd
    refine c_sr ?_
    refine pl_val (.bool (decide ((d3 : Int) < (x976.length : Int)))) (y_lss rfl rfl) ?_
    refine c_nil ?_
    refine c_seq ?_
    refine c_condT (congrArg Value.bool (decide_eq_true hlt)) ?_
    refine wp_skip ?_
    refine c_seq ?_
    refine wp_block ?_
    refine c_sr ?_
    obtain ⟨D2, D3, D4, D5⟩ := rs_idx Sl25 Sz3 a1 D1
    refine pl_val (.pointer (some ⟨D2, D3, none⟩)) (D4 _ _ _ _ _ _ _ _ _ rfl rfl) ?_
    refine pl_val (.int .i64 x1019) (y_load rfl ((at_load_int Ag3 Sz3 D5) _ (Chg.refl _ _))) ?_
    refine pl_val (.int .i64 x1019) (y_assign rfl) ?_
    refine c_nil ?_
    refine x_start [10, 12] Mx rfl ?_
    have e0 := Chg.drew a5
    generalize World.drew a5 = s0 at e0 ⊢
    have a0 := a0.ext e0
    have a2 := a2.ext e0
    have a1 := a1.ext e0
    have a4 := a4.cn e0
    have d0 := d0.ext e0
    have hC := hC.ext e0
    have hO := hO.ext e0
    have hS := Chg.refl [] s0
    refine x_p 0 (.pointer (some ⟨b4, 1, none⟩)) rfl (by kernel_rfl)  (fun _ => y_faddr rfl Fa51x1) (fun _ => hS) ?_
    refine x_l 1 (.slice d7 d8 d9) rfl (by kernel_rfl)  (fun w' hw' => y_load rfl ((box_load Ag49 Sz49 a4 [(.int .i64 2)] [(.slice d7 d8 d9)] [] rfl rfl (fun _ => rfl)) w' hw')) hS ?_
    refine x_p 2 (.int .i64 x1019) rfl (by kernel_rfl)  (fun _ => y_move rfl) (fun _ => hS) ?_
    refine x_p 3 (.int .i64 n) rfl (by kernel_rfl)  (fun _ => y_move rfl) (fun _ => hS) ?_
    obtain ⟨u1028, D6, hs⟩ := bind_some hs
    refine x_p 4 (.int .i64 (w64 (Int.tdiv x1019 n))) rfl (by kernel_rfl)  (fun _ => y_quo rfl rfl (nz_ne D6)) (fun _ => hS) ?_
    refine x_p 5 (.int .i64 x1019) rfl (by kernel_rfl)  (fun _ => y_move rfl) (fun _ => hS) ?_
    refine x_p 6 (.int .i64 n) rfl (by kernel_rfl)  (fun _ => y_move rfl) (fun _ => hS) ?_
    obtain ⟨u1029, D7, hs⟩ := bind_some hs
    refine x_p 7 (.int .i64 (Int.tmod x1019 n)) rfl (by kernel_rfl)  (fun _ => y_rem rfl rfl (nz_ne D7)) (fun _ => hS) ?_
    refine x_one (i := 8) (by kernel_rfl) ?_
    obtain ⟨o3, e1, D8, s1, d4, s2⟩ := new_block s0 [(.int .i64 (w64 (Int.tdiv x1019 n))), (.int .i64 (Int.tmod x1019 n))] 3
    refine xk_val (w' := o3) (b := false) (.slice (some ⟨e1, 0, none⟩) 2 2) rfl  (y_bslice rfl (by rw [D8, s1]; kernel_rfl)) rfl (fun _ => hS.ext d4) ?_
    have a0 := a0.ext d4
    have a2 := a2.ext d4
    have a1 := a1.ext d4
    have a4 := a4.cn d4
    have d0 := d0.ext d4
    have hC := hC.ext d4
    have hO := hO.new1 d4 s1 s2.lt
    have j4 := os_of_box (r := (RT.int .i64)) (M := M) (css := [[(.int .i64 (w64 (Int.tdiv x1019 n)))], [(.int .i64 (Int.tmod x1019 n))]]) (fps := [([] : List Nat), ([] : List Nat)]) (xs := ([w64 (Int.tdiv x1019 n), Int.tmod x1019 n] : List Int)) s2 ⟨⟨rfl, rfl⟩, ⟨⟨rfl, rfl⟩, trivial⟩⟩ (Nat.le_of_ble_eq_true rfl) (List.nodup_cons.2 ⟨(fun h => nomatch h), List.nodup_nil⟩)
    have j4 : (RT.os 3 (RT.int .i64)).val M o3 (.slice (some ⟨e1, 0, none⟩) 2 2) [w64 (Int.tdiv x1019 n), Int.tmod x1019 n] [e1] := j4
    have hS := hS.ext d4
    refine x_one (i := 9) (by kernel_rfl) ?_
    obtain ⟨s3, l9, D9, s4, d1, s5⟩ := new_block o3 [(.slice (some ⟨e1, 0, none⟩) 2 2)] 25
    refine xk_val (w' := s3) (b := false) (.slice (some ⟨l9, 0, none⟩) 1 1) rfl  (y_bslice rfl (by rw [D9, s4]; kernel_rfl)) rfl (fun _ => hS.ext d1) ?_
    have a0 := a0.ext d1
    have a2 := a2.ext d1
    have a1 := a1.ext d1
    have a4 := a4.cn d1
    have d0 := d0.ext d1
    have j4 := j4.ext d1
    have hC := hC.ext d1
    have hO := hO.new1 d1 s4 s5.lt
    have hO := hO.perm (R := (l9 :: ((([e1])) ++ ([]))) ++ (g9 ++ (([b4]) ++ (c1 ++ (b2 ++ ([])))))) (by simp)
    have E0 := hO.nd
    have o4 := os_of_box (r := (RT.os 3 (RT.int .i64))) (M := M) (css := [[(.slice (some ⟨e1, 0, none⟩) 2 2)]]) (fps := [([e1] : List Nat)]) (xs := ([[w64 (Int.tdiv x1019 n), Int.tmod x1019 n]] : List (List Int))) s5 ⟨(os_unval j4), trivial⟩ (Nat.le_of_ble_eq_true rfl) E0
    have o4 : (RT.os 25 (RT.os 3 (RT.int .i64))).val M s3 (.slice (some ⟨l9, 0, none⟩) 1 1) [[w64 (Int.tdiv x1019 n), Int.tmod x1019 n]] (l9 :: ((([e1])) ++ ([]))) := o4
    have hS := hS.ext d1
    refine x_one (i := 10) (by kernel_rfl) ?_
    obtain ⟨y1035, E1, hs⟩ := bind_some hs
    have hO := hO.fr1
    obtain ⟨m0, m1, m2, E2, E3, E4, h2, E5, j5⟩ := app_os Rw49 E1 d0 o4 hO.inM (fun g hg hq => hO.apart g hq (mem_l hg))
    have h3 := os_block d0
    refine xk_val (w' := E2) (b := true) (.slice m0 m1 m2) rfl  (y_append rfl rfl (E4 _)) rfl (fun h => nomatch h) ?_
    have hO := hO.fr1
    have hO := hO.fr1
    have a0 := a0.ma h2 hO h3 (fun _ e => (mem_r (mem_r (mem_r (mem_l (e))))))
    have a2 := a2.ma h2 hO h3 (fun _ e => (mem_r (mem_r (mem_l (e)))))
    have a1 := a1.mut h2 (fun g hg => ⟨hO.inM g (h3 g hg), fun e => hO.apart g (h3 g hg) (mem_r (mem_r (mem_r (mem_l (e)))))⟩) (fun _ _ h => nomatch h)
    have a4 := a4.ap h2 hO h3 (mem_r (mem_l (List.mem_singleton.2 rfl)))
    have hC := hC.st h2 hO h3
    have hO := hO.eat h2 E5 (os_nodup j5) j5.fpl
    refine x_p 11 (.pointer (some ⟨b4, 1, none⟩)) rfl (by kernel_rfl)  (fun _ => y_faddr rfl Fa51x1) (fun h => nomatch h) ?_
    refine x_one (i := 12) (by kernel_rfl) ?_
    obtain ⟨s6, E6, h4, o5⟩ := box_store (P := Try.prog) a4 [(.int .i64 2)] [(.slice d7 d8 d9)] [] [(.slice m0 m1 m2)] rfl rfl (by intro u hu; simp only [List.mem_cons, List.not_mem_nil, or_false] at hu; rcases hu with rfl <;> rfl)
    refine xk_skip (w' := s6) (b := true) rfl (ys_store rfl rfl (E6 _ _ rfl Sz49)) rfl (fun h => nomatch h) ?_
    have hO := hO.fr1
    have a0 := a0.ma h4 hO same_ (fun _ e => (mem_r (mem_r (mem_l (e)))))
    have a2 := a2.ma h4 hO same_ (fun _ e => (mem_r (mem_l (e))))
    have a1 := a1.mut h4 (fun g hg => ⟨hO.inM g ((fun _ h => h) g hg), fun e => hO.apart g ((fun _ h => h) g hg) (mem_r (mem_r (mem_l (e))))⟩) (fun _ _ h => nomatch h)
    have j5 := j5.ma h4 hO same_ (fun _ e => (mem_l (e)))
    have hC := hC.st h4 hO same_
    have hO := hO.ext h4
    have o5 : BoxV s6 b4 51 [(.int .i64 2), (.slice m0 m1 m2)] := o5
    refine x_end (by kernel_rfl) ?_
    clear hS
    refine c_region ?_
    refine pl_val (.int .i64 (w64 ((d3 : Int) + 1))) (y_add rfl rfl) ?_
    refine pl_val (.int .i64 (w64 ((d3 : Int) + 1))) (y_move rfl) ?_
    refine c_nil ?_
    cases hs
    have hO := hO.fr3
    have hO := hO.fr3
    have hO := hO.fr2
    have hO := hO.fr3
    exact ⟨_, rfl, drop_cons_next hd, _, m0, m1, m2, E3, fr_ovl 120 ⟨rfl, rfl, rfl, rfl, rfl, rfl, rfl, rfl, congrArg (Value.int .i64) (w64_succ hlt (Int.natCast_nonneg _) (rs_max a1)), trivial⟩, hC, hO, a0, a2, a1, o5, j5⟩
   ·skip
    have hO := hO.fr2
    have hO := hO.fr2
    have hO := hO.fr2
    have hO := hO.nil
    exact ⟨0, rfl, rfl, _, none, 0, 0, [], fr_ovl 120 ⟨rfl, rfl, rfl, rfl, rfl, rfl, rfl, rfl, rfl, trivial⟩, hC, hO, a0, a2, a1, a4, os_nil⟩
   cases o1020 with
   | nx _ => exact True.intro
   | rt r_ =>
    have hs := after_rt hs
    intro d6 j8 hK
    cases hs
    exact hK
   | br s1016 =>
    have hs := after_br hs
    rintro d6 a5 ⟨σ, e6, e7, e8, h1, rfl, hC, hO, a0, a2, a1, a4, o6⟩
    refine c_region ?_
    refine pl_val (.slice c7 c8 c9) (y_move rfl) ?_
    refine pl_val (.agg #[(.int .i64 2), (.slice e6 e7 e8)]) (y_load rfl ((box_load Ag51 Sz51 a4 [] [(.int .i64 2), (.slice e6 e7 e8)] [] rfl rfl (fun h => nomatch h)) _ (Chg.refl _ _))) ?_
    obtain ⟨s7, m3, E7, s8, e9, s9⟩ := new_block a5 [(.int .i64 2), (.slice e6 e7 e8)] 51
    refine pl_val (w' := s7) (.slice (some ⟨m3, 0, none⟩) 1 1) (y_bslice rfl (by rw [E7, s8]; kernel_rfl)) ?_
    have a0 := a0.ext e9
    have a2 := a2.ext e9
    have a1 := a1.ext e9
    have a4 := a4.cn e9
    have o6 := o6.ext e9
    have hC := hC.ext e9
    have hO := hO.new1 e9 s8 s9.lt
    have hO := hO.perm (R := (m3 :: ((h1) ++ ([]))) ++ (([b4]) ++ (c1 ++ (b2 ++ ([]))))) (by simp)
    have E8 := hO.nd
    have o7 := os_of_box (r := (RT.pr (RT.int .i64) (RT.os 25 (RT.os 3 (RT.int .i64))))) (M := M) (css := [[(.int .i64 2), (.slice e6 e7 e8)]]) (fps := [(h1 : List Nat)]) (xs := ([(2, s1016)] : List (Int × (List (List Int))))) s9 ⟨⟨_, _, _, _, rfl, rfl, ⟨rfl, rfl⟩, (os_unval o6)⟩, trivial⟩ (Nat.le_of_ble_eq_true rfl) E8
    have o7 : (RT.os 51 (RT.pr (RT.int .i64) (RT.os 25 (RT.os 3 (RT.int .i64))))).val M s7 (.slice (some ⟨m3, 0, none⟩) 1 1) [(2, s1016)] (m3 :: ((h1) ++ ([]))) := o7
    obtain ⟨y1041, E9, hs⟩ := bind_some hs
    have hO := hO.fr2
    obtain ⟨o8, o9, p0, F0, F1, F2, j6, F3, p1⟩ := app_os Rw43 E9 a2 o7 hO.inM (fun g hg hq => hO.apart g hq (mem_l hg))
    have j7 := os_block a2
    refine pl_val (w' := F0) (.slice o8 o9 p0) (y_append rfl rfl (F2 _)) ?_
    have hO := hO.fr1
    have hO := hO.fr1
    have a0 := a0.ma j6 hO j7 (fun _ e => (mem_r (mem_r (mem_l (e)))))
    have a1 := a1.mut j6 (fun g hg => ⟨hO.inM g (j7 g hg), fun e => hO.apart g (j7 g hg) (mem_r (mem_r (mem_l (e))))⟩) (fun _ _ h => nomatch h)
    have a4 := a4.ap j6 hO j7 (mem_r (mem_l (List.mem_singleton.2 rfl)))
    have hC := hC.st j6 hO j7
    have hO := hO.eat j6 F3 (os_nodup p1) p1.fpl
    refine pl_val (.slice o8 o9 p0) (y_assign rfl) ?_
    refine c_nil ?_
    refine c_region ?_
    refine pl_val (.int .i64 (w64 ((b8 : Int) + 1))) (y_add rfl rfl) ?_
    refine pl_val (.int .i64 (w64 ((b8 : Int) + 1))) (y_move rfl) ?_
    refine c_nil ?_
    cases hs
    have hO := hO.fr1
    have hO := hO.drop
    have hO := hO.fr1
    have hO := hO.fr1
    exact ⟨_, rfl, drop_cons_next hd, _, o8, o9, p0, F1, fr_ovl 120 ⟨rfl, rfl, rfl, rfl, congrArg (Value.int .i64) (w64_succ hlt (Int.natCast_nonneg _) (os_max a0)), trivial⟩, hC, hO, a0, p1⟩
  ·skip
   have hO := hO.fr1
   have hO := hO.fr1
   exact ⟨0, rfl, rfl, _, (some ⟨g1, 0, none⟩), 0, 0, ([g1]), fr_ovl 120 ⟨rfl, rfl, rfl, rfl, rfl, trivial⟩, hC, hO, a0, o2⟩
  cases o977 with
  | nx _ => exact True.intro
  | rt r_ =>
   have hs := after_rt hs
   intro d6 j8 hK
   cases hs
   exact hK
  | br s973 =>
   have hs := after_br hs
   rintro d6 b3 ⟨σ, g2, g3, g4, l8, rfl, hC, hO, a0, F4⟩
   refine c_sr ?_
   refine pl_val (.slice g2 g3 g4) (y_move rfl) ?_
   refine pl_val (.slice g2 g3 g4) (y_assign rfl) ?_
   refine pl_val (.bool true) (y_assign rfl) ?_
   refine c_nil ?_
   refine wp_ret ?_
   cases hs
   have hO := hO.fr1
   have hO := hO.drop
   exact ⟨_, g2, g3, g4, l8, fr_ovl 120 ⟨rfl, rfl, trivial⟩, hC, F4, hO.top⟩

theorem Bd59 : Bodied Try.prog 59 := bodied Try.func59 (by kernel_rfl) rfl

theorem Bd60 : Bodied Try.prog 60 := bodied Try.func60 (by kernel_rfl) rfl

def k_impl_allPairRelations (M : Nat → Prop) (w0 : World) (r : (List (Int × (List (List Int)))) × Bool) (a : Act) (w : World) : Prop :=
  ∃ (σ : Nat → Value) (ra0 : Option Addr) (rn0 rc0 : Nat) (rf0 : List Nat), a = fr 19 (ovl σ [(2, (.slice ra0 rn0 rc0)), (3, (.bool r.2))]) ∧ Chg [] w0 w ∧ (RT.os 51 (RT.pr (RT.int .i64) (RT.os 25 (RT.os 3 (RT.int .i64))))).val M w (.slice ra0 rn0 rc0) r.1 rf0 ∧ Own (Nw w0 []) (fun _ => True) w (rf0 ++ ([]))
def s_impl_allPairRelations (a_ : Int × (List (Int × (List Int)))) : Option ((List (Int × (List (List Int)))) × Bool) :=
  ((s_impl_IsAlgebra (a_.1, a_.2)).bind fun r7 =>
  (bif (!r7) then some true else some (decide (4 < a_.1)))).bind fun s3 =>
  (bif s3 then some ([], false) else (s_impl_pairRelations a_.1 a_.2).bind fun r11 =>
  some (r11.1, r11.2))
set_option maxHeartbeats 4000000 in
theorem c_impl_allPairRelations {M : Nat → Prop} {w : World} {pa0 : Option Addr} {pn0 pc0 : Nat} (a_ : Int × (List (Int × (List Int)))) (h0 : (RT.rs (RT.pr (RT.int .i64) (RT.rs (RT.int .i64)))).val M w (.slice pa0 pn0 pc0) a_.2 ([])) (hM : ∀ g, w.heap.size ≤ g → M g) {r : (List (Int × (List (List Int)))) × Bool} (hs : s_impl_allPairRelations a_ = some r) :
    Gives Try.prog 39 [(.agg #[(.int .i64 a_.1), (.slice pa0 pn0 pc0)])] w (fun v w' => ∃ (ra0 : Option Addr) (rn0 rc0 : Nat) (rf0 : List Nat), v = (.tuple #[(.slice ra0 rn0 rc0), (.bool r.2)]) ∧ Chg [] w w' ∧ (RT.os 51 (RT.pr (RT.int .i64) (RT.os 25 (RT.os 3 (RT.int .i64))))).val M w' (.slice ra0 rn0 rc0) r.1 rf0 ∧ Own (Nw w []) (fun _ => True) w' (rf0 ++ ([]))) := by
 refine calls_fr Try.func39 rfl Try.ntmps39 (Nat.le_of_ble_eq_true rfl) ?_
 have hO := Own.start (N := Nw w []) hM Nw.fut
 have hC := Chg.refl [] w
 unfold s_impl_allPairRelations at hs
 refine wp_mono (Q := KPost (k_impl_allPairRelations M w r)) ?_ (fun e a c1 h => ?_)
 rotate_left
 ·cases e
  case ret =>
   obtain ⟨σ, ra0, rn0, rc0, rf0, rfl, hrest⟩ := h
   exact ret2x Try.results39 (res_tmp rfl) (res_tmp rfl) ⟨ra0, rn0, rc0, rf0, rfl, hrest⟩
  all_goals exact (h : False).elim
 refine c_sr ?_
 obtain ⟨a6, a2, b5, b2, a7, a0⟩ := new_block w [(.int .i64 a_.1), (.slice pa0 pn0 pc0)] 34
 refine pl_val (w' := a6) (.pointer (some ⟨a2, 0, none⟩)) (y_box rfl (by rw [b5, b2]; kernel_rfl)) ?_
 have h0 := h0.ext a7
 have hC := hC.ext a7
 have hO := hO.new1 a7 b2 a0.lt
 refine pl_val (.slice none 0 0) (y_assign rfl) ?_
 refine pl_val (.bool false) (y_assign rfl) ?_
 refine c_nil ?_
 refine c_seq ?_
 refine c_seq ?_
 obtain ⟨s3, b6, hs⟩ := bind_some hs
 refine c_mid (I := fun a b3 => ∃ (σ : Nat → Value), a = fr 19 (ovl σ [(1, (.pointer (some ⟨a2, 0, none⟩))), (2, (.slice none 0 0)), (3, (.bool false)), (11, (.bool s3))]) ∧ Chg [] a6 b3) ?_ ?_
 ·replace hs := b6
  have hMid := Chg.refl [] a6
  refine c_region ?_
  refine pl_val (.agg #[(.int .i64 a_.1), (.slice pa0 pn0 pc0)]) (y_load rfl ((box_load Ag34 Sz34 a0 [] [(.int .i64 a_.1), (.slice pa0 pn0 pc0)] [] rfl rfl (fun h => nomatch h)) _ (Chg.refl _ _))) ?_
  obtain ⟨r7, b7, hs⟩ := bind_some hs
  refine pl_call Bd59 rfl (c_impl_IsAlgebra (M := M) (a_.1, a_.2) h0 hO.fut b7) ?_
  rintro _ c2 ⟨rfl, a3⟩
  have h0 := h0.ext a3
  have a0 := a0.cn a3
  have hMid := hMid.ext a3
  have hC := hC.ext a3
  have hO := hO.ext a3
  refine pl_val (.bool (!r7)) (y_not rfl) ?_
  refine pl_val (.bool (!r7)) (y_move rfl) ?_
  rcases bif_some hs with ⟨a1, hs⟩ | ⟨a1, hs⟩
  ·skip
   refine pl_not (tg := 7) (by kernel_rfl) (congrArg Value.bool a1) ?_
   refine pl_not (tg := 7) (by kernel_rfl) (congrArg Value.bool a1) ?_
   refine pl_not (tg := 7) (by kernel_rfl) (congrArg Value.bool a1) ?_
   refine pl_val (.bool true) (y_pick_t (congrArg Value.bool a1) rfl) ?_
   refine c_nil ?_
   cases hs
   exact ⟨_, fr_ovl 19 ⟨rfl, rfl, rfl, rfl, trivial⟩, hMid⟩
  refine pl_yes (.pointer (some ⟨a2, 0, none⟩)) (tg := 7) (by kernel_rfl) (congrArg Value.bool a1) (y_faddr rfl Fa34x0) ?_
  refine pl_yes (.int .i64 a_.1) (tg := 7) (by kernel_rfl) (congrArg Value.bool a1) (y_load rfl ((box_load Ag3 Sz3 a0 [] [(.int .i64 a_.1)] [(.slice pa0 pn0 pc0)] rfl rfl (fun _ => rfl)) _ (Chg.refl _ _))) ?_
  refine pl_yes (.bool (decide (4 < a_.1))) (tg := 7) (by kernel_rfl) (congrArg Value.bool a1) (y_gtr rfl rfl) ?_
  refine pl_val (.bool (decide (4 < a_.1))) (y_pick_f (congrArg Value.bool a1) rfl) ?_
  refine c_nil ?_
  cases hs
  exact ⟨_, fr_ovl 19 ⟨rfl, rfl, rfl, rfl, trivial⟩, hMid⟩
 rintro c3 b3 ⟨σ, rfl, a4⟩
 have h0 := h0.ext a4
 have a0 := a0.cn a4
 have hC := hC.ext a4
 have hO := hO.ext a4
 rcases bif_some hs with ⟨a8, hs⟩ | ⟨a8, hs⟩
 ·refine c_condT (congrArg Value.bool a8) ?_
  refine c_sr ?_
  refine pl_val (.slice none 0 0) (y_assign rfl) ?_
  refine pl_val (.bool false) (y_assign rfl) ?_
  refine c_nil ?_
  refine wp_ret ?_
  cases hs
  have hO := hO.drop
  have hO := hO.nil
  exact ⟨_, none, 0, 0, [], fr_ovl 19 ⟨rfl, rfl, trivial⟩, hC, os_nil, hO.top⟩
 refine c_condF (congrArg Value.bool a8) ?_
 refine wp_skip ?_
 refine c_sr ?_
 refine pl_val (.pointer (some ⟨a2, 0, none⟩)) (y_faddr rfl Fa34x0) ?_
 refine pl_val (.int .i64 a_.1) (y_load rfl ((box_load Ag3 Sz3 a0 [] [(.int .i64 a_.1)] [(.slice pa0 pn0 pc0)] rfl rfl (fun _ => rfl)) _ (Chg.refl _ _))) ?_
 refine pl_val (.pointer (some ⟨a2, 1, none⟩)) (y_faddr rfl Fa34x1) ?_
 refine pl_val (.slice pa0 pn0 pc0) (y_load rfl ((box_load Ag32 Sz32 a0 [(.int .i64 a_.1)] [(.slice pa0 pn0 pc0)] [] rfl rfl (fun _ => rfl)) _ (Chg.refl _ _))) ?_
 obtain ⟨r11, b8, hs⟩ := bind_some hs
 refine pl_call Bd60 rfl (c_impl_pairRelations (M := M) a_.1 a_.2 h0 hO.fut b8) ?_
 rintro _ c4 ⟨a9, b0, b1, b4, rfl, a5, b9, c0⟩
 have h0 := h0.ext a5
 have a0 := a0.cn a5
 have hC := hC.ext a5
 have hO := Own.join0 hO a5 c0
 have hO := hO.perm (R := b4 ++ (([a2]) ++ ([]))) (by simp)
 refine pl_val (.slice a9 b0 b1) (y_extract rfl (by kernel_rfl)) ?_
 refine pl_val (.bool r11.2) (y_extract rfl (by kernel_rfl)) ?_
 refine pl_val (.slice a9 b0 b1) (y_assign rfl) ?_
 refine pl_val (.bool r11.2) (y_assign rfl) ?_
 refine c_nil ?_
 refine wp_ret ?_
 cases hs
 have hO := hO.fr1
 have hO := hO.drop
 exact ⟨_, a9, b0, b1, b4, fr_ovl 19 ⟨rfl, rfl, trivial⟩, hC, b9, hO.top⟩

def k_impl_tupleSet (M : Nat → Prop) (w0 : World) (r : (List (ByteArray × Bool))) (a : Act) (w : World) : Prop :=
  ∃ (σ : Nat → Value) (rn0 : Nat) (rf0 : List Nat), a = fr 19 (ovl σ [(2, (.map (some rn0)))]) ∧ Chg [] w0 w ∧ (RT.mo Value.bool).val M w (.map (some rn0)) r rf0 ∧ Own (Nw w0 []) (fun _ => True) w (rf0 ++ ([]))
def s_impl_tupleSet (r_ : Int × (List (List Int))) : Option ((List (ByteArray × Bool))) :=
  (forR (S := (List (ByteArray × Bool))) (R := (List (ByteArray × Bool))) (fun _ x21 s18 =>
  (s_impl_keyOf x21).bind fun r30 =>
  some (.nx (mput s18 r30 true))) 0 r_.2 ([])).bind fun o22 => after o22 (fun r_ => some r_) (fun s18 =>
  some s18)
set_option maxHeartbeats 4000000 in
theorem c_impl_tupleSet {M : Nat → Prop} {w : World} {pa0 : Option Addr} {pn0 pc0 : Nat} (r_ : Int × (List (List Int))) (h0 : (RT.rs (RT.rs (RT.int .i64))).val M w (.slice pa0 pn0 pc0) r_.2 ([])) (hM : ∀ g, w.heap.size ≤ g → M g) {r : (List (ByteArray × Bool))} (hs : s_impl_tupleSet r_ = some r) :
    Gives Try.prog 67 [(.agg #[(.int .i64 r_.1), (.slice pa0 pn0 pc0)])] w (fun v w' => ∃ (rn0 : Nat) (rf0 : List Nat), v = (.map (some rn0)) ∧ Chg [] w w' ∧ (RT.mo Value.bool).val M w' (.map (some rn0)) r rf0 ∧ Own (Nw w []) (fun _ => True) w' (rf0 ++ ([]))) := by
 refine calls_fr Try.func67 rfl Try.ntmps67 (Nat.le_of_ble_eq_true rfl) ?_
 have hO := Own.start (N := Nw w []) hM Nw.fut
 have hC := Chg.refl [] w
 unfold s_impl_tupleSet at hs
 refine wp_mono (Q := KPost (k_impl_tupleSet M w r)) ?_ (fun e a c0 h => ?_)
 rotate_left
 ·cases e
  case ret =>
   obtain ⟨σ, rn0, rf0, rfl, hrest⟩ := h
   exact ret1x Try.results67 (res_tmp rfl) ⟨rn0, rf0, rfl, hrest⟩
  all_goals exact (h : False).elim
 refine c_sr ?_
 obtain ⟨b5, b6, c1, b7, b1, a7⟩ := new_block w [(.int .i64 r_.1), (.slice pa0 pn0 pc0)] 51
 refine pl_val (w' := b5) (.pointer (some ⟨b6, 0, none⟩)) (y_box rfl (by rw [c1, b7]; kernel_rfl)) ?_
 have h0 := h0.ext b1
 have hC := hC.ext b1
 have hO := hO.new1 b1 b7 a7.lt
 refine pl_val (.map none) (y_assign rfl) ?_
 refine c_nil ?_
 refine c_sr ?_
 obtain ⟨c2, a0, c3, b8, a8, b9⟩ := mo_make (enc := Value.bool) (M := M) b5
 refine pl_val (w' := c2) (.map (some a0)) (by rw [c3, b8]; exact y_mmap) ?_
 have h0 := h0.ext a8
 have a7 := a7.cn a8
 have hC := hC.ext a8
 have hO := hO.new (X' := [a0]) a8 (fun q hq => by rw [List.mem_singleton.1 hq, b8]; exact Nat.le_refl _) (List.nodup_cons.2 ⟨(fun h => nomatch h), List.nodup_nil⟩) b9.fpl
 refine pl_val (.map (some a0)) (y_assign rfl) ?_
 refine c_nil ?_
 refine c_seq ?_
 refine c_sr ?_
 refine pl_val (.pointer (some ⟨b6, 1, none⟩)) (y_faddr rfl Fa51x1) ?_
 refine pl_val (.slice pa0 pn0 pc0) (y_load rfl ((box_load Ag49 Sz49 a7 [(.int .i64 r_.1)] [(.slice pa0 pn0 pc0)] [] rfl rfl (fun _ => rfl)) _ (Chg.refl _ _))) ?_
 refine pl_val (.int .i64 (r_.2.length : Int)) (y_len' Sl49 (rs_len h0) rfl) ?_
 refine pl_val (.int .i64 0) (y_move rfl) ?_
 refine c_nil ?_
 have hO := hO.fr1
 have hO := hO.drop
 obtain ⟨o22, c4, hs⟩ := bind_some hs
 refine wp_block ?_
 refine wp_forR (id := 0) (I := fun i_ xs_ s18 a a1 => ∃ a2 : Nat, i_ = (a2 : Int) ∧ List.drop a2 r_.2 = xs_ ∧ (∃ (σ : Nat → Value) (a3 : List Nat), a = fr 19 (ovl σ [(3, (.map (some a0))), (8, (.slice pa0 pn0 pc0)), (9, (.int .i64 (r_.2.length : Int))), (10, (.int .i64 (a2 : Int)))]) ∧ Chg [] w a1 ∧ Own (Nw w []) M a1 (a3 ++ []) ∧ (RT.rs (RT.rs (RT.int .i64))).val M a1 (.slice pa0 pn0 pc0) r_.2 ([]) ∧ (RT.mo Value.bool).val M a1 (.map (some a0)) s18 a3)) (J := fun s18 a a1 => ∃ (σ : Nat → Value) (a9 : List Nat), a = fr 19 (ovl σ [(3, (.map (some a0)))]) ∧ Chg [] w a1 ∧ Own (Nw w []) M a1 (a9 ++ []) ∧ (RT.rs (RT.rs (RT.int .i64))).val M a1 (.slice pa0 pn0 pc0) r_.2 ([]) ∧ (RT.mo Value.bool).val M a1 (.map (some a0)) s18 a9) (K := (k_impl_tupleSet M w)) ?_ ?_ r_.2 0 ([]) o22 _ _ ?_ c4 ?_
 ·rintro _ s18 a a1 ⟨a2, rfl, hd, σ, a3, rfl, hC, hO, h0, a5⟩
  have hlt := drop_nil_ge hd
  refine c_sr ?_
  refine pl_val (.bool (decide ((a2 : Int) < (r_.2.length : Int)))) (y_lss rfl rfl) ?_
  refine c_nil ?_
  refine c_seq ?_
  refine c_condF (congrArg Value.bool (decide_eq_false hlt)) ?_
  refine wp_exit ?_
  exact ⟨rfl, _, a3, fr_ovl 19 ⟨rfl, trivial⟩, hC, hO, h0, a5⟩
 ·rintro _ x21 xs_ s18 o22 a a1 ⟨a2, rfl, hd, σ, a3, rfl, hC, hO, h0, a5⟩ hs
  have hlt := drop_cons_lt hd
  have c5 := drop_cons_idx hd
  refine c_sr ?_
  refine pl_val (.bool (decide ((a2 : Int) < (r_.2.length : Int)))) (y_lss rfl rfl) ?_
  refine c_nil ?_
  refine c_seq ?_
  refine c_condT (congrArg Value.bool (decide_eq_true hlt)) ?_
  refine wp_skip ?_
  refine c_seq ?_
  refine wp_block ?_
  refine c_sr ?_
  obtain ⟨c6, c7, c8, c9⟩ := rs_idx Sl49 Sz25 h0 c5
  refine pl_val (.pointer (some ⟨c6, c7, none⟩)) (c8 _ _ _ _ _ _ _ _ _ rfl rfl) ?_
  obtain ⟨d7, d0, a4⟩ := at_load Ag25 Sz25 (fun _ => rfl) c9
  obtain ⟨b2, b3, b4, rfl⟩ := rs_sl a4
  refine pl_val (.slice b2 b3 b4) (y_load rfl (d0 _ (Chg.refl _ _))) ?_
  refine pl_val (.slice b2 b3 b4) (y_assign rfl) ?_
  refine c_nil ?_
  refine c_region ?_
  refine pl_val (.map (some a0)) (y_move rfl) ?_
  refine pl_val (.slice b2 b3 b4) (y_move rfl) ?_
  obtain ⟨r30, d1, hs⟩ := bind_some hs
  refine pl_call Bd68 rfl (c_impl_keyOf (M := M) x21 a4 hO.fut d1) ?_
  rintro _ d8 ⟨rfl, a6⟩
  have h0 := h0.ext a6
  have a5 := a5.ext a6
  have a4 := a4.ext a6
  have hC := hC.ext a6
  have hO := hO.ext a6
  obtain ⟨d2, d3, b0, d4⟩ := mo_put (P := Try.prog) (t := 88) (key := r30) (x := true) Try.underlying88 Try.underlying9 a5
  refine pl_skip (w' := d2) (ys_put rfl rfl rfl d3) ?_
  have h0 := h0.mt b0 hO same_
  have a4 := a4.mt b0 hO same_
  have hC := hC.st b0 hO same_
  have hO := hO.ext b0
  refine c_nil ?_
  refine c_region ?_
  refine pl_val (.int .i64 (w64 ((a2 : Int) + 1))) (y_add rfl rfl) ?_
  refine pl_val (.int .i64 (w64 ((a2 : Int) + 1))) (y_move rfl) ?_
  refine c_nil ?_
  cases hs
  exact ⟨_, rfl, drop_cons_next hd, _, a3, fr_ovl 19 ⟨rfl, rfl, rfl, congrArg (Value.int .i64) (w64_succ hlt (Int.natCast_nonneg _) (rs_max h0)), trivial⟩, hC, hO, h0, d4⟩
 ·skip
  exact ⟨0, rfl, rfl, _, [a0], fr_ovl 19 ⟨rfl, rfl, rfl, rfl, trivial⟩, hC, hO, h0, b9⟩
 cases o22 with
 | nx _ => exact True.intro
 | rt r_ =>
  have hs := after_rt hs
  intro d5 c0 hK
  cases hs
  exact hK
 | br s18 =>
  have hs := after_br hs
  rintro d5 a1 ⟨σ, a9, rfl, hC, hO, h0, d6⟩
  refine c_sr ?_
  refine pl_val (.map (some a0)) (y_move rfl) ?_
  refine pl_val (.map (some a0)) (y_assign rfl) ?_
  refine c_nil ?_
  refine wp_ret ?_
  cases hs
  exact ⟨_, a0, a9, fr_ovl 19 ⟨rfl, trivial⟩, hC, d6, hO.top⟩

theorem Bd67 : Bodied Try.prog 67 := bodied Try.func67 (by kernel_rfl) rfl

def k_impl_firstBreak (M : Nat → Prop) (w0 : World) (r : (List Int) × (List Int) × Bool) (a : Act) (w : World) : Prop :=
  ∃ (σ : Nat → Value) (ra0 : Option Addr) (rn0 rc0 : Nat) (rf0 : List Nat) (ra1 : Option Addr) (rn1 rc1 : Nat) (rf1 : List Nat), a = fr 96 (ovl σ [(6, (.slice ra0 rn0 rc0)), (7, (.slice ra1 rn1 rc1)), (8, (.bool r.2.2))]) ∧ Chg [] w0 w ∧ (RT.os 3 (RT.int .i64)).val M w (.slice ra0 rn0 rc0) r.1 rf0 ∧ (RT.os 3 (RT.int .i64)).val M w (.slice ra1 rn1 rc1) r.2.1 rf1 ∧ Own (Nw w0 []) (fun _ => True) w (rf0 ++ (rf1 ++ ([])))
def s_impl_firstBreak (n : Int) (op : Int × (List Int)) (r_ : Int × (List (List Int))) : Option ((List Int) × (List Int) × Bool) :=
  (s_impl_tupleSet (r_.1, r_.2)).bind fun r6 =>
  (mks op.1 (0 : Int)).bind fun y9 =>
  (mks r_.1 (0 : Int)).bind fun y12 =>
  (iter (S := Int × (List Int) × (List Int)) (R := (List Int) × (List Int) × Bool) (fun s250 =>
  (s_impl_power (r_.2.length : Int) op.1).bind fun r261 =>
  (bif (decide (s250.1 < r261)) then (iter (S := Int × Int × (List Int)) (R := (List Int) × (List Int) × Bool) (fun s276 =>
  (bif (decide (0 ≤ s276.2.1)) then (nz (r_.2.length : Int)).bind fun u285 =>
  (idx s276.2.2 s276.2.1).bind fun x286 =>
  (nz (r_.2.length : Int)).bind fun u289 =>
  some (.nx (w64 (Int.tdiv s276.1 (r_.2.length : Int)), w64 (s276.2.1 - 1), List.set s276.2.2 (Int.toNat s276.2.1) (Int.tmod s276.1 (r_.2.length : Int)))) else some (.br (s276.1, s276.2.1, s276.2.2)))) FU (s250.1, w64 (op.1 - 1), s250.2.1)).bind fun o280 => after o280 (fun r_ => some (.rt r_)) (fun s276 =>
  (forC (S := (List Int)) (R := (List Int) × (List Int) × Bool) (fun k343 s341 =>
  (forR (S := Int) (R := (List Int) × (List Int) × Bool) (fun _ x359 s356 =>
  (idx r_.2 x359).bind fun x363 =>
  (idx x363 k343).bind fun x367 =>
  some (.nx (w64 ((w64 (s356 * n)) + x367)))) 0 s276.2.2 0).bind fun o360 => after o360 (fun r_ => some (.rt r_)) (fun s356 =>
  (idx op.2 s356).bind fun x369 =>
  (idx s341 k343).bind fun x371 =>
  some (.nx (List.set s341 (Int.toNat k343) x369)))) 0 (s250.2.2.length : Int) s250.2.2).bind fun o345 => after o345 (fun r_ => some (.rt r_)) (fun s341 =>
  (s_impl_keyOf s341).bind fun r375 =>
  (bif (!((mget r6 r375).getD false)) then some (.rt (s276.2.2, s341, true)) else some (.nx (w64 (s250.1 + 1), s276.2.2, s341))))) else some (.br (s250.1, s250.2.1, s250.2.2)))) FU (0, y9, y12)).bind fun o254 => after o254 (fun r_ => some r_) (fun s250 =>
  some ([], [], false))
set_option maxHeartbeats 4000000 in
theorem c_impl_firstBreak {M : Nat → Prop} {w : World} {pa0 : Option Addr} {pn0 pc0 : Nat} {pa1 : Option Addr} {pn1 pc1 : Nat} (n : Int) (op : Int × (List Int)) (r_ : Int × (List (List Int))) (h0 : (RT.rs (RT.int .i64)).val M w (.slice pa0 pn0 pc0) op.2 ([])) (h1 : (RT.rs (RT.rs (RT.int .i64))).val M w (.slice pa1 pn1 pc1) r_.2 ([])) (hM : ∀ g, w.heap.size ≤ g → M g) {r : (List Int) × (List Int) × Bool} (hs : s_impl_firstBreak n op r_ = some r) :
    Gives Try.prog 51 [(.int .i64 n), (.agg #[(.int .i64 op.1), (.slice pa0 pn0 pc0)]), (.agg #[(.int .i64 r_.1), (.slice pa1 pn1 pc1)])] w (fun v w' => ∃ (ra0 : Option Addr) (rn0 rc0 : Nat) (rf0 : List Nat) (ra1 : Option Addr) (rn1 rc1 : Nat) (rf1 : List Nat), v = (.tuple #[(.slice ra0 rn0 rc0), (.slice ra1 rn1 rc1), (.bool r.2.2)]) ∧ Chg [] w w' ∧ (RT.os 3 (RT.int .i64)).val M w' (.slice ra0 rn0 rc0) r.1 rf0 ∧ (RT.os 3 (RT.int .i64)).val M w' (.slice ra1 rn1 rc1) r.2.1 rf1 ∧ Own (Nw w []) (fun _ => True) w' (rf0 ++ (rf1 ++ ([])))) := by
 refine calls_fr Try.func51 rfl Try.ntmps51 (Nat.le_of_ble_eq_true rfl) ?_
 have hO := Own.start (N := Nw w []) hM Nw.fut
 have hC := Chg.refl [] w
 unfold s_impl_firstBreak at hs
 refine wp_mono (Q := KPost (k_impl_firstBreak M w r)) ?_ (fun e a e1 h => ?_)
 rotate_left
 ·cases e
  case ret =>
   obtain ⟨σ, ra0, rn0, rc0, rf0, ra1, rn1, rc1, rf1, rfl, hrest⟩ := h
   exact ret3x Try.results51 (res_tmp rfl) (res_tmp rfl) (res_tmp rfl) ⟨ra0, rn0, rc0, rf0, ra1, rn1, rc1, rf1, rfl, hrest⟩
  all_goals exact (h : False).elim
 refine c_sr ?_
 obtain ⟨f2, a3, g1, f3, e2, a0⟩ := new_block w [(.int .i64 op.1), (.slice pa0 pn0 pc0)] 36
 refine pl_val (w' := f2) (.pointer (some ⟨a3, 0, none⟩)) (y_box rfl (by rw [g1, f3]; kernel_rfl)) ?_
 have h0 := h0.ext e2
 have h1 := h1.ext e2
 have hC := hC.ext e2
 have hO := hO.new1 e2 f3 a0.lt
 obtain ⟨g2, a4, g3, f4, d5, a1⟩ := new_block f2 [(.int .i64 r_.1), (.slice pa1 pn1 pc1)] 51
 refine pl_val (w' := g2) (.pointer (some ⟨a4, 0, none⟩)) (y_box rfl (by rw [g3, f4]; kernel_rfl)) ?_
 have h0 := h0.ext d5
 have h1 := h1.ext d5
 have a0 := a0.cn d5
 have hC := hC.ext d5
 have hO := hO.new1 d5 f4 a1.lt
 refine pl_val (.slice none 0 0) (y_assign rfl) ?_
 refine pl_val (.slice none 0 0) (y_assign rfl) ?_
 refine pl_val (.bool false) (y_assign rfl) ?_
 refine c_nil ?_
 refine c_sr ?_
 refine pl_val (.agg #[(.int .i64 r_.1), (.slice pa1 pn1 pc1)]) (y_load rfl ((box_load Ag51 Sz51 a1 [] [(.int .i64 r_.1), (.slice pa1 pn1 pc1)] [] rfl rfl (fun h => nomatch h)) _ (Chg.refl _ _))) ?_
 obtain ⟨r6, g4, hs⟩ := bind_some hs
 refine pl_call Bd67 rfl (c_impl_tupleSet (M := M) (r_.1, r_.2) h1 hO.fut g4) ?_
 rintro _ g5 ⟨b6, b7, rfl, d3, a2, g6⟩
 have h0 := h0.ext d3
 have h1 := h1.ext d3
 have a0 := a0.cn d3
 have a1 := a1.cn d3
 have hC := hC.ext d3
 have hO := Own.join0 hO d3 g6
 have hO := hO.perm (R := b7 ++ (([a4]) ++ (([a3]) ++ ([])))) (by simp)
 refine pl_val (.map (some b6)) (y_assign rfl) ?_
 refine c_nil ?_
 refine c_sr ?_
 refine pl_val (.pointer (some ⟨a4, 1, none⟩)) (y_faddr rfl Fa51x1) ?_
 refine pl_val (.slice pa1 pn1 pc1) (y_load rfl ((box_load Ag49 Sz49 a1 [(.int .i64 r_.1)] [(.slice pa1 pn1 pc1)] [] rfl rfl (fun _ => rfl)) _ (Chg.refl _ _))) ?_
 refine pl_val (.int .i64 (r_.2.length : Int)) (y_len' Sl49 (rs_len h1) rfl) ?_
 refine pl_val (.int .i64 (r_.2.length : Int)) (y_assign rfl) ?_
 refine c_nil ?_
 refine c_sr ?_
 refine pl_val (.pointer (some ⟨a3, 0, none⟩)) (y_faddr rfl Fa36x0) ?_
 refine pl_val (.int .i64 op.1) (y_load rfl ((box_load Ag3 Sz3 a0 [] [(.int .i64 op.1)] [(.slice pa0 pn0 pc0)] rfl rfl (fun _ => rfl)) _ (Chg.refl _ _))) ?_
 obtain ⟨y9, g7, hs⟩ := bind_some hs
 obtain ⟨a5, a6, a7, f5, g8, g9, c9, h2, d6⟩ := mk_os (M := M) (w := g5) (r := (RT.int .i64)) Rw25 g7 (fun _ _ => ⟨rfl, rfl⟩)
 refine pl_val (w' := f5) (.slice a5 a6 a7) (y_make rfl rfl g9) ?_
 have h0 := h0.ext c9
 have h1 := h1.ext c9
 have a0 := a0.cn c9
 have a1 := a1.cn c9
 have a2 := a2.ext c9
 have hC := hC.ext c9
 have hO := hO.new c9 h2 (os_nodup d6) d6.fpl
 refine pl_val (.slice a5 a6 a7) (y_assign rfl) ?_
 refine c_nil ?_
 refine c_sr ?_
 refine pl_val (.pointer (some ⟨a4, 0, none⟩)) (y_faddr rfl Fa51x0) ?_
 refine pl_val (.int .i64 r_.1) (y_load rfl ((box_load Ag3 Sz3 a1 [] [(.int .i64 r_.1)] [(.slice pa1 pn1 pc1)] rfl rfl (fun _ => rfl)) _ (Chg.refl _ _))) ?_
 obtain ⟨y12, h3, hs⟩ := bind_some hs
 obtain ⟨a8, a9, b0, h4, h5, h6, c6, h7, e4⟩ := mk_os (M := M) (w := f5) (r := (RT.int .i64)) Rw25 h3 (fun _ _ => ⟨rfl, rfl⟩)
 refine pl_val (w' := h4) (.slice a8 a9 b0) (y_make rfl rfl h6) ?_
 have h0 := h0.ext c6
 have h1 := h1.ext c6
 have a0 := a0.cn c6
 have a1 := a1.cn c6
 have a2 := a2.ext c6
 have d6 := d6.ext c6
 have hC := hC.ext c6
 have hO := hO.new c6 h7 (os_nodup e4) e4.fpl
 refine pl_val (.slice a8 a9 b0) (y_assign rfl) ?_
 refine c_nil ?_
 refine c_seq ?_
 refine c_sr ?_
 refine pl_val (.int .i64 0) (y_assign rfl) ?_
 refine c_nil ?_
 obtain ⟨o254, h8, hs⟩ := bind_some hs
 refine wp_block ?_
 refine wp_iter (id := 0) (I := fun s250 a b3 => ∃ (σ : Nat → Value) (d7 : List Nat) (c3 : List Nat), a = fr 96 (ovl σ [(0, (.int .i64 n)), (4, (.pointer (some ⟨a3, 0, none⟩))), (5, (.pointer (some ⟨a4, 0, none⟩))), (9, (.map (some b6))), (10, (.int .i64 (r_.2.length : Int))), (11, (.slice a5 a6 a7)), (12, (.slice a8 a9 b0)), (13, (.int .i64 s250.1))]) ∧ Chg [] w b3 ∧ Own (Nw w []) M b3 (c3 ++ (d7 ++ (b7 ++ (([a4]) ++ (([a3]) ++ []))))) ∧ (RT.rs (RT.int .i64)).val M b3 (.slice pa0 pn0 pc0) op.2 ([]) ∧ (RT.rs (RT.rs (RT.int .i64))).val M b3 (.slice pa1 pn1 pc1) r_.2 ([]) ∧ BoxV b3 a3 36 [(.int .i64 op.1), (.slice pa0 pn0 pc0)] ∧ BoxV b3 a4 51 [(.int .i64 r_.1), (.slice pa1 pn1 pc1)] ∧ (RT.mo Value.bool).val M b3 (.map (some b6)) r6 b7 ∧ (RT.os 3 (RT.int .i64)).val M b3 (.slice a5 a6 a7) s250.2.1 d7 ∧ (RT.os 3 (RT.int .i64)).val M b3 (.slice a8 a9 b0) s250.2.2 c3) (J := fun s250 a b3 => ∃ (σ : Nat → Value) (e5 : List Nat) (e6 : List Nat), a = fr 96 (ovl σ []) ∧ Chg [] w b3 ∧ Own (Nw w []) M b3 (e6 ++ (e5 ++ (b7 ++ (([a4]) ++ (([a3]) ++ []))))) ∧ (RT.rs (RT.int .i64)).val M b3 (.slice pa0 pn0 pc0) op.2 ([]) ∧ (RT.rs (RT.rs (RT.int .i64))).val M b3 (.slice pa1 pn1 pc1) r_.2 ([]) ∧ BoxV b3 a3 36 [(.int .i64 op.1), (.slice pa0 pn0 pc0)] ∧ BoxV b3 a4 51 [(.int .i64 r_.1), (.slice pa1 pn1 pc1)] ∧ (RT.mo Value.bool).val M b3 (.map (some b6)) r6 b7 ∧ (RT.os 3 (RT.int .i64)).val M b3 (.slice a5 a6 a7) s250.2.1 e5 ∧ (RT.os 3 (RT.int .i64)).val M b3 (.slice a8 a9 b0) s250.2.2 e6) (K := (k_impl_firstBreak M w)) ?_ FU (0, y9, y12) o254 _ _ ?_ h8 ?_
 ·rintro s250 o254 a b3 ⟨σ, d7, c3, rfl, hC, hO, h0, h1, a0, a1, a2, e3, b9⟩ hs
  refine c_seq ?_
  refine c_sr ?_
  refine pl_val (.int .i64 s250.1) (y_move rfl) ?_
  refine pl_val (.int .i64 (r_.2.length : Int)) (y_move rfl) ?_
  refine pl_val (.pointer (some ⟨a3, 0, none⟩)) (y_faddr rfl Fa36x0) ?_
  refine pl_val (.int .i64 op.1) (y_load rfl ((box_load Ag3 Sz3 a0 [] [(.int .i64 op.1)] [(.slice pa0 pn0 pc0)] rfl rfl (fun _ => rfl)) _ (Chg.refl _ _))) ?_
  obtain ⟨r261, h9, hs⟩ := bind_some hs
  refine pl_call Bd61 rfl (c_impl_power (M := M) (r_.2.length : Int) op.1  hO.fut h9) ?_
  rintro _ m4 ⟨rfl, c4⟩
  have h0 := h0.ext c4
  have h1 := h1.ext c4
  have a0 := a0.cn c4
  have a1 := a1.cn c4
  have a2 := a2.ext c4
  have e3 := e3.ext c4
  have b9 := b9.ext c4
  have hC := hC.ext c4
  have hO := hO.ext c4
  refine pl_val (.bool (decide (s250.1 < r261))) (y_lss rfl rfl) ?_
  refine c_nil ?_
  rcases bif_some hs with ⟨e7, hs⟩ | ⟨e7, hs⟩
  ·refine c_condT (congrArg Value.bool e7) ?_
   refine wp_skip ?_
   refine c_seq ?_
   refine wp_block ?_
   refine c_sr ?_
   refine pl_val (.int .i64 s250.1) (y_move rfl) ?_
   refine pl_val (.int .i64 s250.1) (y_assign rfl) ?_
   refine c_nil ?_
   refine c_seq ?_
   refine c_sr ?_
   refine pl_val (.pointer (some ⟨a3, 0, none⟩)) (y_faddr rfl Fa36x0) ?_
   refine pl_val (.int .i64 op.1) (y_load rfl ((box_load Ag3 Sz3 a0 [] [(.int .i64 op.1)] [(.slice pa0 pn0 pc0)] rfl rfl (fun _ => rfl)) _ (Chg.refl _ _))) ?_
   refine pl_val (.int .i64 (w64 (op.1 - 1))) (y_sub rfl rfl) ?_
   refine pl_val (.int .i64 (w64 (op.1 - 1))) (y_assign rfl) ?_
   refine c_nil ?_
   obtain ⟨o280, i0, hs⟩ := bind_some hs
   refine wp_block ?_
   refine wp_iter (id := 2) (I := fun s276 a b4 => ∃ (σ : Nat → Value) (d8 : List Nat), a = fr 96 (ovl σ [(0, (.int .i64 n)), (4, (.pointer (some ⟨a3, 0, none⟩))), (5, (.pointer (some ⟨a4, 0, none⟩))), (9, (.map (some b6))), (10, (.int .i64 (r_.2.length : Int))), (11, (.slice a5 a6 a7)), (12, (.slice a8 a9 b0)), (13, (.int .i64 s250.1)), (14, (.int .i64 s276.1)), (15, (.int .i64 s276.2.1))]) ∧ Chg [] w b4 ∧ Own (Nw w []) M b4 (c3 ++ (d8 ++ (b7 ++ (([a4]) ++ (([a3]) ++ []))))) ∧ (RT.rs (RT.int .i64)).val M b4 (.slice pa0 pn0 pc0) op.2 ([]) ∧ (RT.rs (RT.rs (RT.int .i64))).val M b4 (.slice pa1 pn1 pc1) r_.2 ([]) ∧ BoxV b4 a3 36 [(.int .i64 op.1), (.slice pa0 pn0 pc0)] ∧ BoxV b4 a4 51 [(.int .i64 r_.1), (.slice pa1 pn1 pc1)] ∧ (RT.mo Value.bool).val M b4 (.map (some b6)) r6 b7 ∧ (RT.os 3 (RT.int .i64)).val M b4 (.slice a5 a6 a7) s276.2.2 d8 ∧ (RT.os 3 (RT.int .i64)).val M b4 (.slice a8 a9 b0) s250.2.2 c3) (J := fun s276 a b4 => ∃ (σ : Nat → Value) (b8 : List Nat), a = fr 96 (ovl σ [(0, (.int .i64 n)), (4, (.pointer (some ⟨a3, 0, none⟩))), (5, (.pointer (some ⟨a4, 0, none⟩))), (9, (.map (some b6))), (10, (.int .i64 (r_.2.length : Int))), (11, (.slice a5 a6 a7)), (12, (.slice a8 a9 b0)), (13, (.int .i64 s250.1))]) ∧ Chg [] w b4 ∧ Own (Nw w []) M b4 (c3 ++ (b8 ++ (b7 ++ (([a4]) ++ (([a3]) ++ []))))) ∧ (RT.rs (RT.int .i64)).val M b4 (.slice pa0 pn0 pc0) op.2 ([]) ∧ (RT.rs (RT.rs (RT.int .i64))).val M b4 (.slice pa1 pn1 pc1) r_.2 ([]) ∧ BoxV b4 a3 36 [(.int .i64 op.1), (.slice pa0 pn0 pc0)] ∧ BoxV b4 a4 51 [(.int .i64 r_.1), (.slice pa1 pn1 pc1)] ∧ (RT.mo Value.bool).val M b4 (.map (some b6)) r6 b7 ∧ (RT.os 3 (RT.int .i64)).val M b4 (.slice a5 a6 a7) s276.2.2 b8 ∧ (RT.os 3 (RT.int .i64)).val M b4 (.slice a8 a9 b0) s250.2.2 c3) (K := (k_impl_firstBreak M w)) ?_ FU (s250.1, w64 (op.1 - 1), s250.2.1) o280 _ _ ?_ i0 ?_
   ·rintro s276 o280 a b4 ⟨σ, d8, rfl, hC, hO, h0, h1, a0, a1, a2, d9, b9⟩ hs
    refine c_seq ?_
    refine c_sr ?_
    refine pl_val (.int .i64 s276.2.1) (y_move rfl) ?_
    refine pl_val (.bool (decide (0 ≤ s276.2.1))) (y_geq rfl rfl) ?_
    refine c_nil ?_
    rcases bif_some hs with ⟨e8, hs⟩ | ⟨e8, hs⟩
    ·refine c_condT (congrArg Value.bool e8) ?_
     refine wp_skip ?_
     refine c_seq ?_
     refine wp_block ?_
     refine c_sr ?_
     refine pl_val (.slice a5 a6 a7) (y_move rfl) ?_
     refine pl_val (.int .i64 s276.2.1) (y_move rfl) ?_
     refine pl_val (.int .i64 s276.1) (y_move rfl) ?_
     refine pl_val (.int .i64 (r_.2.length : Int)) (y_move rfl) ?_
     obtain ⟨u285, i1, hs⟩ := bind_some hs
     refine pl_val (.int .i64 (Int.tmod s276.1 (r_.2.length : Int))) (y_rem rfl rfl (nz_ne i1)) ?_
     obtain ⟨x286, i2, hs⟩ := bind_some hs
     obtain ⟨f6, m5, f7, i3, i4, m6, m7⟩ := os_idx Sl25 Sz3 d9 i2
     refine pl_val (.pointer (some ⟨f6, 0 + Int.toNat s276.2.1 * 1, none⟩)) (i4 _ _ _ _ _ _ _ _ _ rfl rfl) ?_
     have hO := hO.fr1
     obtain ⟨i5, i6, i7, c7, i9, e9⟩ := os_store (P := Try.prog) (c' := [(.int .i64 (Int.tmod s276.1 (r_.2.length : Int)))]) f7 d9 i3 (fun g hg => hO.inM g (os_block d9 g (by simpa using hg))) ⟨rfl, rfl⟩ List.nodup_nil (fun _ h => nomatch h) (fun _ h => .inl h)
     have d0 : ∀ q ∈ [f6], q ∈ d8 := fun q hq => os_block d9 q (by rw [f7]; exact hq)
     refine pl_skip (w' := i5) (ys_store rfl rfl (i7 _ _ rfl Sz3)) ?_
     have h0 := h0.mt c7 hO d0
     have h1 := h1.mt c7 hO d0
     have a0 := a0.ap c7 hO d0 (mem_r (mem_r (mem_r (mem_l (List.mem_singleton.2 rfl)))))
     have a1 := a1.ap c7 hO d0 (mem_r (mem_r (mem_l (List.mem_singleton.2 rfl))))
     have a2 := a2.ma c7 hO d0 (fun _ e => (mem_r (mem_l (e))))
     have b9 := b9.ma c7 hO d0 (fun _ e => (mem_l (e)))
     have hC := hC.st c7 hO d0
     have hO := hO.grow c7 (fun q hq => .inl ((i9 q hq).resolve_right (fun h => nomatch h))) (os_nodup e9) e9.fpl
     refine c_nil ?_
     refine c_region ?_
     refine pl_val (.int .i64 s276.1) (y_move rfl) ?_
     refine pl_val (.int .i64 (r_.2.length : Int)) (y_move rfl) ?_
     obtain ⟨u289, j0, hs⟩ := bind_some hs
     refine pl_val (.int .i64 (w64 (Int.tdiv s276.1 (r_.2.length : Int)))) (y_quo rfl rfl (nz_ne j0)) ?_
     refine pl_val (.int .i64 (w64 (Int.tdiv s276.1 (r_.2.length : Int)))) (y_assign rfl) ?_
     refine c_nil ?_
     refine c_region ?_
     refine pl_val (.int .i64 s276.2.1) (y_move rfl) ?_
     refine pl_val (.int .i64 (w64 (s276.2.1 - 1))) (y_sub rfl rfl) ?_
     refine pl_val (.int .i64 (w64 (s276.2.1 - 1))) (y_assign rfl) ?_
     refine c_nil ?_
     cases hs
     have hO := hO.fr4
     have hO := hO.fr4
     have hO := hO.fr4
     have hO := hO.fr3
     have hO := hO.fr4
     exact ⟨_, i6, fr_ovl 96 ⟨rfl, rfl, rfl, rfl, rfl, rfl, rfl, rfl, rfl, rfl, trivial⟩, hC, hO, h0, h1, a0, a1, a2, e9, b9⟩
    refine c_condF (congrArg Value.bool e8) ?_
    refine wp_exit ?_
    cases hs
    have hO := hO.fr4
    have hO := hO.fr4
    have hO := hO.fr4
    have hO := hO.fr4
    have hO := hO.fr4
    exact ⟨rfl, _, d8, fr_ovl 96 ⟨rfl, rfl, rfl, rfl, rfl, rfl, rfl, rfl, trivial⟩, hC, hO, h0, h1, a0, a1, a2, d9, b9⟩
   ·skip
    have hO := hO.fr4
    have hO := hO.fr4
    have hO := hO.fr4
    have hO := hO.fr4
    have hO := hO.fr4
    exact ⟨_, d7, fr_ovl 96 ⟨rfl, rfl, rfl, rfl, rfl, rfl, rfl, rfl, rfl, rfl, trivial⟩, hC, hO, h0, h1, a0, a1, a2, e3, b9⟩
   cases o280 with
   | nx _ => exact True.intro
   | rt r_ =>
    have hs := after_rt hs
    intro d1 e1 hK
    cases hs
    exact hK
   | br s276 =>
    have hs := after_br hs
    rintro d1 b4 ⟨σ, b8, rfl, hC, hO, h0, h1, a0, a1, a2, b5, b9⟩
    refine c_seq ?_
    refine c_sr ?_
    refine pl_val (.slice a8 a9 b0) (y_move rfl) ?_
    refine pl_val (.int .i64 (s250.2.2.length : Int)) (y_len' Sl25 (os_len b9) rfl) ?_
    refine pl_val (.int .i64 0) (y_move rfl) ?_
    refine c_nil ?_
    obtain ⟨o345, j1, hs⟩ := bind_some hs
    refine wp_block ?_
    refine wp_forC (id := 4) (s250.2.2.length : Int) (I := fun k343 s341 a b1 => ∃ (σ : Nat → Value) (c1 : List Nat), a = fr 96 (ovl σ [(0, (.int .i64 n)), (4, (.pointer (some ⟨a3, 0, none⟩))), (5, (.pointer (some ⟨a4, 0, none⟩))), (9, (.map (some b6))), (10, (.int .i64 (r_.2.length : Int))), (11, (.slice a5 a6 a7)), (12, (.slice a8 a9 b0)), (13, (.int .i64 s250.1)), (57, (.int .i64 (s250.2.2.length : Int))), (58, (.int .i64 k343))]) ∧ Chg [] w b1 ∧ Own (Nw w []) M b1 (c1 ++ (b8 ++ (b7 ++ (([a4]) ++ (([a3]) ++ []))))) ∧ (RT.rs (RT.int .i64)).val M b1 (.slice pa0 pn0 pc0) op.2 ([]) ∧ (RT.rs (RT.rs (RT.int .i64))).val M b1 (.slice pa1 pn1 pc1) r_.2 ([]) ∧ BoxV b1 a3 36 [(.int .i64 op.1), (.slice pa0 pn0 pc0)] ∧ BoxV b1 a4 51 [(.int .i64 r_.1), (.slice pa1 pn1 pc1)] ∧ (RT.mo Value.bool).val M b1 (.map (some b6)) r6 b7 ∧ (RT.os 3 (RT.int .i64)).val M b1 (.slice a5 a6 a7) s276.2.2 b8 ∧ (RT.os 3 (RT.int .i64)).val M b1 (.slice a8 a9 b0) s341 c1) (J := fun s341 a b1 => ∃ (σ : Nat → Value) (d4 : List Nat), a = fr 96 (ovl σ [(0, (.int .i64 n)), (4, (.pointer (some ⟨a3, 0, none⟩))), (5, (.pointer (some ⟨a4, 0, none⟩))), (9, (.map (some b6))), (10, (.int .i64 (r_.2.length : Int))), (11, (.slice a5 a6 a7)), (12, (.slice a8 a9 b0)), (13, (.int .i64 s250.1))]) ∧ Chg [] w b1 ∧ Own (Nw w []) M b1 (d4 ++ (b8 ++ (b7 ++ (([a4]) ++ (([a3]) ++ []))))) ∧ (RT.rs (RT.int .i64)).val M b1 (.slice pa0 pn0 pc0) op.2 ([]) ∧ (RT.rs (RT.rs (RT.int .i64))).val M b1 (.slice pa1 pn1 pc1) r_.2 ([]) ∧ BoxV b1 a3 36 [(.int .i64 op.1), (.slice pa0 pn0 pc0)] ∧ BoxV b1 a4 51 [(.int .i64 r_.1), (.slice pa1 pn1 pc1)] ∧ (RT.mo Value.bool).val M b1 (.map (some b6)) r6 b7 ∧ (RT.os 3 (RT.int .i64)).val M b1 (.slice a5 a6 a7) s276.2.2 b8 ∧ (RT.os 3 (RT.int .i64)).val M b1 (.slice a8 a9 b0) s341 d4) (K := (k_impl_firstBreak M w)) ?_ ?_ 0 s250.2.2 o345 _ _ ?_ j1 ?_
    ·rintro k343 s341 a b1 ⟨σ, c1, rfl, hC, hO, h0, h1, a0, a1, a2, b5, c0⟩ hlt
     refine c_sr ?_
     refine pl_val (.bool (decide (k343 < (s250.2.2.length : Int)))) (y_lss rfl rfl) ?_
     refine c_nil ?_
     refine c_seq ?_
     refine c_condF (congrArg Value.bool (decide_eq_false hlt)) ?_
     refine wp_exit ?_
     have hO := hO.fr4
     have hO := hO.fr4
     have hO := hO.fr4
     have hO := hO.fr4
     have hO := hO.fr4
     exact ⟨rfl, _, c1, fr_ovl 96 ⟨rfl, rfl, rfl, rfl, rfl, rfl, rfl, rfl, trivial⟩, hC, hO, h0, h1, a0, a1, a2, b5, c0⟩
    ·rintro k343 s341 o345 a b1 ⟨σ, c1, rfl, hC, hO, h0, h1, a0, a1, a2, b5, c0⟩ hlt hw hs
     refine c_sr ?_
     refine pl_val (.bool (decide (k343 < (s250.2.2.length : Int)))) (y_lss rfl rfl) ?_
     refine c_nil ?_
     refine c_seq ?_
     refine c_condT (congrArg Value.bool (decide_eq_true hlt)) ?_
     refine wp_skip ?_
     refine c_seq ?_
     refine wp_block ?_
     refine c_sr ?_
     refine pl_val (.int .i64 k343) (y_move rfl) ?_
     refine pl_val (.int .i64 k343) (y_assign rfl) ?_
     refine c_nil ?_
     refine c_sr ?_
     refine pl_val (.int .i64 0) (y_assign rfl) ?_
     refine c_nil ?_
     refine c_seq ?_
     refine c_sr ?_
     refine pl_val (.slice a5 a6 a7) (y_move rfl) ?_
     refine pl_val (.int .i64 (s276.2.2.length : Int)) (y_len' Sl25 (os_len b5) rfl) ?_
     refine pl_val (.int .i64 0) (y_move rfl) ?_
     refine c_nil ?_
     obtain ⟨o360, j2, hs⟩ := bind_some hs
     refine wp_block ?_
     refine wp_forR (id := 6) (I := fun i_ xs_ s356 a b2 => ∃ c2 : Nat, i_ = (c2 : Int) ∧ List.drop c2 s276.2.2 = xs_ ∧ (∃ (σ : Nat → Value), a = fr 96 (ovl σ [(0, (.int .i64 n)), (4, (.pointer (some ⟨a3, 0, none⟩))), (5, (.pointer (some ⟨a4, 0, none⟩))), (9, (.map (some b6))), (10, (.int .i64 (r_.2.length : Int))), (11, (.slice a5 a6 a7)), (12, (.slice a8 a9 b0)), (13, (.int .i64 s250.1)), (16, (.int .i64 k343)), (17, (.int .i64 s356)), (57, (.int .i64 (s250.2.2.length : Int))), (58, (.int .i64 k343)), (61, (.slice a5 a6 a7)), (62, (.int .i64 (s276.2.2.length : Int))), (63, (.int .i64 (c2 : Int)))]) ∧ Chg [] w b2 ∧ Own (Nw w []) M b2 (c1 ++ (b8 ++ (b7 ++ (([a4]) ++ (([a3]) ++ []))))) ∧ (RT.rs (RT.int .i64)).val M b2 (.slice pa0 pn0 pc0) op.2 ([]) ∧ (RT.rs (RT.rs (RT.int .i64))).val M b2 (.slice pa1 pn1 pc1) r_.2 ([]) ∧ BoxV b2 a3 36 [(.int .i64 op.1), (.slice pa0 pn0 pc0)] ∧ BoxV b2 a4 51 [(.int .i64 r_.1), (.slice pa1 pn1 pc1)] ∧ (RT.mo Value.bool).val M b2 (.map (some b6)) r6 b7 ∧ (RT.os 3 (RT.int .i64)).val M b2 (.slice a5 a6 a7) s276.2.2 b8 ∧ (RT.os 3 (RT.int .i64)).val M b2 (.slice a8 a9 b0) s341 c1)) (J := fun s356 a b2 => ∃ (σ : Nat → Value), a = fr 96 (ovl σ [(0, (.int .i64 n)), (4, (.pointer (some ⟨a3, 0, none⟩))), (5, (.pointer (some ⟨a4, 0, none⟩))), (9, (.map (some b6))), (10, (.int .i64 (r_.2.length : Int))), (11, (.slice a5 a6 a7)), (12, (.slice a8 a9 b0)), (13, (.int .i64 s250.1)), (16, (.int .i64 k343)), (17, (.int .i64 s356)), (57, (.int .i64 (s250.2.2.length : Int))), (58, (.int .i64 k343))]) ∧ Chg [] w b2 ∧ Own (Nw w []) M b2 (c1 ++ (b8 ++ (b7 ++ (([a4]) ++ (([a3]) ++ []))))) ∧ (RT.rs (RT.int .i64)).val M b2 (.slice pa0 pn0 pc0) op.2 ([]) ∧ (RT.rs (RT.rs (RT.int .i64))).val M b2 (.slice pa1 pn1 pc1) r_.2 ([]) ∧ BoxV b2 a3 36 [(.int .i64 op.1), (.slice pa0 pn0 pc0)] ∧ BoxV b2 a4 51 [(.int .i64 r_.1), (.slice pa1 pn1 pc1)] ∧ (RT.mo Value.bool).val M b2 (.map (some b6)) r6 b7 ∧ (RT.os 3 (RT.int .i64)).val M b2 (.slice a5 a6 a7) s276.2.2 b8 ∧ (RT.os 3 (RT.int .i64)).val M b2 (.slice a8 a9 b0) s341 c1) (K := (k_impl_firstBreak M w)) ?_ ?_ s276.2.2 0 0 o360 _ _ ?_ j2 ?_
     ·rintro _ s356 a b2 ⟨c2, rfl, hd, σ, rfl, hC, hO, h0, h1, a0, a1, a2, b5, c0⟩
      have hlt := drop_nil_ge hd
      refine c_sr ?_
      refine pl_val (.bool (decide ((c2 : Int) < (s276.2.2.length : Int)))) (y_lss rfl rfl) ?_
      refine c_nil ?_
      refine c_seq ?_
      refine c_condF (congrArg Value.bool (decide_eq_false hlt)) ?_
      refine wp_exit ?_
      have hO := hO.fr4
      have hO := hO.fr4
      have hO := hO.fr4
      have hO := hO.fr4
      have hO := hO.fr4
      exact ⟨rfl, _, fr_ovl 96 ⟨rfl, rfl, rfl, rfl, rfl, rfl, rfl, rfl, rfl, rfl, rfl, rfl, trivial⟩, hC, hO, h0, h1, a0, a1, a2, b5, c0⟩
     ·rintro _ x359 xs_ s356 o360 a b2 ⟨c2, rfl, hd, σ, rfl, hC, hO, h0, h1, a0, a1, a2, b5, c0⟩ hs
      have hlt := drop_cons_lt hd
      have j3 := drop_cons_idx hd
      refine c_sr ?_
      refine pl_val (.bool (decide ((c2 : Int) < (s276.2.2.length : Int)))) (y_lss rfl rfl) ?_
      refine c_nil ?_
      refine c_seq ?_
      refine c_condT (congrArg Value.bool (decide_eq_true hlt)) ?_
      refine wp_skip ?_
      refine c_seq ?_
      refine wp_block ?_
      refine c_sr ?_
      obtain ⟨j4, m8, m9, n0, j5, j6, n1⟩ := os_idx Sl25 Sz3 b5 j3
      refine pl_val (.pointer (some ⟨j4, 0 + Int.toNat (c2 : Int) * 1, none⟩)) (j5 _ _ _ _ _ _ _ _ _ rfl rfl) ?_
      refine pl_val (.int .i64 x359) (y_load rfl ((at_load_int Ag3 Sz3 j6) _ (Chg.refl _ _))) ?_
      refine pl_val (.int .i64 x359) (y_assign rfl) ?_
      refine c_nil ?_
      refine c_region ?_
      refine pl_val (.int .i64 s356) (y_move rfl) ?_
      refine pl_val (.int .i64 n) (y_move rfl) ?_
      refine pl_val (.int .i64 (w64 (s356 * n))) (y_mul rfl rfl) ?_
      refine pl_val (.pointer (some ⟨a4, 1, none⟩)) (y_faddr rfl Fa51x1) ?_
      refine pl_val (.slice pa1 pn1 pc1) (y_load rfl ((box_load Ag49 Sz49 a1 [(.int .i64 r_.1)] [(.slice pa1 pn1 pc1)] [] rfl rfl (fun _ => rfl)) _ (Chg.refl _ _))) ?_
      refine pl_val (.int .i64 x359) (y_move rfl) ?_
      obtain ⟨x363, j7, hs⟩ := bind_some hs
      obtain ⟨j8, j9, k0, k1⟩ := rs_idx Sl49 Sz25 h1 j7
      refine pl_val (.pointer (some ⟨j8, j9, none⟩)) (k0 _ _ _ _ _ _ _ _ _ rfl rfl) ?_
      obtain ⟨n2, k2, f8⟩ := at_load Ag25 Sz25 (fun _ => rfl) k1
      obtain ⟨k3, k4, k5, rfl⟩ := rs_sl f8
      refine pl_val (.slice k3 k4 k5) (y_load rfl (k2 _ (Chg.refl _ _))) ?_
      refine pl_val (.int .i64 k343) (y_move rfl) ?_
      obtain ⟨x367, k6, hs⟩ := bind_some hs
      obtain ⟨k7, k8, k9, l0⟩ := rs_idx Sl25 Sz3 f8 k6
      refine pl_val (.pointer (some ⟨k7, k8, none⟩)) (k9 _ _ _ _ _ _ _ _ _ rfl rfl) ?_
      refine pl_val (.int .i64 x367) (y_load rfl ((at_load_int Ag3 Sz3 l0) _ (Chg.refl _ _))) ?_
      refine pl_val (.int .i64 (w64 ((w64 (s356 * n)) + x367))) (y_add rfl rfl) ?_
      refine pl_val (.int .i64 (w64 ((w64 (s356 * n)) + x367))) (y_assign rfl) ?_
      refine c_nil ?_
      refine c_region ?_
      refine pl_val (.int .i64 (w64 ((c2 : Int) + 1))) (y_add rfl rfl) ?_
      refine pl_val (.int .i64 (w64 ((c2 : Int) + 1))) (y_move rfl) ?_
      refine c_nil ?_
      cases hs
      have hO := hO.fr4
      have hO := hO.fr4
      have hO := hO.fr4
      have hO := hO.fr4
      have hO := hO.fr4
      exact ⟨_, rfl, drop_cons_next hd, _, fr_ovl 96 ⟨rfl, rfl, rfl, rfl, rfl, rfl, rfl, rfl, rfl, rfl, rfl, rfl, rfl, rfl, congrArg (Value.int .i64) (w64_succ hlt (Int.natCast_nonneg _) (os_max b5)), trivial⟩, hC, hO, h0, h1, a0, a1, a2, b5, c0⟩
     ·skip
      have hO := hO.fr4
      have hO := hO.fr4
      have hO := hO.fr4
      have hO := hO.fr4
      have hO := hO.fr4
      exact ⟨0, rfl, rfl, _, fr_ovl 96 ⟨rfl, rfl, rfl, rfl, rfl, rfl, rfl, rfl, rfl, rfl, rfl, rfl, rfl, rfl, rfl, trivial⟩, hC, hO, h0, h1, a0, a1, a2, b5, c0⟩
     cases o360 with
     | nx _ => exact True.intro
     | rt r_ =>
      have hs := after_rt hs
      intro d1 e1 hK
      cases hs
      exact hK
     | br s356 =>
      have hs := after_br hs
      rintro d1 b2 ⟨σ, rfl, hC, hO, h0, h1, a0, a1, a2, b5, c0⟩
      refine c_region ?_
      refine pl_val (.slice a8 a9 b0) (y_move rfl) ?_
      refine pl_val (.int .i64 k343) (y_move rfl) ?_
      refine pl_val (.pointer (some ⟨a3, 1, none⟩)) (y_faddr rfl Fa36x1) ?_
      refine pl_val (.slice pa0 pn0 pc0) (y_load rfl ((box_load Ag25 Sz25 a0 [(.int .i64 op.1)] [(.slice pa0 pn0 pc0)] [] rfl rfl (fun _ => rfl)) _ (Chg.refl _ _))) ?_
      refine pl_val (.int .i64 s356) (y_move rfl) ?_
      obtain ⟨x369, l1, hs⟩ := bind_some hs
      obtain ⟨l2, l3, l4, l5⟩ := rs_idx Sl25 Sz3 h0 l1
      refine pl_val (.pointer (some ⟨l2, l3, none⟩)) (l4 _ _ _ _ _ _ _ _ _ rfl rfl) ?_
      refine pl_val (.int .i64 x369) (y_load rfl ((at_load_int Ag3 Sz3 l5) _ (Chg.refl _ _))) ?_
      obtain ⟨x371, l6, hs⟩ := bind_some hs
      obtain ⟨f9, n3, g0, l7, l8, n4, n5⟩ := os_idx Sl25 Sz3 c0 l6
      refine pl_val (.pointer (some ⟨f9, 0 + Int.toNat k343 * 1, none⟩)) (l8 _ _ _ _ _ _ _ _ _ rfl rfl) ?_
      obtain ⟨l9, m0, m1, c8, m2, f0⟩ := os_store (P := Try.prog) (c' := [(.int .i64 x369)]) g0 c0 l7 (fun g hg => hO.inM g (os_block c0 g (by simpa using hg))) ⟨rfl, rfl⟩ List.nodup_nil (fun _ h => nomatch h) (fun _ h => .inl h)
      have d2 : ∀ q ∈ [f9], q ∈ c1 := fun q hq => os_block c0 q (by rw [g0]; exact hq)
      refine pl_skip (w' := l9) (ys_store rfl rfl (m1 _ _ rfl Sz3)) ?_
      have h0 := h0.mt c8 hO d2
      have h1 := h1.mt c8 hO d2
      have a0 := a0.ap c8 hO d2 (mem_r (mem_r (mem_r (mem_l (List.mem_singleton.2 rfl)))))
      have a1 := a1.ap c8 hO d2 (mem_r (mem_r (mem_l (List.mem_singleton.2 rfl))))
      have a2 := a2.ma c8 hO d2 (fun _ e => (mem_r (mem_l (e))))
      have b5 := b5.ma c8 hO d2 (fun _ e => (mem_l (e)))
      have hC := hC.st c8 hO d2
      have hO := hO.grow c8 (fun q hq => .inl ((m2 q hq).resolve_right (fun h => nomatch h))) (os_nodup f0) f0.fpl
      refine c_nil ?_
      refine c_region ?_
      refine pl_val (.int .i64 (w64 (k343 + 1))) (y_add rfl rfl) ?_
      refine pl_val (.int .i64 (w64 (k343 + 1))) (y_move rfl) ?_
      refine c_nil ?_
      cases hs
      have hO := hO.fr4
      have hO := hO.fr4
      have hO := hO.fr4
      have hO := hO.fr4
      have hO := hO.fr4
      exact ⟨_, m0, fr_ovl 96 ⟨rfl, rfl, rfl, rfl, rfl, rfl, rfl, rfl, rfl, congrArg (Value.int .i64) hw, trivial⟩, hC, hO, h0, h1, a0, a1, a2, b5, f0⟩
    ·skip
     have hO := hO.fr4
     have hO := hO.fr4
     have hO := hO.fr4
     have hO := hO.fr4
     have hO := hO.fr4
     exact ⟨_, c3, fr_ovl 96 ⟨rfl, rfl, rfl, rfl, rfl, rfl, rfl, rfl, rfl, rfl, trivial⟩, hC, hO, h0, h1, a0, a1, a2, b5, b9⟩
    cases o345 with
    | nx _ => exact True.intro
    | rt r_ =>
     have hs := after_rt hs
     intro d1 e1 hK
     cases hs
     exact hK
    | br s341 =>
     have hs := after_br hs
     rintro d1 b1 ⟨σ, d4, rfl, hC, hO, h0, h1, a0, a1, a2, b5, e0⟩
     refine c_sr ?_
     refine pl_val (.map (some b6)) (y_move rfl) ?_
     refine pl_val (.slice a8 a9 b0) (y_move rfl) ?_
     obtain ⟨r375, m3, hs⟩ := bind_some hs
     refine pl_call Bd68 rfl (c_impl_keyOf (M := (Less M d4)) s341 (((Frz.os Frz.int)).val e0 Less.sub Less.not) hO.less.fut m3) ?_
     rintro _ n6 ⟨rfl, c5⟩
     have h0 := h0.ext c5
     have h1 := h1.ext c5
     have a0 := a0.cn c5
     have a1 := a1.cn c5
     have a2 := a2.ext c5
     have b5 := b5.ext c5
     have e0 := e0.ext c5
     have hC := hC.ext c5
     have hO := hO.ext c5
     refine pl_val (.bool ((mget r6 r375).getD false)) (y_look (enc := Value.bool) Try.underlying88 Try.underlying9 Zv4 (mo_at a2) rfl rfl) ?_
     refine pl_val (.bool (!((mget r6 r375).getD false))) (y_not rfl) ?_
     refine c_nil ?_
     rcases bif_some hs with ⟨f1, hs⟩ | ⟨f1, hs⟩
     ·refine c_condT (congrArg Value.bool f1) ?_
      refine c_sr ?_
      refine pl_val (.slice a5 a6 a7) (y_move rfl) ?_
      refine pl_val (.slice a8 a9 b0) (y_move rfl) ?_
      refine pl_val (.slice a5 a6 a7) (y_assign rfl) ?_
      refine pl_val (.slice a8 a9 b0) (y_assign rfl) ?_
      refine pl_val (.bool true) (y_assign rfl) ?_
      refine c_nil ?_
      refine wp_ret ?_
      cases hs
      have hO := hO.fr2
      have hO := hO.drop
      have hO := hO.fr2
      have hO := hO.drop
      have hO := hO.fr2
      have hO := hO.drop
      have hO := hO.fr1
      exact ⟨_, a5, a6, a7, b8, a8, a9, b0, d4, fr_ovl 96 ⟨rfl, rfl, rfl, trivial⟩, hC, b5, e0, hO.top⟩
     refine c_condF (congrArg Value.bool f1) ?_
     refine wp_skip ?_
     refine c_region ?_
     refine pl_val (.int .i64 s250.1) (y_move rfl) ?_
     refine pl_val (.int .i64 (w64 (s250.1 + 1))) (y_add rfl rfl) ?_
     refine pl_val (.int .i64 (w64 (s250.1 + 1))) (y_assign rfl) ?_
     refine c_nil ?_
     cases hs
     have hO := hO.fr4
     have hO := hO.fr4
     have hO := hO.fr4
     have hO := hO.fr4
     have hO := hO.fr4
     exact ⟨_, b8, d4, fr_ovl 96 ⟨rfl, rfl, rfl, rfl, rfl, rfl, rfl, rfl, trivial⟩, hC, hO, h0, h1, a0, a1, a2, b5, e0⟩
  refine c_condF (congrArg Value.bool e7) ?_
  refine wp_exit ?_
  cases hs
  have hO := hO.fr4
  have hO := hO.fr4
  have hO := hO.fr4
  have hO := hO.fr4
  have hO := hO.fr4
  exact ⟨rfl, _, d7, c3, fr_ovl 96 trivial, hC, hO, h0, h1, a0, a1, a2, e3, b9⟩
 ·skip
  have hO := hO.fr4
  have hO := hO.fr4
  have hO := hO.fr4
  have hO := hO.fr4
  have hO := hO.fr4
  exact ⟨_, g8, h5, fr_ovl 96 ⟨rfl, rfl, rfl, rfl, rfl, rfl, rfl, rfl, trivial⟩, hC, hO, h0, h1, a0, a1, a2, d6, e4⟩
 cases o254 with
 | nx _ => exact True.intro
 | rt r_ =>
  have hs := after_rt hs
  intro d1 e1 hK
  cases hs
  exact hK
 | br s250 =>
  have hs := after_br hs
  rintro d1 b3 ⟨σ, e5, e6, rfl, hC, hO, h0, h1, a0, a1, a2, n7, n8⟩
  refine c_sr ?_
  refine pl_val (.slice none 0 0) (y_assign rfl) ?_
  refine pl_val (.slice none 0 0) (y_assign rfl) ?_
  refine pl_val (.bool false) (y_assign rfl) ?_
  refine c_nil ?_
  refine wp_ret ?_
  cases hs
  have hO := hO.drop
  have hO := hO.drop
  have hO := hO.drop
  have hO := hO.drop
  have hO := hO.drop
  have hO := hO.nil
  have hO := hO.nil
  exact ⟨_, none, 0, 0, [], none, 0, 0, [], fr_ovl 96 ⟨rfl, rfl, rfl, trivial⟩, hC, os_nil, os_nil, hO.top⟩

theorem Bd39 : Bodied Try.prog 39 := bodied Try.func39 (by kernel_rfl) rfl

theorem Sl43 : SlT Try.prog 43 51 := Try.underlying43

theorem Bd51 : Bodied Try.prog 51 := bodied Try.func51 (by kernel_rfl) rfl

def k_impl_FirstPairBroken (M : Nat → Prop) (w0 : World) (r : (Int × (List (List Int))) × Bool) (a : Act) (w : World) : Prop :=
  ∃ (σ : Nat → Value) (rg4 : Nat) (ra0 : Option Addr) (rn0 rc0 : Nat) (rf0 : List Nat), a = fr 47 (ovl σ [(4, (.pointer (some ⟨rg4, 0, none⟩))), (5, (.bool r.2))]) ∧ BoxV w rg4 51 [(.int .i64 r.1.1), (.slice ra0 rn0 rc0)] ∧ Chg [] w0 w ∧ (RT.os 25 (RT.os 3 (RT.int .i64))).val M w (.slice ra0 rn0 rc0) r.1.2 rf0 ∧ Own (Nw w0 []) (fun _ => True) w (rf0 ++ ([]))
def s_impl_FirstPairBroken (a_ : Int × (List (Int × (List Int)))) (op : Int × (List Int)) : Option ((Int × (List (List Int))) × Bool) :=
  (s_impl_allPairRelations (a_.1, a_.2)).bind fun r7 =>
  ((bif (!r7.2) then some true else (s_impl_isOp (op.1, op.2) a_.1).bind fun r14 =>
  some (!r14))).bind fun s9 =>
  (bif s9 then some ((0, []), false) else (forR (S := Unit) (R := (Int × (List (List Int))) × Bool) (fun k30 x31 s28 =>
  (s_impl_firstBreak a_.1 (op.1, op.2) (x31.1, x31.2)).bind fun r40 =>
  (bif r40.2.2 then (idx (List.map some r7.1) (k30 : Int)).bind fun o46 =>
  (o46).bind fun x47 =>
  some (.rt ((x31.1, x47.2), true)) else some (.nx ()))) 0 r7.1 ()).bind fun o32 => after o32 (fun r_ => some r_) (fun s28 =>
  some ((0, []), false)))
set_option maxHeartbeats 4000000 in
theorem c_impl_FirstPairBroken {M : Nat → Prop} {w : World} {pa0 : Option Addr} {pn0 pc0 : Nat} {pa1 : Option Addr} {pn1 pc1 : Nat} (a_ : Int × (List (Int × (List Int)))) (op : Int × (List Int)) (h0 : (RT.rs (RT.pr (RT.int .i64) (RT.rs (RT.int .i64)))).val M w (.slice pa0 pn0 pc0) a_.2 ([])) (h1 : (RT.rs (RT.int .i64)).val M w (.slice pa1 pn1 pc1) op.2 ([])) (hM : ∀ g, w.heap.size ≤ g → M g) {r : (Int × (List (List Int))) × Bool} (hs : s_impl_FirstPairBroken a_ op = some r) :
    Gives Try.prog 27 [(.agg #[(.int .i64 a_.1), (.slice pa0 pn0 pc0)]), (.agg #[(.int .i64 op.1), (.slice pa1 pn1 pc1)])] w (fun v w' => ∃ (ra0 : Option Addr) (rn0 rc0 : Nat) (rf0 : List Nat), v = (.tuple #[(.agg #[(.int .i64 r.1.1), (.slice ra0 rn0 rc0)]), (.bool r.2)]) ∧ Chg [] w w' ∧ (RT.os 25 (RT.os 3 (RT.int .i64))).val M w' (.slice ra0 rn0 rc0) r.1.2 rf0 ∧ Own (Nw w []) (fun _ => True) w' (rf0 ++ ([]))) := by
 refine calls_fr Try.func27 rfl Try.ntmps27 (Nat.le_of_ble_eq_true rfl) ?_
 have hO := Own.start (N := Nw w []) hM Nw.fut
 have hC := Chg.refl [] w
 unfold s_impl_FirstPairBroken at hs
 refine wp_mono (Q := KPost (k_impl_FirstPairBroken M w r)) ?_ (fun e a g3 h => ?_)
 rotate_left
 ·cases e
  case ret =>
   obtain ⟨σ, rg4, ra0, rn0, rc0, rf0, rfl, hbrg4, hrest⟩ := h
   exact ret2x Try.results27 (res_cell rfl (box_load Ag51 Sz51 hbrg4 [] _ [] rfl rfl (fun h => nomatch h))) (res_tmp rfl) ⟨ra0, rn0, rc0, rf0, rfl, hrest⟩
  all_goals exact (h : False).elim
 refine c_sr ?_
 obtain ⟨e8, b0, g4, e9, c9, a0⟩ := new_block w [(.int .i64 a_.1), (.slice pa0 pn0 pc0)] 34
 refine pl_val (w' := e8) (.pointer (some ⟨b0, 0, none⟩)) (y_box rfl (by rw [g4, e9]; kernel_rfl)) ?_
 have h0 := h0.ext c9
 have h1 := h1.ext c9
 have hC := hC.ext c9
 have hO := hO.new1 c9 e9 a0.lt
 obtain ⟨f0, b3, g5, f1, c8, a2⟩ := new_block e8 [(.int .i64 op.1), (.slice pa1 pn1 pc1)] 36
 refine pl_val (w' := f0) (.pointer (some ⟨b3, 0, none⟩)) (y_box rfl (by rw [g5, f1]; kernel_rfl)) ?_
 have h0 := h0.ext c8
 have h1 := h1.ext c8
 have a0 := a0.cn c8
 have hC := hC.ext c8
 have hO := hO.new1 c8 f1 a2.lt
 obtain ⟨g6, a5, g7, f2, c7, a3⟩ := new_block f0 [(.int .i64 0), (.slice none 0 0)] 51
 refine pl_val (w' := g6) (.pointer (some ⟨a5, 0, none⟩)) (y_alloc (by rw [g7, f2]; kernel_rfl)) ?_
 have h0 := h0.ext c7
 have h1 := h1.ext c7
 have a0 := a0.cn c7
 have a2 := a2.cn c7
 have hC := hC.ext c7
 have hO := hO.new1 c7 f2 a3.lt
 refine pl_val (.bool false) (y_assign rfl) ?_
 refine c_nil ?_
 refine c_sr ?_
 refine pl_val (.agg #[(.int .i64 a_.1), (.slice pa0 pn0 pc0)]) (y_load rfl ((box_load Ag34 Sz34 a0 [] [(.int .i64 a_.1), (.slice pa0 pn0 pc0)] [] rfl rfl (fun h => nomatch h)) _ (Chg.refl _ _))) ?_
 obtain ⟨r7, g8, hs⟩ := bind_some hs
 refine pl_call Bd39 rfl (c_impl_allPairRelations (M := M) (a_.1, a_.2) h0 hO.fut g8) ?_
 rintro _ f3 ⟨b8, b9, c0, c3, rfl, c4, a1, g9⟩
 have h0 := h0.ext c4
 have h1 := h1.ext c4
 have a0 := a0.cn c4
 have a2 := a2.cn c4
 have a3 := a3.cn c4
 have hC := hC.ext c4
 have hO := Own.join0 hO c4 g9
 have hO := hO.perm (R := c3 ++ (([a5]) ++ (([b3]) ++ (([b0]) ++ ([]))))) (by simp)
 refine pl_val (.tuple #[(.slice b8 b9 c0), (.bool r7.2)]) (y_move rfl) ?_
 refine pl_val (.slice b8 b9 c0) (y_extract rfl (by kernel_rfl)) ?_
 refine pl_val (.bool r7.2) (y_extract rfl (by kernel_rfl)) ?_
 refine pl_val (.slice b8 b9 c0) (y_assign rfl) ?_
 refine pl_val (.bool r7.2) (y_assign rfl) ?_
 refine c_nil ?_
 refine c_seq ?_
 refine c_seq ?_
 obtain ⟨s9, h2, hs⟩ := bind_some hs
 refine c_mid (I := fun a f4 => ∃ (σ : Nat → Value), a = fr 47 (ovl σ [(2, (.pointer (some ⟨b0, 0, none⟩))), (3, (.pointer (some ⟨b3, 0, none⟩))), (4, (.pointer (some ⟨a5, 0, none⟩))), (5, (.bool false)), (6, (.slice b8 b9 c0)), (26, (.bool s9))]) ∧ Chg [] f3 f4) ?_ ?_
 ·replace hs := h2
  have hMid := Chg.refl [] f3
  refine c_region ?_
  refine pl_val (.bool r7.2) (y_move rfl) ?_
  refine pl_val (.bool (!r7.2)) (y_not rfl) ?_
  refine pl_val (.bool (!r7.2)) (y_move rfl) ?_
  rcases bif_some hs with ⟨a6, hs⟩ | ⟨a6, hs⟩
  ·skip
   refine pl_not (tg := 20) (by kernel_rfl) (congrArg Value.bool a6) ?_
   refine pl_not (tg := 20) (by kernel_rfl) (congrArg Value.bool a6) ?_
   refine pl_not (tg := 20) (by kernel_rfl) (congrArg Value.bool a6) ?_
   refine pl_not (tg := 20) (by kernel_rfl) (congrArg Value.bool a6) ?_
   refine pl_not (tg := 20) (by kernel_rfl) (congrArg Value.bool a6) ?_
   refine pl_val (.bool true) (y_pick_t (congrArg Value.bool a6) rfl) ?_
   refine c_nil ?_
   cases hs
   exact ⟨_, fr_ovl 47 ⟨rfl, rfl, rfl, rfl, rfl, rfl, trivial⟩, hMid⟩
  refine pl_yes (.agg #[(.int .i64 op.1), (.slice pa1 pn1 pc1)]) (tg := 20) (by kernel_rfl) (congrArg Value.bool a6) (y_load rfl ((box_load Ag36 Sz36 a2 [] [(.int .i64 op.1), (.slice pa1 pn1 pc1)] [] rfl rfl (fun h => nomatch h)) _ (Chg.refl _ _))) ?_
  refine pl_yes (.pointer (some ⟨b0, 0, none⟩)) (tg := 20) (by kernel_rfl) (congrArg Value.bool a6) (y_faddr rfl Fa34x0) ?_
  refine pl_yes (.int .i64 a_.1) (tg := 20) (by kernel_rfl) (congrArg Value.bool a6) (y_load rfl ((box_load Ag3 Sz3 a0 [] [(.int .i64 a_.1)] [(.slice pa0 pn0 pc0)] rfl rfl (fun _ => rfl)) _ (Chg.refl _ _))) ?_
  obtain ⟨r14, h3, hs⟩ := bind_some hs
  refine pl_cally (tg := 20) (by kernel_rfl) (congrArg Value.bool a6) Bd40 rfl (c_impl_isOp (M := M) (op.1, op.2) a_.1 h1 hO.fut h3) ?_
  rintro _ k1 ⟨rfl, b6⟩
  have h0 := h0.ext b6
  have h1 := h1.ext b6
  have a0 := a0.cn b6
  have a2 := a2.cn b6
  have a3 := a3.cn b6
  have a1 := a1.ext b6
  have hMid := hMid.ext b6
  have hC := hC.ext b6
  have hO := hO.ext b6
  refine pl_yes (.bool (!r14)) (tg := 20) (by kernel_rfl) (congrArg Value.bool a6) (y_not rfl) ?_
  refine pl_val (.bool (!r14)) (y_pick_f (congrArg Value.bool a6) rfl) ?_
  refine c_nil ?_
  cases hs
  exact ⟨_, fr_ovl 47 ⟨rfl, rfl, rfl, rfl, rfl, rfl, trivial⟩, hMid⟩
 rintro f5 f4 ⟨σ, rfl, c1⟩
 have h0 := h0.ext c1
 have h1 := h1.ext c1
 have a0 := a0.cn c1
 have a2 := a2.cn c1
 have a3 := a3.cn c1
 have a1 := a1.ext c1
 have hC := hC.ext c1
 have hO := hO.ext c1
 rcases bif_some hs with ⟨d3, hs⟩ | ⟨d3, hs⟩
 ·refine c_condT (congrArg Value.bool d3) ?_
  refine c_sr ?_
  refine pl_val (.agg #[(.int .i64 0), (.slice none 0 0)]) (y_build rfl (by kernel_rfl)) ?_
  obtain ⟨f6, h4, c5, d4⟩ := box_store (P := Try.prog) a3 [] [(.int .i64 0), (.slice none 0 0)] [] [(.int .i64 0), (.slice none 0 0)] rfl rfl (by intro u hu; simp only [List.mem_cons, List.not_mem_nil, or_false] at hu; rcases hu with rfl | rfl <;> rfl)
  refine pl_skip (w' := f6) (ys_store rfl rfl (h4 _ _ rfl Sz51)) ?_
  have hO := hO.fr1
  have h0 := h0.mt c5 hO same_
  have h1 := h1.mt c5 hO same_
  have a0 := a0.ap c5 hO same_ (mem_r (mem_r (mem_l (List.mem_singleton.2 rfl))))
  have a2 := a2.ap c5 hO same_ (mem_r (mem_l (List.mem_singleton.2 rfl)))
  have a1 := a1.ma c5 hO same_ (fun _ e => (mem_l (e)))
  have hC := hC.st c5 hO same_
  have hO := hO.ext c5
  have d4 : BoxV f6 a5 51 [(.int .i64 0), (.slice none 0 0)] := d4
  refine pl_val (.bool false) (y_assign rfl) ?_
  refine c_nil ?_
  refine wp_ret ?_
  cases hs
  have hO := hO.drop
  have hO := hO.drop
  have hO := hO.drop
  have hO := hO.drop
  have hO := hO.nil
  exact ⟨_, a5, none, 0, 0, [], fr_ovl 47 ⟨rfl, rfl, trivial⟩, d4, hC, os_nil, hO.top⟩
 refine c_condF (congrArg Value.bool d3) ?_
 refine wp_skip ?_
 refine c_seq ?_
 refine c_sr ?_
 refine pl_val (.slice b8 b9 c0) (y_move rfl) ?_
 refine pl_val (.int .i64 (r7.1.length : Int)) (y_len' Sl43 (os_len a1) rfl) ?_
 refine pl_val (.int .i64 0) (y_move rfl) ?_
 refine c_nil ?_
 obtain ⟨o32, h5, hs⟩ := bind_some hs
 refine wp_block ?_
 refine wp_forR (id := 0) (I := fun i_ xs_ s28 a a4 => ∃ k30 : Nat, i_ = (k30 : Int) ∧ List.drop k30 r7.1 = xs_ ∧ (∃ (σ : Nat → Value), a = fr 47 (ovl σ [(2, (.pointer (some ⟨b0, 0, none⟩))), (3, (.pointer (some ⟨b3, 0, none⟩))), (4, (.pointer (some ⟨a5, 0, none⟩))), (28, (.slice b8 b9 c0)), (29, (.int .i64 (r7.1.length : Int))), (30, (.int .i64 (k30 : Int)))]) ∧ Chg [] w a4 ∧ Own (Nw w []) M a4 (c3 ++ (([a5]) ++ (([b3]) ++ (([b0]) ++ [])))) ∧ (RT.rs (RT.pr (RT.int .i64) (RT.rs (RT.int .i64)))).val M a4 (.slice pa0 pn0 pc0) a_.2 ([]) ∧ (RT.rs (RT.int .i64)).val M a4 (.slice pa1 pn1 pc1) op.2 ([]) ∧ BoxV a4 b0 34 [(.int .i64 a_.1), (.slice pa0 pn0 pc0)] ∧ BoxV a4 b3 36 [(.int .i64 op.1), (.slice pa1 pn1 pc1)] ∧ BoxV a4 a5 51 [(.int .i64 0), (.slice none 0 0)] ∧ (RT.os 51 (RT.pr (RT.int .i64) (RT.os 25 (RT.os 3 (RT.int .i64))))).val M a4 (.slice b8 b9 c0) r7.1 c3)) (J := fun s28 a a4 => ∃ (σ : Nat → Value), a = fr 47 (ovl σ [(4, (.pointer (some ⟨a5, 0, none⟩)))]) ∧ Chg [] w a4 ∧ Own (Nw w []) M a4 (c3 ++ (([a5]) ++ (([b3]) ++ (([b0]) ++ [])))) ∧ (RT.rs (RT.pr (RT.int .i64) (RT.rs (RT.int .i64)))).val M a4 (.slice pa0 pn0 pc0) a_.2 ([]) ∧ (RT.rs (RT.int .i64)).val M a4 (.slice pa1 pn1 pc1) op.2 ([]) ∧ BoxV a4 b0 34 [(.int .i64 a_.1), (.slice pa0 pn0 pc0)] ∧ BoxV a4 b3 36 [(.int .i64 op.1), (.slice pa1 pn1 pc1)] ∧ BoxV a4 a5 51 [(.int .i64 0), (.slice none 0 0)] ∧ (RT.os 51 (RT.pr (RT.int .i64) (RT.os 25 (RT.os 3 (RT.int .i64))))).val M a4 (.slice b8 b9 c0) r7.1 c3) (K := (k_impl_FirstPairBroken M w)) ?_ ?_ r7.1 0 () o32 _ _ ?_ h5 ?_
 ·rintro _ s28 a a4 ⟨k30, rfl, hd, σ, rfl, hC, hO, h0, h1, a0, a2, a3, a1⟩
  have hlt := drop_nil_ge hd
  refine c_sr ?_
  refine pl_val (.bool (decide ((k30 : Int) < (r7.1.length : Int)))) (y_lss rfl rfl) ?_
  refine c_nil ?_
  refine c_seq ?_
  refine c_condF (congrArg Value.bool (decide_eq_false hlt)) ?_
  refine wp_exit ?_
  have hO := hO.fr3
  have hO := hO.fr3
  have hO := hO.fr3
  have hO := hO.fr3
  exact ⟨rfl, _, fr_ovl 47 ⟨rfl, trivial⟩, hC, hO, h0, h1, a0, a2, a3, a1⟩
 ·rintro _ x31 xs_ s28 o32 a a4 ⟨k30, rfl, hd, σ, rfl, hC, hO, h0, h1, a0, a2, a3, a1⟩ hs
  have hlt := drop_cons_lt hd
  have h6 := drop_cons_idx hd
  refine c_sr ?_
  refine pl_val (.bool (decide ((k30 : Int) < (r7.1.length : Int)))) (y_lss rfl rfl) ?_
  refine c_nil ?_
  refine c_seq ?_
  refine c_condT (congrArg Value.bool (decide_eq_true hlt)) ?_
  refine wp_skip ?_
  refine c_seq ?_
  refine wp_block ?_
  refine c_sr ?_
  obtain ⟨d5, k2, d6, k3, h7, h8, h9⟩ := os_idx Sl43 Sz51 a1 h6
  have i0 := own_row (Frz.pr Frz.int (Frz.os (Frz.os Frz.int))) h8 h9
  refine pl_val (.pointer (some ⟨d5, 0 + Int.toNat (k30 : Int) * 2, none⟩)) (h7 _ _ _ _ _ _ _ _ _ rfl rfl) ?_
  obtain ⟨k4, i1, hrow35, i2⟩ := at_load2 Ag51 Sz51 rfl i0
  obtain ⟨k5, k6, rfl, i3, i4⟩ := pr_open i2
  obtain rfl := int_rel i3
  obtain ⟨a7, a8, a9, rfl, b7⟩ := rs_rel i4
  refine pl_val (.agg #[(.int .i64 x31.1), (.slice a7 a8 a9)]) (y_load rfl (i1 _ (Chg.refl _ _))) ?_
  obtain ⟨i5, d0, i6, f7, b4, f8⟩ := new_block a4 [(.int .i64 0), (.slice none 0 0)] 51
  refine pl_val (w' := i5) (.pointer (some ⟨d0, 0, none⟩)) (y_alloc (by rw [i6, f7]; kernel_rfl)) ?_
  have h0 := h0.ext b4
  have h1 := h1.ext b4
  have a0 := a0.cn b4
  have a2 := a2.cn b4
  have a3 := a3.cn b4
  have a1 := a1.ext b4
  have b7 := b7.ext b4
  have hrow35 := hrow35.cn b4
  have hC := hC.ext b4
  have hO := hO.new1 b4 f7 f8.lt
  obtain ⟨f9, i7, b5, c2⟩ := box_store (P := Try.prog) f8 [] [(.int .i64 0), (.slice none 0 0)] [] [(.int .i64 x31.1), (.slice a7 a8 a9)] rfl rfl (by intro u hu; simp only [List.mem_cons, List.not_mem_nil, or_false] at hu; rcases hu with rfl | rfl <;> rfl)
  refine pl_skip (w' := f9) (ys_store rfl rfl (i7 _ _ rfl Sz51)) ?_
  have h0 := h0.mt b5 hO same_
  have h1 := h1.mt b5 hO same_
  have a0 := a0.ap b5 hO same_ (mem_r (mem_r (mem_r (mem_l (List.mem_singleton.2 rfl)))))
  have a2 := a2.ap b5 hO same_ (mem_r (mem_r (mem_l (List.mem_singleton.2 rfl))))
  have a3 := a3.ap b5 hO same_ (mem_r (mem_l (List.mem_singleton.2 rfl)))
  have a1 := a1.ma b5 hO same_ (fun _ e => (mem_l (e)))
  have hrow35 := hrow35.ap b5 hO same_ (mem_l (os_block a1 d5 (by rw [d6]; exact List.mem_singleton.2 rfl)))
  have b7 := b7.mut b5 (fun g hg => ⟨hO.inM g ((fun _ h => h) g hg), fun e => hO.apart g ((fun _ h => h) g hg) (mem_l (e))⟩) (fun _ _ h => nomatch h)
  have hC := hC.st b5 hO same_
  have hO := hO.ext b5
  have c2 : BoxV f9 d0 51 [(.int .i64 x31.1), (.slice a7 a8 a9)] := c2
  refine c_nil ?_
  refine c_sr ?_
  refine pl_val (.pointer (some ⟨b0, 0, none⟩)) (y_faddr rfl Fa34x0) ?_
  refine pl_val (.int .i64 a_.1) (y_load rfl ((box_load Ag3 Sz3 a0 [] [(.int .i64 a_.1)] [(.slice pa0 pn0 pc0)] rfl rfl (fun _ => rfl)) _ (Chg.refl _ _))) ?_
  refine pl_val (.agg #[(.int .i64 op.1), (.slice pa1 pn1 pc1)]) (y_load rfl ((box_load Ag36 Sz36 a2 [] [(.int .i64 op.1), (.slice pa1 pn1 pc1)] [] rfl rfl (fun h => nomatch h)) _ (Chg.refl _ _))) ?_
  refine pl_val (.agg #[(.int .i64 x31.1), (.slice a7 a8 a9)]) (y_load rfl ((box_load Ag51 Sz51 c2 [] [(.int .i64 x31.1), (.slice a7 a8 a9)] [] rfl rfl (fun h => nomatch h)) _ (Chg.refl _ _))) ?_
  have hO := hO.fr1
  obtain ⟨r40, i9, hs⟩ := bind_some hs
  refine pl_call Bd51 rfl (c_impl_firstBreak (M := (Less M c3)) a_.1 (op.1, op.2) (x31.1, x31.2) (h1.sub Less.sub) b7 hO.less.fut i9) ?_
  rintro _ k7 ⟨d7, d8, d9, g0, e0, e1, e2, g1, rfl, b2, d1, d2, j0⟩
  have h0 := h0.ext b2
  have h1 := h1.ext b2
  have a0 := a0.cn b2
  have a2 := a2.cn b2
  have a3 := a3.cn b2
  have a1 := a1.ext b2
  have b7 := b7.ext b2
  have hrow35 := hrow35.cn b2
  have c2 := c2.cn b2
  have hC := hC.ext b2
  have hO := Own.join0 hO b2 j0
  have hO := hO.perm (R := g0 ++ (g1 ++ (c3 ++ (([d0]) ++ (([a5]) ++ (([b3]) ++ (([b0]) ++ ([])))))))) (by simp)
  have d1 := d1.free (M' := M) (Free.os Free.int)
  have d2 := d2.free (M' := M) (Free.os Free.int)
  refine pl_val (.tuple #[(.slice d7 d8 d9), (.slice e0 e1 e2), (.bool r40.2.2)]) (y_move rfl) ?_
  refine pl_val (.slice d7 d8 d9) (y_extract rfl (by kernel_rfl)) ?_
  refine pl_val (.slice e0 e1 e2) (y_extract rfl (by kernel_rfl)) ?_
  refine pl_val (.bool r40.2.2) (y_extract rfl (by kernel_rfl)) ?_
  refine pl_val (.slice d7 d8 d9) (y_assign rfl) ?_
  refine pl_val (.slice e0 e1 e2) (y_assign rfl) ?_
  refine pl_val (.bool r40.2.2) (y_assign rfl) ?_
  refine c_nil ?_
  refine c_sr ?_
  refine pl_val (.bool r40.2.2) (y_move rfl) ?_
  refine c_nil ?_
  rcases bif_some hs with ⟨e3, hs⟩ | ⟨e3, hs⟩
  ·refine c_condT (congrArg Value.bool e3) ?_
   refine c_sr ?_
   refine pl_val (.agg #[(.int .i64 x31.1), (.slice a7 a8 a9)]) (y_load rfl ((box_load Ag51 Sz51 c2 [] [(.int .i64 x31.1), (.slice a7 a8 a9)] [] rfl rfl (fun h => nomatch h)) _ (Chg.refl _ _))) ?_
   obtain ⟨e4, j1, b1, e5⟩ := box_store (P := Try.prog) a3 [] [(.int .i64 0), (.slice none 0 0)] [] [(.int .i64 x31.1), (.slice a7 a8 a9)] rfl rfl (by intro u hu; simp only [List.mem_cons, List.not_mem_nil, or_false] at hu; rcases hu with rfl | rfl <;> rfl)
   refine pl_skip (w' := e4) (ys_store rfl rfl (j1 _ _ rfl Sz51)) ?_
   have hO := hO.fr4
   have h0 := h0.mt b1 hO same_
   have h1 := h1.mt b1 hO same_
   have a0 := a0.ap b1 hO same_ (mem_r (mem_r (mem_r (mem_r (mem_r (mem_l (List.mem_singleton.2 rfl)))))))
   have a2 := a2.ap b1 hO same_ (mem_r (mem_r (mem_r (mem_r (mem_l (List.mem_singleton.2 rfl))))))
   have a1 := a1.ma b1 hO same_ (fun _ e => (mem_r (mem_r (mem_l (e)))))
   have hrow35 := hrow35.ap b1 hO same_ (mem_r (mem_r (mem_l (os_block a1 d5 (by rw [d6]; exact List.mem_singleton.2 rfl)))))
   have b7 := b7.mut b1 (fun g hg => ⟨hO.inM g ((fun _ h => h) g hg), fun e => hO.apart g ((fun _ h => h) g hg) (mem_r (mem_r (mem_l (e))))⟩) (fun _ _ h => nomatch h)
   have c2 := c2.ap b1 hO same_ (mem_r (mem_r (mem_r (mem_l (List.mem_singleton.2 rfl)))))
   have d1 := d1.ma b1 hO same_ (fun _ e => (mem_l (e)))
   have d2 := d2.ma b1 hO same_ (fun _ e => (mem_r (mem_l (e))))
   have hC := hC.st b1 hO same_
   have hO := hO.ext b1
   have e5 : BoxV e4 a5 51 [(.int .i64 x31.1), (.slice a7 a8 a9)] := e5
   refine pl_val (.bool true) (y_assign rfl) ?_
   refine c_nil ?_
   refine wp_ret ?_
   have a1 := os_hole a1
   obtain ⟨o46, j2, hs⟩ := bind_some hs
   obtain ⟨x47, j3, hs⟩ := bind_some hs
   have hO := hO.fr3
   obtain ⟨k8, j4, j5, k9, j6, l0⟩ := oh_take (c := [(.int .i64 x31.1), (.slice a7 a8 a9)]) d6 a1 (j2.trans (congrArg some j3)) hrow35 rfl
   have hO := hO.split j6
   obtain ⟨l1, e6, rfl, j7, j8⟩ := pr_split (c := [(.int .i64 x31.1)]) (d := [(.slice a7 a8 a9)]) j5 rfl
   obtain rfl := int_fp j7
   have j9 : (RT.os 25 (RT.os 3 (RT.int .i64))).val M e4 (.slice a7 a8 a9) x47.2 e6 := ⟨[_], rfl, j8⟩
   have hO := hO.perm (R := e6 ++ (j4 ++ (([a5]) ++ (g0 ++ (g1 ++ (([d0]) ++ (([b3]) ++ (([b0]) ++ ([]))))))))) (by simp)
   cases hs
   have hO := hO.fr1
   have hO := hO.drop
   have hO := hO.fr1
   have hO := hO.drop
   have hO := hO.fr1
   have hO := hO.drop
   have hO := hO.fr1
   have hO := hO.drop
   have hO := hO.fr1
   have hO := hO.drop
   have hO := hO.fr1
   have hO := hO.drop
   have hO := hO.fr1
   have hO := hO.drop
   exact ⟨_, a5, a7, a8, a9, e6, fr_ovl 47 ⟨rfl, rfl, trivial⟩, e5, hC, j9, hO.top⟩
  refine c_condF (congrArg Value.bool e3) ?_
  refine wp_skip ?_
  refine c_region ?_
  refine pl_val (.int .i64 (w64 ((k30 : Int) + 1))) (y_add rfl rfl) ?_
  refine pl_val (.int .i64 (w64 ((k30 : Int) + 1))) (y_move rfl) ?_
  refine c_nil ?_
  cases hs
  have hO := hO.drop
  have hO := hO.drop
  have hO := hO.fr1
  have hO := hO.drop
  have hO := hO.fr3
  have hO := hO.fr3
  have hO := hO.fr3
  have hO := hO.fr3
  exact ⟨_, rfl, drop_cons_next hd, _, fr_ovl 47 ⟨rfl, rfl, rfl, rfl, rfl, congrArg (Value.int .i64) (w64_succ hlt (Int.natCast_nonneg _) (os_max a1)), trivial⟩, hC, hO, h0, h1, a0, a2, a3, a1⟩
 ·skip
  have hO := hO.fr3
  have hO := hO.fr3
  have hO := hO.fr3
  have hO := hO.fr3
  exact ⟨0, rfl, rfl, _, fr_ovl 47 ⟨rfl, rfl, rfl, rfl, rfl, rfl, trivial⟩, hC, hO, h0, h1, a0, a2, a3, a1⟩
 cases o32 with
 | nx _ => exact True.intro
 | rt r_ =>
  have hs := after_rt hs
  intro f5 g3 hK
  cases hs
  exact hK
 | br s28 =>
  have hs := after_br hs
  rintro f5 a4 ⟨σ, rfl, hC, hO, h0, h1, a0, a2, a3, a1⟩
  refine c_sr ?_
  refine pl_val (.agg #[(.int .i64 0), (.slice none 0 0)]) (y_build rfl (by kernel_rfl)) ?_
  obtain ⟨g2, k0, c6, e7⟩ := box_store (P := Try.prog) a3 [] [(.int .i64 0), (.slice none 0 0)] [] [(.int .i64 0), (.slice none 0 0)] rfl rfl (by intro u hu; simp only [List.mem_cons, List.not_mem_nil, or_false] at hu; rcases hu with rfl | rfl <;> rfl)
  refine pl_skip (w' := g2) (ys_store rfl rfl (k0 _ _ rfl Sz51)) ?_
  have hO := hO.fr1
  have h0 := h0.mt c6 hO same_
  have h1 := h1.mt c6 hO same_
  have a0 := a0.ap c6 hO same_ (mem_r (mem_r (mem_l (List.mem_singleton.2 rfl))))
  have a2 := a2.ap c6 hO same_ (mem_r (mem_l (List.mem_singleton.2 rfl)))
  have a1 := a1.ma c6 hO same_ (fun _ e => (mem_l (e)))
  have hC := hC.st c6 hO same_
  have hO := hO.ext c6
  have e7 : BoxV g2 a5 51 [(.int .i64 0), (.slice none 0 0)] := e7
  refine pl_val (.bool false) (y_assign rfl) ?_
  refine c_nil ?_
  refine wp_ret ?_
  cases hs
  have hO := hO.drop
  have hO := hO.drop
  have hO := hO.drop
  have hO := hO.drop
  have hO := hO.nil
  exact ⟨_, a5, none, 0, 0, [], fr_ovl 47 ⟨rfl, rfl, trivial⟩, e7, hC, os_nil, hO.top⟩

def k_laws_eqIntS (M : Nat → Prop) (w0 : World) (r : Bool) (a : Act) (w : World) : Prop :=
  ∃ (σ : Nat → Value) , a = fr 26 (ovl σ [(4, (.bool r))]) ∧ Chg [] w0 w
def s_laws_eqIntS (a_ : List Int) (b : List Int) : Option (Bool) :=
  (bif ((a_.length : Int) != (b.length : Int)) then some false else (forC (S := Unit) (R := Bool) (fun k12 s10 =>
  (idx a_ k12).bind fun x17 =>
  (idx b k12).bind fun x19 =>
  (bif (x17 != x19) then some (.rt false) else some (.nx ()))) 0 (a_.length : Int) ()).bind fun o14 => after o14 (fun r_ => some r_) (fun s10 =>
  some true))
set_option maxHeartbeats 4000000 in
theorem c_laws_eqIntS {M : Nat → Prop} {w : World} {pa0 : Option Addr} {pn0 pc0 : Nat} {pa1 : Option Addr} {pn1 pc1 : Nat} (a_ : List Int) (b : List Int) (h0 : (RT.rs (RT.int .i64)).val M w (.slice pa0 pn0 pc0) a_ ([])) (h1 : (RT.rs (RT.int .i64)).val M w (.slice pa1 pn1 pc1) b ([])) (hM : ∀ g, w.heap.size ≤ g → M g) {r : Bool} (hs : s_laws_eqIntS a_ b = some r) :
    Gives Try.prog 43 [(.slice pa0 pn0 pc0), (.slice pa1 pn1 pc1)] w (fun v w' => v = (.bool r) ∧ Chg [] w w') := by
 refine calls_fr Try.func43 rfl Try.ntmps43 (Nat.le_of_ble_eq_true rfl) ?_
 have hO := Own.start (N := Nw w []) hM Nw.fut
 have hC := Chg.refl [] w
 unfold s_laws_eqIntS at hs
 refine wp_mono (Q := KPost (k_laws_eqIntS M w r)) ?_ (fun e a a4 h => ?_)
 rotate_left
 ·cases e
  case ret =>
   obtain ⟨σ, rfl, hrest⟩ := h
   exact ret1x Try.results43 (res_tmp rfl) ⟨rfl, hrest⟩
  all_goals exact (h : False).elim
 refine c_sr ?_
 refine pl_val (.bool false) (y_assign rfl) ?_
 refine c_nil ?_
 refine c_seq ?_
 refine c_sr ?_
 refine pl_val (.slice pa0 pn0 pc0) (y_move rfl) ?_
 refine pl_val (.int .i64 (a_.length : Int)) (y_len' Sl25 (rs_len h0) rfl) ?_
 refine pl_val (.slice pa1 pn1 pc1) (y_move rfl) ?_
 refine pl_val (.int .i64 (b.length : Int)) (y_len' Sl25 (rs_len h1) rfl) ?_
 refine pl_val (.bool ((a_.length : Int) != (b.length : Int))) (y_neq rfl rfl) ?_
 refine c_nil ?_
 rcases bif_some hs with ⟨a2, hs⟩ | ⟨a2, hs⟩
 ·refine c_condT (congrArg Value.bool a2) ?_
  refine c_sr ?_
  refine pl_val (.bool false) (y_assign rfl) ?_
  refine c_nil ?_
  refine wp_ret ?_
  cases hs
  exact ⟨_, fr_ovl 26 ⟨rfl, trivial⟩, hC⟩
 refine c_condF (congrArg Value.bool a2) ?_
 refine wp_skip ?_
 refine c_seq ?_
 refine c_sr ?_
 refine pl_val (.int .i64 0) (y_assign rfl) ?_
 refine c_nil ?_
 obtain ⟨o14, a5, hs⟩ := bind_some hs
 refine wp_block ?_
 refine wp_forC (id := 0) (a_.length : Int) (I := fun k12 s10 a a0 => ∃ (σ : Nat → Value), a = fr 26 (ovl σ [(0, (.slice pa0 pn0 pc0)), (1, (.slice pa1 pn1 pc1)), (5, (.int .i64 k12))]) ∧ Chg [] w a0 ∧ Own (Nw w []) M a0 ([]) ∧ (RT.rs (RT.int .i64)).val M a0 (.slice pa0 pn0 pc0) a_ ([]) ∧ (RT.rs (RT.int .i64)).val M a0 (.slice pa1 pn1 pc1) b ([])) (J := fun s10 a a0 => ∃ (σ : Nat → Value), a = fr 26 (ovl σ []) ∧ Chg [] w a0 ∧ Own (Nw w []) M a0 ([]) ∧ (RT.rs (RT.int .i64)).val M a0 (.slice pa0 pn0 pc0) a_ ([]) ∧ (RT.rs (RT.int .i64)).val M a0 (.slice pa1 pn1 pc1) b ([])) (K := (k_laws_eqIntS M w)) ?_ ?_ 0 () o14 _ _ ?_ a5 ?_
 ·rintro k12 s10 a a0 ⟨σ, rfl, hC, hO, h0, h1⟩ hlt
  refine c_seq ?_
  refine c_sr ?_
  refine pl_val (.int .i64 k12) (y_move rfl) ?_
  refine pl_val (.slice pa0 pn0 pc0) (y_move rfl) ?_
  refine pl_val (.int .i64 (a_.length : Int)) (y_len' Sl25 (rs_len h0) rfl) ?_
  refine pl_val (.bool (decide (k12 < (a_.length : Int)))) (y_lss rfl rfl) ?_
  refine c_nil ?_
  refine c_condF (congrArg Value.bool (decide_eq_false hlt)) ?_
  refine wp_exit ?_
  exact ⟨rfl, _, fr_ovl 26 trivial, hC, hO, h0, h1⟩
 ·rintro k12 s10 o14 a a0 ⟨σ, rfl, hC, hO, h0, h1⟩ hlt hw hs
  refine c_seq ?_
  refine c_sr ?_
  refine pl_val (.int .i64 k12) (y_move rfl) ?_
  refine pl_val (.slice pa0 pn0 pc0) (y_move rfl) ?_
  refine pl_val (.int .i64 (a_.length : Int)) (y_len' Sl25 (rs_len h0) rfl) ?_
  refine pl_val (.bool (decide (k12 < (a_.length : Int)))) (y_lss rfl rfl) ?_
  refine c_nil ?_
  refine c_condT (congrArg Value.bool (decide_eq_true hlt)) ?_
  refine wp_skip ?_
  refine c_seq ?_
  refine wp_block ?_
  refine c_seq ?_
  refine x_start [] Mx rfl ?_
  have a1 := Chg.drew a0
  generalize World.drew a0 = a6 at a1 ⊢
  have h0 := h0.ext a1
  have h1 := h1.ext a1
  have hC := hC.ext a1
  have hO := hO.ext a1
  have hS := Chg.refl [] a6
  refine x_p 0 (.slice pa0 pn0 pc0) rfl (by kernel_rfl)  (fun _ => y_move rfl) (fun _ => hS) ?_
  refine x_p 1 (.int .i64 k12) rfl (by kernel_rfl)  (fun _ => y_move rfl) (fun _ => hS) ?_
  obtain ⟨x17, a7, hs⟩ := bind_some hs
  obtain ⟨a8, a9, b0, b1⟩ := rs_idx Sl25 Sz3 h0 a7
  refine x_p 2 (.pointer (some ⟨a8, a9, none⟩)) rfl (by kernel_rfl)  (fun _ => b0 _ _ _ _ _ _ _ _ _ rfl rfl) (fun _ => hS) ?_
  refine x_l 3 (.int .i64 x17) rfl (by kernel_rfl)  (fun w' hw' => y_load rfl ((at_load_int Ag3 Sz3 b1) w' hw')) hS ?_
  refine x_p 4 (.slice pa1 pn1 pc1) rfl (by kernel_rfl)  (fun _ => y_move rfl) (fun _ => hS) ?_
  refine x_p 5 (.int .i64 k12) rfl (by kernel_rfl)  (fun _ => y_move rfl) (fun _ => hS) ?_
  obtain ⟨x19, b2, hs⟩ := bind_some hs
  obtain ⟨b3, b4, b5, b6⟩ := rs_idx Sl25 Sz3 h1 b2
  refine x_p 6 (.pointer (some ⟨b3, b4, none⟩)) rfl (by kernel_rfl)  (fun _ => b5 _ _ _ _ _ _ _ _ _ rfl rfl) (fun _ => hS) ?_
  refine x_l 7 (.int .i64 x19) rfl (by kernel_rfl)  (fun w' hw' => y_load rfl ((at_load_int Ag3 Sz3 b6) w' hw')) hS ?_
  refine x_p 8 (.bool (x17 != x19)) rfl (by kernel_rfl)  (fun _ => y_neq rfl rfl) (fun _ => hS) ?_
  refine x_end (by kernel_rfl) ?_
  clear hS
  rcases bif_some hs with ⟨a3, hs⟩ | ⟨a3, hs⟩
  ·refine c_condT (congrArg Value.bool a3) ?_
   refine c_sr ?_
   refine pl_val (.bool false) (y_assign rfl) ?_
   refine c_nil ?_
   refine wp_ret ?_
   cases hs
   exact ⟨_, fr_ovl 26 ⟨rfl, trivial⟩, hC⟩
  refine c_condF (congrArg Value.bool a3) ?_
  refine wp_skip ?_
  refine c_region ?_
  refine pl_val (.int .i64 k12) (y_move rfl) ?_
  refine pl_val (.int .i64 (w64 (k12 + 1))) (y_add rfl rfl) ?_
  refine pl_val (.int .i64 (w64 (k12 + 1))) (y_assign rfl) ?_
  refine c_nil ?_
  cases hs
  exact ⟨_, fr_ovl 26 ⟨rfl, rfl, congrArg (Value.int .i64) hw, trivial⟩, hC, hO, h0, h1⟩
 ·skip
  exact ⟨_, fr_ovl 26 ⟨rfl, rfl, rfl, trivial⟩, hC, hO, h0, h1⟩
 cases o14 with
 | nx _ => exact True.intro
 | rt r_ =>
  have hs := after_rt hs
  intro b7 a4 hK
  cases hs
  exact hK
 | br s10 =>
  have hs := after_br hs
  rintro b7 a0 ⟨σ, rfl, hC, hO, h0, h1⟩
  refine c_sr ?_
  refine pl_val (.bool true) (y_assign rfl) ?_
  refine c_nil ?_
  refine wp_ret ?_
  cases hs
  exact ⟨_, fr_ovl 26 ⟨rfl, trivial⟩, hC⟩

theorem Bd43 : Bodied Try.prog 43 := bodied Try.func43 (by kernel_rfl) rfl

def k_laws_eqIntSS (M : Nat → Prop) (w0 : World) (r : Bool) (a : Act) (w : World) : Prop :=
  ∃ (σ : Nat → Value) , a = fr 27 (ovl σ [(4, (.bool r))]) ∧ Chg [] w0 w
def s_laws_eqIntSS (a_ : List (List Int)) (b : List (List Int)) : Option (Bool) :=
  (bif ((a_.length : Int) != (b.length : Int)) then some false else (forC (S := Unit) (R := Bool) (fun k18 s16 =>
  (idx a_ k18).bind fun x23 =>
  (idx b k18).bind fun x27 =>
  (s_laws_eqIntS x23 x27).bind fun r32 =>
  (bif (!r32) then some (.rt false) else some (.nx ()))) 0 (a_.length : Int) ()).bind fun o20 => after o20 (fun r_ => some r_) (fun s16 =>
  some true))
set_option maxHeartbeats 4000000 in
theorem c_laws_eqIntSS {M : Nat → Prop} {w : World} {pa0 : Option Addr} {pn0 pc0 : Nat} {pa1 : Option Addr} {pn1 pc1 : Nat} (a_ : List (List Int)) (b : List (List Int)) (h0 : (RT.rs (RT.rs (RT.int .i64))).val M w (.slice pa0 pn0 pc0) a_ ([])) (h1 : (RT.rs (RT.rs (RT.int .i64))).val M w (.slice pa1 pn1 pc1) b ([])) (hM : ∀ g, w.heap.size ≤ g → M g) {r : Bool} (hs : s_laws_eqIntSS a_ b = some r) :
    Gives Try.prog 52 [(.slice pa0 pn0 pc0), (.slice pa1 pn1 pc1)] w (fun v w' => v = (.bool r) ∧ Chg [] w w') := by
 refine calls_fr Try.func52 rfl Try.ntmps52 (Nat.le_of_ble_eq_true rfl) ?_
 have hO := Own.start (N := Nw w []) hM Nw.fut
 have hC := Chg.refl [] w
 unfold s_laws_eqIntSS at hs
 refine wp_mono (Q := KPost (k_laws_eqIntSS M w r)) ?_ (fun e a a7 h => ?_)
 rotate_left
 ·cases e
  case ret =>
   obtain ⟨σ, rfl, hrest⟩ := h
   exact ret1x Try.results52 (res_tmp rfl) ⟨rfl, hrest⟩
  all_goals exact (h : False).elim
 refine c_sr ?_
 refine pl_val (.bool false) (y_assign rfl) ?_
 refine c_nil ?_
 refine c_seq ?_
 refine c_sr ?_
 refine pl_val (.slice pa0 pn0 pc0) (y_move rfl) ?_
 refine pl_val (.int .i64 (a_.length : Int)) (y_len' Sl49 (rs_len h0) rfl) ?_
 refine pl_val (.slice pa1 pn1 pc1) (y_move rfl) ?_
 refine pl_val (.int .i64 (b.length : Int)) (y_len' Sl49 (rs_len h1) rfl) ?_
 refine pl_val (.bool ((a_.length : Int) != (b.length : Int))) (y_neq rfl rfl) ?_
 refine c_nil ?_
 rcases bif_some hs with ⟨a5, hs⟩ | ⟨a5, hs⟩
 ·refine c_condT (congrArg Value.bool a5) ?_
  refine c_sr ?_
  refine pl_val (.bool false) (y_assign rfl) ?_
  refine c_nil ?_
  refine wp_ret ?_
  cases hs
  exact ⟨_, fr_ovl 27 ⟨rfl, trivial⟩, hC⟩
 refine c_condF (congrArg Value.bool a5) ?_
 refine wp_skip ?_
 refine c_seq ?_
 refine c_sr ?_
 refine pl_val (.int .i64 0) (y_assign rfl) ?_
 refine c_nil ?_
 obtain ⟨o20, a8, hs⟩ := bind_some hs
 refine wp_block ?_
 refine wp_forC (id := 0) (a_.length : Int) (I := fun k18 s16 a a0 => ∃ (σ : Nat → Value), a = fr 27 (ovl σ [(0, (.slice pa0 pn0 pc0)), (1, (.slice pa1 pn1 pc1)), (5, (.int .i64 k18))]) ∧ Chg [] w a0 ∧ Own (Nw w []) M a0 ([]) ∧ (RT.rs (RT.rs (RT.int .i64))).val M a0 (.slice pa0 pn0 pc0) a_ ([]) ∧ (RT.rs (RT.rs (RT.int .i64))).val M a0 (.slice pa1 pn1 pc1) b ([])) (J := fun s16 a a0 => ∃ (σ : Nat → Value), a = fr 27 (ovl σ []) ∧ Chg [] w a0 ∧ Own (Nw w []) M a0 ([]) ∧ (RT.rs (RT.rs (RT.int .i64))).val M a0 (.slice pa0 pn0 pc0) a_ ([]) ∧ (RT.rs (RT.rs (RT.int .i64))).val M a0 (.slice pa1 pn1 pc1) b ([])) (K := (k_laws_eqIntSS M w)) ?_ ?_ 0 () o20 _ _ ?_ a8 ?_
 ·rintro k18 s16 a a0 ⟨σ, rfl, hC, hO, h0, h1⟩ hlt
  refine c_seq ?_
  refine c_sr ?_
  refine pl_val (.int .i64 k18) (y_move rfl) ?_
  refine pl_val (.slice pa0 pn0 pc0) (y_move rfl) ?_
  refine pl_val (.int .i64 (a_.length : Int)) (y_len' Sl49 (rs_len h0) rfl) ?_
  refine pl_val (.bool (decide (k18 < (a_.length : Int)))) (y_lss rfl rfl) ?_
  refine c_nil ?_
  refine c_condF (congrArg Value.bool (decide_eq_false hlt)) ?_
  refine wp_exit ?_
  exact ⟨rfl, _, fr_ovl 27 trivial, hC, hO, h0, h1⟩
 ·rintro k18 s16 o20 a a0 ⟨σ, rfl, hC, hO, h0, h1⟩ hlt hw hs
  refine c_seq ?_
  refine c_sr ?_
  refine pl_val (.int .i64 k18) (y_move rfl) ?_
  refine pl_val (.slice pa0 pn0 pc0) (y_move rfl) ?_
  refine pl_val (.int .i64 (a_.length : Int)) (y_len' Sl49 (rs_len h0) rfl) ?_
  refine pl_val (.bool (decide (k18 < (a_.length : Int)))) (y_lss rfl rfl) ?_
  refine c_nil ?_
  refine c_condT (congrArg Value.bool (decide_eq_true hlt)) ?_
  refine wp_skip ?_
  refine c_seq ?_
  refine wp_block ?_
  refine c_seq ?_
  refine x_start [] Mx rfl ?_
  have a2 := Chg.drew a0
  generalize World.drew a0 = a9 at a2 ⊢
  have h0 := h0.ext a2
  have h1 := h1.ext a2
  have hC := hC.ext a2
  have hO := hO.ext a2
  have hS := Chg.refl [] a9
  refine x_p 0 (.slice pa0 pn0 pc0) rfl (by kernel_rfl)  (fun _ => y_move rfl) (fun _ => hS) ?_
  refine x_p 1 (.int .i64 k18) rfl (by kernel_rfl)  (fun _ => y_move rfl) (fun _ => hS) ?_
  obtain ⟨x23, b0, hs⟩ := bind_some hs
  obtain ⟨b1, b2, b3, b4⟩ := rs_idx Sl49 Sz25 h0 b0
  refine x_p 2 (.pointer (some ⟨b1, b2, none⟩)) rfl (by kernel_rfl)  (fun _ => b3 _ _ _ _ _ _ _ _ _ rfl rfl) (fun _ => hS) ?_
  obtain ⟨d0, b5, a3⟩ := at_load Ag25 Sz25 (fun _ => rfl) b4
  obtain ⟨b6, b7, b8, rfl⟩ := rs_sl a3
  refine x_l 3 (.slice b6 b7 b8) rfl (by kernel_rfl)  (fun w' hw' => y_load rfl (b5 w' hw')) hS ?_
  refine x_p 4 (.slice pa1 pn1 pc1) rfl (by kernel_rfl)  (fun _ => y_move rfl) (fun _ => hS) ?_
  refine x_p 5 (.int .i64 k18) rfl (by kernel_rfl)  (fun _ => y_move rfl) (fun _ => hS) ?_
  obtain ⟨x27, b9, hs⟩ := bind_some hs
  obtain ⟨c0, c1, c2, c3⟩ := rs_idx Sl49 Sz25 h1 b9
  refine x_p 6 (.pointer (some ⟨c0, c1, none⟩)) rfl (by kernel_rfl)  (fun _ => c2 _ _ _ _ _ _ _ _ _ rfl rfl) (fun _ => hS) ?_
  obtain ⟨d1, c4, a4⟩ := at_load Ag25 Sz25 (fun _ => rfl) c3
  obtain ⟨c5, c6, c7, rfl⟩ := rs_sl a4
  refine x_l 7 (.slice c5 c6 c7) rfl (by kernel_rfl)  (fun w' hw' => y_load rfl (c4 w' hw')) hS ?_
  refine x_one (i := 8) (by kernel_rfl) ?_
  obtain ⟨r32, c8, hs⟩ := bind_some hs
  refine xk_call (b := false) rfl  Bd43 rfl (c_laws_eqIntS (M := M) x23 x27 a3 a4 hO.fut c8) rfl (by rintro _ _ _ ⟨rfl, a1⟩; exact hS.ext a1) ?_
  rintro _ d2 ⟨rfl, a1⟩
  have h0 := h0.ext a1
  have h1 := h1.ext a1
  have a3 := a3.ext a1
  have a4 := a4.ext a1
  have hC := hC.ext a1
  have hO := hO.ext a1
  have hS := hS.ext a1
  refine x_p 9 (.bool (!r32)) rfl (by kernel_rfl)  (fun _ => y_not rfl) (fun _ => hS) ?_
  refine x_end (by kernel_rfl) ?_
  clear hS
  rcases bif_some hs with ⟨a6, hs⟩ | ⟨a6, hs⟩
  ·refine c_condT (congrArg Value.bool a6) ?_
   refine c_sr ?_
   refine pl_val (.bool false) (y_assign rfl) ?_
   refine c_nil ?_
   refine wp_ret ?_
   cases hs
   exact ⟨_, fr_ovl 27 ⟨rfl, trivial⟩, hC⟩
  refine c_condF (congrArg Value.bool a6) ?_
  refine wp_skip ?_
  refine c_region ?_
  refine pl_val (.int .i64 k18) (y_move rfl) ?_
  refine pl_val (.int .i64 (w64 (k18 + 1))) (y_add rfl rfl) ?_
  refine pl_val (.int .i64 (w64 (k18 + 1))) (y_assign rfl) ?_
  refine c_nil ?_
  cases hs
  exact ⟨_, fr_ovl 27 ⟨rfl, rfl, congrArg (Value.int .i64) hw, trivial⟩, hC, hO, h0, h1⟩
 ·skip
  exact ⟨_, fr_ovl 27 ⟨rfl, rfl, rfl, trivial⟩, hC, hO, h0, h1⟩
 cases o20 with
 | nx _ => exact True.intro
 | rt r_ =>
  have hs := after_rt hs
  intro c9 a7 hK
  cases hs
  exact hK
 | br s16 =>
  have hs := after_br hs
  rintro c9 a0 ⟨σ, rfl, hC, hO, h0, h1⟩
  refine c_sr ?_
  refine pl_val (.bool true) (y_assign rfl) ?_
  refine c_nil ?_
  refine wp_ret ?_
  cases hs
  exact ⟨_, fr_ovl 27 ⟨rfl, trivial⟩, hC⟩

theorem Bd52 : Bodied Try.prog 52 := bodied Try.func52 (by kernel_rfl) rfl

def k_laws_eqRelation (M : Nat → Prop) (w0 : World) (r : Bool) (a : Act) (w : World) : Prop :=
  ∃ (σ : Nat → Value) , a = fr 16 (ovl σ [(4, (.bool r))]) ∧ Chg [] w0 w
def s_laws_eqRelation (a_ : Int × (List (List Int))) (b : Int × (List (List Int))) : Option (Bool) :=
  (bif (a_.1 != b.1) then some false else (s_laws_eqIntSS a_.2 b.2).bind fun r7 =>
  (bif (!r7) then some false else some true))
set_option maxHeartbeats 4000000 in
theorem c_laws_eqRelation {M : Nat → Prop} {w : World} {pa0 : Option Addr} {pn0 pc0 : Nat} {pa1 : Option Addr} {pn1 pc1 : Nat} (a_ : Int × (List (List Int))) (b : Int × (List (List Int))) (h0 : (RT.rs (RT.rs (RT.int .i64))).val M w (.slice pa0 pn0 pc0) a_.2 ([])) (h1 : (RT.rs (RT.rs (RT.int .i64))).val M w (.slice pa1 pn1 pc1) b.2 ([])) (hM : ∀ g, w.heap.size ≤ g → M g) {r : Bool} (hs : s_laws_eqRelation a_ b = some r) :
    Gives Try.prog 28 [(.agg #[(.int .i64 a_.1), (.slice pa0 pn0 pc0)]), (.agg #[(.int .i64 b.1), (.slice pa1 pn1 pc1)])] w (fun v w' => v = (.bool r) ∧ Chg [] w w') := by
 refine calls_fr Try.func28 rfl Try.ntmps28 (Nat.le_of_ble_eq_true rfl) ?_
 have hO := Own.start (N := Nw w []) hM Nw.fut
 have hC := Chg.refl [] w
 unfold s_laws_eqRelation at hs
 refine wp_mono (Q := KPost (k_laws_eqRelation M w r)) ?_ (fun e a b6 h => ?_)
 rotate_left
 ·cases e
  case ret =>
   obtain ⟨σ, rfl, hrest⟩ := h
   exact ret1x Try.results28 (res_tmp rfl) ⟨rfl, hrest⟩
  all_goals exact (h : False).elim
 refine c_sr ?_
 obtain ⟨a9, a5, b2, b0, a4, a0⟩ := new_block w [(.int .i64 a_.1), (.slice pa0 pn0 pc0)] 51
 refine pl_val (w' := a9) (.pointer (some ⟨a5, 0, none⟩)) (y_box rfl (by rw [b2, b0]; kernel_rfl)) ?_
 have h0 := h0.ext a4
 have h1 := h1.ext a4
 have hC := hC.ext a4
 have hO := hO.new1 a4 b0 a0.lt
 obtain ⟨b3, a6, b4, b1, a2, a3⟩ := new_block a9 [(.int .i64 b.1), (.slice pa1 pn1 pc1)] 51
 refine pl_val (w' := b3) (.pointer (some ⟨a6, 0, none⟩)) (y_box rfl (by rw [b4, b1]; kernel_rfl)) ?_
 have h0 := h0.ext a2
 have h1 := h1.ext a2
 have a0 := a0.cn a2
 have hC := hC.ext a2
 have hO := hO.new1 a2 b1 a3.lt
 refine pl_val (.bool false) (y_assign rfl) ?_
 refine c_nil ?_
 refine c_seq ?_
 refine c_sr ?_
 refine pl_val (.pointer (some ⟨a5, 0, none⟩)) (y_faddr rfl Fa51x0) ?_
 refine pl_val (.int .i64 a_.1) (y_load rfl ((box_load Ag3 Sz3 a0 [] [(.int .i64 a_.1)] [(.slice pa0 pn0 pc0)] rfl rfl (fun _ => rfl)) _ (Chg.refl _ _))) ?_
 refine pl_val (.pointer (some ⟨a6, 0, none⟩)) (y_faddr rfl Fa51x0) ?_
 refine pl_val (.int .i64 b.1) (y_load rfl ((box_load Ag3 Sz3 a3 [] [(.int .i64 b.1)] [(.slice pa1 pn1 pc1)] rfl rfl (fun _ => rfl)) _ (Chg.refl _ _))) ?_
 refine pl_val (.bool (a_.1 != b.1)) (y_neq rfl rfl) ?_
 refine c_nil ?_
 rcases bif_some hs with ⟨a7, hs⟩ | ⟨a7, hs⟩
 ·refine c_condT (congrArg Value.bool a7) ?_
  refine c_sr ?_
  refine pl_val (.bool false) (y_assign rfl) ?_
  refine c_nil ?_
  refine wp_ret ?_
  cases hs
  exact ⟨_, fr_ovl 16 ⟨rfl, trivial⟩, hC⟩
 refine c_condF (congrArg Value.bool a7) ?_
 refine wp_skip ?_
 refine c_seq ?_
 refine c_sr ?_
 refine pl_val (.pointer (some ⟨a5, 1, none⟩)) (y_faddr rfl Fa51x1) ?_
 refine pl_val (.slice pa0 pn0 pc0) (y_load rfl ((box_load Ag49 Sz49 a0 [(.int .i64 a_.1)] [(.slice pa0 pn0 pc0)] [] rfl rfl (fun _ => rfl)) _ (Chg.refl _ _))) ?_
 refine pl_val (.pointer (some ⟨a6, 1, none⟩)) (y_faddr rfl Fa51x1) ?_
 refine pl_val (.slice pa1 pn1 pc1) (y_load rfl ((box_load Ag49 Sz49 a3 [(.int .i64 b.1)] [(.slice pa1 pn1 pc1)] [] rfl rfl (fun _ => rfl)) _ (Chg.refl _ _))) ?_
 obtain ⟨r7, b5, hs⟩ := bind_some hs
 refine pl_call Bd52 rfl (c_laws_eqIntSS (M := M) a_.2 b.2 h0 h1 hO.fut b5) ?_
 rintro _ b7 ⟨rfl, a1⟩
 have h0 := h0.ext a1
 have h1 := h1.ext a1
 have a0 := a0.cn a1
 have a3 := a3.cn a1
 have hC := hC.ext a1
 have hO := hO.ext a1
 refine pl_val (.bool (!r7)) (y_not rfl) ?_
 refine c_nil ?_
 have hO := hO.drop
 have hO := hO.drop
 rcases bif_some hs with ⟨a8, hs⟩ | ⟨a8, hs⟩
 ·refine c_condT (congrArg Value.bool a8) ?_
  refine c_sr ?_
  refine pl_val (.bool false) (y_assign rfl) ?_
  refine c_nil ?_
  refine wp_ret ?_
  cases hs
  exact ⟨_, fr_ovl 16 ⟨rfl, trivial⟩, hC⟩
 refine c_condF (congrArg Value.bool a8) ?_
 refine wp_skip ?_
 refine c_sr ?_
 refine pl_val (.bool true) (y_assign rfl) ?_
 refine c_nil ?_
 refine wp_ret ?_
 cases hs
 exact ⟨_, fr_ovl 16 ⟨rfl, trivial⟩, hC⟩

def k_laws_eqOp (M : Nat → Prop) (w0 : World) (r : Bool) (a : Act) (w : World) : Prop :=
  ∃ (σ : Nat → Value) , a = fr 16 (ovl σ [(4, (.bool r))]) ∧ Chg [] w0 w
def s_laws_eqOp (a_ : Int × (List Int)) (b : Int × (List Int)) : Option (Bool) :=
  (bif (a_.1 != b.1) then some false else (s_laws_eqIntS a_.2 b.2).bind fun r7 =>
  (bif (!r7) then some false else some true))
set_option maxHeartbeats 4000000 in
theorem c_laws_eqOp {M : Nat → Prop} {w : World} {pa0 : Option Addr} {pn0 pc0 : Nat} {pa1 : Option Addr} {pn1 pc1 : Nat} (a_ : Int × (List Int)) (b : Int × (List Int)) (h0 : (RT.rs (RT.int .i64)).val M w (.slice pa0 pn0 pc0) a_.2 ([])) (h1 : (RT.rs (RT.int .i64)).val M w (.slice pa1 pn1 pc1) b.2 ([])) (hM : ∀ g, w.heap.size ≤ g → M g) {r : Bool} (hs : s_laws_eqOp a_ b = some r) :
    Gives Try.prog 15 [(.agg #[(.int .i64 a_.1), (.slice pa0 pn0 pc0)]), (.agg #[(.int .i64 b.1), (.slice pa1 pn1 pc1)])] w (fun v w' => v = (.bool r) ∧ Chg [] w w') := by
 refine calls_fr Try.func15 rfl Try.ntmps15 (Nat.le_of_ble_eq_true rfl) ?_
 have hO := Own.start (N := Nw w []) hM Nw.fut
 have hC := Chg.refl [] w
 unfold s_laws_eqOp at hs
 refine wp_mono (Q := KPost (k_laws_eqOp M w r)) ?_ (fun e a b6 h => ?_)
 rotate_left
 ·cases e
  case ret =>
   obtain ⟨σ, rfl, hrest⟩ := h
   exact ret1x Try.results15 (res_tmp rfl) ⟨rfl, hrest⟩
  all_goals exact (h : False).elim
 refine c_sr ?_
 obtain ⟨a9, a5, b2, b0, a4, a0⟩ := new_block w [(.int .i64 a_.1), (.slice pa0 pn0 pc0)] 36
 refine pl_val (w' := a9) (.pointer (some ⟨a5, 0, none⟩)) (y_box rfl (by rw [b2, b0]; kernel_rfl)) ?_
 have h0 := h0.ext a4
 have h1 := h1.ext a4
 have hC := hC.ext a4
 have hO := hO.new1 a4 b0 a0.lt
 obtain ⟨b3, a6, b4, b1, a2, a3⟩ := new_block a9 [(.int .i64 b.1), (.slice pa1 pn1 pc1)] 36
 refine pl_val (w' := b3) (.pointer (some ⟨a6, 0, none⟩)) (y_box rfl (by rw [b4, b1]; kernel_rfl)) ?_
 have h0 := h0.ext a2
 have h1 := h1.ext a2
 have a0 := a0.cn a2
 have hC := hC.ext a2
 have hO := hO.new1 a2 b1 a3.lt
 refine pl_val (.bool false) (y_assign rfl) ?_
 refine c_nil ?_
 refine c_seq ?_
 refine c_sr ?_
 refine pl_val (.pointer (some ⟨a5, 0, none⟩)) (y_faddr rfl Fa36x0) ?_
 refine pl_val (.int .i64 a_.1) (y_load rfl ((box_load Ag3 Sz3 a0 [] [(.int .i64 a_.1)] [(.slice pa0 pn0 pc0)] rfl rfl (fun _ => rfl)) _ (Chg.refl _ _))) ?_
 refine pl_val (.pointer (some ⟨a6, 0, none⟩)) (y_faddr rfl Fa36x0) ?_
 refine pl_val (.int .i64 b.1) (y_load rfl ((box_load Ag3 Sz3 a3 [] [(.int .i64 b.1)] [(.slice pa1 pn1 pc1)] rfl rfl (fun _ => rfl)) _ (Chg.refl _ _))) ?_
 refine pl_val (.bool (a_.1 != b.1)) (y_neq rfl rfl) ?_
 refine c_nil ?_
 rcases bif_some hs with ⟨a7, hs⟩ | ⟨a7, hs⟩
 ·refine c_condT (congrArg Value.bool a7) ?_
  refine c_sr ?_
  refine pl_val (.bool false) (y_assign rfl) ?_
  refine c_nil ?_
  refine wp_ret ?_
  cases hs
  exact ⟨_, fr_ovl 16 ⟨rfl, trivial⟩, hC⟩
 refine c_condF (congrArg Value.bool a7) ?_
 refine wp_skip ?_
 refine c_seq ?_
 refine c_sr ?_
 refine pl_val (.pointer (some ⟨a5, 1, none⟩)) (y_faddr rfl Fa36x1) ?_
 refine pl_val (.slice pa0 pn0 pc0) (y_load rfl ((box_load Ag25 Sz25 a0 [(.int .i64 a_.1)] [(.slice pa0 pn0 pc0)] [] rfl rfl (fun _ => rfl)) _ (Chg.refl _ _))) ?_
 refine pl_val (.pointer (some ⟨a6, 1, none⟩)) (y_faddr rfl Fa36x1) ?_
 refine pl_val (.slice pa1 pn1 pc1) (y_load rfl ((box_load Ag25 Sz25 a3 [(.int .i64 b.1)] [(.slice pa1 pn1 pc1)] [] rfl rfl (fun _ => rfl)) _ (Chg.refl _ _))) ?_
 obtain ⟨r7, b5, hs⟩ := bind_some hs
 refine pl_call Bd43 rfl (c_laws_eqIntS (M := M) a_.2 b.2 h0 h1 hO.fut b5) ?_
 rintro _ b7 ⟨rfl, a1⟩
 have h0 := h0.ext a1
 have h1 := h1.ext a1
 have a0 := a0.cn a1
 have a3 := a3.cn a1
 have hC := hC.ext a1
 have hO := hO.ext a1
 refine pl_val (.bool (!r7)) (y_not rfl) ?_
 refine c_nil ?_
 have hO := hO.drop
 have hO := hO.drop
 rcases bif_some hs with ⟨a8, hs⟩ | ⟨a8, hs⟩
 ·refine c_condT (congrArg Value.bool a8) ?_
  refine c_sr ?_
  refine pl_val (.bool false) (y_assign rfl) ?_
  refine c_nil ?_
  refine wp_ret ?_
  cases hs
  exact ⟨_, fr_ovl 16 ⟨rfl, trivial⟩, hC⟩
 refine c_condF (congrArg Value.bool a8) ?_
 refine wp_skip ?_
 refine c_sr ?_
 refine pl_val (.bool true) (y_assign rfl) ?_
 refine c_nil ?_
 refine wp_ret ?_
 cases hs
 exact ⟨_, fr_ovl 16 ⟨rfl, trivial⟩, hC⟩

theorem Bd15 : Bodied Try.prog 15 := bodied Try.func15 (by kernel_rfl) rfl

def k_laws_eqOpS (M : Nat → Prop) (w0 : World) (r : Bool) (a : Act) (w : World) : Prop :=
  ∃ (σ : Nat → Value) , a = fr 27 (ovl σ [(4, (.bool r))]) ∧ Chg [] w0 w
def s_laws_eqOpS (a_ : List (Int × (List Int))) (b : List (Int × (List Int))) : Option (Bool) :=
  (bif ((a_.length : Int) != (b.length : Int)) then some false else (forC (S := Unit) (R := Bool) (fun k18 s16 =>
  (idx a_ k18).bind fun x23 =>
  (idx b k18).bind fun x27 =>
  (s_laws_eqOp (x23.1, x23.2) (x27.1, x27.2)).bind fun r32 =>
  (bif (!r32) then some (.rt false) else some (.nx ()))) 0 (a_.length : Int) ()).bind fun o20 => after o20 (fun r_ => some r_) (fun s16 =>
  some true))
set_option maxHeartbeats 4000000 in
theorem c_laws_eqOpS {M : Nat → Prop} {w : World} {pa0 : Option Addr} {pn0 pc0 : Nat} {pa1 : Option Addr} {pn1 pc1 : Nat} (a_ : List (Int × (List Int))) (b : List (Int × (List Int))) (h0 : (RT.rs (RT.pr (RT.int .i64) (RT.rs (RT.int .i64)))).val M w (.slice pa0 pn0 pc0) a_ ([])) (h1 : (RT.rs (RT.pr (RT.int .i64) (RT.rs (RT.int .i64)))).val M w (.slice pa1 pn1 pc1) b ([])) (hM : ∀ g, w.heap.size ≤ g → M g) {r : Bool} (hs : s_laws_eqOpS a_ b = some r) :
    Gives Try.prog 42 [(.slice pa0 pn0 pc0), (.slice pa1 pn1 pc1)] w (fun v w' => v = (.bool r) ∧ Chg [] w w') := by
 refine calls_fr Try.func42 rfl Try.ntmps42 (Nat.le_of_ble_eq_true rfl) ?_
 have hO := Own.start (N := Nw w []) hM Nw.fut
 have hC := Chg.refl [] w
 unfold s_laws_eqOpS at hs
 refine wp_mono (Q := KPost (k_laws_eqOpS M w r)) ?_ (fun e a a7 h => ?_)
 rotate_left
 ·cases e
  case ret =>
   obtain ⟨σ, rfl, hrest⟩ := h
   exact ret1x Try.results42 (res_tmp rfl) ⟨rfl, hrest⟩
  all_goals exact (h : False).elim
 refine c_sr ?_
 refine pl_val (.bool false) (y_assign rfl) ?_
 refine c_nil ?_
 refine c_seq ?_
 refine c_sr ?_
 refine pl_val (.slice pa0 pn0 pc0) (y_move rfl) ?_
 refine pl_val (.int .i64 (a_.length : Int)) (y_len' Sl32 (rs_len h0) rfl) ?_
 refine pl_val (.slice pa1 pn1 pc1) (y_move rfl) ?_
 refine pl_val (.int .i64 (b.length : Int)) (y_len' Sl32 (rs_len h1) rfl) ?_
 refine pl_val (.bool ((a_.length : Int) != (b.length : Int))) (y_neq rfl rfl) ?_
 refine c_nil ?_
 rcases bif_some hs with ⟨a3, hs⟩ | ⟨a3, hs⟩
 ·refine c_condT (congrArg Value.bool a3) ?_
  refine c_sr ?_
  refine pl_val (.bool false) (y_assign rfl) ?_
  refine c_nil ?_
  refine wp_ret ?_
  cases hs
  exact ⟨_, fr_ovl 27 ⟨rfl, trivial⟩, hC⟩
 refine c_condF (congrArg Value.bool a3) ?_
 refine wp_skip ?_
 refine c_seq ?_
 refine c_sr ?_
 refine pl_val (.int .i64 0) (y_assign rfl) ?_
 refine c_nil ?_
 obtain ⟨o20, a8, hs⟩ := bind_some hs
 refine wp_block ?_
 refine wp_forC (id := 0) (a_.length : Int) (I := fun k18 s16 a a0 => ∃ (σ : Nat → Value), a = fr 27 (ovl σ [(0, (.slice pa0 pn0 pc0)), (1, (.slice pa1 pn1 pc1)), (5, (.int .i64 k18))]) ∧ Chg [] w a0 ∧ Own (Nw w []) M a0 ([]) ∧ (RT.rs (RT.pr (RT.int .i64) (RT.rs (RT.int .i64)))).val M a0 (.slice pa0 pn0 pc0) a_ ([]) ∧ (RT.rs (RT.pr (RT.int .i64) (RT.rs (RT.int .i64)))).val M a0 (.slice pa1 pn1 pc1) b ([])) (J := fun s16 a a0 => ∃ (σ : Nat → Value), a = fr 27 (ovl σ []) ∧ Chg [] w a0 ∧ Own (Nw w []) M a0 ([]) ∧ (RT.rs (RT.pr (RT.int .i64) (RT.rs (RT.int .i64)))).val M a0 (.slice pa0 pn0 pc0) a_ ([]) ∧ (RT.rs (RT.pr (RT.int .i64) (RT.rs (RT.int .i64)))).val M a0 (.slice pa1 pn1 pc1) b ([])) (K := (k_laws_eqOpS M w)) ?_ ?_ 0 () o20 _ _ ?_ a8 ?_
 ·rintro k18 s16 a a0 ⟨σ, rfl, hC, hO, h0, h1⟩ hlt
  refine c_seq ?_
  refine c_sr ?_
  refine pl_val (.int .i64 k18) (y_move rfl) ?_
  refine pl_val (.slice pa0 pn0 pc0) (y_move rfl) ?_
  refine pl_val (.int .i64 (a_.length : Int)) (y_len' Sl32 (rs_len h0) rfl) ?_
  refine pl_val (.bool (decide (k18 < (a_.length : Int)))) (y_lss rfl rfl) ?_
  refine c_nil ?_
  refine c_condF (congrArg Value.bool (decide_eq_false hlt)) ?_
  refine wp_exit ?_
  exact ⟨rfl, _, fr_ovl 27 trivial, hC, hO, h0, h1⟩
 ·rintro k18 s16 o20 a a0 ⟨σ, rfl, hC, hO, h0, h1⟩ hlt hw hs
  refine c_seq ?_
  refine c_sr ?_
  refine pl_val (.int .i64 k18) (y_move rfl) ?_
  refine pl_val (.slice pa0 pn0 pc0) (y_move rfl) ?_
  refine pl_val (.int .i64 (a_.length : Int)) (y_len' Sl32 (rs_len h0) rfl) ?_
  refine pl_val (.bool (decide (k18 < (a_.length : Int)))) (y_lss rfl rfl) ?_
  refine c_nil ?_
  refine c_condT (congrArg Value.bool (decide_eq_true hlt)) ?_
  refine wp_skip ?_
  refine c_seq ?_
  refine wp_block ?_
  refine c_seq ?_
  refine x_start [] Mx rfl ?_
  have a2 := Chg.drew a0
  generalize World.drew a0 = a9 at a2 ⊢
  have h0 := h0.ext a2
  have h1 := h1.ext a2
  have hC := hC.ext a2
  have hO := hO.ext a2
  have hS := Chg.refl [] a9
  refine x_p 0 (.slice pa0 pn0 pc0) rfl (by kernel_rfl)  (fun _ => y_move rfl) (fun _ => hS) ?_
  refine x_p 1 (.int .i64 k18) rfl (by kernel_rfl)  (fun _ => y_move rfl) (fun _ => hS) ?_
  obtain ⟨x23, b0, hs⟩ := bind_some hs
  obtain ⟨b1, b2, b3, b4⟩ := rs_idx Sl32 Sz36 h0 b0
  refine x_p 2 (.pointer (some ⟨b1, b2, none⟩)) rfl (by kernel_rfl)  (fun _ => b3 _ _ _ _ _ _ _ _ _ rfl rfl) (fun _ => hS) ?_
  obtain ⟨d8, b5, b6⟩ := at_load Ag36 Sz36 (by intro h; cases h) b4
  obtain ⟨d9, rfl, b7⟩ := b6
  obtain ⟨e0, e1, rfl, b8, b9⟩ := pr_open b7
  obtain rfl := int_rel b8
  obtain ⟨c0, c1, c2, rfl, a4⟩ := rs_rel b9
  refine x_l 3 (.agg #[(.int .i64 x23.1), (.slice c0 c1 c2)]) rfl (by kernel_rfl)  (fun w' hw' => y_load rfl (b5 w' hw')) hS ?_
  refine x_p 4 (.slice pa1 pn1 pc1) rfl (by kernel_rfl)  (fun _ => y_move rfl) (fun _ => hS) ?_
  refine x_p 5 (.int .i64 k18) rfl (by kernel_rfl)  (fun _ => y_move rfl) (fun _ => hS) ?_
  obtain ⟨x27, c3, hs⟩ := bind_some hs
  obtain ⟨c4, c5, c6, c7⟩ := rs_idx Sl32 Sz36 h1 c3
  refine x_p 6 (.pointer (some ⟨c4, c5, none⟩)) rfl (by kernel_rfl)  (fun _ => c6 _ _ _ _ _ _ _ _ _ rfl rfl) (fun _ => hS) ?_
  obtain ⟨e2, c8, c9⟩ := at_load Ag36 Sz36 (by intro h; cases h) c7
  obtain ⟨e3, rfl, d0⟩ := c9
  obtain ⟨e4, e5, rfl, d1, d2⟩ := pr_open d0
  obtain rfl := int_rel d1
  obtain ⟨d3, d4, d5, rfl, a5⟩ := rs_rel d2
  refine x_l 7 (.agg #[(.int .i64 x27.1), (.slice d3 d4 d5)]) rfl (by kernel_rfl)  (fun w' hw' => y_load rfl (c8 w' hw')) hS ?_
  refine x_one (i := 8) (by kernel_rfl) ?_
  obtain ⟨r32, d6, hs⟩ := bind_some hs
  refine xk_call (b := false) rfl  Bd15 rfl (c_laws_eqOp (M := M) (x23.1, x23.2) (x27.1, x27.2) a4 a5 hO.fut d6) rfl (by rintro _ _ _ ⟨rfl, a1⟩; exact hS.ext a1) ?_
  rintro _ e6 ⟨rfl, a1⟩
  have h0 := h0.ext a1
  have h1 := h1.ext a1
  have a4 := a4.ext a1
  have a5 := a5.ext a1
  have hC := hC.ext a1
  have hO := hO.ext a1
  have hS := hS.ext a1
  refine x_p 9 (.bool (!r32)) rfl (by kernel_rfl)  (fun _ => y_not rfl) (fun _ => hS) ?_
  refine x_end (by kernel_rfl) ?_
  clear hS
  rcases bif_some hs with ⟨a6, hs⟩ | ⟨a6, hs⟩
  ·refine c_condT (congrArg Value.bool a6) ?_
   refine c_sr ?_
   refine pl_val (.bool false) (y_assign rfl) ?_
   refine c_nil ?_
   refine wp_ret ?_
   cases hs
   exact ⟨_, fr_ovl 27 ⟨rfl, trivial⟩, hC⟩
  refine c_condF (congrArg Value.bool a6) ?_
  refine wp_skip ?_
  refine c_region ?_
  refine pl_val (.int .i64 k18) (y_move rfl) ?_
  refine pl_val (.int .i64 (w64 (k18 + 1))) (y_add rfl rfl) ?_
  refine pl_val (.int .i64 (w64 (k18 + 1))) (y_assign rfl) ?_
  refine c_nil ?_
  cases hs
  exact ⟨_, fr_ovl 27 ⟨rfl, rfl, congrArg (Value.int .i64) hw, trivial⟩, hC, hO, h0, h1⟩
 ·skip
  exact ⟨_, fr_ovl 27 ⟨rfl, rfl, rfl, trivial⟩, hC, hO, h0, h1⟩
 cases o20 with
 | nx _ => exact True.intro
 | rt r_ =>
  have hs := after_rt hs
  intro d7 a7 hK
  cases hs
  exact hK
 | br s16 =>
  have hs := after_br hs
  rintro d7 a0 ⟨σ, rfl, hC, hO, h0, h1⟩
  refine c_sr ?_
  refine pl_val (.bool true) (y_assign rfl) ?_
  refine c_nil ?_
  refine wp_ret ?_
  cases hs
  exact ⟨_, fr_ovl 27 ⟨rfl, trivial⟩, hC⟩

theorem Bd42 : Bodied Try.prog 42 := bodied Try.func42 (by kernel_rfl) rfl

def k_laws_eqAlgebra (M : Nat → Prop) (w0 : World) (r : Bool) (a : Act) (w : World) : Prop :=
  ∃ (σ : Nat → Value) , a = fr 16 (ovl σ [(4, (.bool r))]) ∧ Chg [] w0 w
def s_laws_eqAlgebra (a_ : Int × (List (Int × (List Int)))) (b : Int × (List (Int × (List Int)))) : Option (Bool) :=
  (bif (a_.1 != b.1) then some false else (s_laws_eqOpS a_.2 b.2).bind fun r7 =>
  (bif (!r7) then some false else some true))
set_option maxHeartbeats 4000000 in
theorem c_laws_eqAlgebra {M : Nat → Prop} {w : World} {pa0 : Option Addr} {pn0 pc0 : Nat} {pa1 : Option Addr} {pn1 pc1 : Nat} (a_ : Int × (List (Int × (List Int)))) (b : Int × (List (Int × (List Int)))) (h0 : (RT.rs (RT.pr (RT.int .i64) (RT.rs (RT.int .i64)))).val M w (.slice pa0 pn0 pc0) a_.2 ([])) (h1 : (RT.rs (RT.pr (RT.int .i64) (RT.rs (RT.int .i64)))).val M w (.slice pa1 pn1 pc1) b.2 ([])) (hM : ∀ g, w.heap.size ≤ g → M g) {r : Bool} (hs : s_laws_eqAlgebra a_ b = some r) :
    Gives Try.prog 14 [(.agg #[(.int .i64 a_.1), (.slice pa0 pn0 pc0)]), (.agg #[(.int .i64 b.1), (.slice pa1 pn1 pc1)])] w (fun v w' => v = (.bool r) ∧ Chg [] w w') := by
 refine calls_fr Try.func14 rfl Try.ntmps14 (Nat.le_of_ble_eq_true rfl) ?_
 have hO := Own.start (N := Nw w []) hM Nw.fut
 have hC := Chg.refl [] w
 unfold s_laws_eqAlgebra at hs
 refine wp_mono (Q := KPost (k_laws_eqAlgebra M w r)) ?_ (fun e a b6 h => ?_)
 rotate_left
 ·cases e
  case ret =>
   obtain ⟨σ, rfl, hrest⟩ := h
   exact ret1x Try.results14 (res_tmp rfl) ⟨rfl, hrest⟩
  all_goals exact (h : False).elim
 refine c_sr ?_
 obtain ⟨a9, a5, b2, b0, a4, a0⟩ := new_block w [(.int .i64 a_.1), (.slice pa0 pn0 pc0)] 34
 refine pl_val (w' := a9) (.pointer (some ⟨a5, 0, none⟩)) (y_box rfl (by rw [b2, b0]; kernel_rfl)) ?_
 have h0 := h0.ext a4
 have h1 := h1.ext a4
 have hC := hC.ext a4
 have hO := hO.new1 a4 b0 a0.lt
 obtain ⟨b3, a6, b4, b1, a2, a3⟩ := new_block a9 [(.int .i64 b.1), (.slice pa1 pn1 pc1)] 34
 refine pl_val (w' := b3) (.pointer (some ⟨a6, 0, none⟩)) (y_box rfl (by rw [b4, b1]; kernel_rfl)) ?_
 have h0 := h0.ext a2
 have h1 := h1.ext a2
 have a0 := a0.cn a2
 have hC := hC.ext a2
 have hO := hO.new1 a2 b1 a3.lt
 refine pl_val (.bool false) (y_assign rfl) ?_
 refine c_nil ?_
 refine c_seq ?_
 refine c_sr ?_
 refine pl_val (.pointer (some ⟨a5, 0, none⟩)) (y_faddr rfl Fa34x0) ?_
 refine pl_val (.int .i64 a_.1) (y_load rfl ((box_load Ag3 Sz3 a0 [] [(.int .i64 a_.1)] [(.slice pa0 pn0 pc0)] rfl rfl (fun _ => rfl)) _ (Chg.refl _ _))) ?_
 refine pl_val (.pointer (some ⟨a6, 0, none⟩)) (y_faddr rfl Fa34x0) ?_
 refine pl_val (.int .i64 b.1) (y_load rfl ((box_load Ag3 Sz3 a3 [] [(.int .i64 b.1)] [(.slice pa1 pn1 pc1)] rfl rfl (fun _ => rfl)) _ (Chg.refl _ _))) ?_
 refine pl_val (.bool (a_.1 != b.1)) (y_neq rfl rfl) ?_
 refine c_nil ?_
 rcases bif_some hs with ⟨a7, hs⟩ | ⟨a7, hs⟩
 ·refine c_condT (congrArg Value.bool a7) ?_
  refine c_sr ?_
  refine pl_val (.bool false) (y_assign rfl) ?_
  refine c_nil ?_
  refine wp_ret ?_
  cases hs
  exact ⟨_, fr_ovl 16 ⟨rfl, trivial⟩, hC⟩
 refine c_condF (congrArg Value.bool a7) ?_
 refine wp_skip ?_
 refine c_seq ?_
 refine c_sr ?_
 refine pl_val (.pointer (some ⟨a5, 1, none⟩)) (y_faddr rfl Fa34x1) ?_
 refine pl_val (.slice pa0 pn0 pc0) (y_load rfl ((box_load Ag32 Sz32 a0 [(.int .i64 a_.1)] [(.slice pa0 pn0 pc0)] [] rfl rfl (fun _ => rfl)) _ (Chg.refl _ _))) ?_
 refine pl_val (.pointer (some ⟨a6, 1, none⟩)) (y_faddr rfl Fa34x1) ?_
 refine pl_val (.slice pa1 pn1 pc1) (y_load rfl ((box_load Ag32 Sz32 a3 [(.int .i64 b.1)] [(.slice pa1 pn1 pc1)] [] rfl rfl (fun _ => rfl)) _ (Chg.refl _ _))) ?_
 obtain ⟨r7, b5, hs⟩ := bind_some hs
 refine pl_call Bd42 rfl (c_laws_eqOpS (M := M) a_.2 b.2 h0 h1 hO.fut b5) ?_
 rintro _ b7 ⟨rfl, a1⟩
 have h0 := h0.ext a1
 have h1 := h1.ext a1
 have a0 := a0.cn a1
 have a3 := a3.cn a1
 have hC := hC.ext a1
 have hO := hO.ext a1
 refine pl_val (.bool (!r7)) (y_not rfl) ?_
 refine c_nil ?_
 have hO := hO.drop
 have hO := hO.drop
 rcases bif_some hs with ⟨a8, hs⟩ | ⟨a8, hs⟩
 ·refine c_condT (congrArg Value.bool a8) ?_
  refine c_sr ?_
  refine pl_val (.bool false) (y_assign rfl) ?_
  refine c_nil ?_
  refine wp_ret ?_
  cases hs
  exact ⟨_, fr_ovl 16 ⟨rfl, trivial⟩, hC⟩
 refine c_condF (congrArg Value.bool a8) ?_
 refine wp_skip ?_
 refine c_sr ?_
 refine pl_val (.bool true) (y_assign rfl) ?_
 refine c_nil ?_
 refine wp_ret ?_
 cases hs
 exact ⟨_, fr_ovl 16 ⟨rfl, trivial⟩, hC⟩

def k_laws_markIntS (M : Nat → Prop) (w0 : World) (qa0 : Option Addr) (qn0 qc0 : Nat) (qf0 : List Nat) (r : Int × (List Int)) (a : Act) (w : World) : Prop :=
  ∃ (σ : Nat → Value) (rfi0 : List Nat), a = fr 19 (ovl σ [(4, (.int .i64 r.1))]) ∧ Chg (qf0 ++ ([])) w0 w ∧ (RT.os 3 (RT.int .i64)).val M w (.slice qa0 qn0 qc0) r.2 rfi0 ∧ Own (Nw w0 (qf0 ++ ([]))) (fun _ => True) w (rfi0 ++ ([]))
def s_laws_markIntS (a_ : List Int) (k : Int) : Option (Int × (List Int)) :=
  (iter (S := Int × Int × (List Int)) (R := Int × (List Int)) (fun s25 =>
  (bif (decide (s25.2.1 < (s25.2.2.length : Int))) then (idx s25.2.2 s25.2.1).bind fun x34 =>
  some (.nx (w64 (s25.1 + 1), w64 (s25.2.1 + 1), List.set s25.2.2 (Int.toNat s25.2.1) s25.1)) else some (.br (s25.1, s25.2.1, s25.2.2)))) FU (k, 0, a_)).bind fun o29 => after o29 (fun r_ => some r_) (fun s25 =>
  some (s25.1, s25.2.2))
set_option maxHeartbeats 4000000 in
theorem c_laws_markIntS {M : Nat → Prop} {w : World} {pa0 : Option Addr} {pn0 pc0 : Nat} {pf0 : List Nat} (a_ : List Int) (k : Int) (h0 : (RT.os 3 (RT.int .i64)).val M w (.slice pa0 pn0 pc0) a_ pf0) (hI : Own (Nw w (pf0 ++ ([]))) M w (pf0 ++ ([]))) (hM : ∀ g, w.heap.size ≤ g → M g) {r : Int × (List Int)} (hs : s_laws_markIntS a_ k = some r) :
    Gives Try.prog 53 [(.slice pa0 pn0 pc0), (.int .i64 k)] w (fun v w' => ∃ (rfi0 : List Nat), v = (.int .i64 r.1) ∧ Chg (pf0 ++ ([])) w w' ∧ (RT.os 3 (RT.int .i64)).val M w' (.slice pa0 pn0 pc0) r.2 rfi0 ∧ Own (Nw w (pf0 ++ ([]))) (fun _ => True) w' (rfi0 ++ ([]))) := by
 refine calls_fr Try.func53 rfl Try.ntmps53 (Nat.le_of_ble_eq_true rfl) ?_
 have hO := hI
 have hC := Chg.refl (pf0 ++ ([])) w
 unfold s_laws_markIntS at hs
 refine wp_mono (Q := KPost (k_laws_markIntS M w pa0 pn0 pc0 pf0 r)) ?_ (fun e a a9 h => ?_)
 rotate_left
 ·cases e
  case ret =>
   obtain ⟨σ, rfi0, rfl, hrest⟩ := h
   exact ret1x Try.results53 (res_tmp rfl) ⟨rfi0, rfl, hrest⟩
  all_goals exact (h : False).elim
 refine c_sr ?_
 refine pl_val (.int .i64 0) (y_assign rfl) ?_
 refine c_nil ?_
 refine c_seq ?_
 refine c_sr ?_
 refine pl_val (.int .i64 0) (y_assign rfl) ?_
 refine c_nil ?_
 obtain ⟨o29, b0, hs⟩ := bind_some hs
 refine wp_block ?_
 refine wp_iter (id := 0) (I := fun s25 a a0 => ∃ (σ : Nat → Value) (a2 : List Nat), a = fr 19 (ovl σ [(0, (.slice pa0 pn0 pc0)), (1, (.int .i64 s25.1)), (5, (.int .i64 s25.2.1))]) ∧ Chg (pf0 ++ ([])) w a0 ∧ Own (Nw w (pf0 ++ ([]))) M a0 (a2 ++ []) ∧ (RT.os 3 (RT.int .i64)).val M a0 (.slice pa0 pn0 pc0) s25.2.2 a2) (J := fun s25 a a0 => ∃ (σ : Nat → Value) (a3 : List Nat), a = fr 19 (ovl σ [(1, (.int .i64 s25.1))]) ∧ Chg (pf0 ++ ([])) w a0 ∧ Own (Nw w (pf0 ++ ([]))) M a0 (a3 ++ []) ∧ (RT.os 3 (RT.int .i64)).val M a0 (.slice pa0 pn0 pc0) s25.2.2 a3) (K := (k_laws_markIntS M w pa0 pn0 pc0 pf0)) ?_ FU (k, 0, a_) o29 _ _ ?_ b0 ?_
 ·rintro s25 o29 a a0 ⟨σ, a2, rfl, hC, hO, a1⟩ hs
  refine c_seq ?_
  refine c_sr ?_
  refine pl_val (.int .i64 s25.2.1) (y_move rfl) ?_
  refine pl_val (.slice pa0 pn0 pc0) (y_move rfl) ?_
  refine pl_val (.int .i64 (s25.2.2.length : Int)) (y_len' Sl25 (os_len a1) rfl) ?_
  refine pl_val (.bool (decide (s25.2.1 < (s25.2.2.length : Int)))) (y_lss rfl rfl) ?_
  refine c_nil ?_
  rcases bif_some hs with ⟨a4, hs⟩ | ⟨a4, hs⟩
  ·refine c_condT (congrArg Value.bool a4) ?_
   refine wp_skip ?_
   refine c_seq ?_
   refine wp_block ?_
   refine c_sr ?_
   refine pl_val (.slice pa0 pn0 pc0) (y_move rfl) ?_
   refine pl_val (.int .i64 s25.2.1) (y_move rfl) ?_
   refine pl_val (.int .i64 s25.1) (y_move rfl) ?_
   obtain ⟨x34, b1, hs⟩ := bind_some hs
   obtain ⟨a6, c1, a7, b2, b3, c2, c3⟩ := os_idx Sl25 Sz3 a1 b1
   refine pl_val (.pointer (some ⟨a6, 0 + Int.toNat s25.2.1 * 1, none⟩)) (b3 _ _ _ _ _ _ _ _ _ rfl rfl) ?_
   obtain ⟨b4, b5, b6, a8, b7, a5⟩ := os_store (P := Try.prog) (c' := [(.int .i64 s25.1)]) a7 a1 b2 (fun g hg => hO.inM g (os_block a1 g (by simpa using hg))) ⟨rfl, rfl⟩ List.nodup_nil (fun _ h => nomatch h) (fun _ h => .inl h)
   have b8 : ∀ q ∈ [a6], q ∈ a2 := fun q hq => os_block a1 q (by rw [a7]; exact hq)
   refine pl_skip (w' := b4) (ys_store rfl rfl (b6 _ _ rfl Sz3)) ?_
   have hC := hC.st a8 hO b8
   have hO := hO.grow a8 (fun q hq => .inl ((b7 q hq).resolve_right (fun h => nomatch h))) (os_nodup a5) a5.fpl
   refine c_nil ?_
   refine c_region ?_
   refine pl_val (.int .i64 s25.1) (y_move rfl) ?_
   refine pl_val (.int .i64 (w64 (s25.1 + 1))) (y_add rfl rfl) ?_
   refine pl_val (.int .i64 (w64 (s25.1 + 1))) (y_assign rfl) ?_
   refine c_nil ?_
   refine c_region ?_
   refine pl_val (.int .i64 s25.2.1) (y_move rfl) ?_
   refine pl_val (.int .i64 (w64 (s25.2.1 + 1))) (y_add rfl rfl) ?_
   refine pl_val (.int .i64 (w64 (s25.2.1 + 1))) (y_assign rfl) ?_
   refine c_nil ?_
   cases hs
   exact ⟨_, b5, fr_ovl 19 ⟨rfl, rfl, rfl, trivial⟩, hC, hO, a5⟩
  refine c_condF (congrArg Value.bool a4) ?_
  refine wp_exit ?_
  cases hs
  exact ⟨rfl, _, a2, fr_ovl 19 ⟨rfl, trivial⟩, hC, hO, a1⟩
 ·skip
  exact ⟨_, pf0, fr_ovl 19 ⟨rfl, rfl, rfl, trivial⟩, hC, hO, h0⟩
 cases o29 with
 | nx _ => exact True.intro
 | rt r_ =>
  have hs := after_rt hs
  intro b9 a9 hK
  cases hs
  exact hK
 | br s25 =>
  have hs := after_br hs
  rintro b9 a0 ⟨σ, a3, rfl, hC, hO, c0⟩
  refine c_sr ?_
  refine pl_val (.int .i64 s25.1) (y_move rfl) ?_
  refine pl_val (.int .i64 s25.1) (y_assign rfl) ?_
  refine c_nil ?_
  refine wp_ret ?_
  cases hs
  exact ⟨_, a3, fr_ovl 19 ⟨rfl, trivial⟩, hC, c0, hO.top⟩

theorem Bd53 : Bodied Try.prog 53 := bodied Try.func53 (by kernel_rfl) rfl

def k_laws_markOpS (M : Nat → Prop) (w0 : World) (qa0 : Option Addr) (qn0 qc0 : Nat) (qf0 : List Nat) (r : Int × (List (Int × (List Int)))) (a : Act) (w : World) : Prop :=
  ∃ (σ : Nat → Value) (rfi0 : List Nat), a = fr 27 (ovl σ [(4, (.int .i64 r.1))]) ∧ Chg (qf0 ++ ([])) w0 w ∧ (RT.os 36 (RT.pr (RT.int .i64) (RT.os 3 (RT.int .i64)))).val M w (.slice qa0 qn0 qc0) r.2 rfi0 ∧ Own (Nw w0 (qf0 ++ ([]))) (fun _ => True) w (rfi0 ++ ([]))
def s_laws_markOpS (a_ : List (Int × (List Int))) (k : Int) : Option (Int × (List (Int × (List Int)))) :=
  (iter (S := Int × Int × (List (Int × (List Int)))) (R := Int × (List (Int × (List Int)))) (fun s57 =>
  (bif (decide (s57.2.1 < (s57.2.2.length : Int))) then (idx s57.2.2 s57.2.1).bind fun x67 =>
  (idx (List.set s57.2.2 (Int.toNat s57.2.1) (s57.1, x67.2)) s57.2.1).bind fun x71 =>
  (s_laws_markIntS x71.2 (w64 (s57.1 + 1))).bind fun r77 =>
  some (.nx (r77.1, w64 (s57.2.1 + 1), List.set (List.set s57.2.2 (Int.toNat s57.2.1) (s57.1, x67.2)) (Int.toNat s57.2.1) (x71.1, r77.2))) else some (.br (s57.1, s57.2.1, s57.2.2)))) FU (k, 0, a_)).bind fun o61 => after o61 (fun r_ => some r_) (fun s57 =>
  some (s57.1, s57.2.2))
set_option maxHeartbeats 4000000 in
theorem c_laws_markOpS {M : Nat → Prop} {w : World} {pa0 : Option Addr} {pn0 pc0 : Nat} {pf0 : List Nat} (a_ : List (Int × (List Int))) (k : Int) (h0 : (RT.os 36 (RT.pr (RT.int .i64) (RT.os 3 (RT.int .i64)))).val M w (.slice pa0 pn0 pc0) a_ pf0) (hI : Own (Nw w (pf0 ++ ([]))) M w (pf0 ++ ([]))) (hM : ∀ g, w.heap.size ≤ g → M g) {r : Int × (List (Int × (List Int)))} (hs : s_laws_markOpS a_ k = some r) :
    Gives Try.prog 48 [(.slice pa0 pn0 pc0), (.int .i64 k)] w (fun v w' => ∃ (rfi0 : List Nat), v = (.int .i64 r.1) ∧ Chg (pf0 ++ ([])) w w' ∧ (RT.os 36 (RT.pr (RT.int .i64) (RT.os 3 (RT.int .i64)))).val M w' (.slice pa0 pn0 pc0) r.2 rfi0 ∧ Own (Nw w (pf0 ++ ([]))) (fun _ => True) w' (rfi0 ++ ([]))) := by
 refine calls_fr Try.func48 rfl Try.ntmps48 (Nat.le_of_ble_eq_true rfl) ?_
 have hO := hI
 have hC := Chg.refl (pf0 ++ ([])) w
 unfold s_laws_markOpS at hs
 refine wp_mono (Q := KPost (k_laws_markOpS M w pa0 pn0 pc0 pf0 r)) ?_ (fun e a c7 h => ?_)
 rotate_left
 ·cases e
  case ret =>
   obtain ⟨σ, rfi0, rfl, hrest⟩ := h
   exact ret1x Try.results48 (res_tmp rfl) ⟨rfi0, rfl, hrest⟩
  all_goals exact (h : False).elim
 refine c_sr ?_
 refine pl_val (.int .i64 0) (y_assign rfl) ?_
 refine c_nil ?_
 refine c_seq ?_
 refine c_sr ?_
 refine pl_val (.int .i64 0) (y_assign rfl) ?_
 refine c_nil ?_
 obtain ⟨o61, c8, hs⟩ := bind_some hs
 refine wp_block ?_
 refine wp_iter (id := 0) (I := fun s57 a a0 => ∃ (σ : Nat → Value) (a1 : List Nat), a = fr 27 (ovl σ [(0, (.slice pa0 pn0 pc0)), (1, (.int .i64 s57.1)), (5, (.int .i64 s57.2.1))]) ∧ Chg (pf0 ++ ([])) w a0 ∧ Own (Nw w (pf0 ++ ([]))) M a0 (a1 ++ []) ∧ (RT.os 36 (RT.pr (RT.int .i64) (RT.os 3 (RT.int .i64)))).val M a0 (.slice pa0 pn0 pc0) s57.2.2 a1) (J := fun s57 a a0 => ∃ (σ : Nat → Value) (a4 : List Nat), a = fr 27 (ovl σ [(1, (.int .i64 s57.1))]) ∧ Chg (pf0 ++ ([])) w a0 ∧ Own (Nw w (pf0 ++ ([]))) M a0 (a4 ++ []) ∧ (RT.os 36 (RT.pr (RT.int .i64) (RT.os 3 (RT.int .i64)))).val M a0 (.slice pa0 pn0 pc0) s57.2.2 a4) (K := (k_laws_markOpS M w pa0 pn0 pc0 pf0)) ?_ FU (k, 0, a_) o61 _ _ ?_ c8 ?_
 ·rintro s57 o61 a a0 ⟨σ, a1, rfl, hC, hO, a5⟩ hs
  refine c_seq ?_
  refine c_sr ?_
  refine pl_val (.int .i64 s57.2.1) (y_move rfl) ?_
  refine pl_val (.slice pa0 pn0 pc0) (y_move rfl) ?_
  refine pl_val (.int .i64 (s57.2.2.length : Int)) (y_len' Sl32 (os_len a5) rfl) ?_
  refine pl_val (.bool (decide (s57.2.1 < (s57.2.2.length : Int)))) (y_lss rfl rfl) ?_
  refine c_nil ?_
  rcases bif_some hs with ⟨b1, hs⟩ | ⟨b1, hs⟩
  ·refine c_condT (congrArg Value.bool b1) ?_
   refine wp_skip ?_
   refine c_seq ?_
   refine wp_block ?_
   refine c_sr ?_
   refine pl_val (.slice pa0 pn0 pc0) (y_move rfl) ?_
   refine pl_val (.int .i64 s57.2.1) (y_move rfl) ?_
   refine pl_val (.int .i64 s57.1) (y_move rfl) ?_
   obtain ⟨x67, b5, hs⟩ := bind_some hs
   obtain ⟨a2, h2, c9, h3, d0, d1, d2⟩ := os_idx Sl32 Sz36 a5 b5
   have d3 := own_row (Frz.pr Frz.int (Frz.os Frz.int)) d1 d2
   refine pl_val (.pointer (some ⟨a2, 0 + Int.toNat s57.2.1 * 2, none⟩)) (d0 _ _ _ _ _ _ _ _ _ rfl rfl) ?_
   obtain ⟨h4, _⟩ := pr_at d3
   refine pl_val (.pointer (some ⟨a2, (0 + Int.toNat s57.2.1 * 2) + 0, none⟩)) (y_faddr rfl Fa36x0) ?_
   obtain ⟨b6, h5, d4, h6, d5, h7, d6, d7, h8, d8, b7, d9, hput70⟩ := os_focus c9 a5 b5 hO.inM
   obtain ⟨h9, b8, i0, e0, rfl, rfl, e1, b9⟩ := d7
   obtain ⟨rfl, rfl⟩ := e1
   have i1 := RT.len _ b9
   obtain ⟨b2, c0, a6, e2⟩ := box_store (P := Try.prog) d6 (b6) [(Value.int .i64 x67.1)] (b8 ++ (d4)) [(Value.int .i64 s57.1)] (by simp) rfl (by intro u hu; rw [List.mem_singleton.1 hu]; rfl)
   have e3 : (b6).length = ((0 + Int.toNat s57.2.1 * 2) + 0) := by
    simp only [List.length_append, d5]
    try rfl
   rw [e3] at c0
   have e4 : ∀ q ∈ [a2], M q ∨ (a0).heap.size ≤ q := fun q hq => .inl (by rw [List.mem_singleton.1 hq]; exact hO.inM _ b7)
   obtain ⟨e5, a7, e6⟩ := hput70 b2 [a2] ([(Value.int .i64 s57.1)] ++ b8) (s57.1, x67.2) (([] : List Nat) ++ e0) a6 (fun q hq => .inl (List.mem_singleton.1 hq)) (by simpa using e2) ⟨_, _, _, _, rfl, rfl, ⟨rfl, rfl⟩, (RT.mono _ b9 a6 e4 (fun q hq hq' => d9 (by rw [List.mem_singleton.1 hq] at hq'; simp [hq'])) (fun _ h => .inl h))⟩ d8 (fun q hq => .inl hq)
   refine pl_skip (w' := b2) (ys_store rfl rfl (c0 _ _ rfl Sz3)) ?_
   have e7 : ∀ q ∈ [a2], q ∈ a1 := fun q hq => by rw [List.mem_singleton.1 hq]; exact b7
   have hC := hC.st a6 hO e7
   have hO := hO.grow a6 e6 (os_nodup a7) a7.fpl
   refine c_nil ?_
   refine c_sr ?_
   refine pl_val (.int .i64 s57.1) (y_move rfl) ?_
   refine pl_val (.int .i64 (w64 (s57.1 + 1))) (y_add rfl rfl) ?_
   refine pl_val (.int .i64 (w64 (s57.1 + 1))) (y_assign rfl) ?_
   refine c_nil ?_
   refine c_region ?_
   refine pl_val (.slice pa0 pn0 pc0) (y_move rfl) ?_
   refine pl_val (.int .i64 s57.2.1) (y_move rfl) ?_
   obtain ⟨x71, c1, hs⟩ := bind_some hs
   obtain ⟨c2, i2, e8, i3, e9, f0, f1⟩ := os_idx Sl32 Sz36 a7 c1
   have c3 := own_row (Frz.pr Frz.int (Frz.os Frz.int)) f0 f1
   refine pl_val (.pointer (some ⟨c2, 0 + Int.toNat s57.2.1 * 2, none⟩)) (e9 _ _ _ _ _ _ _ _ _ rfl rfl) ?_
   obtain ⟨_, i4⟩ := pr_at c3
   refine pl_val (.pointer (some ⟨c2, (0 + Int.toNat s57.2.1 * 2) + 1, none⟩)) (y_faddr rfl Fa36x1) ?_
   obtain ⟨i5, hrow74, f2⟩ := at_open c3
   obtain ⟨i6, i7, rfl, f3, f4⟩ := pr_open f2
   obtain rfl := int_rel f3
   obtain ⟨a8, a9, b0, rfl, i9⟩ := rs_rel f4
   refine pl_val (.slice a8 a9 b0) (y_load rfl ((part_load (l1 := [(.int .i64 x71.1)]) (c := [(.slice a8 a9 b0)]) (l2 := []) Ag25 Sz25 hrow74 rfl rfl (fun _ => rfl)) _ (Chg.refl _ _))) ?_
   refine pl_val (.int .i64 (w64 (s57.1 + 1))) (y_move rfl) ?_
   obtain ⟨j0, f5, f6, f7, hput76⟩ := os_put e8 a7 c1 hrow74 rfl hO.inM
   obtain ⟨j1, a3, rfl, f8, f9⟩ := pr_split (c := [(.int .i64 x71.1)]) (d := [(.slice a8 a9 b0)]) f5 rfl
   obtain rfl := int_fp f8
   have g0 : (RT.os 3 (RT.int .i64)).val M b2 (.slice a8 a9 b0) x71.2 a3 := ⟨[_], rfl, f9⟩
   have c4 : ∀ q ∈ (a3 ++ ([])), q ∈ e5 := fun q hq => f6 q (by simpa using hq)
   have g1 : List.Nodup (a3 ++ ([])) := by simpa using f7
   have g2 := hO
   have c5 := Own.part (X := (a3 ++ ([]))) (g2) c4 g1
   obtain ⟨r77, g3, hs⟩ := bind_some hs
   refine pl_call Bd53 rfl (c_laws_markIntS (M := M) x71.2 (w64 (s57.1 + 1)) g0 c5 c5.fut g3) ?_
   rintro _ g4 ⟨g5, rfl, b3, g6, c6⟩
   obtain ⟨g7, b4, g8⟩ := hput76 g4 (a3 ++ ([])) (x71.1, r77.2) (([] : List Nat) ++ g5) b3 (fun q hq => by simpa using hq) ⟨_, _, _, _, rfl, rfl, ⟨rfl, rfl⟩, (os_unval g6)⟩ (by simpa using c6.1) (fun q hq => (c6.2.1 q (by simpa using hq)).2.2.imp (fun h => by simpa using h) id)
   have hC := hC.st b3 hO c4
   have hO := hO.grow b3 g8 (os_nodup b4) b4.fpl
   refine pl_val (.int .i64 r77.1) (y_assign rfl) ?_
   refine c_nil ?_
   refine c_region ?_
   refine pl_val (.int .i64 s57.2.1) (y_move rfl) ?_
   refine pl_val (.int .i64 (w64 (s57.2.1 + 1))) (y_add rfl rfl) ?_
   refine pl_val (.int .i64 (w64 (s57.2.1 + 1))) (y_assign rfl) ?_
   refine c_nil ?_
   cases hs
   exact ⟨_, g7, fr_ovl 27 ⟨rfl, rfl, rfl, trivial⟩, hC, hO, b4⟩
  refine c_condF (congrArg Value.bool b1) ?_
  refine wp_exit ?_
  cases hs
  exact ⟨rfl, _, a1, fr_ovl 27 ⟨rfl, trivial⟩, hC, hO, a5⟩
 ·skip
  exact ⟨_, pf0, fr_ovl 27 ⟨rfl, rfl, rfl, trivial⟩, hC, hO, h0⟩
 cases o61 with
 | nx _ => exact True.intro
 | rt r_ =>
  have hs := after_rt hs
  intro g9 c7 hK
  cases hs
  exact hK
 | br s57 =>
  have hs := after_br hs
  rintro g9 a0 ⟨σ, a4, rfl, hC, hO, h1⟩
  refine c_sr ?_
  refine pl_val (.int .i64 s57.1) (y_move rfl) ?_
  refine pl_val (.int .i64 s57.1) (y_assign rfl) ?_
  refine c_nil ?_
  refine wp_ret ?_
  cases hs
  exact ⟨_, a4, fr_ovl 27 ⟨rfl, trivial⟩, hC, h1, hO.top⟩

theorem Bd48 : Bodied Try.prog 48 := bodied Try.func48 (by kernel_rfl) rfl

def k_laws_markAlgebra (M : Nat → Prop) (w0 : World) (qa0 : Option Addr) (qn0 qc0 : Nat) (qf0 : List Nat) (r : Int × (List (Int × (List Int)))) (a : Act) (w : World) : Prop :=
  ∃ (σ : Nat → Value) (rfi0 : List Nat), a = fr 10 (ovl σ [(4, (.int .i64 r.1))]) ∧ Chg (qf0 ++ ([])) w0 w ∧ (RT.os 36 (RT.pr (RT.int .i64) (RT.os 3 (RT.int .i64)))).val M w (.slice qa0 qn0 qc0) r.2 rfi0 ∧ Own (Nw w0 (qf0 ++ ([]))) (fun _ => True) w (rfi0 ++ ([]))
def s_laws_markAlgebra (a_ : Int × (List (Int × (List Int)))) (k : Int) : Option (Int × (List (Int × (List Int)))) :=
  (s_laws_markOpS a_.2 k).bind fun r4 =>
  some (r4.1, r4.2)
set_option maxHeartbeats 4000000 in
theorem c_laws_markAlgebra {M : Nat → Prop} {w : World} {pa0 : Option Addr} {pn0 pc0 : Nat} {pf0 : List Nat} (a_ : Int × (List (Int × (List Int)))) (k : Int) (h0 : (RT.os 36 (RT.pr (RT.int .i64) (RT.os 3 (RT.int .i64)))).val M w (.slice pa0 pn0 pc0) a_.2 pf0) (hI : Own (Nw w (pf0 ++ ([]))) M w (pf0 ++ ([]))) (hM : ∀ g, w.heap.size ≤ g → M g) {r : Int × (List (Int × (List Int)))} (hs : s_laws_markAlgebra a_ k = some r) :
    Gives Try.prog 21 [(.agg #[(.int .i64 a_.1), (.slice pa0 pn0 pc0)]), (.int .i64 k)] w (fun v w' => ∃ (rfi0 : List Nat), v = (.int .i64 r.1) ∧ Chg (pf0 ++ ([])) w w' ∧ (RT.os 36 (RT.pr (RT.int .i64) (RT.os 3 (RT.int .i64)))).val M w' (.slice pa0 pn0 pc0) r.2 rfi0 ∧ Own (Nw w (pf0 ++ ([]))) (fun _ => True) w' (rfi0 ++ ([]))) := by
 refine calls_fr Try.func21 rfl Try.ntmps21 (Nat.le_of_ble_eq_true rfl) ?_
 have hO := hI
 have hC := Chg.refl (pf0 ++ ([])) w
 unfold s_laws_markAlgebra at hs
 refine wp_mono (Q := KPost (k_laws_markAlgebra M w pa0 pn0 pc0 pf0 r)) ?_ (fun e a b3 h => ?_)
 rotate_left
 ·cases e
  case ret =>
   obtain ⟨σ, rfi0, rfl, hrest⟩ := h
   exact ret1x Try.results21 (res_tmp rfl) ⟨rfi0, rfl, hrest⟩
  all_goals exact (h : False).elim
 refine c_sr ?_
 obtain ⟨a7, a0, a8, a4, a2, a1⟩ := new_block w [(.int .i64 a_.1), (.slice pa0 pn0 pc0)] 34
 refine pl_val (w' := a7) (.pointer (some ⟨a0, 0, none⟩)) (y_box rfl (by rw [a8, a4]; kernel_rfl)) ?_
 have h0 := h0.ext a2
 have hC := hC.ext a2
 have hO := hO.new1 a2 a4 a1.lt
 refine pl_val (.int .i64 0) (y_assign rfl) ?_
 refine c_nil ?_
 refine c_sr ?_
 refine pl_val (.pointer (some ⟨a0, 1, none⟩)) (y_faddr rfl Fa34x1) ?_
 refine pl_val (.slice pa0 pn0 pc0) (y_load rfl ((box_load Ag32 Sz32 a1 [(.int .i64 a_.1)] [(.slice pa0 pn0 pc0)] [] rfl rfl (fun _ => rfl)) _ (Chg.refl _ _))) ?_
 refine pl_val (.int .i64 k) (y_move rfl) ?_
 have hO := hO.fr1
 have a9 := hO
 have a5 := Own.lend (F := (pf0 ++ ([]))) (R := ([a0]) ++ ([])) (Own.perm (a9) (by simp))
 obtain ⟨r4, b0, hs⟩ := bind_some hs
 refine pl_call Bd48 rfl (c_laws_markOpS (M := M) a_.2 k h0 a5 a5.fut b0) ?_
 rintro _ b4 ⟨a6, rfl, a3, b1, b2⟩
 have hO := hO.perm (R := (pf0 ++ ([])) ++ (([a0]) ++ ([]))) (by simp)
 have a1 := a1.ap a3 hO same_ (mem_l (List.mem_singleton.2 rfl))
 have hC := hC.st a3 hO same_
 have hO := Own.join hO a3 b2
 have hO := hO.perm (R := a6 ++ (([a0]) ++ ([]))) (by simp)
 refine pl_val (.int .i64 r4.1) (y_assign rfl) ?_
 refine c_nil ?_
 have hO := hO.fr1
 have hO := hO.drop
 refine c_sr ?_
 refine pl_val (.int .i64 r4.1) (y_move rfl) ?_
 refine pl_val (.int .i64 r4.1) (y_assign rfl) ?_
 refine c_nil ?_
 refine wp_ret ?_
 cases hs
 exact ⟨_, a6, fr_ovl 10 ⟨rfl, trivial⟩, hC, b1, hO.top⟩

def k_laws_markOp (M : Nat → Prop) (w0 : World) (qa0 : Option Addr) (qn0 qc0 : Nat) (qf0 : List Nat) (r : Int × (List Int)) (a : Act) (w : World) : Prop :=
  ∃ (σ : Nat → Value) (rfi0 : List Nat), a = fr 10 (ovl σ [(4, (.int .i64 r.1))]) ∧ Chg (qf0 ++ ([])) w0 w ∧ (RT.os 3 (RT.int .i64)).val M w (.slice qa0 qn0 qc0) r.2 rfi0 ∧ Own (Nw w0 (qf0 ++ ([]))) (fun _ => True) w (rfi0 ++ ([]))
def s_laws_markOp (a_ : Int × (List Int)) (k : Int) : Option (Int × (List Int)) :=
  (s_laws_markIntS a_.2 k).bind fun r4 =>
  some (r4.1, r4.2)
set_option maxHeartbeats 4000000 in
theorem c_laws_markOp {M : Nat → Prop} {w : World} {pa0 : Option Addr} {pn0 pc0 : Nat} {pf0 : List Nat} (a_ : Int × (List Int)) (k : Int) (h0 : (RT.os 3 (RT.int .i64)).val M w (.slice pa0 pn0 pc0) a_.2 pf0) (hI : Own (Nw w (pf0 ++ ([]))) M w (pf0 ++ ([]))) (hM : ∀ g, w.heap.size ≤ g → M g) {r : Int × (List Int)} (hs : s_laws_markOp a_ k = some r) :
    Gives Try.prog 29 [(.agg #[(.int .i64 a_.1), (.slice pa0 pn0 pc0)]), (.int .i64 k)] w (fun v w' => ∃ (rfi0 : List Nat), v = (.int .i64 r.1) ∧ Chg (pf0 ++ ([])) w w' ∧ (RT.os 3 (RT.int .i64)).val M w' (.slice pa0 pn0 pc0) r.2 rfi0 ∧ Own (Nw w (pf0 ++ ([]))) (fun _ => True) w' (rfi0 ++ ([]))) := by
 refine calls_fr Try.func29 rfl Try.ntmps29 (Nat.le_of_ble_eq_true rfl) ?_
 have hO := hI
 have hC := Chg.refl (pf0 ++ ([])) w
 unfold s_laws_markOp at hs
 refine wp_mono (Q := KPost (k_laws_markOp M w pa0 pn0 pc0 pf0 r)) ?_ (fun e a b3 h => ?_)
 rotate_left
 ·cases e
  case ret =>
   obtain ⟨σ, rfi0, rfl, hrest⟩ := h
   exact ret1x Try.results29 (res_tmp rfl) ⟨rfi0, rfl, hrest⟩
  all_goals exact (h : False).elim
 refine c_sr ?_
 obtain ⟨a7, a0, a8, a4, a2, a1⟩ := new_block w [(.int .i64 a_.1), (.slice pa0 pn0 pc0)] 36
 refine pl_val (w' := a7) (.pointer (some ⟨a0, 0, none⟩)) (y_box rfl (by rw [a8, a4]; kernel_rfl)) ?_
 have h0 := h0.ext a2
 have hC := hC.ext a2
 have hO := hO.new1 a2 a4 a1.lt
 refine pl_val (.int .i64 0) (y_assign rfl) ?_
 refine c_nil ?_
 refine c_sr ?_
 refine pl_val (.pointer (some ⟨a0, 1, none⟩)) (y_faddr rfl Fa36x1) ?_
 refine pl_val (.slice pa0 pn0 pc0) (y_load rfl ((box_load Ag25 Sz25 a1 [(.int .i64 a_.1)] [(.slice pa0 pn0 pc0)] [] rfl rfl (fun _ => rfl)) _ (Chg.refl _ _))) ?_
 refine pl_val (.int .i64 k) (y_move rfl) ?_
 have hO := hO.fr1
 have a9 := hO
 have a5 := Own.lend (F := (pf0 ++ ([]))) (R := ([a0]) ++ ([])) (Own.perm (a9) (by simp))
 obtain ⟨r4, b0, hs⟩ := bind_some hs
 refine pl_call Bd53 rfl (c_laws_markIntS (M := M) a_.2 k h0 a5 a5.fut b0) ?_
 rintro _ b4 ⟨a6, rfl, a3, b1, b2⟩
 have hO := hO.perm (R := (pf0 ++ ([])) ++ (([a0]) ++ ([]))) (by simp)
 have a1 := a1.ap a3 hO same_ (mem_l (List.mem_singleton.2 rfl))
 have hC := hC.st a3 hO same_
 have hO := Own.join hO a3 b2
 have hO := hO.perm (R := a6 ++ (([a0]) ++ ([]))) (by simp)
 refine pl_val (.int .i64 r4.1) (y_assign rfl) ?_
 refine c_nil ?_
 have hO := hO.fr1
 have hO := hO.drop
 refine c_sr ?_
 refine pl_val (.int .i64 r4.1) (y_move rfl) ?_
 refine pl_val (.int .i64 r4.1) (y_assign rfl) ?_
 refine c_nil ?_
 refine wp_ret ?_
 cases hs
 exact ⟨_, a6, fr_ovl 10 ⟨rfl, trivial⟩, hC, b1, hO.top⟩

def k_laws_markIntSS (M : Nat → Prop) (w0 : World) (qa0 : Option Addr) (qn0 qc0 : Nat) (qf0 : List Nat) (r : Int × (List (List Int))) (a : Act) (w : World) : Prop :=
  ∃ (σ : Nat → Value) (rfi0 : List Nat), a = fr 19 (ovl σ [(4, (.int .i64 r.1))]) ∧ Chg (qf0 ++ ([])) w0 w ∧ (RT.os 25 (RT.os 3 (RT.int .i64))).val M w (.slice qa0 qn0 qc0) r.2 rfi0 ∧ Own (Nw w0 (qf0 ++ ([]))) (fun _ => True) w (rfi0 ++ ([]))
def s_laws_markIntSS (a_ : List (List Int)) (k : Int) : Option (Int × (List (List Int))) :=
  (iter (S := Int × Int × (List (List Int))) (R := Int × (List (List Int))) (fun s37 =>
  (bif (decide (s37.2.1 < (s37.2.2.length : Int))) then (idx s37.2.2 s37.2.1).bind fun x46 =>
  (s_laws_markIntS x46 s37.1).bind fun r51 =>
  some (.nx (r51.1, w64 (s37.2.1 + 1), List.set s37.2.2 (Int.toNat s37.2.1) r51.2)) else some (.br (s37.1, s37.2.1, s37.2.2)))) FU (k, 0, a_)).bind fun o41 => after o41 (fun r_ => some r_) (fun s37 =>
  some (s37.1, s37.2.2))
set_option maxHeartbeats 4000000 in
theorem c_laws_markIntSS {M : Nat → Prop} {w : World} {pa0 : Option Addr} {pn0 pc0 : Nat} {pf0 : List Nat} (a_ : List (List Int)) (k : Int) (h0 : (RT.os 25 (RT.os 3 (RT.int .i64))).val M w (.slice pa0 pn0 pc0) a_ pf0) (hI : Own (Nw w (pf0 ++ ([]))) M w (pf0 ++ ([]))) (hM : ∀ g, w.heap.size ≤ g → M g) {r : Int × (List (List Int))} (hs : s_laws_markIntSS a_ k = some r) :
    Gives Try.prog 49 [(.slice pa0 pn0 pc0), (.int .i64 k)] w (fun v w' => ∃ (rfi0 : List Nat), v = (.int .i64 r.1) ∧ Chg (pf0 ++ ([])) w w' ∧ (RT.os 25 (RT.os 3 (RT.int .i64))).val M w' (.slice pa0 pn0 pc0) r.2 rfi0 ∧ Own (Nw w (pf0 ++ ([]))) (fun _ => True) w' (rfi0 ++ ([]))) := by
 refine calls_fr Try.func49 rfl Try.ntmps49 (Nat.le_of_ble_eq_true rfl) ?_
 have hO := hI
 have hC := Chg.refl (pf0 ++ ([])) w
 unfold s_laws_markIntSS at hs
 refine wp_mono (Q := KPost (k_laws_markIntSS M w pa0 pn0 pc0 pf0 r)) ?_ (fun e a b5 h => ?_)
 rotate_left
 ·cases e
  case ret =>
   obtain ⟨σ, rfi0, rfl, hrest⟩ := h
   exact ret1x Try.results49 (res_tmp rfl) ⟨rfi0, rfl, hrest⟩
  all_goals exact (h : False).elim
 refine c_sr ?_
 refine pl_val (.int .i64 0) (y_assign rfl) ?_
 refine c_nil ?_
 refine c_seq ?_
 refine c_sr ?_
 refine pl_val (.int .i64 0) (y_assign rfl) ?_
 refine c_nil ?_
 obtain ⟨o41, b6, hs⟩ := bind_some hs
 refine wp_block ?_
 refine wp_iter (id := 0) (I := fun s37 a a0 => ∃ (σ : Nat → Value) (a1 : List Nat), a = fr 19 (ovl σ [(0, (.slice pa0 pn0 pc0)), (1, (.int .i64 s37.1)), (5, (.int .i64 s37.2.1))]) ∧ Chg (pf0 ++ ([])) w a0 ∧ Own (Nw w (pf0 ++ ([]))) M a0 (a1 ++ []) ∧ (RT.os 25 (RT.os 3 (RT.int .i64))).val M a0 (.slice pa0 pn0 pc0) s37.2.2 a1) (J := fun s37 a a0 => ∃ (σ : Nat → Value) (a3 : List Nat), a = fr 19 (ovl σ [(1, (.int .i64 s37.1))]) ∧ Chg (pf0 ++ ([])) w a0 ∧ Own (Nw w (pf0 ++ ([]))) M a0 (a3 ++ []) ∧ (RT.os 25 (RT.os 3 (RT.int .i64))).val M a0 (.slice pa0 pn0 pc0) s37.2.2 a3) (K := (k_laws_markIntSS M w pa0 pn0 pc0 pf0)) ?_ FU (k, 0, a_) o41 _ _ ?_ b6 ?_
 ·rintro s37 o41 a a0 ⟨σ, a1, rfl, hC, hO, a4⟩ hs
  refine c_seq ?_
  refine c_sr ?_
  refine pl_val (.int .i64 s37.2.1) (y_move rfl) ?_
  refine pl_val (.slice pa0 pn0 pc0) (y_move rfl) ?_
  refine pl_val (.int .i64 (s37.2.2.length : Int)) (y_len' Sl49 (os_len a4) rfl) ?_
  refine pl_val (.bool (decide (s37.2.1 < (s37.2.2.length : Int)))) (y_lss rfl rfl) ?_
  refine c_nil ?_
  rcases bif_some hs with ⟨a5, hs⟩ | ⟨a5, hs⟩
  ·refine c_condT (congrArg Value.bool a5) ?_
   refine wp_skip ?_
   refine c_seq ?_
   refine wp_block ?_
   refine c_region ?_
   refine pl_val (.slice pa0 pn0 pc0) (y_move rfl) ?_
   refine pl_val (.int .i64 s37.2.1) (y_move rfl) ?_
   obtain ⟨x46, a8, hs⟩ := bind_some hs
   obtain ⟨b7, d9, b8, e0, b9, c0, c1⟩ := os_idx Sl49 Sz25 a4 a8
   have c2 := own_row (Frz.os Frz.int) c0 c1
   refine pl_val (.pointer (some ⟨b7, 0 + Int.toNat s37.2.1 * 1, none⟩)) (b9 _ _ _ _ _ _ _ _ _ rfl rfl) ?_
   obtain ⟨e1, c3, hrow48, c4⟩ := at_load1 Ag25 Sz25 rfl rfl c2
   obtain ⟨a9, b0, b1, rfl⟩ := rs_sl c4
   refine pl_val (.slice a9 b0 b1) (y_load rfl (c3 _ (Chg.refl _ _))) ?_
   refine pl_val (.int .i64 s37.1) (y_move rfl) ?_
   obtain ⟨a2, c5, c6, c7, hput50⟩ := os_put b8 a4 a8 hrow48 rfl hO.inM
   have c8 : (RT.os 3 (RT.int .i64)).val M a0 (.slice a9 b0 b1) x46 a2 := ⟨[_], rfl, c5⟩
   have b2 : ∀ q ∈ (a2 ++ ([])), q ∈ a1 := fun q hq => c6 q (by simpa using hq)
   have c9 : List.Nodup (a2 ++ ([])) := by simpa using c7
   have d0 := hO
   have b3 := Own.part (X := (a2 ++ ([]))) (d0) b2 c9
   obtain ⟨r51, d1, hs⟩ := bind_some hs
   refine pl_call Bd53 rfl (c_laws_markIntS (M := M) x46 s37.1 c8 b3 b3.fut d1) ?_
   rintro _ d2 ⟨d3, rfl, a6, d4, b4⟩
   obtain ⟨d5, a7, d6⟩ := hput50 d2 (a2 ++ ([])) r51.2 d3 a6 (fun q hq => by simpa using hq) (os_unval d4) (by simpa using b4.1) (fun q hq => (b4.2.1 q (by simpa using hq)).2.2.imp (fun h => by simpa using h) id)
   have hC := hC.st a6 hO b2
   have hO := hO.grow a6 d6 (os_nodup a7) a7.fpl
   refine pl_val (.int .i64 r51.1) (y_assign rfl) ?_
   refine c_nil ?_
   refine c_region ?_
   refine pl_val (.int .i64 s37.2.1) (y_move rfl) ?_
   refine pl_val (.int .i64 (w64 (s37.2.1 + 1))) (y_add rfl rfl) ?_
   refine pl_val (.int .i64 (w64 (s37.2.1 + 1))) (y_assign rfl) ?_
   refine c_nil ?_
   cases hs
   exact ⟨_, d5, fr_ovl 19 ⟨rfl, rfl, rfl, trivial⟩, hC, hO, a7⟩
  refine c_condF (congrArg Value.bool a5) ?_
  refine wp_exit ?_
  cases hs
  exact ⟨rfl, _, a1, fr_ovl 19 ⟨rfl, trivial⟩, hC, hO, a4⟩
 ·skip
  exact ⟨_, pf0, fr_ovl 19 ⟨rfl, rfl, rfl, trivial⟩, hC, hO, h0⟩
 cases o41 with
 | nx _ => exact True.intro
 | rt r_ =>
  have hs := after_rt hs
  intro d7 b5 hK
  cases hs
  exact hK
 | br s37 =>
  have hs := after_br hs
  rintro d7 a0 ⟨σ, a3, rfl, hC, hO, d8⟩
  refine c_sr ?_
  refine pl_val (.int .i64 s37.1) (y_move rfl) ?_
  refine pl_val (.int .i64 s37.1) (y_assign rfl) ?_
  refine c_nil ?_
  refine wp_ret ?_
  cases hs
  exact ⟨_, a3, fr_ovl 19 ⟨rfl, trivial⟩, hC, d8, hO.top⟩

theorem Bd49 : Bodied Try.prog 49 := bodied Try.func49 (by kernel_rfl) rfl

def k_laws_markRelation (M : Nat → Prop) (w0 : World) (qa0 : Option Addr) (qn0 qc0 : Nat) (qf0 : List Nat) (r : Int × (List (List Int))) (a : Act) (w : World) : Prop :=
  ∃ (σ : Nat → Value) (rfi0 : List Nat), a = fr 10 (ovl σ [(4, (.int .i64 r.1))]) ∧ Chg (qf0 ++ ([])) w0 w ∧ (RT.os 25 (RT.os 3 (RT.int .i64))).val M w (.slice qa0 qn0 qc0) r.2 rfi0 ∧ Own (Nw w0 (qf0 ++ ([]))) (fun _ => True) w (rfi0 ++ ([]))
def s_laws_markRelation (a_ : Int × (List (List Int))) (k : Int) : Option (Int × (List (List Int))) :=
  (s_laws_markIntSS a_.2 k).bind fun r4 =>
  some (r4.1, r4.2)
set_option maxHeartbeats 4000000 in
theorem c_laws_markRelation {M : Nat → Prop} {w : World} {pa0 : Option Addr} {pn0 pc0 : Nat} {pf0 : List Nat} (a_ : Int × (List (List Int))) (k : Int) (h0 : (RT.os 25 (RT.os 3 (RT.int .i64))).val M w (.slice pa0 pn0 pc0) a_.2 pf0) (hI : Own (Nw w (pf0 ++ ([]))) M w (pf0 ++ ([]))) (hM : ∀ g, w.heap.size ≤ g → M g) {r : Int × (List (List Int))} (hs : s_laws_markRelation a_ k = some r) :
    Gives Try.prog 30 [(.agg #[(.int .i64 a_.1), (.slice pa0 pn0 pc0)]), (.int .i64 k)] w (fun v w' => ∃ (rfi0 : List Nat), v = (.int .i64 r.1) ∧ Chg (pf0 ++ ([])) w w' ∧ (RT.os 25 (RT.os 3 (RT.int .i64))).val M w' (.slice pa0 pn0 pc0) r.2 rfi0 ∧ Own (Nw w (pf0 ++ ([]))) (fun _ => True) w' (rfi0 ++ ([]))) := by
 refine calls_fr Try.func30 rfl Try.ntmps30 (Nat.le_of_ble_eq_true rfl) ?_
 have hO := hI
 have hC := Chg.refl (pf0 ++ ([])) w
 unfold s_laws_markRelation at hs
 refine wp_mono (Q := KPost (k_laws_markRelation M w pa0 pn0 pc0 pf0 r)) ?_ (fun e a b3 h => ?_)
 rotate_left
 ·cases e
  case ret =>
   obtain ⟨σ, rfi0, rfl, hrest⟩ := h
   exact ret1x Try.results30 (res_tmp rfl) ⟨rfi0, rfl, hrest⟩
  all_goals exact (h : False).elim
 refine c_sr ?_
 obtain ⟨a7, a0, a8, a4, a2, a1⟩ := new_block w [(.int .i64 a_.1), (.slice pa0 pn0 pc0)] 51
 refine pl_val (w' := a7) (.pointer (some ⟨a0, 0, none⟩)) (y_box rfl (by rw [a8, a4]; kernel_rfl)) ?_
 have h0 := h0.ext a2
 have hC := hC.ext a2
 have hO := hO.new1 a2 a4 a1.lt
 refine pl_val (.int .i64 0) (y_assign rfl) ?_
 refine c_nil ?_
 refine c_sr ?_
 refine pl_val (.pointer (some ⟨a0, 1, none⟩)) (y_faddr rfl Fa51x1) ?_
 refine pl_val (.slice pa0 pn0 pc0) (y_load rfl ((box_load Ag49 Sz49 a1 [(.int .i64 a_.1)] [(.slice pa0 pn0 pc0)] [] rfl rfl (fun _ => rfl)) _ (Chg.refl _ _))) ?_
 refine pl_val (.int .i64 k) (y_move rfl) ?_
 have hO := hO.fr1
 have a9 := hO
 have a5 := Own.lend (F := (pf0 ++ ([]))) (R := ([a0]) ++ ([])) (Own.perm (a9) (by simp))
 obtain ⟨r4, b0, hs⟩ := bind_some hs
 refine pl_call Bd49 rfl (c_laws_markIntSS (M := M) a_.2 k h0 a5 a5.fut b0) ?_
 rintro _ b4 ⟨a6, rfl, a3, b1, b2⟩
 have hO := hO.perm (R := (pf0 ++ ([])) ++ (([a0]) ++ ([]))) (by simp)
 have a1 := a1.ap a3 hO same_ (mem_l (List.mem_singleton.2 rfl))
 have hC := hC.st a3 hO same_
 have hO := Own.join hO a3 b2
 have hO := hO.perm (R := a6 ++ (([a0]) ++ ([]))) (by simp)
 refine pl_val (.int .i64 r4.1) (y_assign rfl) ?_
 refine c_nil ?_
 have hO := hO.fr1
 have hO := hO.drop
 refine c_sr ?_
 refine pl_val (.int .i64 r4.1) (y_move rfl) ?_
 refine pl_val (.int .i64 r4.1) (y_assign rfl) ?_
 refine c_nil ?_
 refine wp_ret ?_
 cases hs
 exact ⟨_, a6, fr_ovl 10 ⟨rfl, trivial⟩, hC, b1, hO.top⟩

def k_laws_heldIntS (M : Nat → Prop) (w0 : World) (r : Int) (a : Act) (w : World) : Prop :=
  ∃ (σ : Nat → Value) , a = fr 21 (ovl σ [(4, (.int .i64 r))]) ∧ Chg [] w0 w
def s_laws_heldIntS (a_ : List Int) (k : Int) : Option (Int) :=
  (forC (S := Int) (R := Int) (fun k7 s5 =>
  (idx a_ k7).bind fun x11 =>
  (bif (x11 != s5) then some (.rt (-1)) else some (.nx (w64 (s5 + 1))))) 0 (a_.length : Int) k).bind fun o9 => after o9 (fun r_ => some r_) (fun s5 =>
  some s5)
set_option maxHeartbeats 4000000 in
theorem c_laws_heldIntS {M : Nat → Prop} {w : World} {pa0 : Option Addr} {pn0 pc0 : Nat} (a_ : List Int) (k : Int) (h0 : (RT.rs (RT.int .i64)).val M w (.slice pa0 pn0 pc0) a_ ([])) (hM : ∀ g, w.heap.size ≤ g → M g) {r : Int} (hs : s_laws_heldIntS a_ k = some r) :
    Gives Try.prog 66 [(.slice pa0 pn0 pc0), (.int .i64 k)] w (fun v w' => v = (.int .i64 r) ∧ Chg [] w w') := by
 refine calls_fr Try.func66 rfl Try.ntmps66 (Nat.le_of_ble_eq_true rfl) ?_
 have hO := Own.start (N := Nw w []) hM Nw.fut
 have hC := Chg.refl [] w
 unfold s_laws_heldIntS at hs
 refine wp_mono (Q := KPost (k_laws_heldIntS M w r)) ?_ (fun e a a2 h => ?_)
 rotate_left
 ·cases e
  case ret =>
   obtain ⟨σ, rfl, hrest⟩ := h
   exact ret1x Try.results66 (res_tmp rfl) ⟨rfl, hrest⟩
  all_goals exact (h : False).elim
 refine c_sr ?_
 refine pl_val (.int .i64 0) (y_assign rfl) ?_
 refine c_nil ?_
 refine c_seq ?_
 refine c_sr ?_
 refine pl_val (.int .i64 0) (y_assign rfl) ?_
 refine c_nil ?_
 obtain ⟨o9, a3, hs⟩ := bind_some hs
 refine wp_block ?_
 refine wp_forC (id := 0) (a_.length : Int) (I := fun k7 s5 a a0 => ∃ (σ : Nat → Value), a = fr 21 (ovl σ [(0, (.slice pa0 pn0 pc0)), (1, (.int .i64 s5)), (5, (.int .i64 k7))]) ∧ Chg [] w a0 ∧ Own (Nw w []) M a0 ([]) ∧ (RT.rs (RT.int .i64)).val M a0 (.slice pa0 pn0 pc0) a_ ([])) (J := fun s5 a a0 => ∃ (σ : Nat → Value), a = fr 21 (ovl σ [(1, (.int .i64 s5))]) ∧ Chg [] w a0 ∧ Own (Nw w []) M a0 ([]) ∧ (RT.rs (RT.int .i64)).val M a0 (.slice pa0 pn0 pc0) a_ ([])) (K := (k_laws_heldIntS M w)) ?_ ?_ 0 k o9 _ _ ?_ a3 ?_
 ·rintro k7 s5 a a0 ⟨σ, rfl, hC, hO, h0⟩ hlt
  refine c_seq ?_
  refine c_sr ?_
  refine pl_val (.int .i64 k7) (y_move rfl) ?_
  refine pl_val (.slice pa0 pn0 pc0) (y_move rfl) ?_
  refine pl_val (.int .i64 (a_.length : Int)) (y_len' Sl25 (rs_len h0) rfl) ?_
  refine pl_val (.bool (decide (k7 < (a_.length : Int)))) (y_lss rfl rfl) ?_
  refine c_nil ?_
  refine c_condF (congrArg Value.bool (decide_eq_false hlt)) ?_
  refine wp_exit ?_
  exact ⟨rfl, _, fr_ovl 21 ⟨rfl, trivial⟩, hC, hO, h0⟩
 ·rintro k7 s5 o9 a a0 ⟨σ, rfl, hC, hO, h0⟩ hlt hw hs
  refine c_seq ?_
  refine c_sr ?_
  refine pl_val (.int .i64 k7) (y_move rfl) ?_
  refine pl_val (.slice pa0 pn0 pc0) (y_move rfl) ?_
  refine pl_val (.int .i64 (a_.length : Int)) (y_len' Sl25 (rs_len h0) rfl) ?_
  refine pl_val (.bool (decide (k7 < (a_.length : Int)))) (y_lss rfl rfl) ?_
  refine c_nil ?_
  refine c_condT (congrArg Value.bool (decide_eq_true hlt)) ?_
  refine wp_skip ?_
  refine c_seq ?_
  refine wp_block ?_
  refine c_seq ?_
  refine c_sr ?_
  refine pl_val (.slice pa0 pn0 pc0) (y_move rfl) ?_
  refine pl_val (.int .i64 k7) (y_move rfl) ?_
  obtain ⟨x11, a4, hs⟩ := bind_some hs
  obtain ⟨a5, a6, a7, a8⟩ := rs_idx Sl25 Sz3 h0 a4
  refine pl_val (.pointer (some ⟨a5, a6, none⟩)) (a7 _ _ _ _ _ _ _ _ _ rfl rfl) ?_
  refine pl_val (.int .i64 x11) (y_load rfl ((at_load_int Ag3 Sz3 a8) _ (Chg.refl _ _))) ?_
  refine pl_val (.int .i64 s5) (y_move rfl) ?_
  refine pl_val (.bool (x11 != s5)) (y_neq rfl rfl) ?_
  refine c_nil ?_
  rcases bif_some hs with ⟨a1, hs⟩ | ⟨a1, hs⟩
  ·refine c_condT (congrArg Value.bool a1) ?_
   refine c_sr ?_
   refine pl_val (.int .i64 (-1)) (y_assign rfl) ?_
   refine c_nil ?_
   refine wp_ret ?_
   cases hs
   exact ⟨_, fr_ovl 21 ⟨rfl, trivial⟩, hC⟩
  refine c_condF (congrArg Value.bool a1) ?_
  refine wp_skip ?_
  refine c_region ?_
  refine pl_val (.int .i64 s5) (y_move rfl) ?_
  refine pl_val (.int .i64 (w64 (s5 + 1))) (y_add rfl rfl) ?_
  refine pl_val (.int .i64 (w64 (s5 + 1))) (y_assign rfl) ?_
  refine c_nil ?_
  refine c_region ?_
  refine pl_val (.int .i64 k7) (y_move rfl) ?_
  refine pl_val (.int .i64 (w64 (k7 + 1))) (y_add rfl rfl) ?_
  refine pl_val (.int .i64 (w64 (k7 + 1))) (y_assign rfl) ?_
  refine c_nil ?_
  cases hs
  exact ⟨_, fr_ovl 21 ⟨rfl, rfl, congrArg (Value.int .i64) hw, trivial⟩, hC, hO, h0⟩
 ·skip
  exact ⟨_, fr_ovl 21 ⟨rfl, rfl, rfl, trivial⟩, hC, hO, h0⟩
 cases o9 with
 | nx _ => exact True.intro
 | rt r_ =>
  have hs := after_rt hs
  intro a9 a2 hK
  cases hs
  exact hK
 | br s5 =>
  have hs := after_br hs
  rintro a9 a0 ⟨σ, rfl, hC, hO, h0⟩
  refine c_sr ?_
  refine pl_val (.int .i64 s5) (y_move rfl) ?_
  refine pl_val (.int .i64 s5) (y_assign rfl) ?_
  refine c_nil ?_
  refine wp_ret ?_
  cases hs
  exact ⟨_, fr_ovl 21 ⟨rfl, trivial⟩, hC⟩

theorem Bd66 : Bodied Try.prog 66 := bodied Try.func66 (by kernel_rfl) rfl

def k_laws_heldIntSS (M : Nat → Prop) (w0 : World) (r : Int) (a : Act) (w : World) : Prop :=
  ∃ (σ : Nat → Value) , a = fr 21 (ovl σ [(4, (.int .i64 r))]) ∧ Chg [] w0 w
def s_laws_heldIntSS (a_ : List (List Int)) (k : Int) : Option (Int) :=
  (forC (S := Int) (R := Int) (fun k11 s9 =>
  (idx a_ k11).bind fun x15 =>
  (s_laws_heldIntS x15 s9).bind fun r20 =>
  (bif (decide (r20 < 0)) then some (.rt (-1)) else some (.nx r20))) 0 (a_.length : Int) k).bind fun o13 => after o13 (fun r_ => some r_) (fun s9 =>
  some s9)
set_option maxHeartbeats 4000000 in
theorem c_laws_heldIntSS {M : Nat → Prop} {w : World} {pa0 : Option Addr} {pn0 pc0 : Nat} (a_ : List (List Int)) (k : Int) (h0 : (RT.rs (RT.rs (RT.int .i64))).val M w (.slice pa0 pn0 pc0) a_ ([])) (hM : ∀ g, w.heap.size ≤ g → M g) {r : Int} (hs : s_laws_heldIntSS a_ k = some r) :
    Gives Try.prog 50 [(.slice pa0 pn0 pc0), (.int .i64 k)] w (fun v w' => v = (.int .i64 r) ∧ Chg [] w w') := by
 refine calls_fr Try.func50 rfl Try.ntmps50 (Nat.le_of_ble_eq_true rfl) ?_
 have hO := Own.start (N := Nw w []) hM Nw.fut
 have hC := Chg.refl [] w
 unfold s_laws_heldIntSS at hs
 refine wp_mono (Q := KPost (k_laws_heldIntSS M w r)) ?_ (fun e a a4 h => ?_)
 rotate_left
 ·cases e
  case ret =>
   obtain ⟨σ, rfl, hrest⟩ := h
   exact ret1x Try.results50 (res_tmp rfl) ⟨rfl, hrest⟩
  all_goals exact (h : False).elim
 refine c_sr ?_
 refine pl_val (.int .i64 0) (y_assign rfl) ?_
 refine c_nil ?_
 refine c_seq ?_
 refine c_sr ?_
 refine pl_val (.int .i64 0) (y_assign rfl) ?_
 refine c_nil ?_
 obtain ⟨o13, a5, hs⟩ := bind_some hs
 refine wp_block ?_
 refine wp_forC (id := 0) (a_.length : Int) (I := fun k11 s9 a a0 => ∃ (σ : Nat → Value), a = fr 21 (ovl σ [(0, (.slice pa0 pn0 pc0)), (1, (.int .i64 s9)), (5, (.int .i64 k11))]) ∧ Chg [] w a0 ∧ Own (Nw w []) M a0 ([]) ∧ (RT.rs (RT.rs (RT.int .i64))).val M a0 (.slice pa0 pn0 pc0) a_ ([])) (J := fun s9 a a0 => ∃ (σ : Nat → Value), a = fr 21 (ovl σ [(1, (.int .i64 s9))]) ∧ Chg [] w a0 ∧ Own (Nw w []) M a0 ([]) ∧ (RT.rs (RT.rs (RT.int .i64))).val M a0 (.slice pa0 pn0 pc0) a_ ([])) (K := (k_laws_heldIntSS M w)) ?_ ?_ 0 k o13 _ _ ?_ a5 ?_
 ·rintro k11 s9 a a0 ⟨σ, rfl, hC, hO, h0⟩ hlt
  refine c_seq ?_
  refine c_sr ?_
  refine pl_val (.int .i64 k11) (y_move rfl) ?_
  refine pl_val (.slice pa0 pn0 pc0) (y_move rfl) ?_
  refine pl_val (.int .i64 (a_.length : Int)) (y_len' Sl49 (rs_len h0) rfl) ?_
  refine pl_val (.bool (decide (k11 < (a_.length : Int)))) (y_lss rfl rfl) ?_
  refine c_nil ?_
  refine c_condF (congrArg Value.bool (decide_eq_false hlt)) ?_
  refine wp_exit ?_
  exact ⟨rfl, _, fr_ovl 21 ⟨rfl, trivial⟩, hC, hO, h0⟩
 ·rintro k11 s9 o13 a a0 ⟨σ, rfl, hC, hO, h0⟩ hlt hw hs
  refine c_seq ?_
  refine c_sr ?_
  refine pl_val (.int .i64 k11) (y_move rfl) ?_
  refine pl_val (.slice pa0 pn0 pc0) (y_move rfl) ?_
  refine pl_val (.int .i64 (a_.length : Int)) (y_len' Sl49 (rs_len h0) rfl) ?_
  refine pl_val (.bool (decide (k11 < (a_.length : Int)))) (y_lss rfl rfl) ?_
  refine c_nil ?_
  refine c_condT (congrArg Value.bool (decide_eq_true hlt)) ?_
  refine wp_skip ?_
  refine c_seq ?_
  refine wp_block ?_
  refine c_sr ?_
  refine pl_val (.slice pa0 pn0 pc0) (y_move rfl) ?_
  refine pl_val (.int .i64 k11) (y_move rfl) ?_
  obtain ⟨x15, a6, hs⟩ := bind_some hs
  obtain ⟨a7, a8, a9, b0⟩ := rs_idx Sl49 Sz25 h0 a6
  refine pl_val (.pointer (some ⟨a7, a8, none⟩)) (a9 _ _ _ _ _ _ _ _ _ rfl rfl) ?_
  obtain ⟨b7, b1, a1⟩ := at_load Ag25 Sz25 (fun _ => rfl) b0
  obtain ⟨b2, b3, b4, rfl⟩ := rs_sl a1
  refine pl_val (.slice b2 b3 b4) (y_load rfl (b1 _ (Chg.refl _ _))) ?_
  refine pl_val (.int .i64 s9) (y_move rfl) ?_
  obtain ⟨r20, b5, hs⟩ := bind_some hs
  refine pl_call Bd66 rfl (c_laws_heldIntS (M := M) x15 s9 a1 hO.fut b5) ?_
  rintro _ b8 ⟨rfl, a2⟩
  have h0 := h0.ext a2
  have a1 := a1.ext a2
  have hC := hC.ext a2
  have hO := hO.ext a2
  refine pl_val (.int .i64 r20) (y_assign rfl) ?_
  refine c_nil ?_
  refine c_sr ?_
  refine pl_val (.int .i64 r20) (y_move rfl) ?_
  refine pl_val (.bool (decide (r20 < 0))) (y_lss rfl rfl) ?_
  refine c_nil ?_
  rcases bif_some hs with ⟨a3, hs⟩ | ⟨a3, hs⟩
  ·refine c_condT (congrArg Value.bool a3) ?_
   refine c_sr ?_
   refine pl_val (.int .i64 (-1)) (y_assign rfl) ?_
   refine c_nil ?_
   refine wp_ret ?_
   cases hs
   exact ⟨_, fr_ovl 21 ⟨rfl, trivial⟩, hC⟩
  refine c_condF (congrArg Value.bool a3) ?_
  refine wp_skip ?_
  refine c_region ?_
  refine pl_val (.int .i64 k11) (y_move rfl) ?_
  refine pl_val (.int .i64 (w64 (k11 + 1))) (y_add rfl rfl) ?_
  refine pl_val (.int .i64 (w64 (k11 + 1))) (y_assign rfl) ?_
  refine c_nil ?_
  cases hs
  exact ⟨_, fr_ovl 21 ⟨rfl, rfl, congrArg (Value.int .i64) hw, trivial⟩, hC, hO, h0⟩
 ·skip
  exact ⟨_, fr_ovl 21 ⟨rfl, rfl, rfl, trivial⟩, hC, hO, h0⟩
 cases o13 with
 | nx _ => exact True.intro
 | rt r_ =>
  have hs := after_rt hs
  intro b6 a4 hK
  cases hs
  exact hK
 | br s9 =>
  have hs := after_br hs
  rintro b6 a0 ⟨σ, rfl, hC, hO, h0⟩
  refine c_sr ?_
  refine pl_val (.int .i64 s9) (y_move rfl) ?_
  refine pl_val (.int .i64 s9) (y_assign rfl) ?_
  refine c_nil ?_
  refine wp_ret ?_
  cases hs
  exact ⟨_, fr_ovl 21 ⟨rfl, trivial⟩, hC⟩

theorem Bd50 : Bodied Try.prog 50 := bodied Try.func50 (by kernel_rfl) rfl

def k_laws_heldRelation (M : Nat → Prop) (w0 : World) (r : Int) (a : Act) (w : World) : Prop :=
  ∃ (σ : Nat → Value) , a = fr 12 (ovl σ [(4, (.int .i64 r))]) ∧ Chg [] w0 w
def s_laws_heldRelation (a_ : Int × (List (List Int))) (k : Int) : Option (Int) :=
  (s_laws_heldIntSS a_.2 k).bind fun r4 =>
  (bif (decide (r4 < 0)) then some (-1) else some r4)
set_option maxHeartbeats 4000000 in
theorem c_laws_heldRelation {M : Nat → Prop} {w : World} {pa0 : Option Addr} {pn0 pc0 : Nat} (a_ : Int × (List (List Int))) (k : Int) (h0 : (RT.rs (RT.rs (RT.int .i64))).val M w (.slice pa0 pn0 pc0) a_.2 ([])) (hM : ∀ g, w.heap.size ≤ g → M g) {r : Int} (hs : s_laws_heldRelation a_ k = some r) :
    Gives Try.prog 31 [(.agg #[(.int .i64 a_.1), (.slice pa0 pn0 pc0)]), (.int .i64 k)] w (fun v w' => v = (.int .i64 r) ∧ Chg [] w w') := by
 refine calls_fr Try.func31 rfl Try.ntmps31 (Nat.le_of_ble_eq_true rfl) ?_
 have hO := Own.start (N := Nw w []) hM Nw.fut
 have hC := Chg.refl [] w
 unfold s_laws_heldRelation at hs
 refine wp_mono (Q := KPost (k_laws_heldRelation M w r)) ?_ (fun e a a9 h => ?_)
 rotate_left
 ·cases e
  case ret =>
   obtain ⟨σ, rfl, hrest⟩ := h
   exact ret1x Try.results31 (res_tmp rfl) ⟨rfl, hrest⟩
  all_goals exact (h : False).elim
 refine c_sr ?_
 obtain ⟨a6, a4, a7, a5, a2, a0⟩ := new_block w [(.int .i64 a_.1), (.slice pa0 pn0 pc0)] 51
 refine pl_val (w' := a6) (.pointer (some ⟨a4, 0, none⟩)) (y_box rfl (by rw [a7, a5]; kernel_rfl)) ?_
 have h0 := h0.ext a2
 have hC := hC.ext a2
 have hO := hO.new1 a2 a5 a0.lt
 refine pl_val (.int .i64 0) (y_assign rfl) ?_
 refine c_nil ?_
 refine c_sr ?_
 refine pl_val (.pointer (some ⟨a4, 1, none⟩)) (y_faddr rfl Fa51x1) ?_
 refine pl_val (.slice pa0 pn0 pc0) (y_load rfl ((box_load Ag49 Sz49 a0 [(.int .i64 a_.1)] [(.slice pa0 pn0 pc0)] [] rfl rfl (fun _ => rfl)) _ (Chg.refl _ _))) ?_
 refine pl_val (.int .i64 k) (y_move rfl) ?_
 obtain ⟨r4, a8, hs⟩ := bind_some hs
 refine pl_call Bd50 rfl (c_laws_heldIntSS (M := M) a_.2 k h0 hO.fut a8) ?_
 rintro _ b0 ⟨rfl, a1⟩
 have h0 := h0.ext a1
 have a0 := a0.cn a1
 have hC := hC.ext a1
 have hO := hO.ext a1
 refine pl_val (.int .i64 r4) (y_assign rfl) ?_
 refine c_nil ?_
 have hO := hO.drop
 refine c_seq ?_
 refine c_sr ?_
 refine pl_val (.int .i64 r4) (y_move rfl) ?_
 refine pl_val (.bool (decide (r4 < 0))) (y_lss rfl rfl) ?_
 refine c_nil ?_
 rcases bif_some hs with ⟨a3, hs⟩ | ⟨a3, hs⟩
 ·refine c_condT (congrArg Value.bool a3) ?_
  refine c_sr ?_
  refine pl_val (.int .i64 (-1)) (y_assign rfl) ?_
  refine c_nil ?_
  refine wp_ret ?_
  cases hs
  exact ⟨_, fr_ovl 12 ⟨rfl, trivial⟩, hC⟩
 refine c_condF (congrArg Value.bool a3) ?_
 refine wp_skip ?_
 refine c_sr ?_
 refine pl_val (.int .i64 r4) (y_move rfl) ?_
 refine pl_val (.int .i64 r4) (y_assign rfl) ?_
 refine c_nil ?_
 refine wp_ret ?_
 cases hs
 exact ⟨_, fr_ovl 12 ⟨rfl, trivial⟩, hC⟩

theorem Ag24 : AggT Try.prog 24 true := fun _ => by kernel_rfl

theorem Sz24 : SzT Try.prog 24 2 := ⟨_, rfl, rfl⟩

theorem Bd8 : Bodied Try.prog 8 := bodied Try.func8 (by kernel_rfl) rfl

theorem Bd11 : Bodied Try.prog 11 := bodied Try.func11 (by kernel_rfl) rfl

theorem Bd26 : Bodied Try.prog 26 := bodied Try.func26 (by kernel_rfl) rfl

theorem Bd27 : Bodied Try.prog 27 := bodied Try.func27 (by kernel_rfl) rfl

theorem Bd28 : Bodied Try.prog 28 := bodied Try.func28 (by kernel_rfl) rfl

theorem Bd14 : Bodied Try.prog 14 := bodied Try.func14 (by kernel_rfl) rfl

theorem Bd21 : Bodied Try.prog 21 := bodied Try.func21 (by kernel_rfl) rfl

theorem Bd29 : Bodied Try.prog 29 := bodied Try.func29 (by kernel_rfl) rfl

theorem Bd30 : Bodied Try.prog 30 := bodied Try.func30 (by kernel_rfl) rfl

theorem Bd31 : Bodied Try.prog 31 := bodied Try.func31 (by kernel_rfl) rfl

end Go.Proofs
