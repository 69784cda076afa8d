/- What functions of the program compute, as plain functions, and that a call gives just that. Conditions: those named in each theorem. -/
import Derived.Test.YtchgbcjecdnclaaF1
set_option linter.unusedVariables false
namespace Go.Proofs
open Go.G Go.RowKit
set_option maxRecDepth 100000

def k_impl_closePartition (M : Nat → Prop) (w0 : World) (qa0 : Option Addr) (qn0 qc0 : Nat) (qf0 : List Nat) (r : Bool × (List Int)) (a : Act) (w : World) : Prop :=
  ∃ (σ : Nat → Value) (rfi0 : List Nat), a = fr 66 (ovl σ [(4, (.bool r.1))]) ∧ Chg (qf0 ++ ([])) w0 w ∧ (RT.os 3 (RT.int .i64)).val M w (.slice qa0 qn0 qc0) r.2 rfi0 ∧ Own (Nw w0 (qf0 ++ ([]))) (fun _ => True) w (rfi0 ++ ([]))
def s_impl_closePartition (a_ : Int × (List (Int × (List Int)))) (p : List Int) : Option (Bool × (List Int)) :=
  (iter (S := Bool × Bool × (List Int)) (R := Bool × (List Int)) (fun s1136 =>
  (bif s1136.2.1 then (forR (S := Bool × Bool × (List Int)) (R := Bool × (List Int)) (fun _ x1519 s1516 =>
  (forC (S := Bool × Bool × Int × (List Int)) (R := Bool × (List Int)) (fun k1646 s1644 =>
  (forC (S := Bool × Bool × (List Int)) (R := Bool × (List Int)) (fun k1687 s1685 =>
  (idx x1519.2 k1687).bind fun x1693 =>
  (nz s1644.2.2.1).bind fun u1699 =>
  (nz a_.1).bind fun u1700 =>
  (idx s1685.2.2 (Int.tmod (w64 (Int.tdiv k1687 s1644.2.2.1)) a_.1)).bind fun x1702 =>
  (idx x1519.2 (w64 (k1687 + (w64 ((w64 (x1702 - (Int.tmod (w64 (Int.tdiv k1687 s1644.2.2.1)) a_.1))) * s1644.2.2.1))))).bind fun x1704 =>
  (s_impl_unite s1685.2.2 x1693 x1704).bind fun r1707 =>
  (bif r1707.1 then some (.nx (true, true, r1707.2)) else some (.nx (s1685.1, s1685.2.1, r1707.2)))) 0 (x1519.2.length : Int) (s1644.1, s1644.2.1, s1644.2.2.2)).bind fun o1689 => after o1689 (fun r_ => some (.rt r_)) (fun s1685 =>
  some (.nx (s1685.1, s1685.2.1, w64 (s1644.2.2.1 * a_.1), s1685.2.2)))) 0 x1519.1 (s1516.1, s1516.2.1, 1, s1516.2.2)).bind fun o1648 => after o1648 (fun r_ => some (.rt r_)) (fun s1644 =>
  some (.nx (s1644.1, s1644.2.1, s1644.2.2.2)))) 0 a_.2 (s1136.1, false, s1136.2.2)).bind fun o1520 => after o1520 (fun r_ => some (.rt r_)) (fun s1516 =>
  some (.nx (s1516.1, s1516.2.1, s1516.2.2))) else some (.br (s1136.1, s1136.2.1, s1136.2.2)))) FU (false, true, p)).bind fun o1140 => after o1140 (fun r_ => some r_) (fun s1136 =>
  some (s1136.1, s1136.2.2))
set_option maxHeartbeats 4000000 in
theorem c_impl_closePartition {M : Nat → Prop} {w : World} {pa0 : Option Addr} {pn0 pc0 : Nat} {pa1 : Option Addr} {pn1 pc1 : Nat} {pf1 : List Nat} (a_ : Int × (List (Int × (List Int)))) (p : List Int) (h0 : (RT.rs (RT.pr (RT.int .i64) (RT.rs (RT.int .i64)))).val M w (.slice pa0 pn0 pc0) a_.2 ([])) (h1 : (RT.os 3 (RT.int .i64)).val M w (.slice pa1 pn1 pc1) p pf1) (hI : Own (Nw w (pf1 ++ ([]))) M w (pf1 ++ ([]))) (hM : ∀ g, w.heap.size ≤ g → M g) {r : Bool × (List Int)} (hs : s_impl_closePartition a_ p = some r) :
    Gives Try.prog 97 [(.agg #[(.int .i64 a_.1), (.slice pa0 pn0 pc0)]), (.slice pa1 pn1 pc1)] w (fun v w' => ∃ (rfi0 : List Nat), v = (.bool r.1) ∧ Chg (pf1 ++ ([])) w w' ∧ (RT.os 3 (RT.int .i64)).val M w' (.slice pa1 pn1 pc1) r.2 rfi0 ∧ Own (Nw w (pf1 ++ ([]))) (fun _ => True) w' (rfi0 ++ ([]))) := by
 refine calls_fr Try.func97 rfl Try.ntmps97 (Nat.le_of_ble_eq_true rfl) ?_
 have hO := hI
 have hC := Chg.refl (pf1 ++ ([])) w
 unfold s_impl_closePartition at hs
 refine wp_mono (Q := KPost (k_impl_closePartition M w pa1 pn1 pc1 pf1 r)) ?_ (fun e a w1 h => ?_)
 rotate_left
 ·cases e
  case ret =>
   obtain ⟨σ, rfi0, rfl, hrest⟩ := h
   exact ret1x Try.results97 (res_tmp rfl) ⟨rfi0, rfl, hrest⟩
  all_goals exact (h : False).elim
 refine c_seq (c_region ?_)
 obtain ⟨w3, g3, ew3, eg3, hC3, hb3⟩ := new_block w [(.int .i64 a_.1), (.slice pa0 pn0 pc0)] 35
 refine pl_val (w' := w3) (.pointer (some ⟨g3, 0, none⟩)) (y_box rfl (by rw [ew3, eg3]; kernel_rfl)) ?_
 have h0 := h0.ext hC3
 have h1 := h1.ext hC3
 have hC := hC.ext hC3
 have hO := hO.new1 hC3 eg3 hb3.lt
 refine pl_val (.bool false) (y_assign rfl) ?_
 refine c_nil ?_
 refine c_seq (c_region ?_)
 refine pl_val (.bool false) (y_assign rfl) ?_
 refine c_nil ?_
 refine c_seq ?_
 refine c_seq (c_region ?_)
 refine pl_val (.bool true) (y_assign rfl) ?_
 refine c_nil ?_
 obtain ⟨o1140, hl1141, hs⟩ := bind_some hs
 refine wp_block ?_
 refine wp_iter (id := 0) (I := fun s1136 a w1137 => ∃ (σ : Nat → Value) (f1142 : List Nat), a = fr 66 (ovl σ [(1, (.slice pa1 pn1 pc1)), (2, (.pointer (some ⟨g3, 0, none⟩))), (5, (.bool s1136.1)), (6, (.bool s1136.2.1))]) ∧ Chg (pf1 ++ ([])) w w1137 ∧ Own (Nw w (pf1 ++ ([]))) M w1137 (([g3]) ++ (f1142 ++ [])) ∧ (RT.rs (RT.pr (RT.int .i64) (RT.rs (RT.int .i64)))).val M w1137 (.slice pa0 pn0 pc0) a_.2 ([]) ∧ (RT.os 3 (RT.int .i64)).val M w1137 (.slice pa1 pn1 pc1) s1136.2.2 f1142 ∧ BoxV w1137 g3 35 [(.int .i64 a_.1), (.slice pa0 pn0 pc0)]) (J := fun s1136 a w1137 => ∃ (σ : Nat → Value) (f1143 : List Nat), a = fr 66 (ovl σ [(5, (.bool s1136.1))]) ∧ Chg (pf1 ++ ([])) w w1137 ∧ Own (Nw w (pf1 ++ ([]))) M w1137 (([g3]) ++ (f1143 ++ [])) ∧ (RT.rs (RT.pr (RT.int .i64) (RT.rs (RT.int .i64)))).val M w1137 (.slice pa0 pn0 pc0) a_.2 ([]) ∧ (RT.os 3 (RT.int .i64)).val M w1137 (.slice pa1 pn1 pc1) s1136.2.2 f1143 ∧ BoxV w1137 g3 35 [(.int .i64 a_.1), (.slice pa0 pn0 pc0)]) (K := (k_impl_closePartition M w pa1 pn1 pc1 pf1)) ?_ FU (false, true, p) o1140 _ _ ?_ hl1141 ?_
 ·rintro s1136 o1140 a w1137 ⟨σ, f1142, rfl, hC, hO, h0, hv1142, hb3⟩ hs
  refine c_seq ?_
  refine c_seq (c_region ?_)
  refine pl_val (.bool s1136.2.1) (y_move rfl) ?_
  refine c_nil ?_
  rcases bif_some hs with ⟨hc1144, hs⟩ | ⟨hc1144, hs⟩
  ·skip
   refine c_condT (congrArg Value.bool hc1144) ?_
   refine wp_skip ?_
   refine wp_block ?_
   refine c_seq (c_region ?_)
   refine pl_val (.bool false) (y_assign rfl) ?_
   refine c_nil ?_
   refine c_seq (c_region ?_)
   refine pl_val (.pointer (some ⟨g3, 1, none⟩)) (y_faddr rfl Fa35x1) ?_
   refine pl_val (.slice pa0 pn0 pc0) (y_load rfl ((box_load Ag33 Sz33 hb3 [(.int .i64 a_.1)] [(.slice pa0 pn0 pc0)] [] rfl rfl (fun _ => rfl)) _ (Chg.refl _ _))) ?_
   refine pl_val (.int .i64 (a_.2.length : Int)) (y_len' Sl33 (rs_len h0) rfl) ?_
   refine pl_val (.int .i64 0) (y_move rfl) ?_
   refine c_nil ?_
   obtain ⟨o1520, hl1521, hs⟩ := bind_some hs
   refine wp_block ?_
   refine wp_forR (id := 2) (I := fun i_ xs_ s1516 a w1517 => ∃ k1518 : Nat, i_ = (k1518 : Int) ∧ List.drop k1518 a_.2 = xs_ ∧ (∃ (σ : Nat → Value) (f1522 : List Nat), a = fr 66 (ovl σ [(1, (.slice pa1 pn1 pc1)), (2, (.pointer (some ⟨g3, 0, none⟩))), (5, (.bool s1516.1)), (6, (.bool s1516.2.1)), (16, (.slice pa0 pn0 pc0)), (17, (.int .i64 (a_.2.length : Int))), (18, (.int .i64 (k1518 : Int)))]) ∧ Chg (pf1 ++ ([])) w w1517 ∧ Own (Nw w (pf1 ++ ([]))) M w1517 (([g3]) ++ (f1522 ++ [])) ∧ (RT.rs (RT.pr (RT.int .i64) (RT.rs (RT.int .i64)))).val M w1517 (.slice pa0 pn0 pc0) a_.2 ([]) ∧ (RT.os 3 (RT.int .i64)).val M w1517 (.slice pa1 pn1 pc1) s1516.2.2 f1522 ∧ BoxV w1517 g3 35 [(.int .i64 a_.1), (.slice pa0 pn0 pc0)])) (J := fun s1516 a w1517 => ∃ (σ : Nat → Value) (f1523 : List Nat), a = fr 66 (ovl σ [(1, (.slice pa1 pn1 pc1)), (2, (.pointer (some ⟨g3, 0, none⟩))), (5, (.bool s1516.1)), (6, (.bool s1516.2.1))]) ∧ Chg (pf1 ++ ([])) w w1517 ∧ Own (Nw w (pf1 ++ ([]))) M w1517 (([g3]) ++ (f1523 ++ [])) ∧ (RT.rs (RT.pr (RT.int .i64) (RT.rs (RT.int .i64)))).val M w1517 (.slice pa0 pn0 pc0) a_.2 ([]) ∧ (RT.os 3 (RT.int .i64)).val M w1517 (.slice pa1 pn1 pc1) s1516.2.2 f1523 ∧ BoxV w1517 g3 35 [(.int .i64 a_.1), (.slice pa0 pn0 pc0)]) (K := (k_impl_closePartition M w pa1 pn1 pc1 pf1)) ?_ ?_ a_.2 0 (s1136.1, false, s1136.2.2) o1520 _ _ ?_ hl1521 ?_
   ·rintro _ s1516 a w1517 ⟨k1518, rfl, hd, σ, f1522, rfl, hC, hO, h0, hv1522, hb3⟩
    have hlt := drop_nil_ge hd
    refine c_seq (c_region ?_)
    refine pl_val (.bool (decide ((k1518 : Int) < (a_.2.length : Int)))) (y_lss rfl rfl) ?_
    refine c_nil ?_
    refine c_seq ?_
    refine c_condF (congrArg Value.bool (decide_eq_false hlt)) ?_
    refine wp_exit ?_
    have hO := hO.fr1
    have hO := hO.fr1
    exact ⟨rfl, _, f1522, fr_ovl 66 ⟨rfl, rfl, rfl, rfl, trivial⟩, hC, hO, h0, hv1522, hb3⟩
   ·rintro _ x1519 xs_ s1516 o1520 a w1517 ⟨k1518, rfl, hd, σ, f1522, rfl, hC, hO, h0, hv1522, hb3⟩ hs
    have hlt := drop_cons_lt hd
    have hxk1518 := drop_cons_idx hd
    refine c_seq (c_region ?_)
    refine pl_val (.bool (decide ((k1518 : Int) < (a_.2.length : Int)))) (y_lss rfl rfl) ?_
    refine c_nil ?_
    refine c_seq ?_
    refine c_condT (congrArg Value.bool (decide_eq_true hlt)) ?_
    refine wp_skip ?_
    refine c_seq ?_
    refine wp_block ?_
    refine c_seq (c_region ?_)
    obtain ⟨b1524, o1524, hp1524, ha1524⟩ := rs_idx Sl33 Sz81 h0 hxk1518
    refine pl_val (.pointer (some ⟨b1524, o1524, none⟩)) (hp1524 _ _ _ _ _ _ _ _ _ rfl rfl) ?_
    obtain ⟨v1525, hl1525, hv1525⟩ := at_load Ag81 Sz81 (by intro h; cases h) ha1524
    obtain ⟨cs1525, rfl, hr1525⟩ := hv1525
    obtain ⟨cc1525x1, cd1525x1, rfl, hh1525x1, ht1525x1⟩ := pr_open hr1525
    obtain rfl := int_rel hh1525x1
    obtain ⟨a1525x2, n1525x2, c1525x2, rfl, hv1525x2⟩ := rs_rel ht1525x1
    refine pl_val (.agg #[(.int .i64 x1519.1), (.slice a1525x2 n1525x2 c1525x2)]) (y_load rfl (hl1525 _ (Chg.refl _ _))) ?_
    obtain ⟨w1527, g1527, ew1527, eg1527, hC1527, hb1527⟩ := new_block w1517 [(.int .i64 0), (.slice none 0 0)] 81
    refine pl_val (w' := w1527) (.pointer (some ⟨g1527, 0, none⟩)) (y_alloc (by rw [ew1527, eg1527]; kernel_rfl)) ?_
    have h0 := h0.ext hC1527
    have hv1522 := hv1522.ext hC1527
    have hb3 := hb3.chg hC1527 (fun h => nomatch h)
    have hv1525x2 := hv1525x2.ext hC1527
    have hC := hC.ext hC1527
    have hO := hO.new1 hC1527 eg1527 hb1527.lt
    obtain ⟨w1528, hst1528, hC1528, hb1528⟩ := box_store (P := Try.prog) hb1527 [] [(.int .i64 0), (.slice none 0 0)] [] [(.int .i64 x1519.1), (.slice a1525x2 n1525x2 c1525x2)] rfl rfl (by intro u hu; simp only [List.mem_cons, List.not_mem_nil, or_false] at hu; rcases hu with rfl | rfl <;> rfl)
    refine pl_skip (w' := w1528) (ys_store rfl rfl (hst1528 _ _ rfl Sz81)) ?_
    have h0 := h0.mut hC1528 (fun g hg => hO.inM g ((fun _ h => h) g hg)) (fun _ _ h => nomatch h)
    have hv1522 := hv1522.mut hC1528 (fun g hg => hO.inM g ((fun _ h => h) g hg)) (fun g hg e => hO.apart g ((fun _ h => h) g hg) (mem_r (mem_l (e))))
    have hb3 := hb3.chg hC1528 (fun hg => hO.apart _ ((fun _ h => h) _ hg) (mem_l (List.mem_singleton.2 rfl)))
    have hv1525x2 := hv1525x2.mut hC1528 (fun g hg => hO.inM g ((fun _ h => h) g hg)) (fun _ _ h => nomatch h)
    have hC := hC.step hC1528 (fun g hg => hO.inN g ((fun _ h => h) g hg))
    have hO := hO.ext hC1528
    have hb1528 : BoxV w1528 g1527 81 [(.int .i64 x1519.1), (.slice a1525x2 n1525x2 c1525x2)] := hb1528
    refine c_nil ?_
    refine c_seq (c_region ?_)
    refine pl_val (.int .i64 1) (y_assign rfl) ?_
    refine c_nil ?_
    refine c_seq (c_region ?_)
    refine pl_val (.int .i64 0) (y_assign rfl) ?_
    refine c_nil ?_
    obtain ⟨o1648, hl1649, hs⟩ := bind_some hs
    refine wp_block ?_
    refine wp_forC (id := 4) x1519.1 (I := fun k1646 s1644 a w1645 => ∃ (σ : Nat → Value) (f1650 : List Nat), a = fr 66 (ovl σ [(1, (.slice pa1 pn1 pc1)), (2, (.pointer (some ⟨g3, 0, none⟩))), (5, (.bool s1644.1)), (6, (.bool s1644.2.1)), (8, (.pointer (some ⟨g1527, 0, none⟩))), (9, (.int .i64 s1644.2.2.1)), (10, (.int .i64 k1646)), (16, (.slice pa0 pn0 pc0)), (17, (.int .i64 (a_.2.length : Int))), (18, (.int .i64 (k1518 : Int)))]) ∧ Chg (pf1 ++ ([])) w w1645 ∧ Own (Nw w (pf1 ++ ([]))) M w1645 (([g1527]) ++ (([g3]) ++ (f1650 ++ []))) ∧ (RT.rs (RT.pr (RT.int .i64) (RT.rs (RT.int .i64)))).val M w1645 (.slice pa0 pn0 pc0) a_.2 ([]) ∧ (RT.os 3 (RT.int .i64)).val M w1645 (.slice pa1 pn1 pc1) s1644.2.2.2 f1650 ∧ BoxV w1645 g3 35 [(.int .i64 a_.1), (.slice pa0 pn0 pc0)] ∧ (RT.rs (RT.int .i64)).val M w1645 (.slice a1525x2 n1525x2 c1525x2) x1519.2 ([]) ∧ BoxV w1645 g1527 81 [(.int .i64 x1519.1), (.slice a1525x2 n1525x2 c1525x2)]) (J := fun s1644 a w1645 => ∃ (σ : Nat → Value) (f1651 : List Nat), a = fr 66 (ovl σ [(1, (.slice pa1 pn1 pc1)), (2, (.pointer (some ⟨g3, 0, none⟩))), (5, (.bool s1644.1)), (6, (.bool s1644.2.1)), (16, (.slice pa0 pn0 pc0)), (17, (.int .i64 (a_.2.length : Int))), (18, (.int .i64 (k1518 : Int)))]) ∧ Chg (pf1 ++ ([])) w w1645 ∧ Own (Nw w (pf1 ++ ([]))) M w1645 (([g1527]) ++ (([g3]) ++ (f1651 ++ []))) ∧ (RT.rs (RT.pr (RT.int .i64) (RT.rs (RT.int .i64)))).val M w1645 (.slice pa0 pn0 pc0) a_.2 ([]) ∧ (RT.os 3 (RT.int .i64)).val M w1645 (.slice pa1 pn1 pc1) s1644.2.2.2 f1651 ∧ BoxV w1645 g3 35 [(.int .i64 a_.1), (.slice pa0 pn0 pc0)] ∧ (RT.rs (RT.int .i64)).val M w1645 (.slice a1525x2 n1525x2 c1525x2) x1519.2 ([]) ∧ BoxV w1645 g1527 81 [(.int .i64 x1519.1), (.slice a1525x2 n1525x2 c1525x2)]) (K := (k_impl_closePartition M w pa1 pn1 pc1 pf1)) ?_ ?_ 0 (s1516.1, s1516.2.1, 1, s1516.2.2) o1648 _ _ ?_ hl1649 ?_
    ·rintro k1646 s1644 a w1645 ⟨σ, f1650, rfl, hC, hO, h0, hv1650, hb3, hv1525x2, hb1528⟩ hlt
     refine c_seq ?_
     refine c_seq (c_region ?_)
     refine pl_val (.int .i64 k1646) (y_move rfl) ?_
     refine pl_val (.pointer (some ⟨g1527, 0, none⟩)) (y_faddr rfl Fa81x0) ?_
     refine pl_val (.int .i64 x1519.1) (y_load rfl ((box_load Ag3 Sz3 hb1528 [] [(.int .i64 x1519.1)] [(.slice a1525x2 n1525x2 c1525x2)] rfl rfl (fun _ => rfl)) _ (Chg.refl _ _))) ?_
     refine pl_val (.bool (decide (k1646 < x1519.1))) (y_lss rfl rfl) ?_
     refine c_nil ?_
     refine c_condF (congrArg Value.bool (decide_eq_false hlt)) ?_
     refine wp_exit ?_
     have hO := hO.fr2
     have hO := hO.fr2
     have hO := hO.fr2
     exact ⟨rfl, _, f1650, fr_ovl 66 ⟨rfl, rfl, rfl, rfl, rfl, rfl, rfl, trivial⟩, hC, hO, h0, hv1650, hb3, hv1525x2, hb1528⟩
    ·rintro k1646 s1644 o1648 a w1645 ⟨σ, f1650, rfl, hC, hO, h0, hv1650, hb3, hv1525x2, hb1528⟩ hlt hw hs
     refine c_seq ?_
     refine c_seq (c_region ?_)
     refine pl_val (.int .i64 k1646) (y_move rfl) ?_
     refine pl_val (.pointer (some ⟨g1527, 0, none⟩)) (y_faddr rfl Fa81x0) ?_
     refine pl_val (.int .i64 x1519.1) (y_load rfl ((box_load Ag3 Sz3 hb1528 [] [(.int .i64 x1519.1)] [(.slice a1525x2 n1525x2 c1525x2)] rfl rfl (fun _ => rfl)) _ (Chg.refl _ _))) ?_
     refine pl_val (.bool (decide (k1646 < x1519.1))) (y_lss rfl rfl) ?_
     refine c_nil ?_
     refine c_condT (congrArg Value.bool (decide_eq_true hlt)) ?_
     refine wp_skip ?_
     refine c_seq ?_
     refine wp_block ?_
     refine c_seq ?_
     refine c_seq (c_region ?_)
     refine pl_val (.pointer (some ⟨g1527, 1, none⟩)) (y_faddr rfl Fa81x1) ?_
     refine pl_val (.slice a1525x2 n1525x2 c1525x2) (y_load rfl ((box_load Ag22 Sz22 hb1528 [(.int .i64 x1519.1)] [(.slice a1525x2 n1525x2 c1525x2)] [] rfl rfl (fun _ => rfl)) _ (Chg.refl _ _))) ?_
     refine pl_val (.int .i64 (x1519.2.length : Int)) (y_len' Sl22 (rs_len hv1525x2) rfl) ?_
     refine pl_val (.int .i64 0) (y_move rfl) ?_
     refine c_nil ?_
     obtain ⟨o1689, hl1690, hs⟩ := bind_some hs
     refine wp_block ?_
     refine wp_forC (id := 6) (x1519.2.length : Int) (I := fun k1687 s1685 a w1686 => ∃ (σ : Nat → Value) (f1691 : List Nat), a = fr 66 (ovl σ [(1, (.slice pa1 pn1 pc1)), (2, (.pointer (some ⟨g3, 0, none⟩))), (5, (.bool s1685.1)), (6, (.bool s1685.2.1)), (8, (.pointer (some ⟨g1527, 0, none⟩))), (9, (.int .i64 s1644.2.2.1)), (10, (.int .i64 k1646)), (16, (.slice pa0 pn0 pc0)), (17, (.int .i64 (a_.2.length : Int))), (18, (.int .i64 (k1518 : Int))), (29, (.slice a1525x2 n1525x2 c1525x2)), (30, (.int .i64 (x1519.2.length : Int))), (31, (.int .i64 k1687))]) ∧ Chg (pf1 ++ ([])) w w1686 ∧ Own (Nw w (pf1 ++ ([]))) M w1686 (([g1527]) ++ (([g3]) ++ (f1691 ++ []))) ∧ (RT.rs (RT.pr (RT.int .i64) (RT.rs (RT.int .i64)))).val M w1686 (.slice pa0 pn0 pc0) a_.2 ([]) ∧ (RT.os 3 (RT.int .i64)).val M w1686 (.slice pa1 pn1 pc1) s1685.2.2 f1691 ∧ BoxV w1686 g3 35 [(.int .i64 a_.1), (.slice pa0 pn0 pc0)] ∧ (RT.rs (RT.int .i64)).val M w1686 (.slice a1525x2 n1525x2 c1525x2) x1519.2 ([]) ∧ BoxV w1686 g1527 81 [(.int .i64 x1519.1), (.slice a1525x2 n1525x2 c1525x2)]) (J := fun s1685 a w1686 => ∃ (σ : Nat → Value) (f1692 : List Nat), a = fr 66 (ovl σ [(1, (.slice pa1 pn1 pc1)), (2, (.pointer (some ⟨g3, 0, none⟩))), (5, (.bool s1685.1)), (6, (.bool s1685.2.1)), (8, (.pointer (some ⟨g1527, 0, none⟩))), (9, (.int .i64 s1644.2.2.1)), (10, (.int .i64 k1646)), (16, (.slice pa0 pn0 pc0)), (17, (.int .i64 (a_.2.length : Int))), (18, (.int .i64 (k1518 : Int)))]) ∧ Chg (pf1 ++ ([])) w w1686 ∧ Own (Nw w (pf1 ++ ([]))) M w1686 (([g1527]) ++ (([g3]) ++ (f1692 ++ []))) ∧ (RT.rs (RT.pr (RT.int .i64) (RT.rs (RT.int .i64)))).val M w1686 (.slice pa0 pn0 pc0) a_.2 ([]) ∧ (RT.os 3 (RT.int .i64)).val M w1686 (.slice pa1 pn1 pc1) s1685.2.2 f1692 ∧ BoxV w1686 g3 35 [(.int .i64 a_.1), (.slice pa0 pn0 pc0)] ∧ (RT.rs (RT.int .i64)).val M w1686 (.slice a1525x2 n1525x2 c1525x2) x1519.2 ([]) ∧ BoxV w1686 g1527 81 [(.int .i64 x1519.1), (.slice a1525x2 n1525x2 c1525x2)]) (K := (k_impl_closePartition M w pa1 pn1 pc1 pf1)) ?_ ?_ 0 (s1644.1, s1644.2.1, s1644.2.2.2) o1689 _ _ ?_ hl1690 ?_
     ·rintro k1687 s1685 a w1686 ⟨σ, f1691, rfl, hC, hO, h0, hv1691, hb3, hv1525x2, hb1528⟩ hlt
      refine c_seq (c_region ?_)
      refine pl_val (.bool (decide (k1687 < (x1519.2.length : Int)))) (y_lss rfl rfl) ?_
      refine c_nil ?_
      refine c_seq ?_
      refine c_condF (congrArg Value.bool (decide_eq_false hlt)) ?_
      refine wp_exit ?_
      have hO := hO.fr2
      have hO := hO.fr2
      have hO := hO.fr2
      exact ⟨rfl, _, f1691, fr_ovl 66 ⟨rfl, rfl, rfl, rfl, rfl, rfl, rfl, rfl, rfl, rfl, trivial⟩, hC, hO, h0, hv1691, hb3, hv1525x2, hb1528⟩
     ·rintro k1687 s1685 o1689 a w1686 ⟨σ, f1691, rfl, hC, hO, h0, hv1691, hb3, hv1525x2, hb1528⟩ hlt hw hs
      refine c_seq (c_region ?_)
      refine pl_val (.bool (decide (k1687 < (x1519.2.length : Int)))) (y_lss rfl rfl) ?_
      refine c_nil ?_
      refine c_seq ?_
      refine c_condT (congrArg Value.bool (decide_eq_true hlt)) ?_
      refine wp_skip ?_
      refine c_seq ?_
      refine wp_block ?_
      refine c_seq (c_region ?_)
      refine pl_val (.int .i64 k1687) (y_move rfl) ?_
      obtain ⟨x1693, hx1693, hs⟩ := bind_some hs
      obtain ⟨b1694, o1694, hp1694, ha1694⟩ := rs_idx Sl22 Sz3 hv1525x2 hx1693
      refine pl_val (.pointer (some ⟨b1694, o1694, none⟩)) (hp1694 _ _ _ _ _ _ _ _ _ rfl rfl) ?_
      refine pl_val (.int .i64 x1693) (y_load rfl ((at_load_int Ag3 Sz3 ha1694) _ (Chg.refl _ _))) ?_
      refine pl_val (.int .i64 k1687) (y_assign rfl) ?_
      refine pl_val (.int .i64 x1693) (y_assign rfl) ?_
      refine c_nil ?_
      refine c_seq ?_
      refine x_start [] Mx rfl ?_
      have hCw1698 := Chg.drew w1686
      generalize World.drew w1686 = w1698 at hCw1698 ⊢
      have h0 := h0.ext hCw1698
      have hv1691 := hv1691.ext hCw1698
      have hb3 := hb3.chg hCw1698 (fun h => nomatch h)
      have hv1525x2 := hv1525x2.ext hCw1698
      have hb1528 := hb1528.chg hCw1698 (fun h => nomatch h)
      have hC := hC.ext hCw1698
      have hO := hO.ext hCw1698
      have hS := Chg.refl [] w1698
      refine x_p 0 (.int .i64 k1687) rfl (by kernel_rfl)  (fun _ => y_move rfl) (fun _ => hS) ?_
      refine x_p 1 (.int .i64 s1644.2.2.1) rfl (by kernel_rfl)  (fun _ => y_move rfl) (fun _ => hS) ?_
      obtain ⟨u1699, hu1699, hs⟩ := bind_some hs
      refine x_p 2 (.int .i64 (w64 (Int.tdiv k1687 s1644.2.2.1))) rfl (by kernel_rfl)  (fun _ => y_quo rfl rfl (nz_ne hu1699)) (fun _ => hS) ?_
      refine x_p 3 (.pointer (some ⟨g3, 0, none⟩)) rfl (by kernel_rfl)  (fun _ => y_faddr rfl Fa35x0) (fun _ => hS) ?_
      refine x_l 4 (.int .i64 a_.1) rfl (by kernel_rfl)  (fun w' hw' => y_load rfl ((box_load Ag3 Sz3 hb3 [] [(.int .i64 a_.1)] [(.slice pa0 pn0 pc0)] rfl rfl (fun _ => rfl)) w' hw')) hS ?_
      obtain ⟨u1700, hu1700, hs⟩ := bind_some hs
      refine x_p 5 (.int .i64 (Int.tmod (w64 (Int.tdiv k1687 s1644.2.2.1)) a_.1)) rfl (by kernel_rfl)  (fun _ => y_rem rfl rfl (nz_ne hu1700)) (fun _ => hS) ?_
      refine x_p 6 (.int .i64 (Int.tmod (w64 (Int.tdiv k1687 s1644.2.2.1)) a_.1)) rfl (by kernel_rfl)  (fun _ => y_assign rfl) (fun _ => hS) ?_
      refine x_end (by kernel_rfl) ?_
      clear hS
      refine c_seq ?_
      refine x_start [16] Mx rfl ?_
      have hCw1701 := Chg.drew w1698
      generalize World.drew w1698 = w1701 at hCw1701 ⊢
      have h0 := h0.ext hCw1701
      have hv1691 := hv1691.ext hCw1701
      have hb3 := hb3.chg hCw1701 (fun h => nomatch h)
      have hv1525x2 := hv1525x2.ext hCw1701
      have hb1528 := hb1528.chg hCw1701 (fun h => nomatch h)
      have hC := hC.ext hCw1701
      have hO := hO.ext hCw1701
      have hS := Chg.refl [] w1701
      refine x_p 0 (.slice pa1 pn1 pc1) rfl (by kernel_rfl)  (fun _ => y_move rfl) (fun _ => hS) ?_
      refine x_p 1 (.int .i64 x1693) rfl (by kernel_rfl)  (fun _ => y_move rfl) (fun _ => hS) ?_
      refine x_p 2 (.pointer (some ⟨g1527, 1, none⟩)) rfl (by kernel_rfl)  (fun _ => y_faddr rfl Fa81x1) (fun _ => hS) ?_
      refine x_l 3 (.slice a1525x2 n1525x2 c1525x2) rfl (by kernel_rfl)  (fun w' hw' => y_load rfl ((box_load Ag22 Sz22 hb1528 [(.int .i64 x1519.1)] [(.slice a1525x2 n1525x2 c1525x2)] [] rfl rfl (fun _ => rfl)) w' hw')) hS ?_
      refine x_p 4 (.int .i64 k1687) rfl (by kernel_rfl)  (fun _ => y_move rfl) (fun _ => hS) ?_
      refine x_p 5 (.slice pa1 pn1 pc1) rfl (by kernel_rfl)  (fun _ => y_move rfl) (fun _ => hS) ?_
      refine x_p 6 (.int .i64 (Int.tmod (w64 (Int.tdiv k1687 s1644.2.2.1)) a_.1)) rfl (by kernel_rfl)  (fun _ => y_move rfl) (fun _ => hS) ?_
      obtain ⟨x1702, hx1702, hs⟩ := bind_some hs
      obtain ⟨g1703, f1703, hg1703, hk1703, hp1703, ha1703, hf1703⟩ := os_idx Sl22 Sz3 hv1691 hx1702
      refine x_p 7 (.pointer (some ⟨g1703, 0 + Int.toNat (Int.tmod (w64 (Int.tdiv k1687 s1644.2.2.1)) a_.1) * 1, none⟩)) rfl (by kernel_rfl)  (fun _ => hp1703 _ _ _ _ _ _ _ _ _ rfl rfl) (fun _ => hS) ?_
      refine x_l 8 (.int .i64 x1702) rfl (by kernel_rfl)  (fun w' hw' => y_load rfl ((at_load_int Ag3 Sz3 ha1703) w' hw')) hS ?_
      refine x_p 9 (.int .i64 (Int.tmod (w64 (Int.tdiv k1687 s1644.2.2.1)) a_.1)) rfl (by kernel_rfl)  (fun _ => y_move rfl) (fun _ => hS) ?_
      refine x_p 10 (.int .i64 (w64 (x1702 - (Int.tmod (w64 (Int.tdiv k1687 s1644.2.2.1)) a_.1)))) rfl (by kernel_rfl)  (fun _ => y_sub rfl rfl) (fun _ => hS) ?_
      refine x_p 11 (.int .i64 s1644.2.2.1) rfl (by kernel_rfl)  (fun _ => y_move rfl) (fun _ => hS) ?_
      refine x_p 12 (.int .i64 (w64 ((w64 (x1702 - (Int.tmod (w64 (Int.tdiv k1687 s1644.2.2.1)) a_.1))) * s1644.2.2.1))) rfl (by kernel_rfl)  (fun _ => y_mul rfl rfl) (fun _ => hS) ?_
      refine x_p 13 (.int .i64 (w64 (k1687 + (w64 ((w64 (x1702 - (Int.tmod (w64 (Int.tdiv k1687 s1644.2.2.1)) a_.1))) * s1644.2.2.1))))) rfl (by kernel_rfl)  (fun _ => y_add rfl rfl) (fun _ => hS) ?_
      obtain ⟨x1704, hx1704, hs⟩ := bind_some hs
      obtain ⟨b1705, o1705, hp1705, ha1705⟩ := rs_idx Sl22 Sz3 hv1525x2 hx1704
      refine x_p 14 (.pointer (some ⟨b1705, o1705, none⟩)) rfl (by kernel_rfl)  (fun _ => hp1705 _ _ _ _ _ _ _ _ _ rfl rfl) (fun _ => hS) ?_
      refine x_l 15 (.int .i64 x1704) rfl (by kernel_rfl)  (fun w' hw' => y_load rfl ((at_load_int Ag3 Sz3 ha1705) w' hw')) hS ?_
      refine x_one (i := 16) (by kernel_rfl) ?_
      have hO := hO.fr2
      have hL1706 := hO
      have hI1706 := Own.lend (F := (f1691 ++ ([]))) (R := ([g1527]) ++ (([g3]) ++ ([]))) (Own.perm (hL1706) (by simp))
      obtain ⟨r1707, hr1707, hs⟩ := bind_some hs
      refine xk_call (b := true) rfl  Bd103 rfl (c_impl_unite (M := M) s1685.2.2 x1693 x1704 hv1691 hI1706 hI1706.fut hr1707) rfl (fun h => nomatch h) ?_
      rintro _ w1706 ⟨fi1706x0, rfl, hC1706, hvi1706x0, hOc1706⟩
      have hO := hO.perm (R := (f1691 ++ ([])) ++ (([g1527]) ++ (([g3]) ++ ([])))) (by simp)
      have h0 := h0.mut hC1706 (fun g hg => hO.inM g ((fun _ h => h) g hg)) (fun _ _ h => nomatch h)
      have hb3 := hb3.chg hC1706 (fun hg => hO.apart _ ((fun _ h => h) _ hg) (mem_r (mem_l (List.mem_singleton.2 rfl))))
      have hv1525x2 := hv1525x2.mut hC1706 (fun g hg => hO.inM g ((fun _ h => h) g hg)) (fun _ _ h => nomatch h)
      have hb1528 := hb1528.chg hC1706 (fun hg => hO.apart _ ((fun _ h => h) _ hg) (mem_l (List.mem_singleton.2 rfl)))
      have hC := hC.step hC1706 (fun g hg => hO.inN g ((fun _ h => h) g hg))
      have hO := Own.join hO hC1706 hOc1706
      have hO := hO.perm (R := fi1706x0 ++ (([g1527]) ++ (([g3]) ++ ([])))) (by simp)
      refine x_end (by kernel_rfl) ?_
      clear hS
      rcases bif_some hs with ⟨hc1708, hs⟩ | ⟨hc1708, hs⟩
      ·skip
       refine c_condT (congrArg Value.bool hc1708) ?_
       refine c_region ?_
       refine pl_val (.bool true) (y_assign rfl) ?_
       refine pl_val (.bool true) (y_assign rfl) ?_
       refine c_nil ?_
       refine c_region ?_
       refine pl_val (.int .i64 (w64 (k1687 + 1))) (y_add rfl rfl) ?_
       refine pl_val (.int .i64 (w64 (k1687 + 1))) (y_move rfl) ?_
       refine c_nil ?_
       cases hs
       have hO := hO.fr2
       have hO := hO.fr2
       exact ⟨_, fi1706x0, fr_ovl 66 ⟨rfl, rfl, rfl, rfl, rfl, rfl, rfl, rfl, rfl, rfl, rfl, rfl, congrArg (Value.int .i64) hw, trivial⟩, hC, hO, h0, hvi1706x0, hb3, hv1525x2, hb1528⟩
      ·skip
       refine c_condF (congrArg Value.bool hc1708) ?_
       refine wp_skip ?_
       refine c_region ?_
       refine pl_val (.int .i64 (w64 (k1687 + 1))) (y_add rfl rfl) ?_
       refine pl_val (.int .i64 (w64 (k1687 + 1))) (y_move rfl) ?_
       refine c_nil ?_
       cases hs
       have hO := hO.fr2
       have hO := hO.fr2
       exact ⟨_, fi1706x0, fr_ovl 66 ⟨rfl, rfl, rfl, rfl, rfl, rfl, rfl, rfl, rfl, rfl, rfl, rfl, congrArg (Value.int .i64) hw, trivial⟩, hC, hO, h0, hvi1706x0, hb3, hv1525x2, hb1528⟩
     ·skip
      have hO := hO.fr2
      have hO := hO.fr2
      have hO := hO.fr2
      exact ⟨_, f1650, fr_ovl 66 ⟨rfl, rfl, rfl, rfl, rfl, rfl, rfl, rfl, rfl, rfl, rfl, rfl, rfl, trivial⟩, hC, hO, h0, hv1650, hb3, hv1525x2, hb1528⟩
     ·cases o1689 with
      | nx _ => exact True.intro
      | rt r_ =>
       have hs := after_rt hs
       intro a1 w1 hK
       cases hs
       exact hK
      | br s1685 =>
       have hs := after_br hs
       rintro a1 w1686 ⟨σ, f1692, rfl, hC, hO, h0, hv1692, hb3, hv1525x2, hb1528⟩
       refine c_region ?_
       refine pl_val (.int .i64 s1644.2.2.1) (y_move rfl) ?_
       refine pl_val (.pointer (some ⟨g3, 0, none⟩)) (y_faddr rfl Fa35x0) ?_
       refine pl_val (.int .i64 a_.1) (y_load rfl ((box_load Ag3 Sz3 hb3 [] [(.int .i64 a_.1)] [(.slice pa0 pn0 pc0)] rfl rfl (fun _ => rfl)) _ (Chg.refl _ _))) ?_
       refine pl_val (.int .i64 (w64 (s1644.2.2.1 * a_.1))) (y_mul rfl rfl) ?_
       refine pl_val (.int .i64 (w64 (s1644.2.2.1 * a_.1))) (y_assign rfl) ?_
       refine c_nil ?_
       refine c_region ?_
       refine pl_val (.int .i64 k1646) (y_move rfl) ?_
       refine pl_val (.int .i64 (w64 (k1646 + 1))) (y_add rfl rfl) ?_
       refine pl_val (.int .i64 (w64 (k1646 + 1))) (y_assign rfl) ?_
       refine c_nil ?_
       cases hs
       have hO := hO.fr2
       have hO := hO.fr2
       have hO := hO.fr2
       exact ⟨_, f1692, fr_ovl 66 ⟨rfl, rfl, rfl, rfl, rfl, rfl, congrArg (Value.int .i64) hw, rfl, rfl, rfl, trivial⟩, hC, hO, h0, hv1692, hb3, hv1525x2, hb1528⟩
    ·skip
     have hO := hO.fr2
     have hO := hO.fr2
     have hO := hO.fr2
     exact ⟨_, f1522, fr_ovl 66 ⟨rfl, rfl, rfl, rfl, rfl, rfl, rfl, rfl, rfl, rfl, trivial⟩, hC, hO, h0, hv1522, hb3, hv1525x2, hb1528⟩
    ·cases o1648 with
     | nx _ => exact True.intro
     | rt r_ =>
      have hs := after_rt hs
      intro a1 w1 hK
      cases hs
      exact hK
     | br s1644 =>
      have hs := after_br hs
      rintro a1 w1645 ⟨σ, f1651, rfl, hC, hO, h0, hv1651, hb3, hv1525x2, hb1528⟩
      refine c_region ?_
      refine pl_val (.int .i64 (w64 ((k1518 : Int) + 1))) (y_add rfl rfl) ?_
      refine pl_val (.int .i64 (w64 ((k1518 : Int) + 1))) (y_move rfl) ?_
      refine c_nil ?_
      cases hs
      have hO := hO.drop
      have hO := hO.fr1
      have hO := hO.fr1
      exact ⟨_, rfl, drop_cons_next hd, _, f1651, fr_ovl 66 ⟨rfl, rfl, rfl, rfl, rfl, rfl, congrArg (Value.int .i64) (w64_succ hlt (Int.natCast_nonneg _) (rs_max h0)), trivial⟩, hC, hO, h0, hv1651, hb3⟩
   ·skip
    have hO := hO.fr1
    have hO := hO.fr1
    exact ⟨0, rfl, rfl, _, f1142, fr_ovl 66 ⟨rfl, rfl, rfl, rfl, rfl, rfl, rfl, trivial⟩, hC, hO, h0, hv1142, hb3⟩
   ·cases o1520 with
    | nx _ => exact True.intro
    | rt r_ =>
     have hs := after_rt hs
     intro a1 w1 hK
     cases hs
     exact hK
    | br s1516 =>
     have hs := after_br hs
     rintro a1 w1517 ⟨σ, f1523, rfl, hC, hO, h0, hv1523, hb3⟩
     cases hs
     have hO := hO.fr1
     have hO := hO.fr1
     exact ⟨_, f1523, fr_ovl 66 ⟨rfl, rfl, rfl, rfl, trivial⟩, hC, hO, h0, hv1523, hb3⟩
  ·skip
   refine c_condF (congrArg Value.bool hc1144) ?_
   refine wp_exit ?_
   cases hs
   have hO := hO.fr1
   have hO := hO.fr1
   exact ⟨rfl, _, f1142, fr_ovl 66 ⟨rfl, trivial⟩, hC, hO, h0, hv1142, hb3⟩
 ·skip
  have hO := hO.fr1
  have hO := hO.fr1
  exact ⟨_, pf1, fr_ovl 66 ⟨rfl, rfl, rfl, rfl, trivial⟩, hC, hO, h0, h1, hb3⟩
 ·cases o1140 with
  | nx _ => exact True.intro
  | rt r_ =>
   have hs := after_rt hs
   intro a1 w1 hK
   cases hs
   exact hK
  | br s1136 =>
   have hs := after_br hs
   rintro a1 w1137 ⟨σ, f1143, rfl, hC, hO, h0, hv1143, hb3⟩
   refine c_seq (c_region ?_)
   refine pl_val (.bool s1136.1) (y_move rfl) ?_
   refine pl_val (.bool s1136.1) (y_assign rfl) ?_
   refine c_nil ?_
   refine wp_ret ?_
   cases hs
   have hO := hO.drop
   exact ⟨_, f1143, fr_ovl 66 ⟨rfl, trivial⟩, hC, hv1143, hO.top⟩

theorem Bd126 : Bodied Try.prog 126 := bodied Try.func126 (by kernel_rfl) rfl

theorem Sl111 : SlT Try.prog 111 103 := Try.underlying111

theorem Sz103 : SzT Try.prog 103 2 := ⟨_, rfl, rfl⟩

theorem Ag103 : AggT Try.prog 103 true := fun _ => by kernel_rfl

theorem Bd97 : Bodied Try.prog 97 := bodied Try.func97 (by kernel_rfl) rfl

def k_impl_congruenceOf (M : Nat → Prop) (w0 : World) (r : (List Int)) (a : Act) (w : World) : Prop :=
  ∃ (σ : Nat → Value) (ra0 : Option Addr) (rn0 rc0 : Nat) (rf0 : List Nat), a = fr 28 (ovl σ [(4, (.slice ra0 rn0 rc0))]) ∧ Chg [] w0 w ∧ (RT.os 3 (RT.int .i64)).val M w (.slice ra0 rn0 rc0) r rf0 ∧ Own (Nw w0 []) (fun _ => True) w (rf0 ++ ([]))
def s_impl_congruenceOf (a_ : Int × (List (Int × (List Int)))) (pairs : List (Int × Int)) : Option ((List Int)) :=
  (s_impl_identityOf a_.1).bind fun r5 =>
  (forR (S := (List Int)) (R := (List Int)) (fun _ x23 s20 =>
  (s_impl_unite s20 x23.1 x23.2).bind fun r33 =>
  some (.nx r33.2)) 0 pairs r5).bind fun o24 => after o24 (fun r_ => some r_) (fun s20 =>
  (s_impl_closePartition (a_.1, a_.2) s20).bind fun r35 =>
  some r35.2)
set_option maxHeartbeats 4000000 in
theorem c_impl_congruenceOf {M : Nat → Prop} {w : World} {pa0 : Option Addr} {pn0 pc0 : Nat} {pa1 : Option Addr} {pn1 pc1 : Nat} (a_ : Int × (List (Int × (List Int)))) (pairs : List (Int × Int)) (h0 : (RT.rs (RT.pr (RT.int .i64) (RT.rs (RT.int .i64)))).val M w (.slice pa0 pn0 pc0) a_.2 ([])) (h1 : (RT.rs (RT.pr (RT.int .i64) (RT.int .i64))).val M w (.slice pa1 pn1 pc1) pairs ([])) (hM : ∀ g, w.heap.size ≤ g → M g) {r : (List Int)} (hs : s_impl_congruenceOf a_ pairs = some r) :
    Gives Try.prog 125 [(.agg #[(.int .i64 a_.1), (.slice pa0 pn0 pc0)]), (.slice pa1 pn1 pc1)] w (fun v w' => ∃ (ra0 : Option Addr) (rn0 rc0 : Nat) (rf0 : List Nat), v = (.slice ra0 rn0 rc0) ∧ Chg [] w w' ∧ (RT.os 3 (RT.int .i64)).val M w' (.slice ra0 rn0 rc0) r rf0 ∧ Own (Nw w []) (fun _ => True) w' (rf0 ++ ([]))) := by
 refine calls_fr Try.func125 rfl Try.ntmps125 (Nat.le_of_ble_eq_true rfl) ?_
 have hO := Own.start (N := Nw w []) hM Nw.fut
 have hC := Chg.refl [] w
 unfold s_impl_congruenceOf at hs
 refine wp_mono (Q := KPost (k_impl_congruenceOf M w r)) ?_ (fun e a w1 h => ?_)
 rotate_left
 ·cases e
  case ret =>
   obtain ⟨σ, ra0, rn0, rc0, rf0, rfl, hrest⟩ := h
   exact ret1x Try.results125 (res_tmp rfl) ⟨ra0, rn0, rc0, rf0, rfl, hrest⟩
  all_goals exact (h : False).elim
 refine c_seq (c_region ?_)
 obtain ⟨w3, g3, ew3, eg3, hC3, hb3⟩ := new_block w [(.int .i64 a_.1), (.slice pa0 pn0 pc0)] 35
 refine pl_val (w' := w3) (.pointer (some ⟨g3, 0, none⟩)) (y_box rfl (by rw [ew3, eg3]; kernel_rfl)) ?_
 have h0 := h0.ext hC3
 have h1 := h1.ext hC3
 have hC := hC.ext hC3
 have hO := hO.new1 hC3 eg3 hb3.lt
 refine pl_val (.slice none 0 0) (y_assign rfl) ?_
 refine c_nil ?_
 refine c_seq (c_region ?_)
 refine pl_val (.pointer (some ⟨g3, 0, none⟩)) (y_faddr rfl Fa35x0) ?_
 refine pl_val (.int .i64 a_.1) (y_load rfl ((box_load Ag3 Sz3 hb3 [] [(.int .i64 a_.1)] [(.slice pa0 pn0 pc0)] rfl rfl (fun _ => rfl)) _ (Chg.refl _ _))) ?_
 obtain ⟨r5, hr5, hs⟩ := bind_some hs
 refine pl_call Bd126 rfl (c_impl_identityOf (M := M) a_.1  hO.fut hr5) ?_
 rintro _ w4 ⟨a4x0, n4x0, c4x0, f4x0, rfl, hC4, hv4x0, hOc4⟩
 have h0 := h0.ext hC4
 have h1 := h1.ext hC4
 have hb3 := hb3.chg hC4 (fun h => nomatch h)
 have hC := hC.ext hC4
 have hO := Own.join0 hO hC4 hOc4
 have hO := hO.perm (R := f4x0 ++ (([g3]) ++ ([]))) (by simp)
 refine pl_val (.slice a4x0 n4x0 c4x0) (y_assign rfl) ?_
 refine c_nil ?_
 refine c_seq ?_
 refine c_seq (c_region ?_)
 refine pl_val (.slice pa1 pn1 pc1) (y_move rfl) ?_
 refine pl_val (.int .i64 (pairs.length : Int)) (y_len' Sl111 (rs_len h1) rfl) ?_
 refine pl_val (.int .i64 0) (y_move rfl) ?_
 refine c_nil ?_
 obtain ⟨o24, hl25, hs⟩ := bind_some hs
 refine wp_block ?_
 refine wp_forR (id := 0) (I := fun i_ xs_ s20 a w21 => ∃ k22 : Nat, i_ = (k22 : Int) ∧ List.drop k22 pairs = xs_ ∧ (∃ (σ : Nat → Value) (f26 : List Nat), a = fr 28 (ovl σ [(2, (.pointer (some ⟨g3, 0, none⟩))), (5, (.slice a4x0 n4x0 c4x0)), (11, (.slice pa1 pn1 pc1)), (12, (.int .i64 (pairs.length : Int))), (13, (.int .i64 (k22 : Int)))]) ∧ Chg [] w w21 ∧ Own (Nw w []) M w21 (f26 ++ (([g3]) ++ [])) ∧ (RT.rs (RT.pr (RT.int .i64) (RT.rs (RT.int .i64)))).val M w21 (.slice pa0 pn0 pc0) a_.2 ([]) ∧ (RT.rs (RT.pr (RT.int .i64) (RT.int .i64))).val M w21 (.slice pa1 pn1 pc1) pairs ([]) ∧ BoxV w21 g3 35 [(.int .i64 a_.1), (.slice pa0 pn0 pc0)] ∧ (RT.os 3 (RT.int .i64)).val M w21 (.slice a4x0 n4x0 c4x0) s20 f26)) (J := fun s20 a w21 => ∃ (σ : Nat → Value) (f27 : List Nat), a = fr 28 (ovl σ [(2, (.pointer (some ⟨g3, 0, none⟩))), (5, (.slice a4x0 n4x0 c4x0))]) ∧ Chg [] w w21 ∧ Own (Nw w []) M w21 (f27 ++ (([g3]) ++ [])) ∧ (RT.rs (RT.pr (RT.int .i64) (RT.rs (RT.int .i64)))).val M w21 (.slice pa0 pn0 pc0) a_.2 ([]) ∧ (RT.rs (RT.pr (RT.int .i64) (RT.int .i64))).val M w21 (.slice pa1 pn1 pc1) pairs ([]) ∧ BoxV w21 g3 35 [(.int .i64 a_.1), (.slice pa0 pn0 pc0)] ∧ (RT.os 3 (RT.int .i64)).val M w21 (.slice a4x0 n4x0 c4x0) s20 f27) (K := (k_impl_congruenceOf M w)) ?_ ?_ pairs 0 r5 o24 _ _ ?_ hl25 ?_
 ·rintro _ s20 a w21 ⟨k22, rfl, hd, σ, f26, rfl, hC, hO, h0, h1, hb3, hv26⟩
  have hlt := drop_nil_ge hd
  refine c_seq (c_region ?_)
  refine pl_val (.bool (decide ((k22 : Int) < (pairs.length : Int)))) (y_lss rfl rfl) ?_
  refine c_nil ?_
  refine c_seq ?_
  refine c_condF (congrArg Value.bool (decide_eq_false hlt)) ?_
  refine wp_exit ?_
  have hO := hO.fr1
  have hO := hO.fr1
  exact ⟨rfl, _, f26, fr_ovl 28 ⟨rfl, rfl, trivial⟩, hC, hO, h0, h1, hb3, hv26⟩
 ·rintro _ x23 xs_ s20 o24 a w21 ⟨k22, rfl, hd, σ, f26, rfl, hC, hO, h0, h1, hb3, hv26⟩ hs
  have hlt := drop_cons_lt hd
  have hxk22 := drop_cons_idx hd
  refine c_seq (c_region ?_)
  refine pl_val (.bool (decide ((k22 : Int) < (pairs.length : Int)))) (y_lss rfl rfl) ?_
  refine c_nil ?_
  refine c_seq ?_
  refine c_condT (congrArg Value.bool (decide_eq_true hlt)) ?_
  refine wp_skip ?_
  refine c_seq ?_
  refine wp_block ?_
  refine c_seq (c_region ?_)
  obtain ⟨b28, o28, hp28, ha28⟩ := rs_idx Sl111 Sz103 h1 hxk22
  refine pl_val (.pointer (some ⟨b28, o28, none⟩)) (hp28 _ _ _ _ _ _ _ _ _ rfl rfl) ?_
  obtain ⟨v29, hl29, hv29⟩ := at_load Ag103 Sz103 (by intro h; cases h) ha28
  obtain ⟨cs29, rfl, hr29⟩ := hv29
  obtain ⟨cc29x1, cd29x1, rfl, hh29x1, ht29x1⟩ := pr_open hr29
  obtain rfl := int_rel hh29x1
  obtain rfl := int_rel ht29x1
  refine pl_val (.agg #[(.int .i64 x23.1), (.int .i64 x23.2)]) (y_load rfl (hl29 _ (Chg.refl _ _))) ?_
  obtain ⟨w30, g30, ew30, eg30, hC30, hb30⟩ := new_block w21 [(.int .i64 0), (.int .i64 0)] 103
  refine pl_val (w' := w30) (.pointer (some ⟨g30, 0, none⟩)) (y_alloc (by rw [ew30, eg30]; kernel_rfl)) ?_
  have h0 := h0.ext hC30
  have h1 := h1.ext hC30
  have hb3 := hb3.chg hC30 (fun h => nomatch h)
  have hv26 := hv26.ext hC30
  have hC := hC.ext hC30
  have hO := hO.new1 hC30 eg30 hb30.lt
  obtain ⟨w31, hst31, hC31, hb31⟩ := box_store (P := Try.prog) hb30 [] [(.int .i64 0), (.int .i64 0)] [] [(.int .i64 x23.1), (.int .i64 x23.2)] rfl rfl (by intro u hu; simp only [List.mem_cons, List.not_mem_nil, or_false] at hu; rcases hu with rfl | rfl <;> rfl)
  refine pl_skip (w' := w31) (ys_store rfl rfl (hst31 _ _ rfl Sz103)) ?_
  have h0 := h0.mut hC31 (fun g hg => hO.inM g ((fun _ h => h) g hg)) (fun _ _ h => nomatch h)
  have h1 := h1.mut hC31 (fun g hg => hO.inM g ((fun _ h => h) g hg)) (fun _ _ h => nomatch h)
  have hb3 := hb3.chg hC31 (fun hg => hO.apart _ ((fun _ h => h) _ hg) (mem_r (mem_l (List.mem_singleton.2 rfl))))
  have hv26 := hv26.mut hC31 (fun g hg => hO.inM g ((fun _ h => h) g hg)) (fun g hg e => hO.apart g ((fun _ h => h) g hg) (mem_l (e)))
  have hC := hC.step hC31 (fun g hg => hO.inN g ((fun _ h => h) g hg))
  have hO := hO.ext hC31
  have hb31 : BoxV w31 g30 103 [(.int .i64 x23.1), (.int .i64 x23.2)] := hb31
  refine c_nil ?_
  refine c_region ?_
  refine pl_val (.slice a4x0 n4x0 c4x0) (y_move rfl) ?_
  refine pl_val (.pointer (some ⟨g30, 0, none⟩)) (y_aidx (i := 0) (n := 2) Try.underlying103 Sz3 rfl rfl (by decide)) ?_
  refine pl_val (.int .i64 x23.1) (y_load rfl ((box_load Ag3 Sz3 hb31 [] [(.int .i64 x23.1)] [(.int .i64 x23.2)] rfl rfl (fun _ => rfl)) _ (Chg.refl _ _))) ?_
  refine pl_val (.pointer (some ⟨g30, 1, none⟩)) (y_aidx (i := 1) (n := 2) Try.underlying103 Sz3 rfl rfl (by decide)) ?_
  refine pl_val (.int .i64 x23.2) (y_load rfl ((box_load Ag3 Sz3 hb31 [(.int .i64 x23.1)] [(.int .i64 x23.2)] [] rfl rfl (fun _ => rfl)) _ (Chg.refl _ _))) ?_
  have hO := hO.fr1
  have hL32 := hO
  have hI32 := Own.lend (F := (f26 ++ ([]))) (R := ([g30]) ++ (([g3]) ++ ([]))) (Own.perm (hL32) (by simp))
  obtain ⟨r33, hr33, hs⟩ := bind_some hs
  refine pl_call Bd103 rfl (c_impl_unite (M := M) s20 x23.1 x23.2 hv26 hI32 hI32.fut hr33) ?_
  rintro _ w32 ⟨fi32x0, rfl, hC32, hvi32x0, hOc32⟩
  have hO := hO.perm (R := (f26 ++ ([])) ++ (([g30]) ++ (([g3]) ++ ([])))) (by simp)
  have h0 := h0.mut hC32 (fun g hg => hO.inM g ((fun _ h => h) g hg)) (fun _ _ h => nomatch h)
  have h1 := h1.mut hC32 (fun g hg => hO.inM g ((fun _ h => h) g hg)) (fun _ _ h => nomatch h)
  have hb3 := hb3.chg hC32 (fun hg => hO.apart _ ((fun _ h => h) _ hg) (mem_r (mem_l (List.mem_singleton.2 rfl))))
  have hb31 := hb31.chg hC32 (fun hg => hO.apart _ ((fun _ h => h) _ hg) (mem_l (List.mem_singleton.2 rfl)))
  have hC := hC.step hC32 (fun g hg => hO.inN g ((fun _ h => h) g hg))
  have hO := Own.join hO hC32 hOc32
  have hO := hO.perm (R := fi32x0 ++ (([g30]) ++ (([g3]) ++ ([])))) (by simp)
  refine c_nil ?_
  refine c_region ?_
  refine pl_val (.int .i64 (w64 ((k22 : Int) + 1))) (y_add rfl rfl) ?_
  refine pl_val (.int .i64 (w64 ((k22 : Int) + 1))) (y_move rfl) ?_
  refine c_nil ?_
  cases hs
  have hO := hO.fr1
  have hO := hO.drop
  have hO := hO.fr1
  have hO := hO.fr1
  exact ⟨_, rfl, drop_cons_next hd, _, fi32x0, fr_ovl 28 ⟨rfl, rfl, rfl, rfl, congrArg (Value.int .i64) (w64_succ hlt (Int.natCast_nonneg _) (rs_max h1)), trivial⟩, hC, hO, h0, h1, hb3, hvi32x0⟩
 ·skip
  have hO := hO.fr1
  have hO := hO.fr1
  exact ⟨0, rfl, rfl, _, f4x0, fr_ovl 28 ⟨rfl, rfl, rfl, rfl, rfl, trivial⟩, hC, hO, h0, h1, hb3, hv4x0⟩
 ·cases o24 with
  | nx _ => exact True.intro
  | rt r_ =>
   have hs := after_rt hs
   intro a1 w1 hK
   cases hs
   exact hK
  | br s20 =>
   have hs := after_br hs
   rintro a1 w21 ⟨σ, f27, rfl, hC, hO, h0, h1, hb3, hv27⟩
   refine c_seq (c_region ?_)
   refine pl_val (.agg #[(.int .i64 a_.1), (.slice pa0 pn0 pc0)]) (y_load rfl ((box_load Ag35 Sz35 hb3 [] [(.int .i64 a_.1), (.slice pa0 pn0 pc0)] [] rfl rfl (fun h => nomatch h)) _ (Chg.refl _ _))) ?_
   refine pl_val (.slice a4x0 n4x0 c4x0) (y_move rfl) ?_
   have hL34 := hO
   have hI34 := Own.lend (F := (f27 ++ ([]))) (R := ([g3]) ++ ([])) (Own.perm (hL34) (by simp))
   obtain ⟨r35, hr35, hs⟩ := bind_some hs
   refine pl_call Bd97 rfl (c_impl_closePartition (M := M) (a_.1, a_.2) s20 h0 hv27 hI34 hI34.fut hr35) ?_
   rintro _ w34 ⟨fi34x0, rfl, hC34, hvi34x0, hOc34⟩
   have hO := hO.perm (R := (f27 ++ ([])) ++ (([g3]) ++ ([]))) (by simp)
   have h0 := h0.mut hC34 (fun g hg => hO.inM g ((fun _ h => h) g hg)) (fun _ _ h => nomatch h)
   have h1 := h1.mut hC34 (fun g hg => hO.inM g ((fun _ h => h) g hg)) (fun _ _ h => nomatch h)
   have hb3 := hb3.chg hC34 (fun hg => hO.apart _ ((fun _ h => h) _ hg) (mem_l (List.mem_singleton.2 rfl)))
   have hC := hC.step hC34 (fun g hg => hO.inN g ((fun _ h => h) g hg))
   have hO := Own.join hO hC34 hOc34
   have hO := hO.perm (R := fi34x0 ++ (([g3]) ++ ([]))) (by simp)
   refine c_nil ?_
   refine c_seq (c_region ?_)
   refine pl_val (.slice a4x0 n4x0 c4x0) (y_move rfl) ?_
   refine pl_val (.slice a4x0 n4x0 c4x0) (y_assign rfl) ?_
   refine c_nil ?_
   refine wp_ret ?_
   cases hs
   have hO := hO.fr1
   have hO := hO.drop
   exact ⟨_, a4x0, n4x0, c4x0, fi34x0, fr_ovl 28 ⟨rfl, trivial⟩, hC, hvi34x0, hO.top⟩

theorem Rw112 : RowT Try.prog 112 5 1 [(.int .u8 0)] := ⟨Try.underlying112, ⟨_, _, rfl, rfl, rfl, rfl, by decide⟩, rfl, by decide⟩

def k_impl_keyOf (M : Nat → Prop) (w0 : World) (r : ByteArray) (a : Act) (w : World) : Prop :=
  ∃ (σ : Nat → Value) , a = fr 27 (ovl σ [(2, (.string r))]) ∧ Chg [] w0 w
def s_impl_keyOf (list : List Int) : Option (ByteArray) :=
  (mkc 0 (w64 (2 * (list.length : Int)))).bind fun u3 =>
  (forR (S := (List Int)) (R := ByteArray) (fun _ x16 s13 =>
  (app s13 ([IntKind.u8.wrap (ishr .i64 x16 8), IntKind.u8.wrap x16])).bind fun y27 =>
  some (.nx y27)) 0 list (List.replicate (Int.toNat 0) (0 : Int))).bind fun o17 => after o17 (fun r_ => some r_) (fun s13 =>
  some (bstr s13))
set_option maxHeartbeats 4000000 in
theorem c_impl_keyOf {M : Nat → Prop} {w : World} {pa0 : Option Addr} {pn0 pc0 : Nat} (list : List Int) (h0 : (RT.rs (RT.int .i64)).val M w (.slice pa0 pn0 pc0) list ([])) (hM : ∀ g, w.heap.size ≤ g → M g) {r : ByteArray} (hs : s_impl_keyOf list = some r) :
    Gives Try.prog 127 [(.slice pa0 pn0 pc0)] w (fun v w' => v = (.string r) ∧ Chg [] w w') := by
 refine calls_fr Try.func127 rfl Try.ntmps127 (Nat.le_of_ble_eq_true rfl) ?_
 have hO := Own.start (N := Nw w []) hM Nw.fut
 have hC := Chg.refl [] w
 unfold s_impl_keyOf at hs
 refine wp_mono (Q := KPost (k_impl_keyOf M w r)) ?_ (fun e a w1 h => ?_)
 rotate_left
 ·cases e
  case ret =>
   obtain ⟨σ, rfl, hrest⟩ := h
   exact ret1x Try.results127 (res_tmp rfl) ⟨rfl, hrest⟩
  all_goals exact (h : False).elim
 refine c_seq (c_region ?_)
 refine pl_val (.string ByteArray.empty) (y_assign rfl) ?_
 refine c_nil ?_
 refine c_seq (c_region ?_)
 refine pl_val (.slice pa0 pn0 pc0) (y_move rfl) ?_
 refine pl_val (.int .i64 (list.length : Int)) (y_len' Sl22 (rs_len h0) rfl) ?_
 refine pl_val (.int .i64 (w64 (2 * (list.length : Int)))) (y_mul rfl rfl) ?_
 obtain ⟨u3, hu3, hs⟩ := bind_some hs
 obtain ⟨a2, n2, c2, w2, f2, hm2, hC2, hfr2, hv2⟩ := mk_cap (M := M) (w := w) (r := (RT.int .u8)) (x := (0 : Int)) Rw112 hu3 (fun _ _ => ⟨rfl, rfl⟩)
 refine pl_val (w' := w2) (.slice a2 n2 c2) (y_make rfl rfl hm2) ?_
 have h0 := h0.ext hC2
 have hC := hC.ext hC2
 have hO := hO.new hC2 hfr2 (os_nodup hv2) hv2.fpl
 refine pl_val (.slice a2 n2 c2) (y_assign rfl) ?_
 refine c_nil ?_
 refine c_seq ?_
 refine c_seq (c_region ?_)
 refine pl_val (.slice pa0 pn0 pc0) (y_move rfl) ?_
 refine pl_val (.int .i64 (list.length : Int)) (y_len' Sl22 (rs_len h0) rfl) ?_
 refine pl_val (.int .i64 0) (y_move rfl) ?_
 refine c_nil ?_
 obtain ⟨o17, hl18, hs⟩ := bind_some hs
 refine wp_block ?_
 refine wp_forR (id := 0) (I := fun i_ xs_ s13 a w14 => ∃ k15 : Nat, i_ = (k15 : Int) ∧ List.drop k15 list = xs_ ∧ (∃ (σ : Nat → Value) (a19 : Option Addr) (n19 : Nat) (c19 : Nat) (f19 : List Nat), a = fr 27 (ovl σ [(3, (.slice a19 n19 c19)), (10, (.slice pa0 pn0 pc0)), (11, (.int .i64 (list.length : Int))), (12, (.int .i64 (k15 : Int)))]) ∧ Chg [] w w14 ∧ Own (Nw w []) M w14 (f19 ++ []) ∧ (RT.rs (RT.int .i64)).val M w14 (.slice pa0 pn0 pc0) list ([]) ∧ (RT.os 5 (RT.int .u8)).val M w14 (.slice a19 n19 c19) s13 f19)) (J := fun s13 a w14 => ∃ (σ : Nat → Value) (a21 : Option Addr) (n21 : Nat) (c21 : Nat) (f21 : List Nat), a = fr 27 (ovl σ [(3, (.slice a21 n21 c21))]) ∧ Chg [] w w14 ∧ Own (Nw w []) M w14 (f21 ++ []) ∧ (RT.rs (RT.int .i64)).val M w14 (.slice pa0 pn0 pc0) list ([]) ∧ (RT.os 5 (RT.int .u8)).val M w14 (.slice a21 n21 c21) s13 f21) (K := (k_impl_keyOf M w)) ?_ ?_ list 0 (List.replicate (Int.toNat 0) (0 : Int)) o17 _ _ ?_ hl18 ?_
 ·rintro _ s13 a w14 ⟨k15, rfl, hd, σ, a19, n19, c19, f19, rfl, hC, hO, h0, hv19⟩
  have hlt := drop_nil_ge hd
  refine c_seq (c_region ?_)
  refine pl_val (.bool (decide ((k15 : Int) < (list.length : Int)))) (y_lss rfl rfl) ?_
  refine c_nil ?_
  refine c_seq ?_
  refine c_condF (congrArg Value.bool (decide_eq_false hlt)) ?_
  refine wp_exit ?_
  exact ⟨rfl, _, a19, n19, c19, f19, fr_ovl 27 ⟨rfl, trivial⟩, hC, hO, h0, hv19⟩
 ·rintro _ x16 xs_ s13 o17 a w14 ⟨k15, rfl, hd, σ, a19, n19, c19, f19, rfl, hC, hO, h0, hv19⟩ hs
  have hlt := drop_cons_lt hd
  have hxk15 := drop_cons_idx hd
  refine c_seq (c_region ?_)
  refine pl_val (.bool (decide ((k15 : Int) < (list.length : Int)))) (y_lss rfl rfl) ?_
  refine c_nil ?_
  refine c_seq ?_
  refine c_condT (congrArg Value.bool (decide_eq_true hlt)) ?_
  refine wp_skip ?_
  refine c_seq ?_
  refine wp_block ?_
  refine c_seq (c_region ?_)
  obtain ⟨b23, o23, hp23, ha23⟩ := rs_idx Sl22 Sz3 h0 hxk15
  refine pl_val (.pointer (some ⟨b23, o23, none⟩)) (hp23 _ _ _ _ _ _ _ _ _ rfl rfl) ?_
  refine pl_val (.int .i64 x16) (y_load rfl ((at_load_int Ag3 Sz3 ha23) _ (Chg.refl _ _))) ?_
  refine pl_val (.int .i64 x16) (y_assign rfl) ?_
  refine c_nil ?_
  refine c_region ?_
  refine pl_val (.slice a19 n19 c19) (y_move rfl) ?_
  refine pl_val (.int .i64 x16) (y_move rfl) ?_
  refine pl_val (.int .i64 (ishr .i64 x16 8)) (y_shr rfl rfl (by decide)) ?_
  refine pl_val (.int .u8 (IntKind.u8.wrap (ishr .i64 x16 8))) (y_conv_int Try.underlying3 Try.underlying5 rfl) ?_
  refine pl_val (.int .i64 x16) (y_move rfl) ?_
  refine pl_val (.int .u8 (IntKind.u8.wrap x16)) (y_conv_int Try.underlying3 Try.underlying5 rfl) ?_
  obtain ⟨w24, g24, ew24, eg24, hC24, hb24⟩ := new_block w14 [(.int .u8 (IntKind.u8.wrap (ishr .i64 x16 8))), (.int .u8 (IntKind.u8.wrap x16))] 5
  refine pl_val (w' := w24) (.slice (some ⟨g24, 0, none⟩) 2 2) (y_bslice rfl (by rw [ew24, eg24]; kernel_rfl)) ?_
  have h0 := h0.ext hC24
  have hv19 := hv19.ext hC24
  have hC := hC.ext hC24
  have hO := hO.new1 hC24 eg24 hb24.lt
  have hv24 := os_of_box (r := (RT.int .u8)) (M := M) (css := [[(.int .u8 (IntKind.u8.wrap (ishr .i64 x16 8)))], [(.int .u8 (IntKind.u8.wrap x16))]]) (fps := [([] : List Nat), ([] : List Nat)]) (xs := ([IntKind.u8.wrap (ishr .i64 x16 8), IntKind.u8.wrap x16] : List Int)) hb24 ⟨⟨rfl, rfl⟩, ⟨⟨rfl, rfl⟩, trivial⟩⟩ (Nat.le_of_ble_eq_true rfl) (List.nodup_cons.2 ⟨(fun h => nomatch h), List.nodup_nil⟩)
  have hv24 : (RT.os 5 (RT.int .u8)).val M w24 (.slice (some ⟨g24, 0, none⟩) 2 2) [IntKind.u8.wrap (ishr .i64 x16 8), IntKind.u8.wrap x16] [g24] := hv24
  obtain ⟨y27, hy27, hs⟩ := bind_some hs
  have hO := hO.fr1
  obtain ⟨a26, n26, c26, w26, f26, hr26, hC26, hf26, hv26⟩ := app_os Rw112 hy27 hv19 hv24 hO.inM (fun g hg hq => hO.apart g hq (mem_l hg))
  have hG26 := os_block hv19
  refine pl_val (w' := w26) (.slice a26 n26 c26) (y_append rfl rfl (hr26 _)) ?_
  have hO := hO.fr1
  have hO := hO.fr1
  have h0 := h0.mut hC26 (fun g hg => hO.inM g (hG26 g hg)) (fun _ _ h => nomatch h)
  have hC := hC.step hC26 (fun g hg => hO.inN g (hG26 g hg))
  have hO := hO.eat hC26 hf26 (os_nodup hv26) hv26.fpl
  refine pl_val (.slice a26 n26 c26) (y_assign rfl) ?_
  refine c_nil ?_
  refine c_region ?_
  refine pl_val (.int .i64 (w64 ((k15 : Int) + 1))) (y_add rfl rfl) ?_
  refine pl_val (.int .i64 (w64 ((k15 : Int) + 1))) (y_move rfl) ?_
  refine c_nil ?_
  cases hs
  exact ⟨_, rfl, drop_cons_next hd, _, a26, n26, c26, f26, fr_ovl 27 ⟨rfl, rfl, rfl, congrArg (Value.int .i64) (w64_succ hlt (Int.natCast_nonneg _) (rs_max h0)), trivial⟩, hC, hO, h0, hv26⟩
 ·skip
  exact ⟨0, rfl, rfl, _, a2, n2, c2, f2, fr_ovl 27 ⟨rfl, rfl, rfl, rfl, trivial⟩, hC, hO, h0, hv2⟩
 ·cases o17 with
  | nx _ => exact True.intro
  | rt r_ =>
   have hs := after_rt hs
   intro a1 w1 hK
   cases hs
   exact hK
  | br s13 =>
   have hs := after_br hs
   rintro a1 w14 ⟨σ, a21, n21, c21, f21, rfl, hC, hO, h0, hv21⟩
   refine c_seq (c_region ?_)
   refine pl_val (.slice a21 n21 c21) (y_move rfl) ?_
   refine pl_val (.string (bstr s13)) (y_str Try.underlying112 Try.underlying9 Try.underlying5 hv21 rfl) ?_
   refine pl_val (.string (bstr s13)) (y_assign rfl) ?_
   refine c_nil ?_
   refine wp_ret ?_
   cases hs
   exact ⟨_, fr_ovl 27 ⟨rfl, trivial⟩, hC⟩

def k_impl_clone (M : Nat → Prop) (w0 : World) (r : (List Int)) (a : Act) (w : World) : Prop :=
  ∃ (σ : Nat → Value) (ra0 : Option Addr) (rn0 rc0 : Nat) (rf0 : List Nat), a = fr 6 (ovl σ [(2, (.slice ra0 rn0 rc0))]) ∧ Chg [] w0 w ∧ (RT.os 3 (RT.int .i64)).val M w (.slice ra0 rn0 rc0) r rf0 ∧ Own (Nw w0 []) (fun _ => True) w (rf0 ++ ([]))
def s_impl_clone (list : List Int) : Option ((List Int)) :=
  (app ([]) list).bind fun y5 =>
  some y5
set_option maxHeartbeats 4000000 in
theorem c_impl_clone {M : Nat → Prop} {w : World} {pa0 : Option Addr} {pn0 pc0 : Nat} (list : List Int) (h0 : (RT.rs (RT.int .i64)).val M w (.slice pa0 pn0 pc0) list ([])) (hM : ∀ g, w.heap.size ≤ g → M g) {r : (List Int)} (hs : s_impl_clone list = some r) :
    Gives Try.prog 98 [(.slice pa0 pn0 pc0)] w (fun v w' => ∃ (ra0 : Option Addr) (rn0 rc0 : Nat) (rf0 : List Nat), v = (.slice ra0 rn0 rc0) ∧ Chg [] w w' ∧ (RT.os 3 (RT.int .i64)).val M w' (.slice ra0 rn0 rc0) r rf0 ∧ Own (Nw w []) (fun _ => True) w' (rf0 ++ ([]))) := by
 refine calls_fr Try.func98 rfl Try.ntmps98 (Nat.le_of_ble_eq_true rfl) ?_
 have hO := Own.start (N := Nw w []) hM Nw.fut
 have hC := Chg.refl [] w
 unfold s_impl_clone at hs
 refine wp_mono (Q := KPost (k_impl_clone M w r)) ?_ (fun e a w1 h => ?_)
 rotate_left
 ·cases e
  case ret =>
   obtain ⟨σ, ra0, rn0, rc0, rf0, rfl, hrest⟩ := h
   exact ret1x Try.results98 (res_tmp rfl) ⟨ra0, rn0, rc0, rf0, rfl, hrest⟩
  all_goals exact (h : False).elim
 refine c_seq (c_region ?_)
 refine pl_val (.slice none 0 0) (y_assign rfl) ?_
 refine c_nil ?_
 refine c_seq (c_region ?_)
 obtain ⟨w2, g2, ew2, eg2, hC2, hb2⟩ := new_block w [] 3
 refine pl_val (w' := w2) (.slice (some ⟨g2, 0, none⟩) 0 0) (y_bslice rfl (by rw [ew2, eg2]; kernel_rfl)) ?_
 have h0 := h0.ext hC2
 have hC := hC.ext hC2
 have hO := hO.new1 hC2 eg2 hb2.lt
 have hv2 := os_of_box (r := (RT.int .i64)) (M := M) (css := []) (fps := []) (xs := ([] : List Int)) hb2 trivial (Nat.zero_le _) (List.nodup_cons.2 ⟨(fun h => nomatch h), List.nodup_nil⟩)
 have hv2 : (RT.os 3 (RT.int .i64)).val M w2 (.slice (some ⟨g2, 0, none⟩) 0 0) [] [g2] := hv2
 refine pl_val (.slice pa0 pn0 pc0) (y_move rfl) ?_
 obtain ⟨y5, hy5, hs⟩ := bind_some hs
 obtain ⟨a4, n4, c4, w4, f4, hr4, hC4, hf4, hv4⟩ := app_rs Rw22 hy5 hv2 h0 hO.inM
 have hG4 := os_block hv2
 refine pl_val (w' := w4) (.slice a4 n4 c4) (y_append rfl rfl (hr4 _)) ?_
 have h0 := h0.mut hC4 (fun g hg => hO.inM g (hG4 g hg)) (fun _ _ h => nomatch h)
 have hC := hC.step hC4 (fun g hg => hO.inN g (hG4 g hg))
 have hO := hO.grow hC4 hf4 (os_nodup hv4) hv4.fpl
 refine pl_val (.slice a4 n4 c4) (y_assign rfl) ?_
 refine c_nil ?_
 refine wp_ret ?_
 cases hs
 exact ⟨_, a4, n4, c4, f4, fr_ovl 6 ⟨rfl, trivial⟩, hC, hv4, hO.top⟩

theorem Bd98 : Bodied Try.prog 98 := bodied Try.func98 (by kernel_rfl) rfl

def k_impl_join (M : Nat → Prop) (w0 : World) (r : (List Int)) (a : Act) (w : World) : Prop :=
  ∃ (σ : Nat → Value) (ra0 : Option Addr) (rn0 rc0 : Nat) (rf0 : List Nat), a = fr 23 (ovl σ [(4, (.slice ra0 rn0 rc0))]) ∧ Chg [] w0 w ∧ (RT.os 3 (RT.int .i64)).val M w (.slice ra0 rn0 rc0) r rf0 ∧ Own (Nw w0 []) (fun _ => True) w (rf0 ++ ([]))
def s_impl_join (p : List Int) (q : List Int) : Option ((List Int)) :=
  (s_impl_clone p).bind fun r4 =>
  (forC (S := (List Int)) (R := (List Int)) (fun k17 s15 =>
  (idx q k17).bind fun x23 =>
  (s_impl_unite s15 k17 x23).bind fun r26 =>
  some (.nx r26.2)) 0 (q.length : Int) r4).bind fun o19 => after o19 (fun r_ => some r_) (fun s15 =>
  some s15)
set_option maxHeartbeats 4000000 in
theorem c_impl_join {M : Nat → Prop} {w : World} {pa0 : Option Addr} {pn0 pc0 : Nat} {pa1 : Option Addr} {pn1 pc1 : Nat} (p : List Int) (q : List Int) (h0 : (RT.rs (RT.int .i64)).val M w (.slice pa0 pn0 pc0) p ([])) (h1 : (RT.rs (RT.int .i64)).val M w (.slice pa1 pn1 pc1) q ([])) (hM : ∀ g, w.heap.size ≤ g → M g) {r : (List Int)} (hs : s_impl_join p q = some r) :
    Gives Try.prog 78 [(.slice pa0 pn0 pc0), (.slice pa1 pn1 pc1)] w (fun v w' => ∃ (ra0 : Option Addr) (rn0 rc0 : Nat) (rf0 : List Nat), v = (.slice ra0 rn0 rc0) ∧ Chg [] w w' ∧ (RT.os 3 (RT.int .i64)).val M w' (.slice ra0 rn0 rc0) r rf0 ∧ Own (Nw w []) (fun _ => True) w' (rf0 ++ ([]))) := by
 refine calls_fr Try.func78 rfl Try.ntmps78 (Nat.le_of_ble_eq_true rfl) ?_
 have hO := Own.start (N := Nw w []) hM Nw.fut
 have hC := Chg.refl [] w
 unfold s_impl_join at hs
 refine wp_mono (Q := KPost (k_impl_join M w r)) ?_ (fun e a w1 h => ?_)
 rotate_left
 ·cases e
  case ret =>
   obtain ⟨σ, ra0, rn0, rc0, rf0, rfl, hrest⟩ := h
   exact ret1x Try.results78 (res_tmp rfl) ⟨ra0, rn0, rc0, rf0, rfl, hrest⟩
  all_goals exact (h : False).elim
 refine c_seq (c_region ?_)
 refine pl_val (.slice none 0 0) (y_assign rfl) ?_
 refine c_nil ?_
 refine c_seq (c_region ?_)
 refine pl_val (.slice pa0 pn0 pc0) (y_move rfl) ?_
 obtain ⟨r4, hr4, hs⟩ := bind_some hs
 refine pl_call Bd98 rfl (c_impl_clone (M := M) p h0 hO.fut hr4) ?_
 rintro _ w3 ⟨a3x0, n3x0, c3x0, f3x0, rfl, hC3, hv3x0, hOc3⟩
 have h0 := h0.ext hC3
 have h1 := h1.ext hC3
 have hC := hC.ext hC3
 have hO := Own.join0 hO hC3 hOc3
 have hO := hO.perm (R := f3x0 ++ ([])) (by simp)
 refine pl_val (.slice a3x0 n3x0 c3x0) (y_assign rfl) ?_
 refine c_nil ?_
 refine c_seq ?_
 refine c_seq (c_region ?_)
 refine pl_val (.slice pa1 pn1 pc1) (y_move rfl) ?_
 refine pl_val (.int .i64 (q.length : Int)) (y_len' Sl22 (rs_len h1) rfl) ?_
 refine pl_val (.int .i64 0) (y_move rfl) ?_
 refine c_nil ?_
 obtain ⟨o19, hl20, hs⟩ := bind_some hs
 refine wp_block ?_
 refine wp_forC (id := 0) (q.length : Int) (I := fun k17 s15 a w16 => ∃ (σ : Nat → Value) (f21 : List Nat), a = fr 23 (ovl σ [(5, (.slice a3x0 n3x0 c3x0)), (10, (.slice pa1 pn1 pc1)), (11, (.int .i64 (q.length : Int))), (12, (.int .i64 k17))]) ∧ Chg [] w w16 ∧ Own (Nw w []) M w16 (f21 ++ []) ∧ (RT.rs (RT.int .i64)).val M w16 (.slice pa1 pn1 pc1) q ([]) ∧ (RT.os 3 (RT.int .i64)).val M w16 (.slice a3x0 n3x0 c3x0) s15 f21) (J := fun s15 a w16 => ∃ (σ : Nat → Value) (f22 : List Nat), a = fr 23 (ovl σ [(5, (.slice a3x0 n3x0 c3x0))]) ∧ Chg [] w w16 ∧ Own (Nw w []) M w16 (f22 ++ []) ∧ (RT.rs (RT.int .i64)).val M w16 (.slice pa1 pn1 pc1) q ([]) ∧ (RT.os 3 (RT.int .i64)).val M w16 (.slice a3x0 n3x0 c3x0) s15 f22) (K := (k_impl_join M w)) ?_ ?_ 0 r4 o19 _ _ ?_ hl20 ?_
 ·rintro k17 s15 a w16 ⟨σ, f21, rfl, hC, hO, h1, hv21⟩ hlt
  refine c_seq (c_region ?_)
  refine pl_val (.bool (decide (k17 < (q.length : Int)))) (y_lss rfl rfl) ?_
  refine c_nil ?_
  refine c_seq ?_
  refine c_condF (congrArg Value.bool (decide_eq_false hlt)) ?_
  refine wp_exit ?_
  exact ⟨rfl, _, f21, fr_ovl 23 ⟨rfl, trivial⟩, hC, hO, h1, hv21⟩
 ·rintro k17 s15 o19 a w16 ⟨σ, f21, rfl, hC, hO, h1, hv21⟩ hlt hw hs
  refine c_seq (c_region ?_)
  refine pl_val (.bool (decide (k17 < (q.length : Int)))) (y_lss rfl rfl) ?_
  refine c_nil ?_
  refine c_seq ?_
  refine c_condT (congrArg Value.bool (decide_eq_true hlt)) ?_
  refine wp_skip ?_
  refine c_seq ?_
  refine wp_block ?_
  refine c_seq (c_region ?_)
  refine pl_val (.int .i64 k17) (y_move rfl) ?_
  obtain ⟨x23, hx23, hs⟩ := bind_some hs
  obtain ⟨b24, o24, hp24, ha24⟩ := rs_idx Sl22 Sz3 h1 hx23
  refine pl_val (.pointer (some ⟨b24, o24, none⟩)) (hp24 _ _ _ _ _ _ _ _ _ rfl rfl) ?_
  refine pl_val (.int .i64 x23) (y_load rfl ((at_load_int Ag3 Sz3 ha24) _ (Chg.refl _ _))) ?_
  refine pl_val (.int .i64 k17) (y_assign rfl) ?_
  refine pl_val (.int .i64 x23) (y_assign rfl) ?_
  refine c_nil ?_
  refine c_region ?_
  refine pl_val (.slice a3x0 n3x0 c3x0) (y_move rfl) ?_
  refine pl_val (.int .i64 k17) (y_move rfl) ?_
  refine pl_val (.int .i64 x23) (y_move rfl) ?_
  have hL25 := hO
  have hI25 := Own.lend (F := (f21 ++ ([]))) (R := []) (Own.perm (hL25) (by simp))
  obtain ⟨r26, hr26, hs⟩ := bind_some hs
  refine pl_call Bd103 rfl (c_impl_unite (M := M) s15 k17 x23 hv21 hI25 hI25.fut hr26) ?_
  rintro _ w25 ⟨fi25x0, rfl, hC25, hvi25x0, hOc25⟩
  have hO := hO.perm (R := (f21 ++ ([])) ++ ([])) (by simp)
  have h1 := h1.mut hC25 (fun g hg => hO.inM g ((fun _ h => h) g hg)) (fun _ _ h => nomatch h)
  have hC := hC.step hC25 (fun g hg => hO.inN g ((fun _ h => h) g hg))
  have hO := Own.join hO hC25 hOc25
  have hO := hO.perm (R := fi25x0 ++ ([])) (by simp)
  refine c_nil ?_
  refine c_region ?_
  refine pl_val (.int .i64 (w64 (k17 + 1))) (y_add rfl rfl) ?_
  refine pl_val (.int .i64 (w64 (k17 + 1))) (y_move rfl) ?_
  refine c_nil ?_
  cases hs
  exact ⟨_, fi25x0, fr_ovl 23 ⟨rfl, rfl, rfl, congrArg (Value.int .i64) hw, trivial⟩, hC, hO, h1, hvi25x0⟩
 ·skip
  exact ⟨_, f3x0, fr_ovl 23 ⟨rfl, rfl, rfl, rfl, trivial⟩, hC, hO, h1, hv3x0⟩
 ·cases o19 with
  | nx _ => exact True.intro
  | rt r_ =>
   have hs := after_rt hs
   intro a1 w1 hK
   cases hs
   exact hK
  | br s15 =>
   have hs := after_br hs
   rintro a1 w16 ⟨σ, f22, rfl, hC, hO, h1, hv22⟩
   refine c_seq (c_region ?_)
   refine pl_val (.slice a3x0 n3x0 c3x0) (y_move rfl) ?_
   refine pl_val (.slice a3x0 n3x0 c3x0) (y_assign rfl) ?_
   refine c_nil ?_
   refine wp_ret ?_
   cases hs
   exact ⟨_, a3x0, n3x0, c3x0, f22, fr_ovl 23 ⟨rfl, trivial⟩, hC, hv22, hO.top⟩

theorem Fa125x0 : ∀ (a : Addr) (w : World), (Instr.fieldAt 125 (.pointer (some a)) 0).run Try.prog w = .ok (.pointer (some (a.add 0))) w := fun _ _ => by kernel_rfl

theorem Ag115 : AggT Try.prog 115 false := fun _ => by kernel_rfl

theorem Sz115 : SzT Try.prog 115 1 := ⟨_, rfl, rfl⟩

theorem Fa125x1 : ∀ (a : Addr) (w : World), (Instr.fieldAt 125 (.pointer (some a)) 1).run Try.prog w = .ok (.pointer (some (a.add 1))) w := fun _ _ => by kernel_rfl

theorem Ag121 : AggT Try.prog 121 false := fun _ => by kernel_rfl

theorem Sz121 : SzT Try.prog 121 1 := ⟨_, rfl, rfl⟩

def k_sort_insertionSort_func (M : Nat → Prop) (w0 : World) {α_ : Type} (I_ : World → List α_ → Prop) (G_ : List Nat) (r : (List α_)) (a : Act) (w : World) : Prop :=
  ∃ (σ : Nat → Value) , a = fr 35 (ovl σ []) ∧ Chg (G_ ++ ([])) w0 w ∧ I_ w r
def s_sort_insertionSort_func {α_ : Type} (ls_ : α_ → α_ → Option Bool) (d_ : List α_) (a_ : Int) (b : Int) : Option ((List α_)) :=
  (forC (S := (List α_)) (R := (List α_)) (fun k78 s76 =>
  (iter (S := Int × (List α_)) (R := (List α_)) (fun s103 =>
  ((bif (decide (a_ < s103.1)) then (lsx ls_ s103.2 s103.1 (w64 (s103.1 - 1))).bind fun r116 =>
  some r116 else some false)).bind fun s111 =>
  (bif s111 then (swx s103.2 s103.1 (w64 (s103.1 - 1))).bind fun y119 =>
  some (.nx (w64 (s103.1 - 1), y119)) else some (.br (s103.1, s103.2)))) FU (k78, s76)).bind fun o107 => after o107 (fun r_ => some (.rt r_)) (fun s103 =>
  some (.nx s103.2))) (w64 (a_ + 1)) b d_).bind fun o80 => after o80 (fun r_ => some r_) (fun s76 =>
  some s76)
set_option maxHeartbeats 4000000 in
theorem c_sort_insertionSort_func {M : Nat → Prop} {w : World} {α_ : Type} {n0_ : Nat} {I_ : World → List α_ → Prop} {G_ : List Nat} {g_ sf_ : Nat} {lb_ sb_ : Array Value} (ls_ : α_ → α_ → Option Bool) (d_ : List α_) (a_ : Int) (b : Int) (hN_ : n0_ ≤ w.heap.size) (hE_ : Env Try.prog n0_ I_ G_ ls_ g_ lb_ sf_ sb_) (hI_ : I_ w d_) (hI : Own (Nw w (G_ ++ ([]))) M w (G_ ++ ([]))) (hM : ∀ g, w.heap.size ≤ g → M g) {r : (List α_)} (hs : s_sort_insertionSort_func ls_ d_ a_ b = some r) :
    Gives Try.prog 150 [(.agg #[(.func (.func g_) #[] lb_), (.func (.func sf_) #[] sb_)]), (.int .i64 a_), (.int .i64 b)] w (fun v w' => v = (.tuple #[]) ∧ Chg (G_ ++ ([])) w w' ∧ I_ w' r) := by
 refine calls_fr Try.func150 rfl Try.ntmps150 (Nat.le_of_ble_eq_true rfl) ?_
 have hO := hI
 have hC := Chg.refl (G_ ++ ([])) w
 unfold s_sort_insertionSort_func at hs
 refine wp_mono (Q := KPostN (k_sort_insertionSort_func M w I_ G_ r)) ?_ (fun e a w1 h => ?_)
 rotate_left
 ·cases e
  case ret =>
   obtain ⟨σ, rfl, hrest⟩ := h
   exact ret0x Try.results150  ⟨rfl, hrest⟩
  case normal =>
   obtain ⟨σ, rfl, hrest⟩ := h
   exact ret0n Try.results150  ⟨rfl, hrest⟩
  all_goals exact (h : False).elim
 refine c_seq (c_region ?_)
 obtain ⟨w1, g1, ew1, eg1, hC1, hb1⟩ := new_block w [(.func (.func g_) #[] lb_), (.func (.func sf_) #[] sb_)] 125
 refine pl_val (w' := w1) (.pointer (some ⟨g1, 0, none⟩)) (y_box rfl (by rw [ew1, eg1]; kernel_rfl)) ?_
 have hI_ := hE_.ext hI_ hC1 (fun _ h => nomatch h)
 have hC := hC.ext hC1
 have hO := hO.new1 hC1 eg1 hb1.lt
 refine c_nil ?_
 refine c_seq (c_region ?_)
 refine pl_val (.int .i64 a_) (y_move rfl) ?_
 refine pl_val (.int .i64 (w64 (a_ + 1))) (y_add rfl rfl) ?_
 refine pl_val (.int .i64 (w64 (a_ + 1))) (y_assign rfl) ?_
 refine c_nil ?_
 obtain ⟨o80, hl81, hs⟩ := bind_some hs
 refine wp_block ?_
 refine wp_forC (id := 0) b (I := fun k78 s76 a w77 => ∃ (σ : Nat → Value), a = fr 35 (ovl σ [(1, (.int .i64 a_)), (2, (.int .i64 b)), (3, (.pointer (some ⟨g1, 0, none⟩))), (6, (.int .i64 k78))]) ∧ Chg (G_ ++ ([])) w w77 ∧ Own (Nw w (G_ ++ ([]))) M w77 (([g1]) ++ (G_ ++ [])) ∧ I_ w77 s76 ∧ BoxV w77 g1 125 [(.func (.func g_) #[] lb_), (.func (.func sf_) #[] sb_)]) (J := fun s76 a w77 => ∃ (σ : Nat → Value), a = fr 35 (ovl σ []) ∧ Chg (G_ ++ ([])) w w77 ∧ Own (Nw w (G_ ++ ([]))) M w77 (([g1]) ++ (G_ ++ [])) ∧ I_ w77 s76 ∧ BoxV w77 g1 125 [(.func (.func g_) #[] lb_), (.func (.func sf_) #[] sb_)]) (K := (k_sort_insertionSort_func M w I_ G_)) ?_ ?_ (w64 (a_ + 1)) d_ o80 _ _ ?_ hl81 ?_
 ·rintro k78 s76 a w77 ⟨σ, rfl, hC, hO, hv82, hb1⟩ hlt
  refine c_seq ?_
  refine c_seq (c_region ?_)
  refine pl_val (.int .i64 k78) (y_move rfl) ?_
  refine pl_val (.int .i64 b) (y_move rfl) ?_
  refine pl_val (.bool (decide (k78 < b))) (y_lss rfl rfl) ?_
  refine c_nil ?_
  refine c_condF (congrArg Value.bool (decide_eq_false hlt)) ?_
  refine wp_exit ?_
  have hO := hO.fr1
  have hO := hO.fr1
  exact ⟨rfl, _, fr_ovl 35 trivial, hC, hO, hv82, hb1⟩
 ·rintro k78 s76 o80 a w77 ⟨σ, rfl, hC, hO, hv82, hb1⟩ hlt hw hs
  refine c_seq ?_
  refine c_seq (c_region ?_)
  refine pl_val (.int .i64 k78) (y_move rfl) ?_
  refine pl_val (.int .i64 b) (y_move rfl) ?_
  refine pl_val (.bool (decide (k78 < b))) (y_lss rfl rfl) ?_
  refine c_nil ?_
  refine c_condT (congrArg Value.bool (decide_eq_true hlt)) ?_
  refine wp_skip ?_
  refine c_seq ?_
  refine wp_block ?_
  refine c_seq (c_region ?_)
  refine pl_val (.int .i64 k78) (y_move rfl) ?_
  refine pl_val (.int .i64 k78) (y_assign rfl) ?_
  refine c_nil ?_
  obtain ⟨o107, hl108, hs⟩ := bind_some hs
  refine wp_block ?_
  refine wp_iter (id := 2) (I := fun s103 a w104 => ∃ (σ : Nat → Value), a = fr 35 (ovl σ [(1, (.int .i64 a_)), (2, (.int .i64 b)), (3, (.pointer (some ⟨g1, 0, none⟩))), (6, (.int .i64 k78)), (7, (.int .i64 s103.1))]) ∧ Chg (G_ ++ ([])) w w104 ∧ Own (Nw w (G_ ++ ([]))) M w104 (([g1]) ++ (G_ ++ [])) ∧ I_ w104 s103.2 ∧ BoxV w104 g1 125 [(.func (.func g_) #[] lb_), (.func (.func sf_) #[] sb_)]) (J := fun s103 a w104 => ∃ (σ : Nat → Value), a = fr 35 (ovl σ [(1, (.int .i64 a_)), (2, (.int .i64 b)), (3, (.pointer (some ⟨g1, 0, none⟩))), (6, (.int .i64 k78))]) ∧ Chg (G_ ++ ([])) w w104 ∧ Own (Nw w (G_ ++ ([]))) M w104 (([g1]) ++ (G_ ++ [])) ∧ I_ w104 s103.2 ∧ BoxV w104 g1 125 [(.func (.func g_) #[] lb_), (.func (.func sf_) #[] sb_)]) (K := (k_sort_insertionSort_func M w I_ G_)) ?_ FU (k78, s76) o107 _ _ ?_ hl108 ?_
  ·rintro s103 o107 a w104 ⟨σ, rfl, hC, hO, hv109, hb1⟩ hs
   refine c_seq ?_
   refine c_seq ?_
   obtain ⟨s111, hm113, hs⟩ := bind_some hs
   refine c_mid (I := fun a w112 => ∃ (σ : Nat → Value), a = fr 35 (ovl σ [(1, (.int .i64 a_)), (2, (.int .i64 b)), (3, (.pointer (some ⟨g1, 0, none⟩))), (6, (.int .i64 k78)), (7, (.int .i64 s103.1)), (26, (.bool s111))]) ∧ Chg [] w104 w112) ?_ ?_
   ·replace hs := hm113
    have hMid := Chg.refl [] w104
    refine c_region ?_
    refine pl_val (.int .i64 s103.1) (y_move rfl) ?_
    refine pl_val (.int .i64 a_) (y_move rfl) ?_
    refine pl_val (.bool (decide (a_ < s103.1))) (y_gtr rfl rfl) ?_
    refine pl_val (.bool (decide (a_ < s103.1))) (y_move rfl) ?_
    rcases bif_some hs with ⟨hc114, hs⟩ | ⟨hc114, hs⟩
    ·skip
     refine pl_yes (.pointer (some ⟨g1, 0, none⟩)) (tg := 19) (by kernel_rfl) (congrArg Value.bool hc114) (y_faddr rfl Fa125x0) ?_
     refine pl_yes (.func (.func g_) #[] lb_) (tg := 19) (by kernel_rfl) (congrArg Value.bool hc114) (y_load rfl ((box_load Ag115 Sz115 hb1 [] [(.func (.func g_) #[] lb_)] [(.func (.func sf_) #[] sb_)] rfl rfl (fun _ => rfl)) _ (Chg.refl _ _))) ?_
     refine pl_yes (.int .i64 s103.1) (tg := 19) (by kernel_rfl) (congrArg Value.bool hc114) (y_move rfl) ?_
     refine pl_yes (.int .i64 s103.1) (tg := 19) (by kernel_rfl) (congrArg Value.bool hc114) (y_move rfl) ?_
     refine pl_yes (.int .i64 (w64 (s103.1 - 1))) (tg := 19) (by kernel_rfl) (congrArg Value.bool hc114) (y_sub rfl rfl) ?_
     obtain ⟨r116, hr116, hs⟩ := bind_some hs
     refine pl_callby (tg := 19) (by kernel_rfl) (congrArg Value.bool hc114) rfl hE_.bod rfl (hE_.less hv109 hr116) ?_
     rintro _ w115 ⟨rfl, hC115⟩
     have hv109 := hE_.ext hv109 hC115 (fun _ h => nomatch h)
     have hb1 := hb1.chg hC115 (fun h => nomatch h)
     have hMid := hMid.ext hC115
     have hC := hC.ext hC115
     have hO := hO.ext hC115
     refine pl_val (.bool r116) (y_pick_t (congrArg Value.bool hc114) rfl) ?_
     refine c_nil ?_
     cases hs
     exact ⟨_, fr_ovl 35 ⟨rfl, rfl, rfl, rfl, rfl, rfl, trivial⟩, hMid⟩
    ·skip
     refine pl_not (tg := 19) (by kernel_rfl) (congrArg Value.bool hc114) ?_
     refine pl_not (tg := 19) (by kernel_rfl) (congrArg Value.bool hc114) ?_
     refine pl_not (tg := 19) (by kernel_rfl) (congrArg Value.bool hc114) ?_
     refine pl_not (tg := 19) (by kernel_rfl) (congrArg Value.bool hc114) ?_
     refine pl_not (tg := 19) (by kernel_rfl) (congrArg Value.bool hc114) ?_
     refine pl_not (tg := 19) (by kernel_rfl) (congrArg Value.bool hc114) ?_
     refine pl_val (.bool false) (y_pick_f (congrArg Value.bool hc114) rfl) ?_
     refine c_nil ?_
     cases hs
     exact ⟨_, fr_ovl 35 ⟨rfl, rfl, rfl, rfl, rfl, rfl, trivial⟩, hMid⟩
   ·rintro a1 w112 ⟨σ, rfl, hCs111⟩
    have hv109 := hE_.ext hv109 hCs111 (fun _ h => nomatch h)
    have hb1 := hb1.chg hCs111 (fun h => nomatch h)
    have hC := hC.ext hCs111
    have hO := hO.ext hCs111
    rcases bif_some hs with ⟨hc117, hs⟩ | ⟨hc117, hs⟩
    ·skip
     refine c_condT (congrArg Value.bool hc117) ?_
     refine wp_skip ?_
     refine c_seq ?_
     refine wp_block ?_
     refine c_region ?_
     refine pl_val (.pointer (some ⟨g1, 1, none⟩)) (y_faddr rfl Fa125x1) ?_
     refine pl_val (.func (.func sf_) #[] sb_) (y_load rfl ((box_load Ag121 Sz121 hb1 [(.func (.func g_) #[] lb_)] [(.func (.func sf_) #[] sb_)] [] rfl rfl (fun _ => rfl)) _ (Chg.refl _ _))) ?_
     refine pl_val (.int .i64 s103.1) (y_move rfl) ?_
     refine pl_val (.int .i64 s103.1) (y_move rfl) ?_
     refine pl_val (.int .i64 (w64 (s103.1 - 1))) (y_sub rfl rfl) ?_
     obtain ⟨y119, hy119, hs⟩ := bind_some hs
     obtain ⟨w118, hx118, hC118, hv118⟩ := hE_.swap hv109 hy119
     refine pl_val (w' := w118) (.tuple #[]) (y_callx rfl rfl hx118) ?_
     have hO := hO.fr1
     have hb1 := hb1.chg hC118 (fun hg => hO.apart _ ((fun _ h => h) _ hg) (mem_l (List.mem_singleton.2 rfl)))
     have hC := hC.step hC118 (fun g hg => hO.inN g ((fun _ h => h) g hg))
     have hO := hO.ext hC118
     refine c_nil ?_
     refine c_region ?_
     refine pl_val (.int .i64 s103.1) (y_move rfl) ?_
     refine pl_val (.int .i64 (w64 (s103.1 - 1))) (y_sub rfl rfl) ?_
     refine pl_val (.int .i64 (w64 (s103.1 - 1))) (y_assign rfl) ?_
     refine c_nil ?_
     cases hs
     have hO := hO.fr1
     exact ⟨_, fr_ovl 35 ⟨rfl, rfl, rfl, rfl, rfl, trivial⟩, hC, hO, hv118, hb1⟩
    ·skip
     refine c_condF (congrArg Value.bool hc117) ?_
     refine wp_exit ?_
     cases hs
     have hO := hO.fr1
     have hO := hO.fr1
     exact ⟨rfl, _, fr_ovl 35 ⟨rfl, rfl, rfl, rfl, trivial⟩, hC, hO, hv109, hb1⟩
  ·skip
   have hO := hO.fr1
   have hO := hO.fr1
   exact ⟨_, fr_ovl 35 ⟨rfl, rfl, rfl, rfl, rfl, trivial⟩, hC, hO, hv82, hb1⟩
  ·cases o107 with
   | nx _ => exact True.intro
   | rt r_ =>
    have hs := after_rt hs
    intro a1 w1 hK
    cases hs
    exact hK
   | br s103 =>
    have hs := after_br hs
    rintro a1 w104 ⟨σ, rfl, hC, hO, hv110, hb1⟩
    refine c_region ?_
    refine pl_val (.int .i64 k78) (y_move rfl) ?_
    refine pl_val (.int .i64 (w64 (k78 + 1))) (y_add rfl rfl) ?_
    refine pl_val (.int .i64 (w64 (k78 + 1))) (y_assign rfl) ?_
    refine c_nil ?_
    cases hs
    have hO := hO.fr1
    have hO := hO.fr1
    exact ⟨_, fr_ovl 35 ⟨rfl, rfl, rfl, congrArg (Value.int .i64) hw, trivial⟩, hC, hO, hv110, hb1⟩
 ·skip
  have hO := hO.fr1
  have hO := hO.fr1
  exact ⟨_, fr_ovl 35 ⟨rfl, rfl, rfl, rfl, trivial⟩, hC, hO, hI_, hb1⟩
 ·cases o80 with
  | nx _ => exact True.intro
  | rt r_ =>
   have hs := after_rt hs
   intro a1 w1 hK
   cases hs
   exact hK
  | br s76 =>
   have hs := after_br hs
   rintro a1 w77 ⟨σ, rfl, hC, hO, hv83, hb1⟩
   cases hs
   exact ⟨_, fr_ovl 35 trivial, hC, hv83⟩

def k_sort_swapRange_func (M : Nat → Prop) (w0 : World) {α_ : Type} (I_ : World → List α_ → Prop) (G_ : List Nat) (r : (List α_)) (a : Act) (w : World) : Prop :=
  ∃ (σ : Nat → Value) , a = fr 23 (ovl σ []) ∧ Chg (G_ ++ ([])) w0 w ∧ I_ w r
def s_sort_swapRange_func {α_ : Type} (ls_ : α_ → α_ → Option Bool) (d_ : List α_) (a_ : Int) (b : Int) (n : Int) : Option ((List α_)) :=
  (forC (S := (List α_)) (R := (List α_)) (fun k9 s7 =>
  (swx s7 (w64 (a_ + k9)) (w64 (b + k9))).bind fun y16 =>
  some (.nx y16)) 0 n d_).bind fun o11 => after o11 (fun r_ => some r_) (fun s7 =>
  some s7)
set_option maxHeartbeats 4000000 in
theorem c_sort_swapRange_func {M : Nat → Prop} {w : World} {α_ : Type} {n0_ : Nat} {I_ : World → List α_ → Prop} {G_ : List Nat} {g_ sf_ : Nat} {lb_ sb_ : Array Value} (ls_ : α_ → α_ → Option Bool) (d_ : List α_) (a_ : Int) (b : Int) (n : Int) (hN_ : n0_ ≤ w.heap.size) (hE_ : Env Try.prog n0_ I_ G_ ls_ g_ lb_ sf_ sb_) (hI_ : I_ w d_) (hI : Own (Nw w (G_ ++ ([]))) M w (G_ ++ ([]))) (hM : ∀ g, w.heap.size ≤ g → M g) {r : (List α_)} (hs : s_sort_swapRange_func ls_ d_ a_ b n = some r) :
    Gives Try.prog 153 [(.agg #[(.func (.func g_) #[] lb_), (.func (.func sf_) #[] sb_)]), (.int .i64 a_), (.int .i64 b), (.int .i64 n)] w (fun v w' => v = (.tuple #[]) ∧ Chg (G_ ++ ([])) w w' ∧ I_ w' r) := by
 refine calls_fr Try.func153 rfl Try.ntmps153 (Nat.le_of_ble_eq_true rfl) ?_
 have hO := hI
 have hC := Chg.refl (G_ ++ ([])) w
 unfold s_sort_swapRange_func at hs
 refine wp_mono (Q := KPostN (k_sort_swapRange_func M w I_ G_ r)) ?_ (fun e a w1 h => ?_)
 rotate_left
 ·cases e
  case ret =>
   obtain ⟨σ, rfl, hrest⟩ := h
   exact ret0x Try.results153  ⟨rfl, hrest⟩
  case normal =>
   obtain ⟨σ, rfl, hrest⟩ := h
   exact ret0n Try.results153  ⟨rfl, hrest⟩
  all_goals exact (h : False).elim
 refine c_seq (c_region ?_)
 obtain ⟨w1, g1, ew1, eg1, hC1, hb1⟩ := new_block w [(.func (.func g_) #[] lb_), (.func (.func sf_) #[] sb_)] 125
 refine pl_val (w' := w1) (.pointer (some ⟨g1, 0, none⟩)) (y_box rfl (by rw [ew1, eg1]; kernel_rfl)) ?_
 have hI_ := hE_.ext hI_ hC1 (fun _ h => nomatch h)
 have hC := hC.ext hC1
 have hO := hO.new1 hC1 eg1 hb1.lt
 refine c_nil ?_
 refine c_seq (c_region ?_)
 refine pl_val (.int .i64 0) (y_assign rfl) ?_
 refine c_nil ?_
 obtain ⟨o11, hl12, hs⟩ := bind_some hs
 refine wp_block ?_
 refine wp_forC (id := 0) n (I := fun k9 s7 a w8 => ∃ (σ : Nat → Value), a = fr 23 (ovl σ [(1, (.int .i64 a_)), (2, (.int .i64 b)), (3, (.int .i64 n)), (4, (.pointer (some ⟨g1, 0, none⟩))), (8, (.int .i64 k9))]) ∧ Chg (G_ ++ ([])) w w8 ∧ Own (Nw w (G_ ++ ([]))) M w8 (([g1]) ++ (G_ ++ [])) ∧ I_ w8 s7 ∧ BoxV w8 g1 125 [(.func (.func g_) #[] lb_), (.func (.func sf_) #[] sb_)]) (J := fun s7 a w8 => ∃ (σ : Nat → Value), a = fr 23 (ovl σ []) ∧ Chg (G_ ++ ([])) w w8 ∧ Own (Nw w (G_ ++ ([]))) M w8 (([g1]) ++ (G_ ++ [])) ∧ I_ w8 s7 ∧ BoxV w8 g1 125 [(.func (.func g_) #[] lb_), (.func (.func sf_) #[] sb_)]) (K := (k_sort_swapRange_func M w I_ G_)) ?_ ?_ 0 d_ o11 _ _ ?_ hl12 ?_
 ·rintro k9 s7 a w8 ⟨σ, rfl, hC, hO, hv13, hb1⟩ hlt
  refine c_seq ?_
  refine c_seq (c_region ?_)
  refine pl_val (.int .i64 k9) (y_move rfl) ?_
  refine pl_val (.int .i64 n) (y_move rfl) ?_
  refine pl_val (.bool (decide (k9 < n))) (y_lss rfl rfl) ?_
  refine c_nil ?_
  refine c_condF (congrArg Value.bool (decide_eq_false hlt)) ?_
  refine wp_exit ?_
  have hO := hO.fr1
  have hO := hO.fr1
  exact ⟨rfl, _, fr_ovl 23 trivial, hC, hO, hv13, hb1⟩
 ·rintro k9 s7 o11 a w8 ⟨σ, rfl, hC, hO, hv13, hb1⟩ hlt hw hs
  refine c_seq ?_
  refine c_seq (c_region ?_)
  refine pl_val (.int .i64 k9) (y_move rfl) ?_
  refine pl_val (.int .i64 n) (y_move rfl) ?_
  refine pl_val (.bool (decide (k9 < n))) (y_lss rfl rfl) ?_
  refine c_nil ?_
  refine c_condT (congrArg Value.bool (decide_eq_true hlt)) ?_
  refine wp_skip ?_
  refine c_seq ?_
  refine wp_block ?_
  refine c_region ?_
  refine pl_val (.pointer (some ⟨g1, 1, none⟩)) (y_faddr rfl Fa125x1) ?_
  refine pl_val (.func (.func sf_) #[] sb_) (y_load rfl ((box_load Ag121 Sz121 hb1 [(.func (.func g_) #[] lb_)] [(.func (.func sf_) #[] sb_)] [] rfl rfl (fun _ => rfl)) _ (Chg.refl _ _))) ?_
  refine pl_val (.int .i64 a_) (y_move rfl) ?_
  refine pl_val (.int .i64 k9) (y_move rfl) ?_
  refine pl_val (.int .i64 (w64 (a_ + k9))) (y_add rfl rfl) ?_
  refine pl_val (.int .i64 b) (y_move rfl) ?_
  refine pl_val (.int .i64 k9) (y_move rfl) ?_
  refine pl_val (.int .i64 (w64 (b + k9))) (y_add rfl rfl) ?_
  obtain ⟨y16, hy16, hs⟩ := bind_some hs
  obtain ⟨w15, hx15, hC15, hv15⟩ := hE_.swap hv13 hy16
  refine pl_val (w' := w15) (.tuple #[]) (y_callx rfl rfl hx15) ?_
  have hO := hO.fr1
  have hb1 := hb1.chg hC15 (fun hg => hO.apart _ ((fun _ h => h) _ hg) (mem_l (List.mem_singleton.2 rfl)))
  have hC := hC.step hC15 (fun g hg => hO.inN g ((fun _ h => h) g hg))
  have hO := hO.ext hC15
  refine c_nil ?_
  refine c_region ?_
  refine pl_val (.int .i64 k9) (y_move rfl) ?_
  refine pl_val (.int .i64 (w64 (k9 + 1))) (y_add rfl rfl) ?_
  refine pl_val (.int .i64 (w64 (k9 + 1))) (y_assign rfl) ?_
  refine c_nil ?_
  cases hs
  have hO := hO.fr1
  exact ⟨_, fr_ovl 23 ⟨rfl, rfl, rfl, rfl, congrArg (Value.int .i64) hw, trivial⟩, hC, hO, hv15, hb1⟩
 ·skip
  have hO := hO.fr1
  have hO := hO.fr1
  exact ⟨_, fr_ovl 23 ⟨rfl, rfl, rfl, rfl, rfl, trivial⟩, hC, hO, hI_, hb1⟩
 ·cases o11 with
  | nx _ => exact True.intro
  | rt r_ =>
   have hs := after_rt hs
   intro a1 w1 hK
   cases hs
   exact hK
  | br s7 =>
   have hs := after_br hs
   rintro a1 w8 ⟨σ, rfl, hC, hO, hv14, hb1⟩
   cases hs
   exact ⟨_, fr_ovl 23 trivial, hC, hv14⟩

theorem Ag125 : AggT Try.prog 125 true := fun _ => by kernel_rfl

theorem Sz125 : SzT Try.prog 125 2 := ⟨_, rfl, rfl⟩

theorem Bd153 : Bodied Try.prog 153 := bodied Try.func153 (by kernel_rfl) rfl

def k_sort_rotate_func (M : Nat → Prop) (w0 : World) {α_ : Type} (I_ : World → List α_ → Prop) (G_ : List Nat) (r : (List α_)) (a : Act) (w : World) : Prop :=
  ∃ (σ : Nat → Value) , a = fr 53 (ovl σ []) ∧ Chg (G_ ++ ([])) w0 w ∧ I_ w r
def s_sort_rotate_func {α_ : Type} (ls_ : α_ → α_ → Option Bool) (d_ : List α_) (a_ : Int) (m : Int) (b : Int) : Option ((List α_)) :=
  (iter (S := Int × Int × (List α_)) (R := (List α_)) (fun s15 =>
  (bif (s15.1 != s15.2.1) then (bif (decide (s15.2.1 < s15.1)) then (s_sort_swapRange_func ls_ s15.2.2 (w64 (m - s15.1)) m s15.2.1).bind fun r26 =>
  some (.nx (w64 (s15.1 - s15.2.1), s15.2.1, r26)) else (s_sort_swapRange_func ls_ s15.2.2 (w64 (m - s15.1)) (w64 ((w64 (m + s15.2.1)) - s15.1)) s15.1).bind fun r28 =>
  some (.nx (s15.1, w64 (s15.2.1 - s15.1), r28))) else some (.br (s15.1, s15.2.1, s15.2.2)))) FU (w64 (m - a_), w64 (b - m), d_)).bind fun o19 => after o19 (fun r_ => some r_) (fun s15 =>
  (s_sort_swapRange_func ls_ s15.2.2 (w64 (m - s15.1)) m s15.1).bind fun r30 =>
  some r30)
set_option maxHeartbeats 4000000 in
theorem c_sort_rotate_func {M : Nat → Prop} {w : World} {α_ : Type} {n0_ : Nat} {I_ : World → List α_ → Prop} {G_ : List Nat} {g_ sf_ : Nat} {lb_ sb_ : Array Value} (ls_ : α_ → α_ → Option Bool) (d_ : List α_) (a_ : Int) (m : Int) (b : Int) (hN_ : n0_ ≤ w.heap.size) (hE_ : Env Try.prog n0_ I_ G_ ls_ g_ lb_ sf_ sb_) (hI_ : I_ w d_) (hI : Own (Nw w (G_ ++ ([]))) M w (G_ ++ ([]))) (hM : ∀ g, w.heap.size ≤ g → M g) {r : (List α_)} (hs : s_sort_rotate_func ls_ d_ a_ m b = some r) :
    Gives Try.prog 152 [(.agg #[(.func (.func g_) #[] lb_), (.func (.func sf_) #[] sb_)]), (.int .i64 a_), (.int .i64 m), (.int .i64 b)] w (fun v w' => v = (.tuple #[]) ∧ Chg (G_ ++ ([])) w w' ∧ I_ w' r) := by
 refine calls_fr Try.func152 rfl Try.ntmps152 (Nat.le_of_ble_eq_true rfl) ?_
 have hO := hI
 have hC := Chg.refl (G_ ++ ([])) w
 unfold s_sort_rotate_func at hs
 refine wp_mono (Q := KPostN (k_sort_rotate_func M w I_ G_ r)) ?_ (fun e a w1 h => ?_)
 rotate_left
 ·cases e
  case ret =>
   obtain ⟨σ, rfl, hrest⟩ := h
   exact ret0x Try.results152  ⟨rfl, hrest⟩
  case normal =>
   obtain ⟨σ, rfl, hrest⟩ := h
   exact ret0n Try.results152  ⟨rfl, hrest⟩
  all_goals exact (h : False).elim
 refine c_seq (c_region ?_)
 obtain ⟨w1, g1, ew1, eg1, hC1, hb1⟩ := new_block w [(.func (.func g_) #[] lb_), (.func (.func sf_) #[] sb_)] 125
 refine pl_val (w' := w1) (.pointer (some ⟨g1, 0, none⟩)) (y_box rfl (by rw [ew1, eg1]; kernel_rfl)) ?_
 have hI_ := hE_.ext hI_ hC1 (fun _ h => nomatch h)
 have hC := hC.ext hC1
 have hO := hO.new1 hC1 eg1 hb1.lt
 refine c_nil ?_
 refine c_seq (c_region ?_)
 refine pl_val (.int .i64 m) (y_move rfl) ?_
 refine pl_val (.int .i64 a_) (y_move rfl) ?_
 refine pl_val (.int .i64 (w64 (m - a_))) (y_sub rfl rfl) ?_
 refine pl_val (.int .i64 (w64 (m - a_))) (y_assign rfl) ?_
 refine c_nil ?_
 refine c_seq (c_region ?_)
 refine pl_val (.int .i64 b) (y_move rfl) ?_
 refine pl_val (.int .i64 m) (y_move rfl) ?_
 refine pl_val (.int .i64 (w64 (b - m))) (y_sub rfl rfl) ?_
 refine pl_val (.int .i64 (w64 (b - m))) (y_assign rfl) ?_
 refine c_nil ?_
 refine c_seq ?_
 obtain ⟨o19, hl20, hs⟩ := bind_some hs
 refine wp_block ?_
 refine wp_iter (id := 0) (I := fun s15 a w16 => ∃ (σ : Nat → Value), a = fr 53 (ovl σ [(2, (.int .i64 m)), (4, (.pointer (some ⟨g1, 0, none⟩))), (8, (.int .i64 s15.1)), (9, (.int .i64 s15.2.1))]) ∧ Chg (G_ ++ ([])) w w16 ∧ Own (Nw w (G_ ++ ([]))) M w16 (([g1]) ++ (G_ ++ [])) ∧ I_ w16 s15.2.2 ∧ BoxV w16 g1 125 [(.func (.func g_) #[] lb_), (.func (.func sf_) #[] sb_)]) (J := fun s15 a w16 => ∃ (σ : Nat → Value), a = fr 53 (ovl σ [(2, (.int .i64 m)), (4, (.pointer (some ⟨g1, 0, none⟩))), (8, (.int .i64 s15.1))]) ∧ Chg (G_ ++ ([])) w w16 ∧ Own (Nw w (G_ ++ ([]))) M w16 (([g1]) ++ (G_ ++ [])) ∧ I_ w16 s15.2.2 ∧ BoxV w16 g1 125 [(.func (.func g_) #[] lb_), (.func (.func sf_) #[] sb_)]) (K := (k_sort_rotate_func M w I_ G_)) ?_ FU (w64 (m - a_), w64 (b - m), d_) o19 _ _ ?_ hl20 ?_
 ·rintro s15 o19 a w16 ⟨σ, rfl, hC, hO, hv21, hb1⟩ hs
  refine c_seq ?_
  refine c_seq (c_region ?_)
  refine pl_val (.int .i64 s15.1) (y_move rfl) ?_
  refine pl_val (.int .i64 s15.2.1) (y_move rfl) ?_
  refine pl_val (.bool (s15.1 != s15.2.1)) (y_neq rfl rfl) ?_
  refine c_nil ?_
  rcases bif_some hs with ⟨hc23, hs⟩ | ⟨hc23, hs⟩
  ·skip
   refine c_condT (congrArg Value.bool hc23) ?_
   refine wp_skip ?_
   refine wp_block ?_
   refine c_seq (c_region ?_)
   refine pl_val (.int .i64 s15.1) (y_move rfl) ?_
   refine pl_val (.int .i64 s15.2.1) (y_move rfl) ?_
   refine pl_val (.bool (decide (s15.2.1 < s15.1))) (y_gtr rfl rfl) ?_
   refine c_nil ?_
   rcases bif_some hs with ⟨hc24, hs⟩ | ⟨hc24, hs⟩
   ·skip
    refine c_condT (congrArg Value.bool hc24) ?_
    refine c_seq (c_region ?_)
    refine pl_val (.agg #[(.func (.func g_) #[] lb_), (.func (.func sf_) #[] sb_)]) (y_load rfl ((box_load Ag125 Sz125 hb1 [] [(.func (.func g_) #[] lb_), (.func (.func sf_) #[] sb_)] [] rfl rfl (fun h => nomatch h)) _ (Chg.refl _ _))) ?_
    refine pl_val (.int .i64 m) (y_move rfl) ?_
    refine pl_val (.int .i64 s15.1) (y_move rfl) ?_
    refine pl_val (.int .i64 (w64 (m - s15.1))) (y_sub rfl rfl) ?_
    refine pl_val (.int .i64 m) (y_move rfl) ?_
    refine pl_val (.int .i64 s15.2.1) (y_move rfl) ?_
    have hO := hO.fr1
    have hI25 := Own.lend (F := (G_ ++ ([]))) (R := ([g1]) ++ ([])) (Own.perm hO (by simp))
    obtain ⟨r26, hr26, hs⟩ := bind_some hs
    refine pl_call Bd153 rfl (c_sort_swapRange_func (M := M) ls_ s15.2.2 (w64 (m - s15.1)) m s15.2.1 (Nat.le_trans hN_ hC.size) hE_ hv21 hI25 hO.fut hr26) ?_
    rintro _ w25 ⟨rfl, hC25, hv25⟩
    have hb1 := hb1.chg hC25 (fun hg => hO.apart _ (nil_mem _ hg) (mem_l (List.mem_singleton.2 rfl)))
    have hC := hC.step hC25 (fun g hg => hO.inN g (nil_mem g hg))
    have hO := hO.ext hC25
    refine c_nil ?_
    refine c_region ?_
    refine pl_val (.int .i64 s15.1) (y_move rfl) ?_
    refine pl_val (.int .i64 s15.2.1) (y_move rfl) ?_
    refine pl_val (.int .i64 (w64 (s15.1 - s15.2.1))) (y_sub rfl rfl) ?_
    refine pl_val (.int .i64 (w64 (s15.1 - s15.2.1))) (y_assign rfl) ?_
    refine c_nil ?_
    cases hs
    have hO := hO.fr1
    exact ⟨_, fr_ovl 53 ⟨rfl, rfl, rfl, rfl, trivial⟩, hC, hO, hv25, hb1⟩
   ·skip
    refine c_condF (congrArg Value.bool hc24) ?_
    refine c_seq (c_region ?_)
    refine pl_val (.agg #[(.func (.func g_) #[] lb_), (.func (.func sf_) #[] sb_)]) (y_load rfl ((box_load Ag125 Sz125 hb1 [] [(.func (.func g_) #[] lb_), (.func (.func sf_) #[] sb_)] [] rfl rfl (fun h => nomatch h)) _ (Chg.refl _ _))) ?_
    refine pl_val (.int .i64 m) (y_move rfl) ?_
    refine pl_val (.int .i64 s15.1) (y_move rfl) ?_
    refine pl_val (.int .i64 (w64 (m - s15.1))) (y_sub rfl rfl) ?_
    refine pl_val (.int .i64 m) (y_move rfl) ?_
    refine pl_val (.int .i64 s15.2.1) (y_move rfl) ?_
    refine pl_val (.int .i64 (w64 (m + s15.2.1))) (y_add rfl rfl) ?_
    refine pl_val (.int .i64 s15.1) (y_move rfl) ?_
    refine pl_val (.int .i64 (w64 ((w64 (m + s15.2.1)) - s15.1))) (y_sub rfl rfl) ?_
    refine pl_val (.int .i64 s15.1) (y_move rfl) ?_
    have hO := hO.fr1
    have hI27 := Own.lend (F := (G_ ++ ([]))) (R := ([g1]) ++ ([])) (Own.perm hO (by simp))
    obtain ⟨r28, hr28, hs⟩ := bind_some hs
    refine pl_call Bd153 rfl (c_sort_swapRange_func (M := M) ls_ s15.2.2 (w64 (m - s15.1)) (w64 ((w64 (m + s15.2.1)) - s15.1)) s15.1 (Nat.le_trans hN_ hC.size) hE_ hv21 hI27 hO.fut hr28) ?_
    rintro _ w27 ⟨rfl, hC27, hv27⟩
    have hb1 := hb1.chg hC27 (fun hg => hO.apart _ (nil_mem _ hg) (mem_l (List.mem_singleton.2 rfl)))
    have hC := hC.step hC27 (fun g hg => hO.inN g (nil_mem g hg))
    have hO := hO.ext hC27
    refine c_nil ?_
    refine c_region ?_
    refine pl_val (.int .i64 s15.2.1) (y_move rfl) ?_
    refine pl_val (.int .i64 s15.1) (y_move rfl) ?_
    refine pl_val (.int .i64 (w64 (s15.2.1 - s15.1))) (y_sub rfl rfl) ?_
    refine pl_val (.int .i64 (w64 (s15.2.1 - s15.1))) (y_assign rfl) ?_
    refine c_nil ?_
    cases hs
    have hO := hO.fr1
    exact ⟨_, fr_ovl 53 ⟨rfl, rfl, rfl, rfl, trivial⟩, hC, hO, hv27, hb1⟩
  ·skip
   refine c_condF (congrArg Value.bool hc23) ?_
   refine wp_exit ?_
   cases hs
   have hO := hO.fr1
   have hO := hO.fr1
   exact ⟨rfl, _, fr_ovl 53 ⟨rfl, rfl, rfl, trivial⟩, hC, hO, hv21, hb1⟩
 ·skip
  have hO := hO.fr1
  have hO := hO.fr1
  exact ⟨_, fr_ovl 53 ⟨rfl, rfl, rfl, rfl, trivial⟩, hC, hO, hI_, hb1⟩
 ·cases o19 with
  | nx _ => exact True.intro
  | rt r_ =>
   have hs := after_rt hs
   intro a1 w1 hK
   cases hs
   exact hK
  | br s15 =>
   have hs := after_br hs
   rintro a1 w16 ⟨σ, rfl, hC, hO, hv22, hb1⟩
   refine c_region ?_
   refine pl_val (.agg #[(.func (.func g_) #[] lb_), (.func (.func sf_) #[] sb_)]) (y_load rfl ((box_load Ag125 Sz125 hb1 [] [(.func (.func g_) #[] lb_), (.func (.func sf_) #[] sb_)] [] rfl rfl (fun h => nomatch h)) _ (Chg.refl _ _))) ?_
   refine pl_val (.int .i64 m) (y_move rfl) ?_
   refine pl_val (.int .i64 s15.1) (y_move rfl) ?_
   refine pl_val (.int .i64 (w64 (m - s15.1))) (y_sub rfl rfl) ?_
   refine pl_val (.int .i64 m) (y_move rfl) ?_
   refine pl_val (.int .i64 s15.1) (y_move rfl) ?_
   have hO := hO.fr1
   have hI29 := Own.lend (F := (G_ ++ ([]))) (R := ([g1]) ++ ([])) (Own.perm hO (by simp))
   obtain ⟨r30, hr30, hs⟩ := bind_some hs
   refine pl_call Bd153 rfl (c_sort_swapRange_func (M := M) ls_ s15.2.2 (w64 (m - s15.1)) m s15.1 (Nat.le_trans hN_ hC.size) hE_ hv22 hI29 hO.fut hr30) ?_
   rintro _ w29 ⟨rfl, hC29, hv29⟩
   have hb1 := hb1.chg hC29 (fun hg => hO.apart _ (nil_mem _ hg) (mem_l (List.mem_singleton.2 rfl)))
   have hC := hC.step hC29 (fun g hg => hO.inN g (nil_mem g hg))
   have hO := hO.ext hC29
   refine c_nil ?_
   cases hs
   exact ⟨_, fr_ovl 53 trivial, hC, hv29⟩

theorem Bd152 : Bodied Try.prog 152 := bodied Try.func152 (by kernel_rfl) rfl

theorem Bd151 : Bodied Try.prog 151 := bodied Try.func151 (by kernel_rfl) rfl

def k_sort_symMerge_func (M : Nat → Prop) (w0 : World) {α_ : Type} (I_ : World → List α_ → Prop) (G_ : List Nat) (r : (List α_)) (a : Act) (w : World) : Prop :=
  ∃ (σ : Nat → Value) , a = fr 177 (ovl σ []) ∧ Chg (G_ ++ ([])) w0 w ∧ I_ w r
def s_sort_symMerge_func {α_ : Type} : Nat → (α_ → α_ → Option Bool) → (List α_) → (Int) → (Int) → (Int) → Option ((List α_))
  | 0, _, _, _, _, _ => none
  | fu_ + 1, ls_, d_, a_, m, b =>
  (bif ((w64 (m - a_)) == 1) then (iter (S := Int × Int) (R := (List α_)) (fun s7 =>
  (bif (decide (s7.1 < s7.2)) then (lsx ls_ d_ (w64 (ishr .u64 (IntKind.u64.wrap (w64 (s7.1 + s7.2))) 1)) a_).bind fun r15 =>
  (bif r15 then some (.nx (w64 ((w64 (ishr .u64 (IntKind.u64.wrap (w64 (s7.1 + s7.2))) 1)) + 1), s7.2)) else some (.nx (s7.1, w64 (ishr .u64 (IntKind.u64.wrap (w64 (s7.1 + s7.2))) 1)))) else some (.br (s7.1, s7.2)))) FU (m, b)).bind fun o11 => after o11 (fun r_ => some r_) (fun s7 =>
  (forC (S := (List α_)) (R := (List α_)) (fun k24 s22 =>
  (swx s22 k24 (w64 (k24 + 1))).bind fun y31 =>
  some (.nx y31)) a_ (w64 (s7.1 - 1)) d_).bind fun o26 => after o26 (fun r_ => some r_) (fun s22 =>
  some s22)) else (bif ((w64 (b - m)) == 1) then (iter (S := Int × Int) (R := (List α_)) (fun s37 =>
  (bif (decide (s37.1 < s37.2)) then (lsx ls_ d_ m (w64 (ishr .u64 (IntKind.u64.wrap (w64 (s37.1 + s37.2))) 1))).bind fun r45 =>
  (bif (!r45) then some (.nx (w64 ((w64 (ishr .u64 (IntKind.u64.wrap (w64 (s37.1 + s37.2))) 1)) + 1), s37.2)) else some (.nx (s37.1, w64 (ishr .u64 (IntKind.u64.wrap (w64 (s37.1 + s37.2))) 1)))) else some (.br (s37.1, s37.2)))) FU (a_, m)).bind fun o41 => after o41 (fun r_ => some r_) (fun s37 =>
  (iter (S := Int × (List α_)) (R := (List α_)) (fun s54 =>
  (bif (decide (s37.1 < s54.1)) then (swx s54.2 s54.1 (w64 (s54.1 - 1))).bind fun y64 =>
  some (.nx (w64 (s54.1 - 1), y64)) else some (.br (s54.1, s54.2)))) FU (m, d_)).bind fun o58 => after o58 (fun r_ => some r_) (fun s54 =>
  some s54.2)) else (bif (decide ((w64 (ishr .u64 (IntKind.u64.wrap (w64 (a_ + b))) 1)) < m)) then some (w64 ((w64 ((w64 (ishr .u64 (IntKind.u64.wrap (w64 (a_ + b))) 1)) + m)) - b), w64 (ishr .u64 (IntKind.u64.wrap (w64 (a_ + b))) 1)) else some (a_, m)).bind fun s65 =>
  (iter (S := Int × Int) (R := (List α_)) (fun s73 =>
  (bif (decide (s73.1 < s73.2)) then (lsx ls_ d_ (w64 ((w64 ((w64 ((w64 (ishr .u64 (IntKind.u64.wrap (w64 (a_ + b))) 1)) + m)) - 1)) - (w64 (ishr .u64 (IntKind.u64.wrap (w64 (s73.1 + s73.2))) 1)))) (w64 (ishr .u64 (IntKind.u64.wrap (w64 (s73.1 + s73.2))) 1))).bind fun r81 =>
  (bif (!r81) then some (.nx (w64 ((w64 (ishr .u64 (IntKind.u64.wrap (w64 (s73.1 + s73.2))) 1)) + 1), s73.2)) else some (.nx (s73.1, w64 (ishr .u64 (IntKind.u64.wrap (w64 (s73.1 + s73.2))) 1)))) else some (.br (s73.1, s73.2)))) FU (s65.1, s65.2)).bind fun o77 => after o77 (fun r_ => some r_) (fun s73 =>
  (bif ((decide (s73.1 < m)) && (decide (m < (w64 ((w64 ((w64 (ishr .u64 (IntKind.u64.wrap (w64 (a_ + b))) 1)) + m)) - s73.1))))) then (s_sort_rotate_func ls_ d_ s73.1 m (w64 ((w64 ((w64 (ishr .u64 (IntKind.u64.wrap (w64 (a_ + b))) 1)) + m)) - s73.1))).bind fun r97 =>
  some r97 else some d_).bind fun s91 =>
  (bif ((decide (a_ < s73.1)) && (decide (s73.1 < (w64 (ishr .u64 (IntKind.u64.wrap (w64 (a_ + b))) 1))))) then (s_sort_symMerge_func fu_ ls_ s91 a_ s73.1 (w64 (ishr .u64 (IntKind.u64.wrap (w64 (a_ + b))) 1))).bind fun r112 =>
  some r112 else some s91).bind fun s106 =>
  (bif ((decide ((w64 (ishr .u64 (IntKind.u64.wrap (w64 (a_ + b))) 1)) < (w64 ((w64 ((w64 (ishr .u64 (IntKind.u64.wrap (w64 (a_ + b))) 1)) + m)) - s73.1)))) && (decide ((w64 ((w64 ((w64 (ishr .u64 (IntKind.u64.wrap (w64 (a_ + b))) 1)) + m)) - s73.1)) < b))) then (s_sort_symMerge_func fu_ ls_ s106 (w64 (ishr .u64 (IntKind.u64.wrap (w64 (a_ + b))) 1)) (w64 ((w64 ((w64 (ishr .u64 (IntKind.u64.wrap (w64 (a_ + b))) 1)) + m)) - s73.1)) b).bind fun r119 =>
  some r119 else some s106))))
set_option maxHeartbeats 4000000 in
theorem c_sort_symMerge_func : ∀ (fu_ : Nat) {M : Nat → Prop} {w : World} {α_ : Type} {n0_ : Nat} {I_ : World → List α_ → Prop} {G_ : List Nat} {g_ sf_ : Nat} {lb_ sb_ : Array Value} (ls_ : α_ → α_ → Option Bool) (d_ : List α_) (a_ : Int) (m : Int) (b : Int) (hN_ : n0_ ≤ w.heap.size) (hE_ : Env Try.prog n0_ I_ G_ ls_ g_ lb_ sf_ sb_) (hI_ : I_ w d_) (hI : Own (Nw w (G_ ++ ([]))) M w (G_ ++ ([]))) (hM : ∀ g, w.heap.size ≤ g → M g) {r : (List α_)} (hs : s_sort_symMerge_func fu_ ls_ d_ a_ m b = some r), Gives Try.prog 151 [(.agg #[(.func (.func g_) #[] lb_), (.func (.func sf_) #[] sb_)]), (.int .i64 a_), (.int .i64 m), (.int .i64 b)] w (fun v w' => v = (.tuple #[]) ∧ Chg (G_ ++ ([])) w w' ∧ I_ w' r) := by
 intro fu_
 induction fu_ with
 | zero => intro M w α_ n0_ I_ G_ g_ sf_ lb_ sb_ ls_ d_ a_ m b hN_ hE_ hI_ hI hM r hs; exact (nomatch hs)
 | succ fu_ c_ih =>
 intro M w α_ n0_ I_ G_ g_ sf_ lb_ sb_ ls_ d_ a_ m b hN_ hE_ hI_ hI hM r hs
 refine calls_fr Try.func151 rfl Try.ntmps151 (Nat.le_of_ble_eq_true rfl) ?_
 have hO := hI
 have hC := Chg.refl (G_ ++ ([])) w
 rw [s_sort_symMerge_func] at hs
 refine wp_mono (Q := KPostN (k_sort_symMerge_func M w I_ G_ r)) ?_ (fun e a w1 h => ?_)
 rotate_left
 ·cases e
  case ret =>
   obtain ⟨σ, rfl, hrest⟩ := h
   exact ret0x Try.results151  ⟨rfl, hrest⟩
  case normal =>
   obtain ⟨σ, rfl, hrest⟩ := h
   exact ret0n Try.results151  ⟨rfl, hrest⟩
  all_goals exact (h : False).elim
 refine c_seq (c_region ?_)
 obtain ⟨w1, g1, ew1, eg1, hC1, hb1⟩ := new_block w [(.func (.func g_) #[] lb_), (.func (.func sf_) #[] sb_)] 125
 refine pl_val (w' := w1) (.pointer (some ⟨g1, 0, none⟩)) (y_box rfl (by rw [ew1, eg1]; kernel_rfl)) ?_
 have hI_ := hE_.ext hI_ hC1 (fun _ h => nomatch h)
 have hC := hC.ext hC1
 have hO := hO.new1 hC1 eg1 hb1.lt
 refine c_nil ?_
 refine c_seq ?_
 refine c_seq (c_region ?_)
 refine pl_val (.int .i64 m) (y_move rfl) ?_
 refine pl_val (.int .i64 a_) (y_move rfl) ?_
 refine pl_val (.int .i64 (w64 (m - a_))) (y_sub rfl rfl) ?_
 refine pl_val (.bool ((w64 (m - a_)) == 1)) (y_eql rfl rfl) ?_
 refine c_nil ?_
 rcases bif_some hs with ⟨hc2, hs⟩ | ⟨hc2, hs⟩
 ·skip
  refine c_condT (congrArg Value.bool hc2) ?_
  refine c_seq (c_region ?_)
  refine pl_val (.int .i64 m) (y_move rfl) ?_
  refine pl_val (.int .i64 m) (y_assign rfl) ?_
  refine c_nil ?_
  refine c_seq (c_region ?_)
  refine pl_val (.int .i64 b) (y_move rfl) ?_
  refine pl_val (.int .i64 b) (y_assign rfl) ?_
  refine c_nil ?_
  refine c_seq ?_
  obtain ⟨o11, hl12, hs⟩ := bind_some hs
  refine wp_block ?_
  refine wp_iter (id := 0) (I := fun s7 a w8 => ∃ (σ : Nat → Value), a = fr 177 (ovl σ [(1, (.int .i64 a_)), (2, (.int .i64 m)), (3, (.int .i64 b)), (4, (.pointer (some ⟨g1, 0, none⟩))), (8, (.int .i64 s7.1)), (9, (.int .i64 s7.2))]) ∧ Chg (G_ ++ ([])) w w8 ∧ Own (Nw w (G_ ++ ([]))) M w8 (([g1]) ++ (G_ ++ [])) ∧ I_ w8 d_ ∧ BoxV w8 g1 125 [(.func (.func g_) #[] lb_), (.func (.func sf_) #[] sb_)]) (J := fun s7 a w8 => ∃ (σ : Nat → Value), a = fr 177 (ovl σ [(1, (.int .i64 a_)), (2, (.int .i64 m)), (3, (.int .i64 b)), (4, (.pointer (some ⟨g1, 0, none⟩))), (8, (.int .i64 s7.1))]) ∧ Chg (G_ ++ ([])) w w8 ∧ Own (Nw w (G_ ++ ([]))) M w8 (([g1]) ++ (G_ ++ [])) ∧ I_ w8 d_ ∧ BoxV w8 g1 125 [(.func (.func g_) #[] lb_), (.func (.func sf_) #[] sb_)]) (K := (k_sort_symMerge_func M w I_ G_)) ?_ FU (m, b) o11 _ _ ?_ hl12 ?_
  ·rintro s7 o11 a w8 ⟨σ, rfl, hC, hO, hI_, hb1⟩ hs
   refine c_seq ?_
   refine c_seq (c_region ?_)
   refine pl_val (.int .i64 s7.1) (y_move rfl) ?_
   refine pl_val (.int .i64 s7.2) (y_move rfl) ?_
   refine pl_val (.bool (decide (s7.1 < s7.2))) (y_lss rfl rfl) ?_
   refine c_nil ?_
   rcases bif_some hs with ⟨hc13, hs⟩ | ⟨hc13, hs⟩
   ·skip
    refine c_condT (congrArg Value.bool hc13) ?_
    refine wp_skip ?_
    refine wp_block ?_
    refine c_seq (c_region ?_)
    refine pl_val (.int .i64 s7.1) (y_move rfl) ?_
    refine pl_val (.int .i64 s7.2) (y_move rfl) ?_
    refine pl_val (.int .i64 (w64 (s7.1 + s7.2))) (y_add rfl rfl) ?_
    refine pl_val (.int .u64 (IntKind.u64.wrap (w64 (s7.1 + s7.2)))) (y_conv_int Try.underlying3 Try.underlying113 rfl) ?_
    refine pl_val (.int .u64 (ishr .u64 (IntKind.u64.wrap (w64 (s7.1 + s7.2))) 1)) (y_shr rfl rfl (by decide)) ?_
    refine pl_val (.int .i64 (w64 (ishr .u64 (IntKind.u64.wrap (w64 (s7.1 + s7.2))) 1))) (y_conv_int Try.underlying113 Try.underlying3 rfl) ?_
    refine pl_val (.int .i64 (w64 (ishr .u64 (IntKind.u64.wrap (w64 (s7.1 + s7.2))) 1))) (y_assign rfl) ?_
    refine c_nil ?_
    refine c_seq (c_region ?_)
    refine pl_val (.pointer (some ⟨g1, 0, none⟩)) (y_faddr rfl Fa125x0) ?_
    refine pl_val (.func (.func g_) #[] lb_) (y_load rfl ((box_load Ag115 Sz115 hb1 [] [(.func (.func g_) #[] lb_)] [(.func (.func sf_) #[] sb_)] rfl rfl (fun _ => rfl)) _ (Chg.refl _ _))) ?_
    refine pl_val (.int .i64 (w64 (ishr .u64 (IntKind.u64.wrap (w64 (s7.1 + s7.2))) 1))) (y_move rfl) ?_
    refine pl_val (.int .i64 a_) (y_move rfl) ?_
    obtain ⟨r15, hr15, hs⟩ := bind_some hs
    refine pl_callb rfl hE_.bod rfl (hE_.less hI_ hr15) ?_
    rintro _ w14 ⟨rfl, hC14⟩
    have hI_ := hE_.ext hI_ hC14 (fun _ h => nomatch h)
    have hb1 := hb1.chg hC14 (fun h => nomatch h)
    have hC := hC.ext hC14
    have hO := hO.ext hC14
    refine c_nil ?_
    rcases bif_some hs with ⟨hc16, hs⟩ | ⟨hc16, hs⟩
    ·skip
     refine c_condT (congrArg Value.bool hc16) ?_
     refine c_region ?_
     refine pl_val (.int .i64 (w64 (ishr .u64 (IntKind.u64.wrap (w64 (s7.1 + s7.2))) 1))) (y_move rfl) ?_
     refine pl_val (.int .i64 (w64 ((w64 (ishr .u64 (IntKind.u64.wrap (w64 (s7.1 + s7.2))) 1)) + 1))) (y_add rfl rfl) ?_
     refine pl_val (.int .i64 (w64 ((w64 (ishr .u64 (IntKind.u64.wrap (w64 (s7.1 + s7.2))) 1)) + 1))) (y_assign rfl) ?_
     refine c_nil ?_
     cases hs
     have hO := hO.fr1
     have hO := hO.fr1
     exact ⟨_, fr_ovl 177 ⟨rfl, rfl, rfl, rfl, rfl, rfl, trivial⟩, hC, hO, hI_, hb1⟩
    ·skip
     refine c_condF (congrArg Value.bool hc16) ?_
     refine c_region ?_
     refine pl_val (.int .i64 (w64 (ishr .u64 (IntKind.u64.wrap (w64 (s7.1 + s7.2))) 1))) (y_move rfl) ?_
     refine pl_val (.int .i64 (w64 (ishr .u64 (IntKind.u64.wrap (w64 (s7.1 + s7.2))) 1))) (y_assign rfl) ?_
     refine c_nil ?_
     cases hs
     have hO := hO.fr1
     have hO := hO.fr1
     exact ⟨_, fr_ovl 177 ⟨rfl, rfl, rfl, rfl, rfl, rfl, trivial⟩, hC, hO, hI_, hb1⟩
   ·skip
    refine c_condF (congrArg Value.bool hc13) ?_
    refine wp_exit ?_
    cases hs
    have hO := hO.fr1
    have hO := hO.fr1
    exact ⟨rfl, _, fr_ovl 177 ⟨rfl, rfl, rfl, rfl, rfl, trivial⟩, hC, hO, hI_, hb1⟩
  ·skip
   have hO := hO.fr1
   have hO := hO.fr1
   exact ⟨_, fr_ovl 177 ⟨rfl, rfl, rfl, rfl, rfl, rfl, trivial⟩, hC, hO, hI_, hb1⟩
  ·cases o11 with
   | nx _ => exact True.intro
   | rt r_ =>
    have hs := after_rt hs
    intro a1 w1 hK
    cases hs
    exact hK
   | br s7 =>
    have hs := after_br hs
    rintro a1 w8 ⟨σ, rfl, hC, hO, hI_, hb1⟩
    refine c_seq ?_
    refine c_seq (c_region ?_)
    refine pl_val (.int .i64 a_) (y_move rfl) ?_
    refine pl_val (.int .i64 a_) (y_assign rfl) ?_
    refine c_nil ?_
    obtain ⟨o26, hl27, hs⟩ := bind_some hs
    refine wp_block ?_
    refine wp_forC (id := 2) (w64 (s7.1 - 1)) (I := fun k24 s22 a w23 => ∃ (σ : Nat → Value), a = fr 177 (ovl σ [(1, (.int .i64 a_)), (2, (.int .i64 m)), (3, (.int .i64 b)), (4, (.pointer (some ⟨g1, 0, none⟩))), (8, (.int .i64 s7.1)), (11, (.int .i64 k24))]) ∧ Chg (G_ ++ ([])) w w23 ∧ Own (Nw w (G_ ++ ([]))) M w23 (([g1]) ++ (G_ ++ [])) ∧ I_ w23 s22 ∧ BoxV w23 g1 125 [(.func (.func g_) #[] lb_), (.func (.func sf_) #[] sb_)]) (J := fun s22 a w23 => ∃ (σ : Nat → Value), a = fr 177 (ovl σ [(1, (.int .i64 a_)), (2, (.int .i64 m)), (3, (.int .i64 b)), (4, (.pointer (some ⟨g1, 0, none⟩)))]) ∧ Chg (G_ ++ ([])) w w23 ∧ Own (Nw w (G_ ++ ([]))) M w23 (([g1]) ++ (G_ ++ [])) ∧ I_ w23 s22 ∧ BoxV w23 g1 125 [(.func (.func g_) #[] lb_), (.func (.func sf_) #[] sb_)]) (K := (k_sort_symMerge_func M w I_ G_)) ?_ ?_ a_ d_ o26 _ _ ?_ hl27 ?_
    ·rintro k24 s22 a w23 ⟨σ, rfl, hC, hO, hv28, hb1⟩ hlt
     refine c_seq ?_
     refine c_seq (c_region ?_)
     refine pl_val (.int .i64 k24) (y_move rfl) ?_
     refine pl_val (.int .i64 s7.1) (y_move rfl) ?_
     refine pl_val (.int .i64 (w64 (s7.1 - 1))) (y_sub rfl rfl) ?_
     refine pl_val (.bool (decide (k24 < (w64 (s7.1 - 1))))) (y_lss rfl rfl) ?_
     refine c_nil ?_
     refine c_condF (congrArg Value.bool (decide_eq_false hlt)) ?_
     refine wp_exit ?_
     have hO := hO.fr1
     have hO := hO.fr1
     exact ⟨rfl, _, fr_ovl 177 ⟨rfl, rfl, rfl, rfl, trivial⟩, hC, hO, hv28, hb1⟩
    ·rintro k24 s22 o26 a w23 ⟨σ, rfl, hC, hO, hv28, hb1⟩ hlt hw hs
     refine c_seq ?_
     refine c_seq (c_region ?_)
     refine pl_val (.int .i64 k24) (y_move rfl) ?_
     refine pl_val (.int .i64 s7.1) (y_move rfl) ?_
     refine pl_val (.int .i64 (w64 (s7.1 - 1))) (y_sub rfl rfl) ?_
     refine pl_val (.bool (decide (k24 < (w64 (s7.1 - 1))))) (y_lss rfl rfl) ?_
     refine c_nil ?_
     refine c_condT (congrArg Value.bool (decide_eq_true hlt)) ?_
     refine wp_skip ?_
     refine c_seq ?_
     refine wp_block ?_
     refine c_region ?_
     refine pl_val (.pointer (some ⟨g1, 1, none⟩)) (y_faddr rfl Fa125x1) ?_
     refine pl_val (.func (.func sf_) #[] sb_) (y_load rfl ((box_load Ag121 Sz121 hb1 [(.func (.func g_) #[] lb_)] [(.func (.func sf_) #[] sb_)] [] rfl rfl (fun _ => rfl)) _ (Chg.refl _ _))) ?_
     refine pl_val (.int .i64 k24) (y_move rfl) ?_
     refine pl_val (.int .i64 k24) (y_move rfl) ?_
     refine pl_val (.int .i64 (w64 (k24 + 1))) (y_add rfl rfl) ?_
     obtain ⟨y31, hy31, hs⟩ := bind_some hs
     obtain ⟨w30, hx30, hC30, hv30⟩ := hE_.swap hv28 hy31
     refine pl_val (w' := w30) (.tuple #[]) (y_callx rfl rfl hx30) ?_
     have hO := hO.fr1
     have hb1 := hb1.chg hC30 (fun hg => hO.apart _ ((fun _ h => h) _ hg) (mem_l (List.mem_singleton.2 rfl)))
     have hC := hC.step hC30 (fun g hg => hO.inN g ((fun _ h => h) g hg))
     have hO := hO.ext hC30
     refine c_nil ?_
     refine c_region ?_
     refine pl_val (.int .i64 k24) (y_move rfl) ?_
     refine pl_val (.int .i64 (w64 (k24 + 1))) (y_add rfl rfl) ?_
     refine pl_val (.int .i64 (w64 (k24 + 1))) (y_assign rfl) ?_
     refine c_nil ?_
     cases hs
     have hO := hO.fr1
     exact ⟨_, fr_ovl 177 ⟨rfl, rfl, rfl, rfl, rfl, congrArg (Value.int .i64) hw, trivial⟩, hC, hO, hv30, hb1⟩
    ·skip
     have hO := hO.fr1
     have hO := hO.fr1
     exact ⟨_, fr_ovl 177 ⟨rfl, rfl, rfl, rfl, rfl, rfl, trivial⟩, hC, hO, hI_, hb1⟩
    ·cases o26 with
     | nx _ => exact True.intro
     | rt r_ =>
      have hs := after_rt hs
      intro a1 w1 hK
      cases hs
      exact hK
     | br s22 =>
      have hs := after_br hs
      rintro a1 w23 ⟨σ, rfl, hC, hO, hv29, hb1⟩
      refine wp_ret ?_
      cases hs
      exact ⟨_, fr_ovl 177 trivial, hC, hv29⟩
 ·skip
  refine c_condF (congrArg Value.bool hc2) ?_
  refine wp_skip ?_
  refine c_seq ?_
  refine c_seq (c_region ?_)
  refine pl_val (.int .i64 b) (y_move rfl) ?_
  refine pl_val (.int .i64 m) (y_move rfl) ?_
  refine pl_val (.int .i64 (w64 (b - m))) (y_sub rfl rfl) ?_
  refine pl_val (.bool ((w64 (b - m)) == 1)) (y_eql rfl rfl) ?_
  refine c_nil ?_
  rcases bif_some hs with ⟨hc32, hs⟩ | ⟨hc32, hs⟩
  ·skip
   refine c_condT (congrArg Value.bool hc32) ?_
   refine c_seq (c_region ?_)
   refine pl_val (.int .i64 a_) (y_move rfl) ?_
   refine pl_val (.int .i64 a_) (y_assign rfl) ?_
   refine c_nil ?_
   refine c_seq (c_region ?_)
   refine pl_val (.int .i64 m) (y_move rfl) ?_
   refine pl_val (.int .i64 m) (y_assign rfl) ?_
   refine c_nil ?_
   refine c_seq ?_
   obtain ⟨o41, hl42, hs⟩ := bind_some hs
   refine wp_block ?_
   refine wp_iter (id := 4) (I := fun s37 a w38 => ∃ (σ : Nat → Value), a = fr 177 (ovl σ [(1, (.int .i64 a_)), (2, (.int .i64 m)), (3, (.int .i64 b)), (4, (.pointer (some ⟨g1, 0, none⟩))), (12, (.int .i64 s37.1)), (13, (.int .i64 s37.2))]) ∧ Chg (G_ ++ ([])) w w38 ∧ Own (Nw w (G_ ++ ([]))) M w38 (([g1]) ++ (G_ ++ [])) ∧ I_ w38 d_ ∧ BoxV w38 g1 125 [(.func (.func g_) #[] lb_), (.func (.func sf_) #[] sb_)]) (J := fun s37 a w38 => ∃ (σ : Nat → Value), a = fr 177 (ovl σ [(1, (.int .i64 a_)), (2, (.int .i64 m)), (3, (.int .i64 b)), (4, (.pointer (some ⟨g1, 0, none⟩))), (12, (.int .i64 s37.1))]) ∧ Chg (G_ ++ ([])) w w38 ∧ Own (Nw w (G_ ++ ([]))) M w38 (([g1]) ++ (G_ ++ [])) ∧ I_ w38 d_ ∧ BoxV w38 g1 125 [(.func (.func g_) #[] lb_), (.func (.func sf_) #[] sb_)]) (K := (k_sort_symMerge_func M w I_ G_)) ?_ FU (a_, m) o41 _ _ ?_ hl42 ?_
   ·rintro s37 o41 a w38 ⟨σ, rfl, hC, hO, hI_, hb1⟩ hs
    refine c_seq ?_
    refine c_seq (c_region ?_)
    refine pl_val (.int .i64 s37.1) (y_move rfl) ?_
    refine pl_val (.int .i64 s37.2) (y_move rfl) ?_
    refine pl_val (.bool (decide (s37.1 < s37.2))) (y_lss rfl rfl) ?_
    refine c_nil ?_
    rcases bif_some hs with ⟨hc43, hs⟩ | ⟨hc43, hs⟩
    ·skip
     refine c_condT (congrArg Value.bool hc43) ?_
     refine wp_skip ?_
     refine wp_block ?_
     refine c_seq (c_region ?_)
     refine pl_val (.int .i64 s37.1) (y_move rfl) ?_
     refine pl_val (.int .i64 s37.2) (y_move rfl) ?_
     refine pl_val (.int .i64 (w64 (s37.1 + s37.2))) (y_add rfl rfl) ?_
     refine pl_val (.int .u64 (IntKind.u64.wrap (w64 (s37.1 + s37.2)))) (y_conv_int Try.underlying3 Try.underlying113 rfl) ?_
     refine pl_val (.int .u64 (ishr .u64 (IntKind.u64.wrap (w64 (s37.1 + s37.2))) 1)) (y_shr rfl rfl (by decide)) ?_
     refine pl_val (.int .i64 (w64 (ishr .u64 (IntKind.u64.wrap (w64 (s37.1 + s37.2))) 1))) (y_conv_int Try.underlying113 Try.underlying3 rfl) ?_
     refine pl_val (.int .i64 (w64 (ishr .u64 (IntKind.u64.wrap (w64 (s37.1 + s37.2))) 1))) (y_assign rfl) ?_
     refine c_nil ?_
     refine c_seq (c_region ?_)
     refine pl_val (.pointer (some ⟨g1, 0, none⟩)) (y_faddr rfl Fa125x0) ?_
     refine pl_val (.func (.func g_) #[] lb_) (y_load rfl ((box_load Ag115 Sz115 hb1 [] [(.func (.func g_) #[] lb_)] [(.func (.func sf_) #[] sb_)] rfl rfl (fun _ => rfl)) _ (Chg.refl _ _))) ?_
     refine pl_val (.int .i64 m) (y_move rfl) ?_
     refine pl_val (.int .i64 (w64 (ishr .u64 (IntKind.u64.wrap (w64 (s37.1 + s37.2))) 1))) (y_move rfl) ?_
     obtain ⟨r45, hr45, hs⟩ := bind_some hs
     refine pl_callb rfl hE_.bod rfl (hE_.less hI_ hr45) ?_
     rintro _ w44 ⟨rfl, hC44⟩
     have hI_ := hE_.ext hI_ hC44 (fun _ h => nomatch h)
     have hb1 := hb1.chg hC44 (fun h => nomatch h)
     have hC := hC.ext hC44
     have hO := hO.ext hC44
     refine pl_val (.bool (!r45)) (y_not rfl) ?_
     refine c_nil ?_
     rcases bif_some hs with ⟨hc46, hs⟩ | ⟨hc46, hs⟩
     ·skip
      refine c_condT (congrArg Value.bool hc46) ?_
      refine c_region ?_
      refine pl_val (.int .i64 (w64 (ishr .u64 (IntKind.u64.wrap (w64 (s37.1 + s37.2))) 1))) (y_move rfl) ?_
      refine pl_val (.int .i64 (w64 ((w64 (ishr .u64 (IntKind.u64.wrap (w64 (s37.1 + s37.2))) 1)) + 1))) (y_add rfl rfl) ?_
      refine pl_val (.int .i64 (w64 ((w64 (ishr .u64 (IntKind.u64.wrap (w64 (s37.1 + s37.2))) 1)) + 1))) (y_assign rfl) ?_
      refine c_nil ?_
      cases hs
      have hO := hO.fr1
      have hO := hO.fr1
      exact ⟨_, fr_ovl 177 ⟨rfl, rfl, rfl, rfl, rfl, rfl, trivial⟩, hC, hO, hI_, hb1⟩
     ·skip
      refine c_condF (congrArg Value.bool hc46) ?_
      refine c_region ?_
      refine pl_val (.int .i64 (w64 (ishr .u64 (IntKind.u64.wrap (w64 (s37.1 + s37.2))) 1))) (y_move rfl) ?_
      refine pl_val (.int .i64 (w64 (ishr .u64 (IntKind.u64.wrap (w64 (s37.1 + s37.2))) 1))) (y_assign rfl) ?_
      refine c_nil ?_
      cases hs
      have hO := hO.fr1
      have hO := hO.fr1
      exact ⟨_, fr_ovl 177 ⟨rfl, rfl, rfl, rfl, rfl, rfl, trivial⟩, hC, hO, hI_, hb1⟩
    ·skip
     refine c_condF (congrArg Value.bool hc43) ?_
     refine wp_exit ?_
     cases hs
     have hO := hO.fr1
     have hO := hO.fr1
     exact ⟨rfl, _, fr_ovl 177 ⟨rfl, rfl, rfl, rfl, rfl, trivial⟩, hC, hO, hI_, hb1⟩
   ·skip
    have hO := hO.fr1
    have hO := hO.fr1
    exact ⟨_, fr_ovl 177 ⟨rfl, rfl, rfl, rfl, rfl, rfl, trivial⟩, hC, hO, hI_, hb1⟩
   ·cases o41 with
    | nx _ => exact True.intro
    | rt r_ =>
     have hs := after_rt hs
     intro a1 w1 hK
     cases hs
     exact hK
    | br s37 =>
     have hs := after_br hs
     rintro a1 w38 ⟨σ, rfl, hC, hO, hI_, hb1⟩
     refine c_seq ?_
     refine c_seq (c_region ?_)
     refine pl_val (.int .i64 m) (y_move rfl) ?_
     refine pl_val (.int .i64 m) (y_assign rfl) ?_
     refine c_nil ?_
     obtain ⟨o58, hl59, hs⟩ := bind_some hs
     refine wp_block ?_
     refine wp_iter (id := 6) (I := fun s54 a w55 => ∃ (σ : Nat → Value), a = fr 177 (ovl σ [(1, (.int .i64 a_)), (2, (.int .i64 m)), (3, (.int .i64 b)), (4, (.pointer (some ⟨g1, 0, none⟩))), (12, (.int .i64 s37.1)), (15, (.int .i64 s54.1))]) ∧ Chg (G_ ++ ([])) w w55 ∧ Own (Nw w (G_ ++ ([]))) M w55 (([g1]) ++ (G_ ++ [])) ∧ I_ w55 s54.2 ∧ BoxV w55 g1 125 [(.func (.func g_) #[] lb_), (.func (.func sf_) #[] sb_)]) (J := fun s54 a w55 => ∃ (σ : Nat → Value), a = fr 177 (ovl σ [(1, (.int .i64 a_)), (2, (.int .i64 m)), (3, (.int .i64 b)), (4, (.pointer (some ⟨g1, 0, none⟩)))]) ∧ Chg (G_ ++ ([])) w w55 ∧ Own (Nw w (G_ ++ ([]))) M w55 (([g1]) ++ (G_ ++ [])) ∧ I_ w55 s54.2 ∧ BoxV w55 g1 125 [(.func (.func g_) #[] lb_), (.func (.func sf_) #[] sb_)]) (K := (k_sort_symMerge_func M w I_ G_)) ?_ FU (m, d_) o58 _ _ ?_ hl59 ?_
     ·rintro s54 o58 a w55 ⟨σ, rfl, hC, hO, hv60, hb1⟩ hs
      refine c_seq ?_
      refine c_seq (c_region ?_)
      refine pl_val (.int .i64 s54.1) (y_move rfl) ?_
      refine pl_val (.int .i64 s37.1) (y_move rfl) ?_
      refine pl_val (.bool (decide (s37.1 < s54.1))) (y_gtr rfl rfl) ?_
      refine c_nil ?_
      rcases bif_some hs with ⟨hc62, hs⟩ | ⟨hc62, hs⟩
      ·skip
       refine c_condT (congrArg Value.bool hc62) ?_
       refine wp_skip ?_
       refine c_seq ?_
       refine wp_block ?_
       refine c_region ?_
       refine pl_val (.pointer (some ⟨g1, 1, none⟩)) (y_faddr rfl Fa125x1) ?_
       refine pl_val (.func (.func sf_) #[] sb_) (y_load rfl ((box_load Ag121 Sz121 hb1 [(.func (.func g_) #[] lb_)] [(.func (.func sf_) #[] sb_)] [] rfl rfl (fun _ => rfl)) _ (Chg.refl _ _))) ?_
       refine pl_val (.int .i64 s54.1) (y_move rfl) ?_
       refine pl_val (.int .i64 s54.1) (y_move rfl) ?_
       refine pl_val (.int .i64 (w64 (s54.1 - 1))) (y_sub rfl rfl) ?_
       obtain ⟨y64, hy64, hs⟩ := bind_some hs
       obtain ⟨w63, hx63, hC63, hv63⟩ := hE_.swap hv60 hy64
       refine pl_val (w' := w63) (.tuple #[]) (y_callx rfl rfl hx63) ?_
       have hO := hO.fr1
       have hb1 := hb1.chg hC63 (fun hg => hO.apart _ ((fun _ h => h) _ hg) (mem_l (List.mem_singleton.2 rfl)))
       have hC := hC.step hC63 (fun g hg => hO.inN g ((fun _ h => h) g hg))
       have hO := hO.ext hC63
       refine c_nil ?_
       refine c_region ?_
       refine pl_val (.int .i64 s54.1) (y_move rfl) ?_
       refine pl_val (.int .i64 (w64 (s54.1 - 1))) (y_sub rfl rfl) ?_
       refine pl_val (.int .i64 (w64 (s54.1 - 1))) (y_assign rfl) ?_
       refine c_nil ?_
       cases hs
       have hO := hO.fr1
       exact ⟨_, fr_ovl 177 ⟨rfl, rfl, rfl, rfl, rfl, rfl, trivial⟩, hC, hO, hv63, hb1⟩
      ·skip
       refine c_condF (congrArg Value.bool hc62) ?_
       refine wp_exit ?_
       cases hs
       have hO := hO.fr1
       have hO := hO.fr1
       exact ⟨rfl, _, fr_ovl 177 ⟨rfl, rfl, rfl, rfl, trivial⟩, hC, hO, hv60, hb1⟩
     ·skip
      have hO := hO.fr1
      have hO := hO.fr1
      exact ⟨_, fr_ovl 177 ⟨rfl, rfl, rfl, rfl, rfl, rfl, trivial⟩, hC, hO, hI_, hb1⟩
     ·cases o58 with
      | nx _ => exact True.intro
      | rt r_ =>
       have hs := after_rt hs
       intro a1 w1 hK
       cases hs
       exact hK
      | br s54 =>
       have hs := after_br hs
       rintro a1 w55 ⟨σ, rfl, hC, hO, hv61, hb1⟩
       refine wp_ret ?_
       cases hs
       exact ⟨_, fr_ovl 177 trivial, hC, hv61⟩
  ·skip
   refine c_condF (congrArg Value.bool hc32) ?_
   refine wp_skip ?_
   refine c_seq (c_region ?_)
   refine pl_val (.int .i64 a_) (y_move rfl) ?_
   refine pl_val (.int .i64 b) (y_move rfl) ?_
   refine pl_val (.int .i64 (w64 (a_ + b))) (y_add rfl rfl) ?_
   refine pl_val (.int .u64 (IntKind.u64.wrap (w64 (a_ + b)))) (y_conv_int Try.underlying3 Try.underlying113 rfl) ?_
   refine pl_val (.int .u64 (ishr .u64 (IntKind.u64.wrap (w64 (a_ + b))) 1)) (y_shr rfl rfl (by decide)) ?_
   refine pl_val (.int .i64 (w64 (ishr .u64 (IntKind.u64.wrap (w64 (a_ + b))) 1))) (y_conv_int Try.underlying113 Try.underlying3 rfl) ?_
   refine pl_val (.int .i64 (w64 (ishr .u64 (IntKind.u64.wrap (w64 (a_ + b))) 1))) (y_assign rfl) ?_
   refine c_nil ?_
   refine c_seq (c_region ?_)
   refine pl_val (.int .i64 (w64 (ishr .u64 (IntKind.u64.wrap (w64 (a_ + b))) 1))) (y_move rfl) ?_
   refine pl_val (.int .i64 m) (y_move rfl) ?_
   refine pl_val (.int .i64 (w64 ((w64 (ishr .u64 (IntKind.u64.wrap (w64 (a_ + b))) 1)) + m))) (y_add rfl rfl) ?_
   refine pl_val (.int .i64 (w64 ((w64 (ishr .u64 (IntKind.u64.wrap (w64 (a_ + b))) 1)) + m))) (y_assign rfl) ?_
   refine c_nil ?_
   refine c_seq (c_region ?_)
   refine pl_val (.int .i64 0) (y_assign rfl) ?_
   refine pl_val (.int .i64 0) (y_assign rfl) ?_
   refine c_nil ?_
   refine c_seq ?_
   refine c_seq (c_region ?_)
   refine pl_val (.int .i64 m) (y_move rfl) ?_
   refine pl_val (.int .i64 (w64 (ishr .u64 (IntKind.u64.wrap (w64 (a_ + b))) 1))) (y_move rfl) ?_
   refine pl_val (.bool (decide ((w64 (ishr .u64 (IntKind.u64.wrap (w64 (a_ + b))) 1)) < m))) (y_gtr rfl rfl) ?_
   refine c_nil ?_
   obtain ⟨s65, hm67, hs⟩ := bind_some hs
   refine c_mid (I := fun a w66 => ∃ (σ : Nat → Value), a = fr 177 (ovl σ [(1, (.int .i64 a_)), (2, (.int .i64 m)), (3, (.int .i64 b)), (4, (.pointer (some ⟨g1, 0, none⟩))), (16, (.int .i64 (w64 (ishr .u64 (IntKind.u64.wrap (w64 (a_ + b))) 1)))), (17, (.int .i64 (w64 ((w64 (ishr .u64 (IntKind.u64.wrap (w64 (a_ + b))) 1)) + m)))), (18, (.int .i64 s65.1)), (19, (.int .i64 s65.2))]) ∧ Chg (G_ ++ ([])) w w66 ∧ Own (Nw w (G_ ++ ([]))) M w66 (([g1]) ++ (G_ ++ [])) ∧ I_ w66 d_ ∧ BoxV w66 g1 125 [(.func (.func g_) #[] lb_), (.func (.func sf_) #[] sb_)]) ?_ ?_
   ·replace hs := hm67
    rcases bif_some hs with ⟨hc68, hs⟩ | ⟨hc68, hs⟩
    ·skip
     refine c_condT (congrArg Value.bool hc68) ?_
     refine c_seq (c_region ?_)
     refine pl_val (.int .i64 (w64 ((w64 (ishr .u64 (IntKind.u64.wrap (w64 (a_ + b))) 1)) + m))) (y_move rfl) ?_
     refine pl_val (.int .i64 b) (y_move rfl) ?_
     refine pl_val (.int .i64 (w64 ((w64 ((w64 (ishr .u64 (IntKind.u64.wrap (w64 (a_ + b))) 1)) + m)) - b))) (y_sub rfl rfl) ?_
     refine pl_val (.int .i64 (w64 ((w64 ((w64 (ishr .u64 (IntKind.u64.wrap (w64 (a_ + b))) 1)) + m)) - b))) (y_assign rfl) ?_
     refine c_nil ?_
     refine c_region ?_
     refine pl_val (.int .i64 (w64 (ishr .u64 (IntKind.u64.wrap (w64 (a_ + b))) 1))) (y_move rfl) ?_
     refine pl_val (.int .i64 (w64 (ishr .u64 (IntKind.u64.wrap (w64 (a_ + b))) 1))) (y_assign rfl) ?_
     refine c_nil ?_
     cases hs
     have hO := hO.fr1
     have hO := hO.fr1
     exact ⟨_, fr_ovl 177 ⟨rfl, rfl, rfl, rfl, rfl, rfl, rfl, rfl, trivial⟩, hC, hO, hI_, hb1⟩
    ·skip
     refine c_condF (congrArg Value.bool hc68) ?_
     refine c_seq (c_region ?_)
     refine pl_val (.int .i64 a_) (y_move rfl) ?_
     refine pl_val (.int .i64 a_) (y_assign rfl) ?_
     refine c_nil ?_
     refine c_region ?_
     refine pl_val (.int .i64 m) (y_move rfl) ?_
     refine pl_val (.int .i64 m) (y_assign rfl) ?_
     refine c_nil ?_
     cases hs
     have hO := hO.fr1
     have hO := hO.fr1
     exact ⟨_, fr_ovl 177 ⟨rfl, rfl, rfl, rfl, rfl, rfl, rfl, rfl, trivial⟩, hC, hO, hI_, hb1⟩
   ·rintro a1 w66 ⟨σ, rfl, hC, hO, hI_, hb1⟩
    refine c_seq (c_region ?_)
    refine pl_val (.int .i64 (w64 ((w64 (ishr .u64 (IntKind.u64.wrap (w64 (a_ + b))) 1)) + m))) (y_move rfl) ?_
    refine pl_val (.int .i64 (w64 ((w64 ((w64 (ishr .u64 (IntKind.u64.wrap (w64 (a_ + b))) 1)) + m)) - 1))) (y_sub rfl rfl) ?_
    refine pl_val (.int .i64 (w64 ((w64 ((w64 (ishr .u64 (IntKind.u64.wrap (w64 (a_ + b))) 1)) + m)) - 1))) (y_assign rfl) ?_
    refine c_nil ?_
    refine c_seq ?_
    obtain ⟨o77, hl78, hs⟩ := bind_some hs
    refine wp_block ?_
    refine wp_iter (id := 8) (I := fun s73 a w74 => ∃ (σ : Nat → Value), a = fr 177 (ovl σ [(1, (.int .i64 a_)), (2, (.int .i64 m)), (3, (.int .i64 b)), (4, (.pointer (some ⟨g1, 0, none⟩))), (16, (.int .i64 (w64 (ishr .u64 (IntKind.u64.wrap (w64 (a_ + b))) 1)))), (17, (.int .i64 (w64 ((w64 (ishr .u64 (IntKind.u64.wrap (w64 (a_ + b))) 1)) + m)))), (18, (.int .i64 s73.1)), (19, (.int .i64 s73.2)), (20, (.int .i64 (w64 ((w64 ((w64 (ishr .u64 (IntKind.u64.wrap (w64 (a_ + b))) 1)) + m)) - 1))))]) ∧ Chg (G_ ++ ([])) w w74 ∧ Own (Nw w (G_ ++ ([]))) M w74 (([g1]) ++ (G_ ++ [])) ∧ I_ w74 d_ ∧ BoxV w74 g1 125 [(.func (.func g_) #[] lb_), (.func (.func sf_) #[] sb_)]) (J := fun s73 a w74 => ∃ (σ : Nat → Value), a = fr 177 (ovl σ [(1, (.int .i64 a_)), (2, (.int .i64 m)), (3, (.int .i64 b)), (4, (.pointer (some ⟨g1, 0, none⟩))), (16, (.int .i64 (w64 (ishr .u64 (IntKind.u64.wrap (w64 (a_ + b))) 1)))), (17, (.int .i64 (w64 ((w64 (ishr .u64 (IntKind.u64.wrap (w64 (a_ + b))) 1)) + m)))), (18, (.int .i64 s73.1))]) ∧ Chg (G_ ++ ([])) w w74 ∧ Own (Nw w (G_ ++ ([]))) M w74 (([g1]) ++ (G_ ++ [])) ∧ I_ w74 d_ ∧ BoxV w74 g1 125 [(.func (.func g_) #[] lb_), (.func (.func sf_) #[] sb_)]) (K := (k_sort_symMerge_func M w I_ G_)) ?_ FU (s65.1, s65.2) o77 _ _ ?_ hl78 ?_
    ·rintro s73 o77 a w74 ⟨σ, rfl, hC, hO, hI_, hb1⟩ hs
     refine c_seq ?_
     refine c_seq (c_region ?_)
     refine pl_val (.int .i64 s73.1) (y_move rfl) ?_
     refine pl_val (.int .i64 s73.2) (y_move rfl) ?_
     refine pl_val (.bool (decide (s73.1 < s73.2))) (y_lss rfl rfl) ?_
     refine c_nil ?_
     rcases bif_some hs with ⟨hc79, hs⟩ | ⟨hc79, hs⟩
     ·skip
      refine c_condT (congrArg Value.bool hc79) ?_
      refine wp_skip ?_
      refine wp_block ?_
      refine c_seq (c_region ?_)
      refine pl_val (.int .i64 s73.1) (y_move rfl) ?_
      refine pl_val (.int .i64 s73.2) (y_move rfl) ?_
      refine pl_val (.int .i64 (w64 (s73.1 + s73.2))) (y_add rfl rfl) ?_
      refine pl_val (.int .u64 (IntKind.u64.wrap (w64 (s73.1 + s73.2)))) (y_conv_int Try.underlying3 Try.underlying113 rfl) ?_
      refine pl_val (.int .u64 (ishr .u64 (IntKind.u64.wrap (w64 (s73.1 + s73.2))) 1)) (y_shr rfl rfl (by decide)) ?_
      refine pl_val (.int .i64 (w64 (ishr .u64 (IntKind.u64.wrap (w64 (s73.1 + s73.2))) 1))) (y_conv_int Try.underlying113 Try.underlying3 rfl) ?_
      refine pl_val (.int .i64 (w64 (ishr .u64 (IntKind.u64.wrap (w64 (s73.1 + s73.2))) 1))) (y_assign rfl) ?_
      refine c_nil ?_
      refine c_seq (c_region ?_)
      refine pl_val (.pointer (some ⟨g1, 0, none⟩)) (y_faddr rfl Fa125x0) ?_
      refine pl_val (.func (.func g_) #[] lb_) (y_load rfl ((box_load Ag115 Sz115 hb1 [] [(.func (.func g_) #[] lb_)] [(.func (.func sf_) #[] sb_)] rfl rfl (fun _ => rfl)) _ (Chg.refl _ _))) ?_
      refine pl_val (.int .i64 (w64 ((w64 ((w64 (ishr .u64 (IntKind.u64.wrap (w64 (a_ + b))) 1)) + m)) - 1))) (y_move rfl) ?_
      refine pl_val (.int .i64 (w64 (ishr .u64 (IntKind.u64.wrap (w64 (s73.1 + s73.2))) 1))) (y_move rfl) ?_
      refine pl_val (.int .i64 (w64 ((w64 ((w64 ((w64 (ishr .u64 (IntKind.u64.wrap (w64 (a_ + b))) 1)) + m)) - 1)) - (w64 (ishr .u64 (IntKind.u64.wrap (w64 (s73.1 + s73.2))) 1))))) (y_sub rfl rfl) ?_
      refine pl_val (.int .i64 (w64 (ishr .u64 (IntKind.u64.wrap (w64 (s73.1 + s73.2))) 1))) (y_move rfl) ?_
      obtain ⟨r81, hr81, hs⟩ := bind_some hs
      refine pl_callb rfl hE_.bod rfl (hE_.less hI_ hr81) ?_
      rintro _ w80 ⟨rfl, hC80⟩
      have hI_ := hE_.ext hI_ hC80 (fun _ h => nomatch h)
      have hb1 := hb1.chg hC80 (fun h => nomatch h)
      have hC := hC.ext hC80
      have hO := hO.ext hC80
      refine pl_val (.bool (!r81)) (y_not rfl) ?_
      refine c_nil ?_
      rcases bif_some hs with ⟨hc82, hs⟩ | ⟨hc82, hs⟩
      ·skip
       refine c_condT (congrArg Value.bool hc82) ?_
       refine c_region ?_
       refine pl_val (.int .i64 (w64 (ishr .u64 (IntKind.u64.wrap (w64 (s73.1 + s73.2))) 1))) (y_move rfl) ?_
       refine pl_val (.int .i64 (w64 ((w64 (ishr .u64 (IntKind.u64.wrap (w64 (s73.1 + s73.2))) 1)) + 1))) (y_add rfl rfl) ?_
       refine pl_val (.int .i64 (w64 ((w64 (ishr .u64 (IntKind.u64.wrap (w64 (s73.1 + s73.2))) 1)) + 1))) (y_assign rfl) ?_
       refine c_nil ?_
       cases hs
       have hO := hO.fr1
       have hO := hO.fr1
       exact ⟨_, fr_ovl 177 ⟨rfl, rfl, rfl, rfl, rfl, rfl, rfl, rfl, rfl, trivial⟩, hC, hO, hI_, hb1⟩
      ·skip
       refine c_condF (congrArg Value.bool hc82) ?_
       refine c_region ?_
       refine pl_val (.int .i64 (w64 (ishr .u64 (IntKind.u64.wrap (w64 (s73.1 + s73.2))) 1))) (y_move rfl) ?_
       refine pl_val (.int .i64 (w64 (ishr .u64 (IntKind.u64.wrap (w64 (s73.1 + s73.2))) 1))) (y_assign rfl) ?_
       refine c_nil ?_
       cases hs
       have hO := hO.fr1
       have hO := hO.fr1
       exact ⟨_, fr_ovl 177 ⟨rfl, rfl, rfl, rfl, rfl, rfl, rfl, rfl, rfl, trivial⟩, hC, hO, hI_, hb1⟩
     ·skip
      refine c_condF (congrArg Value.bool hc79) ?_
      refine wp_exit ?_
      cases hs
      have hO := hO.fr1
      have hO := hO.fr1
      exact ⟨rfl, _, fr_ovl 177 ⟨rfl, rfl, rfl, rfl, rfl, rfl, rfl, trivial⟩, hC, hO, hI_, hb1⟩
    ·skip
     have hO := hO.fr1
     have hO := hO.fr1
     exact ⟨_, fr_ovl 177 ⟨rfl, rfl, rfl, rfl, rfl, rfl, rfl, rfl, rfl, trivial⟩, hC, hO, hI_, hb1⟩
    ·cases o77 with
     | nx _ => exact True.intro
     | rt r_ =>
      have hs := after_rt hs
      intro a1 w1 hK
      cases hs
      exact hK
     | br s73 =>
      have hs := after_br hs
      rintro a1 w74 ⟨σ, rfl, hC, hO, hI_, hb1⟩
      refine c_seq (c_region ?_)
      refine pl_val (.int .i64 (w64 ((w64 (ishr .u64 (IntKind.u64.wrap (w64 (a_ + b))) 1)) + m))) (y_move rfl) ?_
      refine pl_val (.int .i64 s73.1) (y_move rfl) ?_
      refine pl_val (.int .i64 (w64 ((w64 ((w64 (ishr .u64 (IntKind.u64.wrap (w64 (a_ + b))) 1)) + m)) - s73.1))) (y_sub rfl rfl) ?_
      refine pl_val (.int .i64 (w64 ((w64 ((w64 (ishr .u64 (IntKind.u64.wrap (w64 (a_ + b))) 1)) + m)) - s73.1))) (y_assign rfl) ?_
      refine c_nil ?_
      refine c_seq ?_
      refine c_seq ?_
      refine c_mid (I := fun a w84 => ∃ (σ : Nat → Value), a = fr 177 (ovl σ [(1, (.int .i64 a_)), (2, (.int .i64 m)), (3, (.int .i64 b)), (4, (.pointer (some ⟨g1, 0, none⟩))), (16, (.int .i64 (w64 (ishr .u64 (IntKind.u64.wrap (w64 (a_ + b))) 1)))), (18, (.int .i64 s73.1)), (22, (.int .i64 (w64 ((w64 ((w64 (ishr .u64 (IntKind.u64.wrap (w64 (a_ + b))) 1)) + m)) - s73.1)))), (145, (.bool ((decide (s73.1 < m)) && (decide (m < (w64 ((w64 ((w64 (ishr .u64 (IntKind.u64.wrap (w64 (a_ + b))) 1)) + m)) - s73.1)))))))]) ∧ Chg [] w74 w84) ?_ ?_
      ·have hMid := Chg.refl [] w74
       refine c_region ?_
       refine pl_val (.int .i64 s73.1) (y_move rfl) ?_
       refine pl_val (.int .i64 m) (y_move rfl) ?_
       refine pl_val (.bool (decide (s73.1 < m))) (y_lss rfl rfl) ?_
       refine pl_val (.bool (decide (s73.1 < m))) (y_move rfl) ?_
       rcases Bool.eq_false_or_eq_true ((decide (s73.1 < m))) with hc86 | hc86
       ·skip
        refine pl_yes (.int .i64 m) (tg := 141) (by kernel_rfl) (congrArg Value.bool hc86) (y_move rfl) ?_
        refine pl_yes (.int .i64 (w64 ((w64 ((w64 (ishr .u64 (IntKind.u64.wrap (w64 (a_ + b))) 1)) + m)) - s73.1))) (tg := 141) (by kernel_rfl) (congrArg Value.bool hc86) (y_move rfl) ?_
        refine pl_yes (.bool (decide (m < (w64 ((w64 ((w64 (ishr .u64 (IntKind.u64.wrap (w64 (a_ + b))) 1)) + m)) - s73.1))))) (tg := 141) (by kernel_rfl) (congrArg Value.bool hc86) (y_lss rfl rfl) ?_
        refine pl_val (.bool ((decide (s73.1 < m)) && (decide (m < (w64 ((w64 ((w64 (ishr .u64 (IntKind.u64.wrap (w64 (a_ + b))) 1)) + m)) - s73.1)))))) (y_pick_t (congrArg Value.bool hc86) (congrArg Value.bool (by rw [hc86]; rfl))) ?_
        refine c_nil ?_
        exact ⟨_, fr_ovl 177 ⟨rfl, rfl, rfl, rfl, rfl, rfl, rfl, rfl, trivial⟩, hMid⟩
       ·skip
        refine pl_not (tg := 141) (by kernel_rfl) (congrArg Value.bool hc86) ?_
        refine pl_not (tg := 141) (by kernel_rfl) (congrArg Value.bool hc86) ?_
        refine pl_not (tg := 141) (by kernel_rfl) (congrArg Value.bool hc86) ?_
        refine pl_val (.bool ((decide (s73.1 < m)) && (decide (m < (w64 ((w64 ((w64 (ishr .u64 (IntKind.u64.wrap (w64 (a_ + b))) 1)) + m)) - s73.1)))))) (y_pick_f (congrArg Value.bool hc86) (congrArg Value.bool (by rw [hc86]; rfl))) ?_
        refine c_nil ?_
        exact ⟨_, fr_ovl 177 ⟨rfl, rfl, rfl, rfl, rfl, rfl, rfl, rfl, trivial⟩, hMid⟩
      ·rintro a1 w84 ⟨σ, rfl, hCs83⟩
       have hI_ := hE_.ext hI_ hCs83 (fun _ h => nomatch h)
       have hb1 := hb1.chg hCs83 (fun h => nomatch h)
       have hC := hC.ext hCs83
       have hO := hO.ext hCs83
       obtain ⟨s91, hm93, hs⟩ := bind_some hs
       refine c_mid (I := fun a w92 => ∃ (σ : Nat → Value), a = fr 177 (ovl σ [(1, (.int .i64 a_)), (3, (.int .i64 b)), (4, (.pointer (some ⟨g1, 0, none⟩))), (16, (.int .i64 (w64 (ishr .u64 (IntKind.u64.wrap (w64 (a_ + b))) 1)))), (18, (.int .i64 s73.1)), (22, (.int .i64 (w64 ((w64 ((w64 (ishr .u64 (IntKind.u64.wrap (w64 (a_ + b))) 1)) + m)) - s73.1))))]) ∧ Chg (G_ ++ ([])) w w92 ∧ Own (Nw w (G_ ++ ([]))) M w92 (([g1]) ++ (G_ ++ [])) ∧ I_ w92 s91 ∧ BoxV w92 g1 125 [(.func (.func g_) #[] lb_), (.func (.func sf_) #[] sb_)]) ?_ ?_
       ·replace hs := hm93
        rcases bif_some hs with ⟨hc95, hs⟩ | ⟨hc95, hs⟩
        ·skip
         refine c_condT (congrArg Value.bool hc95) ?_
         refine c_region ?_
         refine pl_val (.agg #[(.func (.func g_) #[] lb_), (.func (.func sf_) #[] sb_)]) (y_load rfl ((box_load Ag125 Sz125 hb1 [] [(.func (.func g_) #[] lb_), (.func (.func sf_) #[] sb_)] [] rfl rfl (fun h => nomatch h)) _ (Chg.refl _ _))) ?_
         refine pl_val (.int .i64 s73.1) (y_move rfl) ?_
         refine pl_val (.int .i64 m) (y_move rfl) ?_
         refine pl_val (.int .i64 (w64 ((w64 ((w64 (ishr .u64 (IntKind.u64.wrap (w64 (a_ + b))) 1)) + m)) - s73.1))) (y_move rfl) ?_
         have hO := hO.fr1
         have hI96 := Own.lend (F := (G_ ++ ([]))) (R := ([g1]) ++ ([])) (Own.perm hO (by simp))
         obtain ⟨r97, hr97, hs⟩ := bind_some hs
         refine pl_call Bd152 rfl (c_sort_rotate_func (M := M) ls_ d_ s73.1 m (w64 ((w64 ((w64 (ishr .u64 (IntKind.u64.wrap (w64 (a_ + b))) 1)) + m)) - s73.1)) (Nat.le_trans hN_ hC.size) hE_ hI_ hI96 hO.fut hr97) ?_
         rintro _ w96 ⟨rfl, hC96, hv96⟩
         have hb1 := hb1.chg hC96 (fun hg => hO.apart _ (nil_mem _ hg) (mem_l (List.mem_singleton.2 rfl)))
         have hC := hC.step hC96 (fun g hg => hO.inN g (nil_mem g hg))
         have hO := hO.ext hC96
         refine c_nil ?_
         cases hs
         have hO := hO.fr1
         exact ⟨_, fr_ovl 177 ⟨rfl, rfl, rfl, rfl, rfl, rfl, trivial⟩, hC, hO, hv96, hb1⟩
        ·skip
         refine c_condF (congrArg Value.bool hc95) ?_
         refine wp_skip ?_
         cases hs
         have hO := hO.fr1
         have hO := hO.fr1
         exact ⟨_, fr_ovl 177 ⟨rfl, rfl, rfl, rfl, rfl, rfl, trivial⟩, hC, hO, hI_, hb1⟩
       ·rintro a1 w92 ⟨σ, rfl, hC, hO, hv94, hb1⟩
        refine c_seq ?_
        refine c_seq ?_
        refine c_mid (I := fun a w99 => ∃ (σ : Nat → Value), a = fr 177 (ovl σ [(1, (.int .i64 a_)), (3, (.int .i64 b)), (4, (.pointer (some ⟨g1, 0, none⟩))), (16, (.int .i64 (w64 (ishr .u64 (IntKind.u64.wrap (w64 (a_ + b))) 1)))), (18, (.int .i64 s73.1)), (22, (.int .i64 (w64 ((w64 ((w64 (ishr .u64 (IntKind.u64.wrap (w64 (a_ + b))) 1)) + m)) - s73.1)))), (158, (.bool ((decide (a_ < s73.1)) && (decide (s73.1 < (w64 (ishr .u64 (IntKind.u64.wrap (w64 (a_ + b))) 1)))))))]) ∧ Chg [] w92 w99) ?_ ?_
        ·have hMid := Chg.refl [] w92
         refine c_region ?_
         refine pl_val (.int .i64 a_) (y_move rfl) ?_
         refine pl_val (.int .i64 s73.1) (y_move rfl) ?_
         refine pl_val (.bool (decide (a_ < s73.1))) (y_lss rfl rfl) ?_
         refine pl_val (.bool (decide (a_ < s73.1))) (y_move rfl) ?_
         rcases Bool.eq_false_or_eq_true ((decide (a_ < s73.1))) with hc101 | hc101
         ·skip
          refine pl_yes (.int .i64 s73.1) (tg := 154) (by kernel_rfl) (congrArg Value.bool hc101) (y_move rfl) ?_
          refine pl_yes (.int .i64 (w64 (ishr .u64 (IntKind.u64.wrap (w64 (a_ + b))) 1))) (tg := 154) (by kernel_rfl) (congrArg Value.bool hc101) (y_move rfl) ?_
          refine pl_yes (.bool (decide (s73.1 < (w64 (ishr .u64 (IntKind.u64.wrap (w64 (a_ + b))) 1))))) (tg := 154) (by kernel_rfl) (congrArg Value.bool hc101) (y_lss rfl rfl) ?_
          refine pl_val (.bool ((decide (a_ < s73.1)) && (decide (s73.1 < (w64 (ishr .u64 (IntKind.u64.wrap (w64 (a_ + b))) 1)))))) (y_pick_t (congrArg Value.bool hc101) (congrArg Value.bool (by rw [hc101]; rfl))) ?_
          refine c_nil ?_
          exact ⟨_, fr_ovl 177 ⟨rfl, rfl, rfl, rfl, rfl, rfl, rfl, trivial⟩, hMid⟩
         ·skip
          refine pl_not (tg := 154) (by kernel_rfl) (congrArg Value.bool hc101) ?_
          refine pl_not (tg := 154) (by kernel_rfl) (congrArg Value.bool hc101) ?_
          refine pl_not (tg := 154) (by kernel_rfl) (congrArg Value.bool hc101) ?_
          refine pl_val (.bool ((decide (a_ < s73.1)) && (decide (s73.1 < (w64 (ishr .u64 (IntKind.u64.wrap (w64 (a_ + b))) 1)))))) (y_pick_f (congrArg Value.bool hc101) (congrArg Value.bool (by rw [hc101]; rfl))) ?_
          refine c_nil ?_
          exact ⟨_, fr_ovl 177 ⟨rfl, rfl, rfl, rfl, rfl, rfl, rfl, trivial⟩, hMid⟩
        ·rintro a1 w99 ⟨σ, rfl, hCs98⟩
         have hv94 := hE_.ext hv94 hCs98 (fun _ h => nomatch h)
         have hb1 := hb1.chg hCs98 (fun h => nomatch h)
         have hC := hC.ext hCs98
         have hO := hO.ext hCs98
         obtain ⟨s106, hm108, hs⟩ := bind_some hs
         refine c_mid (I := fun a w107 => ∃ (σ : Nat → Value), a = fr 177 (ovl σ [(3, (.int .i64 b)), (4, (.pointer (some ⟨g1, 0, none⟩))), (16, (.int .i64 (w64 (ishr .u64 (IntKind.u64.wrap (w64 (a_ + b))) 1)))), (22, (.int .i64 (w64 ((w64 ((w64 (ishr .u64 (IntKind.u64.wrap (w64 (a_ + b))) 1)) + m)) - s73.1))))]) ∧ Chg (G_ ++ ([])) w w107 ∧ Own (Nw w (G_ ++ ([]))) M w107 (([g1]) ++ (G_ ++ [])) ∧ I_ w107 s106 ∧ BoxV w107 g1 125 [(.func (.func g_) #[] lb_), (.func (.func sf_) #[] sb_)]) ?_ ?_
         ·replace hs := hm108
          rcases bif_some hs with ⟨hc110, hs⟩ | ⟨hc110, hs⟩
          ·skip
           refine c_condT (congrArg Value.bool hc110) ?_
           refine c_region ?_
           refine pl_val (.agg #[(.func (.func g_) #[] lb_), (.func (.func sf_) #[] sb_)]) (y_load rfl ((box_load Ag125 Sz125 hb1 [] [(.func (.func g_) #[] lb_), (.func (.func sf_) #[] sb_)] [] rfl rfl (fun h => nomatch h)) _ (Chg.refl _ _))) ?_
           refine pl_val (.int .i64 a_) (y_move rfl) ?_
           refine pl_val (.int .i64 s73.1) (y_move rfl) ?_
           refine pl_val (.int .i64 (w64 (ishr .u64 (IntKind.u64.wrap (w64 (a_ + b))) 1))) (y_move rfl) ?_
           have hO := hO.fr1
           have hI111 := Own.lend (F := (G_ ++ ([]))) (R := ([g1]) ++ ([])) (Own.perm hO (by simp))
           obtain ⟨r112, hr112, hs⟩ := bind_some hs
           refine pl_call Bd151 rfl (c_ih (M := M) ls_ s91 a_ s73.1 (w64 (ishr .u64 (IntKind.u64.wrap (w64 (a_ + b))) 1)) (Nat.le_trans hN_ hC.size) hE_ hv94 hI111 hO.fut hr112) ?_
           rintro _ w111 ⟨rfl, hC111, hv111⟩
           have hb1 := hb1.chg hC111 (fun hg => hO.apart _ (nil_mem _ hg) (mem_l (List.mem_singleton.2 rfl)))
           have hC := hC.step hC111 (fun g hg => hO.inN g (nil_mem g hg))
           have hO := hO.ext hC111
           refine c_nil ?_
           cases hs
           have hO := hO.fr1
           exact ⟨_, fr_ovl 177 ⟨rfl, rfl, rfl, rfl, trivial⟩, hC, hO, hv111, hb1⟩
          ·skip
           refine c_condF (congrArg Value.bool hc110) ?_
           refine wp_skip ?_
           cases hs
           have hO := hO.fr1
           have hO := hO.fr1
           exact ⟨_, fr_ovl 177 ⟨rfl, rfl, rfl, rfl, trivial⟩, hC, hO, hv94, hb1⟩
         ·rintro a1 w107 ⟨σ, rfl, hC, hO, hv109, hb1⟩
          refine c_seq ?_
          refine c_mid (I := fun a w114 => ∃ (σ : Nat → Value), a = fr 177 (ovl σ [(3, (.int .i64 b)), (4, (.pointer (some ⟨g1, 0, none⟩))), (16, (.int .i64 (w64 (ishr .u64 (IntKind.u64.wrap (w64 (a_ + b))) 1)))), (22, (.int .i64 (w64 ((w64 ((w64 (ishr .u64 (IntKind.u64.wrap (w64 (a_ + b))) 1)) + m)) - s73.1)))), (171, (.bool ((decide ((w64 (ishr .u64 (IntKind.u64.wrap (w64 (a_ + b))) 1)) < (w64 ((w64 ((w64 (ishr .u64 (IntKind.u64.wrap (w64 (a_ + b))) 1)) + m)) - s73.1)))) && (decide ((w64 ((w64 ((w64 (ishr .u64 (IntKind.u64.wrap (w64 (a_ + b))) 1)) + m)) - s73.1)) < b)))))]) ∧ Chg [] w107 w114) ?_ ?_
          ·have hMid := Chg.refl [] w107
           refine c_region ?_
           refine pl_val (.int .i64 (w64 (ishr .u64 (IntKind.u64.wrap (w64 (a_ + b))) 1))) (y_move rfl) ?_
           refine pl_val (.int .i64 (w64 ((w64 ((w64 (ishr .u64 (IntKind.u64.wrap (w64 (a_ + b))) 1)) + m)) - s73.1))) (y_move rfl) ?_
           refine pl_val (.bool (decide ((w64 (ishr .u64 (IntKind.u64.wrap (w64 (a_ + b))) 1)) < (w64 ((w64 ((w64 (ishr .u64 (IntKind.u64.wrap (w64 (a_ + b))) 1)) + m)) - s73.1))))) (y_lss rfl rfl) ?_
           refine pl_val (.bool (decide ((w64 (ishr .u64 (IntKind.u64.wrap (w64 (a_ + b))) 1)) < (w64 ((w64 ((w64 (ishr .u64 (IntKind.u64.wrap (w64 (a_ + b))) 1)) + m)) - s73.1))))) (y_move rfl) ?_
           rcases Bool.eq_false_or_eq_true ((decide ((w64 (ishr .u64 (IntKind.u64.wrap (w64 (a_ + b))) 1)) < (w64 ((w64 ((w64 (ishr .u64 (IntKind.u64.wrap (w64 (a_ + b))) 1)) + m)) - s73.1))))) with hc116 | hc116
           ·skip
            refine pl_yes (.int .i64 (w64 ((w64 ((w64 (ishr .u64 (IntKind.u64.wrap (w64 (a_ + b))) 1)) + m)) - s73.1))) (tg := 167) (by kernel_rfl) (congrArg Value.bool hc116) (y_move rfl) ?_
            refine pl_yes (.int .i64 b) (tg := 167) (by kernel_rfl) (congrArg Value.bool hc116) (y_move rfl) ?_
            refine pl_yes (.bool (decide ((w64 ((w64 ((w64 (ishr .u64 (IntKind.u64.wrap (w64 (a_ + b))) 1)) + m)) - s73.1)) < b))) (tg := 167) (by kernel_rfl) (congrArg Value.bool hc116) (y_lss rfl rfl) ?_
            refine pl_val (.bool ((decide ((w64 (ishr .u64 (IntKind.u64.wrap (w64 (a_ + b))) 1)) < (w64 ((w64 ((w64 (ishr .u64 (IntKind.u64.wrap (w64 (a_ + b))) 1)) + m)) - s73.1)))) && (decide ((w64 ((w64 ((w64 (ishr .u64 (IntKind.u64.wrap (w64 (a_ + b))) 1)) + m)) - s73.1)) < b)))) (y_pick_t (congrArg Value.bool hc116) (congrArg Value.bool (by rw [hc116]; rfl))) ?_
            refine c_nil ?_
            exact ⟨_, fr_ovl 177 ⟨rfl, rfl, rfl, rfl, rfl, trivial⟩, hMid⟩
           ·skip
            refine pl_not (tg := 167) (by kernel_rfl) (congrArg Value.bool hc116) ?_
            refine pl_not (tg := 167) (by kernel_rfl) (congrArg Value.bool hc116) ?_
            refine pl_not (tg := 167) (by kernel_rfl) (congrArg Value.bool hc116) ?_
            refine pl_val (.bool ((decide ((w64 (ishr .u64 (IntKind.u64.wrap (w64 (a_ + b))) 1)) < (w64 ((w64 ((w64 (ishr .u64 (IntKind.u64.wrap (w64 (a_ + b))) 1)) + m)) - s73.1)))) && (decide ((w64 ((w64 ((w64 (ishr .u64 (IntKind.u64.wrap (w64 (a_ + b))) 1)) + m)) - s73.1)) < b)))) (y_pick_f (congrArg Value.bool hc116) (congrArg Value.bool (by rw [hc116]; rfl))) ?_
            refine c_nil ?_
            exact ⟨_, fr_ovl 177 ⟨rfl, rfl, rfl, rfl, rfl, trivial⟩, hMid⟩
          ·rintro a1 w114 ⟨σ, rfl, hCs113⟩
           have hv109 := hE_.ext hv109 hCs113 (fun _ h => nomatch h)
           have hb1 := hb1.chg hCs113 (fun h => nomatch h)
           have hC := hC.ext hCs113
           have hO := hO.ext hCs113
           rcases bif_some hs with ⟨hc117, hs⟩ | ⟨hc117, hs⟩
           ·skip
            refine c_condT (congrArg Value.bool hc117) ?_
            refine c_region ?_
            refine pl_val (.agg #[(.func (.func g_) #[] lb_), (.func (.func sf_) #[] sb_)]) (y_load rfl ((box_load Ag125 Sz125 hb1 [] [(.func (.func g_) #[] lb_), (.func (.func sf_) #[] sb_)] [] rfl rfl (fun h => nomatch h)) _ (Chg.refl _ _))) ?_
            refine pl_val (.int .i64 (w64 (ishr .u64 (IntKind.u64.wrap (w64 (a_ + b))) 1))) (y_move rfl) ?_
            refine pl_val (.int .i64 (w64 ((w64 ((w64 (ishr .u64 (IntKind.u64.wrap (w64 (a_ + b))) 1)) + m)) - s73.1))) (y_move rfl) ?_
            refine pl_val (.int .i64 b) (y_move rfl) ?_
            have hO := hO.fr1
            have hI118 := Own.lend (F := (G_ ++ ([]))) (R := ([g1]) ++ ([])) (Own.perm hO (by simp))
            obtain ⟨r119, hr119, hs⟩ := bind_some hs
            refine pl_call Bd151 rfl (c_ih (M := M) ls_ s106 (w64 (ishr .u64 (IntKind.u64.wrap (w64 (a_ + b))) 1)) (w64 ((w64 ((w64 (ishr .u64 (IntKind.u64.wrap (w64 (a_ + b))) 1)) + m)) - s73.1)) b (Nat.le_trans hN_ hC.size) hE_ hv109 hI118 hO.fut hr119) ?_
            rintro _ w118 ⟨rfl, hC118, hv118⟩
            have hb1 := hb1.chg hC118 (fun hg => hO.apart _ (nil_mem _ hg) (mem_l (List.mem_singleton.2 rfl)))
            have hC := hC.step hC118 (fun g hg => hO.inN g (nil_mem g hg))
            have hO := hO.ext hC118
            refine c_nil ?_
            cases hs
            exact ⟨_, fr_ovl 177 trivial, hC, hv118⟩
           ·skip
            refine c_condF (congrArg Value.bool hc117) ?_
            refine wp_skip ?_
            cases hs
            exact ⟨_, fr_ovl 177 trivial, hC, hv109⟩

theorem Bd150 : Bodied Try.prog 150 := bodied Try.func150 (by kernel_rfl) rfl

def k_sort_stable_func (M : Nat → Prop) (w0 : World) {α_ : Type} (I_ : World → List α_ → Prop) (G_ : List Nat) (r : (List α_)) (a : Act) (w : World) : Prop :=
  ∃ (σ : Nat → Value) , a = fr 57 (ovl σ []) ∧ Chg (G_ ++ ([])) w0 w ∧ I_ w r
def s_sort_stable_func {α_ : Type} (ls_ : α_ → α_ → Option Bool) (d_ : List α_) (n : Int) : Option ((List α_)) :=
  (iter (S := Int × Int × (List α_)) (R := (List α_)) (fun s9 =>
  (bif (decide (s9.2.1 ≤ n)) then (s_sort_insertionSort_func ls_ s9.2.2 s9.1 s9.2.1).bind fun r19 =>
  some (.nx (s9.2.1, w64 (s9.2.1 + 20), r19)) else some (.br (s9.1, s9.2.1, s9.2.2)))) FU (0, 20, d_)).bind fun o13 => after o13 (fun r_ => some r_) (fun s9 =>
  (s_sort_insertionSort_func ls_ s9.2.2 s9.1 n).bind fun r21 =>
  (iter (S := Int × Int × Int × (List α_)) (R := (List α_)) (fun s67 =>
  (bif (decide (s67.1 < n)) then (iter (S := Int × Int × (List α_)) (R := (List α_)) (fun s83 =>
  (bif (decide (s83.2.1 ≤ n)) then (s_sort_symMerge_func FU ls_ s83.2.2 s83.1 (w64 (s83.1 + s67.1)) s83.2.1).bind fun r93 =>
  some (.nx (s83.2.1, w64 (s83.2.1 + (w64 (2 * s67.1))), r93)) else some (.br (s83.1, s83.2.1, s83.2.2)))) FU (0, w64 (2 * s67.1), s67.2.2.2)).bind fun o87 => after o87 (fun r_ => some (.rt r_)) (fun s83 =>
  (bif (decide ((w64 (s83.1 + s67.1)) < n)) then (s_sort_symMerge_func FU ls_ s83.2.2 s83.1 (w64 (s83.1 + s67.1)) n).bind fun r96 =>
  some (.nx (w64 (s67.1 * 2), s83.1, s83.2.1, r96)) else some (.nx (w64 (s67.1 * 2), s83.1, s83.2.1, s83.2.2)))) else some (.br (s67.1, s67.2.1, s67.2.2.1, s67.2.2.2)))) FU (20, s9.1, s9.2.1, r21)).bind fun o71 => after o71 (fun r_ => some r_) (fun s67 =>
  some s67.2.2.2))
set_option maxHeartbeats 4000000 in
theorem c_sort_stable_func {M : Nat → Prop} {w : World} {α_ : Type} {n0_ : Nat} {I_ : World → List α_ → Prop} {G_ : List Nat} {g_ sf_ : Nat} {lb_ sb_ : Array Value} (ls_ : α_ → α_ → Option Bool) (d_ : List α_) (n : Int) (hN_ : n0_ ≤ w.heap.size) (hE_ : Env Try.prog n0_ I_ G_ ls_ g_ lb_ sf_ sb_) (hI_ : I_ w d_) (hI : Own (Nw w (G_ ++ ([]))) M w (G_ ++ ([]))) (hM : ∀ g, w.heap.size ≤ g → M g) {r : (List α_)} (hs : s_sort_stable_func ls_ d_ n = some r) :
    Gives Try.prog 139 [(.agg #[(.func (.func g_) #[] lb_), (.func (.func sf_) #[] sb_)]), (.int .i64 n)] w (fun v w' => v = (.tuple #[]) ∧ Chg (G_ ++ ([])) w w' ∧ I_ w' r) := by
 refine calls_fr Try.func139 rfl Try.ntmps139 (Nat.le_of_ble_eq_true rfl) ?_
 have hO := hI
 have hC := Chg.refl (G_ ++ ([])) w
 unfold s_sort_stable_func at hs
 refine wp_mono (Q := KPostN (k_sort_stable_func M w I_ G_ r)) ?_ (fun e a w1 h => ?_)
 rotate_left
 ·cases e
  case ret =>
   obtain ⟨σ, rfl, hrest⟩ := h
   exact ret0x Try.results139  ⟨rfl, hrest⟩
  case normal =>
   obtain ⟨σ, rfl, hrest⟩ := h
   exact ret0n Try.results139  ⟨rfl, hrest⟩
  all_goals exact (h : False).elim
 refine c_seq (c_region ?_)
 obtain ⟨w1, g1, ew1, eg1, hC1, hb1⟩ := new_block w [(.func (.func g_) #[] lb_), (.func (.func sf_) #[] sb_)] 125
 refine pl_val (w' := w1) (.pointer (some ⟨g1, 0, none⟩)) (y_box rfl (by rw [ew1, eg1]; kernel_rfl)) ?_
 have hI_ := hE_.ext hI_ hC1 (fun _ h => nomatch h)
 have hC := hC.ext hC1
 have hO := hO.new1 hC1 eg1 hb1.lt
 refine c_nil ?_
 refine c_seq (c_region ?_)
 refine pl_val (.int .i64 20) (y_assign rfl) ?_
 refine c_nil ?_
 refine c_seq (c_region ?_)
 refine pl_val (.int .i64 20) (y_move rfl) ?_
 refine pl_val (.int .i64 0) (y_assign rfl) ?_
 refine pl_val (.int .i64 20) (y_assign rfl) ?_
 refine c_nil ?_
 refine c_seq ?_
 obtain ⟨o13, hl14, hs⟩ := bind_some hs
 refine wp_block ?_
 refine wp_iter (id := 0) (I := fun s9 a w10 => ∃ (σ : Nat → Value), a = fr 57 (ovl σ [(1, (.int .i64 n)), (2, (.pointer (some ⟨g1, 0, none⟩))), (4, (.int .i64 20)), (5, (.int .i64 s9.1)), (6, (.int .i64 s9.2.1))]) ∧ Chg (G_ ++ ([])) w w10 ∧ Own (Nw w (G_ ++ ([]))) M w10 (([g1]) ++ (G_ ++ [])) ∧ I_ w10 s9.2.2 ∧ BoxV w10 g1 125 [(.func (.func g_) #[] lb_), (.func (.func sf_) #[] sb_)]) (J := fun s9 a w10 => ∃ (σ : Nat → Value), a = fr 57 (ovl σ [(1, (.int .i64 n)), (2, (.pointer (some ⟨g1, 0, none⟩))), (4, (.int .i64 20)), (5, (.int .i64 s9.1)), (6, (.int .i64 s9.2.1))]) ∧ Chg (G_ ++ ([])) w w10 ∧ Own (Nw w (G_ ++ ([]))) M w10 (([g1]) ++ (G_ ++ [])) ∧ I_ w10 s9.2.2 ∧ BoxV w10 g1 125 [(.func (.func g_) #[] lb_), (.func (.func sf_) #[] sb_)]) (K := (k_sort_stable_func M w I_ G_)) ?_ FU (0, 20, d_) o13 _ _ ?_ hl14 ?_
 ·rintro s9 o13 a w10 ⟨σ, rfl, hC, hO, hv15, hb1⟩ hs
  refine c_seq ?_
  refine c_seq (c_region ?_)
  refine pl_val (.int .i64 s9.2.1) (y_move rfl) ?_
  refine pl_val (.int .i64 n) (y_move rfl) ?_
  refine pl_val (.bool (decide (s9.2.1 ≤ n))) (y_leq rfl rfl) ?_
  refine c_nil ?_
  rcases bif_some hs with ⟨hc17, hs⟩ | ⟨hc17, hs⟩
  ·skip
   refine c_condT (congrArg Value.bool hc17) ?_
   refine wp_skip ?_
   refine wp_block ?_
   refine c_seq (c_region ?_)
   refine pl_val (.agg #[(.func (.func g_) #[] lb_), (.func (.func sf_) #[] sb_)]) (y_load rfl ((box_load Ag125 Sz125 hb1 [] [(.func (.func g_) #[] lb_), (.func (.func sf_) #[] sb_)] [] rfl rfl (fun h => nomatch h)) _ (Chg.refl _ _))) ?_
   refine pl_val (.int .i64 s9.1) (y_move rfl) ?_
   refine pl_val (.int .i64 s9.2.1) (y_move rfl) ?_
   have hO := hO.fr1
   have hI18 := Own.lend (F := (G_ ++ ([]))) (R := ([g1]) ++ ([])) (Own.perm hO (by simp))
   obtain ⟨r19, hr19, hs⟩ := bind_some hs
   refine pl_call Bd150 rfl (c_sort_insertionSort_func (M := M) ls_ s9.2.2 s9.1 s9.2.1 (Nat.le_trans hN_ hC.size) hE_ hv15 hI18 hO.fut hr19) ?_
   rintro _ w18 ⟨rfl, hC18, hv18⟩
   have hb1 := hb1.chg hC18 (fun hg => hO.apart _ (nil_mem _ hg) (mem_l (List.mem_singleton.2 rfl)))
   have hC := hC.step hC18 (fun g hg => hO.inN g (nil_mem g hg))
   have hO := hO.ext hC18
   refine c_nil ?_
   refine c_seq (c_region ?_)
   refine pl_val (.int .i64 s9.2.1) (y_move rfl) ?_
   refine pl_val (.int .i64 s9.2.1) (y_assign rfl) ?_
   refine c_nil ?_
   refine c_region ?_
   refine pl_val (.int .i64 s9.2.1) (y_move rfl) ?_
   refine pl_val (.int .i64 20) (y_move rfl) ?_
   refine pl_val (.int .i64 (w64 (s9.2.1 + 20))) (y_add rfl rfl) ?_
   refine pl_val (.int .i64 (w64 (s9.2.1 + 20))) (y_assign rfl) ?_
   refine c_nil ?_
   cases hs
   have hO := hO.fr1
   exact ⟨_, fr_ovl 57 ⟨rfl, rfl, rfl, rfl, rfl, trivial⟩, hC, hO, hv18, hb1⟩
  ·skip
   refine c_condF (congrArg Value.bool hc17) ?_
   refine wp_exit ?_
   cases hs
   have hO := hO.fr1
   have hO := hO.fr1
   exact ⟨rfl, _, fr_ovl 57 ⟨rfl, rfl, rfl, rfl, rfl, trivial⟩, hC, hO, hv15, hb1⟩
 ·skip
  have hO := hO.fr1
  have hO := hO.fr1
  exact ⟨_, fr_ovl 57 ⟨rfl, rfl, rfl, rfl, rfl, trivial⟩, hC, hO, hI_, hb1⟩
 ·cases o13 with
  | nx _ => exact True.intro
  | rt r_ =>
   have hs := after_rt hs
   intro a1 w1 hK
   cases hs
   exact hK
  | br s9 =>
   have hs := after_br hs
   rintro a1 w10 ⟨σ, rfl, hC, hO, hv16, hb1⟩
   refine c_seq (c_region ?_)
   refine pl_val (.agg #[(.func (.func g_) #[] lb_), (.func (.func sf_) #[] sb_)]) (y_load rfl ((box_load Ag125 Sz125 hb1 [] [(.func (.func g_) #[] lb_), (.func (.func sf_) #[] sb_)] [] rfl rfl (fun h => nomatch h)) _ (Chg.refl _ _))) ?_
   refine pl_val (.int .i64 s9.1) (y_move rfl) ?_
   refine pl_val (.int .i64 n) (y_move rfl) ?_
   have hO := hO.fr1
   have hI20 := Own.lend (F := (G_ ++ ([]))) (R := ([g1]) ++ ([])) (Own.perm hO (by simp))
   obtain ⟨r21, hr21, hs⟩ := bind_some hs
   refine pl_call Bd150 rfl (c_sort_insertionSort_func (M := M) ls_ s9.2.2 s9.1 n (Nat.le_trans hN_ hC.size) hE_ hv16 hI20 hO.fut hr21) ?_
   rintro _ w20 ⟨rfl, hC20, hv20⟩
   have hb1 := hb1.chg hC20 (fun hg => hO.apart _ (nil_mem _ hg) (mem_l (List.mem_singleton.2 rfl)))
   have hC := hC.step hC20 (fun g hg => hO.inN g (nil_mem g hg))
   have hO := hO.ext hC20
   refine c_nil ?_
   obtain ⟨o71, hl72, hs⟩ := bind_some hs
   refine wp_block ?_
   refine wp_iter (id := 2) (I := fun s67 a w68 => ∃ (σ : Nat → Value), a = fr 57 (ovl σ [(1, (.int .i64 n)), (2, (.pointer (some ⟨g1, 0, none⟩))), (4, (.int .i64 s67.1)), (5, (.int .i64 s67.2.1)), (6, (.int .i64 s67.2.2.1))]) ∧ Chg (G_ ++ ([])) w w68 ∧ Own (Nw w (G_ ++ ([]))) M w68 (G_ ++ (([g1]) ++ [])) ∧ I_ w68 s67.2.2.2 ∧ BoxV w68 g1 125 [(.func (.func g_) #[] lb_), (.func (.func sf_) #[] sb_)]) (J := fun s67 a w68 => ∃ (σ : Nat → Value), a = fr 57 (ovl σ []) ∧ Chg (G_ ++ ([])) w w68 ∧ Own (Nw w (G_ ++ ([]))) M w68 (G_ ++ (([g1]) ++ [])) ∧ I_ w68 s67.2.2.2 ∧ BoxV w68 g1 125 [(.func (.func g_) #[] lb_), (.func (.func sf_) #[] sb_)]) (K := (k_sort_stable_func M w I_ G_)) ?_ FU (20, s9.1, s9.2.1, r21) o71 _ _ ?_ hl72 ?_
   ·rintro s67 o71 a w68 ⟨σ, rfl, hC, hO, hv73, hb1⟩ hs
    refine c_seq ?_
    refine c_seq (c_region ?_)
    refine pl_val (.int .i64 s67.1) (y_move rfl) ?_
    refine pl_val (.int .i64 n) (y_move rfl) ?_
    refine pl_val (.bool (decide (s67.1 < n))) (y_lss rfl rfl) ?_
    refine c_nil ?_
    rcases bif_some hs with ⟨hc75, hs⟩ | ⟨hc75, hs⟩
    ·skip
     refine c_condT (congrArg Value.bool hc75) ?_
     refine wp_skip ?_
     refine wp_block ?_
     refine c_seq (c_region ?_)
     refine pl_val (.int .i64 s67.1) (y_move rfl) ?_
     refine pl_val (.int .i64 (w64 (2 * s67.1))) (y_mul rfl rfl) ?_
     refine pl_val (.int .i64 0) (y_assign rfl) ?_
     refine pl_val (.int .i64 (w64 (2 * s67.1))) (y_assign rfl) ?_
     refine c_nil ?_
     refine c_seq ?_
     obtain ⟨o87, hl88, hs⟩ := bind_some hs
     refine wp_block ?_
     refine wp_iter (id := 4) (I := fun s83 a w84 => ∃ (σ : Nat → Value), a = fr 57 (ovl σ [(1, (.int .i64 n)), (2, (.pointer (some ⟨g1, 0, none⟩))), (4, (.int .i64 s67.1)), (5, (.int .i64 s83.1)), (6, (.int .i64 s83.2.1))]) ∧ Chg (G_ ++ ([])) w w84 ∧ Own (Nw w (G_ ++ ([]))) M w84 (G_ ++ (([g1]) ++ [])) ∧ I_ w84 s83.2.2 ∧ BoxV w84 g1 125 [(.func (.func g_) #[] lb_), (.func (.func sf_) #[] sb_)]) (J := fun s83 a w84 => ∃ (σ : Nat → Value), a = fr 57 (ovl σ [(1, (.int .i64 n)), (2, (.pointer (some ⟨g1, 0, none⟩))), (4, (.int .i64 s67.1)), (5, (.int .i64 s83.1)), (6, (.int .i64 s83.2.1))]) ∧ Chg (G_ ++ ([])) w w84 ∧ Own (Nw w (G_ ++ ([]))) M w84 (G_ ++ (([g1]) ++ [])) ∧ I_ w84 s83.2.2 ∧ BoxV w84 g1 125 [(.func (.func g_) #[] lb_), (.func (.func sf_) #[] sb_)]) (K := (k_sort_stable_func M w I_ G_)) ?_ FU (0, w64 (2 * s67.1), s67.2.2.2) o87 _ _ ?_ hl88 ?_
     ·rintro s83 o87 a w84 ⟨σ, rfl, hC, hO, hv89, hb1⟩ hs
      refine c_seq ?_
      refine c_seq (c_region ?_)
      refine pl_val (.int .i64 s83.2.1) (y_move rfl) ?_
      refine pl_val (.int .i64 n) (y_move rfl) ?_
      refine pl_val (.bool (decide (s83.2.1 ≤ n))) (y_leq rfl rfl) ?_
      refine c_nil ?_
      rcases bif_some hs with ⟨hc91, hs⟩ | ⟨hc91, hs⟩
      ·skip
       refine c_condT (congrArg Value.bool hc91) ?_
       refine wp_skip ?_
       refine wp_block ?_
       refine c_seq (c_region ?_)
       refine pl_val (.agg #[(.func (.func g_) #[] lb_), (.func (.func sf_) #[] sb_)]) (y_load rfl ((box_load Ag125 Sz125 hb1 [] [(.func (.func g_) #[] lb_), (.func (.func sf_) #[] sb_)] [] rfl rfl (fun h => nomatch h)) _ (Chg.refl _ _))) ?_
       refine pl_val (.int .i64 s83.1) (y_move rfl) ?_
       refine pl_val (.int .i64 s83.1) (y_move rfl) ?_
       refine pl_val (.int .i64 s67.1) (y_move rfl) ?_
       refine pl_val (.int .i64 (w64 (s83.1 + s67.1))) (y_add rfl rfl) ?_
       refine pl_val (.int .i64 s83.2.1) (y_move rfl) ?_
       have hI92 := Own.lend (F := (G_ ++ ([]))) (R := ([g1]) ++ ([])) (Own.perm hO (by simp))
       obtain ⟨r93, hr93, hs⟩ := bind_some hs
       refine pl_call Bd151 rfl (c_sort_symMerge_func (M := M) FU ls_ s83.2.2 s83.1 (w64 (s83.1 + s67.1)) s83.2.1 (Nat.le_trans hN_ hC.size) hE_ hv89 hI92 hO.fut hr93) ?_
       rintro _ w92 ⟨rfl, hC92, hv92⟩
       have hb1 := hb1.chg hC92 (fun hg => hO.apart _ (nil_mem _ hg) (mem_l (List.mem_singleton.2 rfl)))
       have hC := hC.step hC92 (fun g hg => hO.inN g (nil_mem g hg))
       have hO := hO.ext hC92
       refine c_nil ?_
       refine c_seq (c_region ?_)
       refine pl_val (.int .i64 s83.2.1) (y_move rfl) ?_
       refine pl_val (.int .i64 s83.2.1) (y_assign rfl) ?_
       refine c_nil ?_
       refine c_region ?_
       refine pl_val (.int .i64 s83.2.1) (y_move rfl) ?_
       refine pl_val (.int .i64 s67.1) (y_move rfl) ?_
       refine pl_val (.int .i64 (w64 (2 * s67.1))) (y_mul rfl rfl) ?_
       refine pl_val (.int .i64 (w64 (s83.2.1 + (w64 (2 * s67.1))))) (y_add rfl rfl) ?_
       refine pl_val (.int .i64 (w64 (s83.2.1 + (w64 (2 * s67.1))))) (y_assign rfl) ?_
       refine c_nil ?_
       cases hs
       have hO := hO.fr1
       have hO := hO.fr1
       exact ⟨_, fr_ovl 57 ⟨rfl, rfl, rfl, rfl, rfl, trivial⟩, hC, hO, hv92, hb1⟩
      ·skip
       refine c_condF (congrArg Value.bool hc91) ?_
       refine wp_exit ?_
       cases hs
       have hO := hO.fr1
       have hO := hO.fr1
       exact ⟨rfl, _, fr_ovl 57 ⟨rfl, rfl, rfl, rfl, rfl, trivial⟩, hC, hO, hv89, hb1⟩
     ·skip
      have hO := hO.fr1
      have hO := hO.fr1
      exact ⟨_, fr_ovl 57 ⟨rfl, rfl, rfl, rfl, rfl, trivial⟩, hC, hO, hv73, hb1⟩
     ·cases o87 with
      | nx _ => exact True.intro
      | rt r_ =>
       have hs := after_rt hs
       intro a1 w1 hK
       cases hs
       exact hK
      | br s83 =>
       have hs := after_br hs
       rintro a1 w84 ⟨σ, rfl, hC, hO, hv90, hb1⟩
       refine c_seq ?_
       refine c_seq (c_region ?_)
       refine pl_val (.int .i64 s83.1) (y_move rfl) ?_
       refine pl_val (.int .i64 s67.1) (y_move rfl) ?_
       refine pl_val (.int .i64 (w64 (s83.1 + s67.1))) (y_add rfl rfl) ?_
       refine pl_val (.int .i64 (w64 (s83.1 + s67.1))) (y_assign rfl) ?_
       refine c_nil ?_
       refine c_seq (c_region ?_)
       refine pl_val (.int .i64 (w64 (s83.1 + s67.1))) (y_move rfl) ?_
       refine pl_val (.int .i64 n) (y_move rfl) ?_
       refine pl_val (.bool (decide ((w64 (s83.1 + s67.1)) < n))) (y_lss rfl rfl) ?_
       refine c_nil ?_
       rcases bif_some hs with ⟨hc94, hs⟩ | ⟨hc94, hs⟩
       ·skip
        refine c_condT (congrArg Value.bool hc94) ?_
        refine c_region ?_
        refine pl_val (.agg #[(.func (.func g_) #[] lb_), (.func (.func sf_) #[] sb_)]) (y_load rfl ((box_load Ag125 Sz125 hb1 [] [(.func (.func g_) #[] lb_), (.func (.func sf_) #[] sb_)] [] rfl rfl (fun h => nomatch h)) _ (Chg.refl _ _))) ?_
        refine pl_val (.int .i64 s83.1) (y_move rfl) ?_
        refine pl_val (.int .i64 (w64 (s83.1 + s67.1))) (y_move rfl) ?_
        refine pl_val (.int .i64 n) (y_move rfl) ?_
        have hI95 := Own.lend (F := (G_ ++ ([]))) (R := ([g1]) ++ ([])) (Own.perm hO (by simp))
        obtain ⟨r96, hr96, hs⟩ := bind_some hs
        refine pl_call Bd151 rfl (c_sort_symMerge_func (M := M) FU ls_ s83.2.2 s83.1 (w64 (s83.1 + s67.1)) n (Nat.le_trans hN_ hC.size) hE_ hv90 hI95 hO.fut hr96) ?_
        rintro _ w95 ⟨rfl, hC95, hv95⟩
        have hb1 := hb1.chg hC95 (fun hg => hO.apart _ (nil_mem _ hg) (mem_l (List.mem_singleton.2 rfl)))
        have hC := hC.step hC95 (fun g hg => hO.inN g (nil_mem g hg))
        have hO := hO.ext hC95
        refine c_nil ?_
        refine c_region ?_
        refine pl_val (.int .i64 s67.1) (y_move rfl) ?_
        refine pl_val (.int .i64 (w64 (s67.1 * 2))) (y_mul rfl rfl) ?_
        refine pl_val (.int .i64 (w64 (s67.1 * 2))) (y_assign rfl) ?_
        refine c_nil ?_
        cases hs
        have hO := hO.fr1
        have hO := hO.fr1
        exact ⟨_, fr_ovl 57 ⟨rfl, rfl, rfl, rfl, rfl, trivial⟩, hC, hO, hv95, hb1⟩
       ·skip
        refine c_condF (congrArg Value.bool hc94) ?_
        refine wp_skip ?_
        refine c_region ?_
        refine pl_val (.int .i64 s67.1) (y_move rfl) ?_
        refine pl_val (.int .i64 (w64 (s67.1 * 2))) (y_mul rfl rfl) ?_
        refine pl_val (.int .i64 (w64 (s67.1 * 2))) (y_assign rfl) ?_
        refine c_nil ?_
        cases hs
        have hO := hO.fr1
        have hO := hO.fr1
        exact ⟨_, fr_ovl 57 ⟨rfl, rfl, rfl, rfl, rfl, trivial⟩, hC, hO, hv90, hb1⟩
    ·skip
     refine c_condF (congrArg Value.bool hc75) ?_
     refine wp_exit ?_
     cases hs
     have hO := hO.fr1
     have hO := hO.fr1
     exact ⟨rfl, _, fr_ovl 57 trivial, hC, hO, hv73, hb1⟩
   ·skip
    have hO := hO.fr1
    have hO := hO.fr1
    exact ⟨_, fr_ovl 57 ⟨rfl, rfl, rfl, rfl, rfl, trivial⟩, hC, hO, hv20, hb1⟩
   ·cases o71 with
    | nx _ => exact True.intro
    | rt r_ =>
     have hs := after_rt hs
     intro a1 w1 hK
     cases hs
     exact hK
    | br s67 =>
     have hs := after_br hs
     rintro a1 w68 ⟨σ, rfl, hC, hO, hv74, hb1⟩
     cases hs
     exact ⟨_, fr_ovl 57 trivial, hC, hv74⟩

def k_impl_blockCount (M : Nat → Prop) (w0 : World) (r : Int) (a : Act) (w : World) : Prop :=
  ∃ (σ : Nat → Value) , a = fr 20 (ovl σ [(2, (.int .i64 r))]) ∧ Chg [] w0 w
def s_impl_blockCount (p : List Int) : Option (Int) :=
  (forC (S := Int) (R := Int) (fun k7 s5 =>
  (idx p k7).bind fun x11 =>
  (bif (x11 == k7) then some (.nx (w64 (s5 + 1))) else some (.nx s5))) 0 (p.length : Int) 0).bind fun o9 => after o9 (fun r_ => some r_) (fun s5 =>
  some s5)
set_option maxHeartbeats 4000000 in
theorem c_impl_blockCount {M : Nat → Prop} {w : World} {pa0 : Option Addr} {pn0 pc0 : Nat} (p : List Int) (h0 : (RT.rs (RT.int .i64)).val M w (.slice pa0 pn0 pc0) p ([])) (hM : ∀ g, w.heap.size ≤ g → M g) {r : Int} (hs : s_impl_blockCount p = some r) :
    Gives Try.prog 99 [(.slice pa0 pn0 pc0)] w (fun v w' => v = (.int .i64 r) ∧ Chg [] w w') := by
 refine calls_fr Try.func99 rfl Try.ntmps99 (Nat.le_of_ble_eq_true rfl) ?_
 have hO := Own.start (N := Nw w []) hM Nw.fut
 have hC := Chg.refl [] w
 unfold s_impl_blockCount at hs
 refine wp_mono (Q := KPost (k_impl_blockCount M w r)) ?_ (fun e a w1 h => ?_)
 rotate_left
 ·cases e
  case ret =>
   obtain ⟨σ, rfl, hrest⟩ := h
   exact ret1x Try.results99 (res_tmp rfl) ⟨rfl, hrest⟩
  all_goals exact (h : False).elim
 refine c_seq (c_region ?_)
 refine pl_val (.int .i64 0) (y_assign rfl) ?_
 refine c_nil ?_
 refine c_seq (c_region ?_)
 refine pl_val (.int .i64 0) (y_assign rfl) ?_
 refine c_nil ?_
 refine c_seq ?_
 refine c_seq (c_region ?_)
 refine pl_val (.slice pa0 pn0 pc0) (y_move rfl) ?_
 refine pl_val (.int .i64 (p.length : Int)) (y_len' Sl22 (rs_len h0) rfl) ?_
 refine pl_val (.int .i64 0) (y_move rfl) ?_
 refine c_nil ?_
 obtain ⟨o9, hl10, hs⟩ := bind_some hs
 refine wp_block ?_
 refine wp_forC (id := 0) (p.length : Int) (I := fun k7 s5 a w6 => ∃ (σ : Nat → Value), a = fr 20 (ovl σ [(3, (.int .i64 s5)), (6, (.slice pa0 pn0 pc0)), (7, (.int .i64 (p.length : Int))), (8, (.int .i64 k7))]) ∧ Chg [] w w6 ∧ Own (Nw w []) M w6 ([]) ∧ (RT.rs (RT.int .i64)).val M w6 (.slice pa0 pn0 pc0) p ([])) (J := fun s5 a w6 => ∃ (σ : Nat → Value), a = fr 20 (ovl σ [(3, (.int .i64 s5))]) ∧ Chg [] w w6 ∧ Own (Nw w []) M w6 ([]) ∧ (RT.rs (RT.int .i64)).val M w6 (.slice pa0 pn0 pc0) p ([])) (K := (k_impl_blockCount M w)) ?_ ?_ 0 0 o9 _ _ ?_ hl10 ?_
 ·rintro k7 s5 a w6 ⟨σ, rfl, hC, hO, h0⟩ hlt
  refine c_seq (c_region ?_)
  refine pl_val (.bool (decide (k7 < (p.length : Int)))) (y_lss rfl rfl) ?_
  refine c_nil ?_
  refine c_seq ?_
  refine c_condF (congrArg Value.bool (decide_eq_false hlt)) ?_
  refine wp_exit ?_
  exact ⟨rfl, _, fr_ovl 20 ⟨rfl, trivial⟩, hC, hO, h0⟩
 ·rintro k7 s5 o9 a w6 ⟨σ, rfl, hC, hO, h0⟩ hlt hw hs
  refine c_seq (c_region ?_)
  refine pl_val (.bool (decide (k7 < (p.length : Int)))) (y_lss rfl rfl) ?_
  refine c_nil ?_
  refine c_seq ?_
  refine c_condT (congrArg Value.bool (decide_eq_true hlt)) ?_
  refine wp_skip ?_
  refine c_seq ?_
  refine wp_block ?_
  refine c_seq (c_region ?_)
  refine pl_val (.int .i64 k7) (y_move rfl) ?_
  obtain ⟨x11, hx11, hs⟩ := bind_some hs
  obtain ⟨b12, o12, hp12, ha12⟩ := rs_idx Sl22 Sz3 h0 hx11
  refine pl_val (.pointer (some ⟨b12, o12, none⟩)) (hp12 _ _ _ _ _ _ _ _ _ rfl rfl) ?_
  refine pl_val (.int .i64 x11) (y_load rfl ((at_load_int Ag3 Sz3 ha12) _ (Chg.refl _ _))) ?_
  refine pl_val (.int .i64 k7) (y_assign rfl) ?_
  refine pl_val (.int .i64 x11) (y_assign rfl) ?_
  refine c_nil ?_
  refine c_seq (c_region ?_)
  refine pl_val (.int .i64 x11) (y_move rfl) ?_
  refine pl_val (.int .i64 k7) (y_move rfl) ?_
  refine pl_val (.bool (x11 == k7)) (y_eql rfl rfl) ?_
  refine c_nil ?_
  rcases bif_some hs with ⟨hc13, hs⟩ | ⟨hc13, hs⟩
  ·skip
   refine c_condT (congrArg Value.bool hc13) ?_
   refine c_region ?_
   refine pl_val (.int .i64 s5) (y_move rfl) ?_
   refine pl_val (.int .i64 (w64 (s5 + 1))) (y_add rfl rfl) ?_
   refine pl_val (.int .i64 (w64 (s5 + 1))) (y_assign rfl) ?_
   refine c_nil ?_
   refine c_region ?_
   refine pl_val (.int .i64 (w64 (k7 + 1))) (y_add rfl rfl) ?_
   refine pl_val (.int .i64 (w64 (k7 + 1))) (y_move rfl) ?_
   refine c_nil ?_
   cases hs
   exact ⟨_, fr_ovl 20 ⟨rfl, rfl, rfl, congrArg (Value.int .i64) hw, trivial⟩, hC, hO, h0⟩
  ·skip
   refine c_condF (congrArg Value.bool hc13) ?_
   refine wp_skip ?_
   refine c_region ?_
   refine pl_val (.int .i64 (w64 (k7 + 1))) (y_add rfl rfl) ?_
   refine pl_val (.int .i64 (w64 (k7 + 1))) (y_move rfl) ?_
   refine c_nil ?_
   cases hs
   exact ⟨_, fr_ovl 20 ⟨rfl, rfl, rfl, congrArg (Value.int .i64) hw, trivial⟩, hC, hO, h0⟩
 ·skip
  exact ⟨_, fr_ovl 20 ⟨rfl, rfl, rfl, rfl, trivial⟩, hC, hO, h0⟩
 ·cases o9 with
  | nx _ => exact True.intro
  | rt r_ =>
   have hs := after_rt hs
   intro a1 w1 hK
   cases hs
   exact hK
  | br s5 =>
   have hs := after_br hs
   rintro a1 w6 ⟨σ, rfl, hC, hO, h0⟩
   refine c_seq (c_region ?_)
   refine pl_val (.int .i64 s5) (y_move rfl) ?_
   refine pl_val (.int .i64 s5) (y_assign rfl) ?_
   refine c_nil ?_
   refine wp_ret ?_
   cases hs
   exact ⟨_, fr_ovl 20 ⟨rfl, trivial⟩, hC⟩

def k_impl_compareLists (M : Nat → Prop) (w0 : World) (r : Int) (a : Act) (w : World) : Prop :=
  ∃ (σ : Nat → Value) , a = fr 48 (ovl σ [(4, (.int .i64 r))]) ∧ Chg [] w0 w
def s_impl_compareLists (s_ : List Int) (t : List Int) : Option (Int) :=
  (iter (S := Int) (R := Int) (fun s25 =>
  (bif ((decide (s25 < (s_.length : Int))) && (decide (s25 < (t.length : Int)))) then (idx s_ s25).bind fun x42 =>
  (idx t s25).bind fun x44 =>
  (bif (x42 != x44) then (idx s_ s25).bind fun x48 =>
  (idx t s25).bind fun x50 =>
  (bif (decide (x48 < x50)) then some (.rt (-1)) else some (.rt 1)) else some (.nx (w64 (s25 + 1)))) else some (.br s25))) FU 0).bind fun o29 => after o29 (fun r_ => some r_) (fun s25 =>
  (bif (decide ((s_.length : Int) < (t.length : Int))) then some (-1) else (bif (decide ((t.length : Int) < (s_.length : Int))) then some 1 else some 0)))
set_option maxHeartbeats 4000000 in
theorem c_impl_compareLists {M : Nat → Prop} {w : World} {pa0 : Option Addr} {pn0 pc0 : Nat} {pa1 : Option Addr} {pn1 pc1 : Nat} (s_ : List Int) (t : List Int) (h0 : (RT.rs (RT.int .i64)).val M w (.slice pa0 pn0 pc0) s_ ([])) (h1 : (RT.rs (RT.int .i64)).val M w (.slice pa1 pn1 pc1) t ([])) (hM : ∀ g, w.heap.size ≤ g → M g) {r : Int} (hs : s_impl_compareLists s_ t = some r) :
    Gives Try.prog 132 [(.slice pa0 pn0 pc0), (.slice pa1 pn1 pc1)] w (fun v w' => v = (.int .i64 r) ∧ Chg [] w w') := by
 refine calls_fr Try.func132 rfl Try.ntmps132 (Nat.le_of_ble_eq_true rfl) ?_
 have hO := Own.start (N := Nw w []) hM Nw.fut
 have hC := Chg.refl [] w
 unfold s_impl_compareLists at hs
 refine wp_mono (Q := KPost (k_impl_compareLists M w r)) ?_ (fun e a w1 h => ?_)
 rotate_left
 ·cases e
  case ret =>
   obtain ⟨σ, rfl, hrest⟩ := h
   exact ret1x Try.results132 (res_tmp rfl) ⟨rfl, hrest⟩
  all_goals exact (h : False).elim
 refine c_seq (c_region ?_)
 refine pl_val (.int .i64 0) (y_assign rfl) ?_
 refine c_nil ?_
 refine c_seq ?_
 refine c_seq (c_region ?_)
 refine pl_val (.int .i64 0) (y_assign rfl) ?_
 refine c_nil ?_
 obtain ⟨o29, hl30, hs⟩ := bind_some hs
 refine wp_block ?_
 refine wp_iter (id := 0) (I := fun s25 a w26 => ∃ (σ : Nat → Value), a = fr 48 (ovl σ [(0, (.slice pa0 pn0 pc0)), (1, (.slice pa1 pn1 pc1)), (5, (.int .i64 s25))]) ∧ Chg [] w w26 ∧ Own (Nw w []) M w26 ([]) ∧ (RT.rs (RT.int .i64)).val M w26 (.slice pa0 pn0 pc0) s_ ([]) ∧ (RT.rs (RT.int .i64)).val M w26 (.slice pa1 pn1 pc1) t ([])) (J := fun s25 a w26 => ∃ (σ : Nat → Value), a = fr 48 (ovl σ [(0, (.slice pa0 pn0 pc0)), (1, (.slice pa1 pn1 pc1))]) ∧ Chg [] w w26 ∧ Own (Nw w []) M w26 ([]) ∧ (RT.rs (RT.int .i64)).val M w26 (.slice pa0 pn0 pc0) s_ ([]) ∧ (RT.rs (RT.int .i64)).val M w26 (.slice pa1 pn1 pc1) t ([])) (K := (k_impl_compareLists M w)) ?_ FU 0 o29 _ _ ?_ hl30 ?_
 ·rintro s25 o29 a w26 ⟨σ, rfl, hC, hO, h0, h1⟩ hs
  refine c_seq ?_
  refine c_seq ?_
  refine c_mid (I := fun a w32 => ∃ (σ : Nat → Value), a = fr 48 (ovl σ [(0, (.slice pa0 pn0 pc0)), (1, (.slice pa1 pn1 pc1)), (5, (.int .i64 s25)), (15, (.bool ((decide (s25 < (s_.length : Int))) && (decide (s25 < (t.length : Int))))))]) ∧ Chg [] w26 w32) ?_ ?_
  ·have hMid := Chg.refl [] w26
   refine c_region ?_
   refine pl_val (.int .i64 s25) (y_move rfl) ?_
   refine pl_val (.slice pa0 pn0 pc0) (y_move rfl) ?_
   refine pl_val (.int .i64 (s_.length : Int)) (y_len' Sl22 (rs_len h0) rfl) ?_
   refine pl_val (.bool (decide (s25 < (s_.length : Int)))) (y_lss rfl rfl) ?_
   refine pl_val (.bool (decide (s25 < (s_.length : Int)))) (y_move rfl) ?_
   rcases Bool.eq_false_or_eq_true ((decide (s25 < (s_.length : Int)))) with hc34 | hc34
   ·skip
    refine pl_yes (.int .i64 s25) (tg := 10) (by kernel_rfl) (congrArg Value.bool hc34) (y_move rfl) ?_
    refine pl_yes (.slice pa1 pn1 pc1) (tg := 10) (by kernel_rfl) (congrArg Value.bool hc34) (y_move rfl) ?_
    refine pl_yes (.int .i64 (t.length : Int)) (tg := 10) (by kernel_rfl) (congrArg Value.bool hc34) (y_len' Sl22 (rs_len h1) rfl) ?_
    refine pl_yes (.bool (decide (s25 < (t.length : Int)))) (tg := 10) (by kernel_rfl) (congrArg Value.bool hc34) (y_lss rfl rfl) ?_
    refine pl_val (.bool ((decide (s25 < (s_.length : Int))) && (decide (s25 < (t.length : Int))))) (y_pick_t (congrArg Value.bool hc34) (congrArg Value.bool (by rw [hc34]; rfl))) ?_
    refine c_nil ?_
    exact ⟨_, fr_ovl 48 ⟨rfl, rfl, rfl, rfl, trivial⟩, hMid⟩
   ·skip
    refine pl_not (tg := 10) (by kernel_rfl) (congrArg Value.bool hc34) ?_
    refine pl_not (tg := 10) (by kernel_rfl) (congrArg Value.bool hc34) ?_
    refine pl_not (tg := 10) (by kernel_rfl) (congrArg Value.bool hc34) ?_
    refine pl_not (tg := 10) (by kernel_rfl) (congrArg Value.bool hc34) ?_
    refine pl_val (.bool ((decide (s25 < (s_.length : Int))) && (decide (s25 < (t.length : Int))))) (y_pick_f (congrArg Value.bool hc34) (congrArg Value.bool (by rw [hc34]; rfl))) ?_
    refine c_nil ?_
    exact ⟨_, fr_ovl 48 ⟨rfl, rfl, rfl, rfl, trivial⟩, hMid⟩
  ·rintro a1 w32 ⟨σ, rfl, hCs31⟩
   have h0 := h0.ext hCs31
   have h1 := h1.ext hCs31
   have hC := hC.ext hCs31
   have hO := hO.ext hCs31
   rcases bif_some hs with ⟨hc35, hs⟩ | ⟨hc35, hs⟩
   ·skip
    refine c_condT (congrArg Value.bool hc35) ?_
    refine wp_skip ?_
    refine c_seq ?_
    refine wp_block ?_
    refine c_seq ?_
    refine x_start [] Mx rfl ?_
    have hCw41 := Chg.drew w32
    generalize World.drew w32 = w41 at hCw41 ⊢
    have h0 := h0.ext hCw41
    have h1 := h1.ext hCw41
    have hC := hC.ext hCw41
    have hO := hO.ext hCw41
    have hS := Chg.refl [] w41
    refine x_p 0 (.slice pa0 pn0 pc0) rfl (by kernel_rfl)  (fun _ => y_move rfl) (fun _ => hS) ?_
    refine x_p 1 (.int .i64 s25) rfl (by kernel_rfl)  (fun _ => y_move rfl) (fun _ => hS) ?_
    obtain ⟨x42, hx42, hs⟩ := bind_some hs
    obtain ⟨b43, o43, hp43, ha43⟩ := rs_idx Sl22 Sz3 h0 hx42
    refine x_p 2 (.pointer (some ⟨b43, o43, none⟩)) rfl (by kernel_rfl)  (fun _ => hp43 _ _ _ _ _ _ _ _ _ rfl rfl) (fun _ => hS) ?_
    refine x_l 3 (.int .i64 x42) rfl (by kernel_rfl)  (fun w' hw' => y_load rfl ((at_load_int Ag3 Sz3 ha43) w' hw')) hS ?_
    refine x_p 4 (.slice pa1 pn1 pc1) rfl (by kernel_rfl)  (fun _ => y_move rfl) (fun _ => hS) ?_
    refine x_p 5 (.int .i64 s25) rfl (by kernel_rfl)  (fun _ => y_move rfl) (fun _ => hS) ?_
    obtain ⟨x44, hx44, hs⟩ := bind_some hs
    obtain ⟨b45, o45, hp45, ha45⟩ := rs_idx Sl22 Sz3 h1 hx44
    refine x_p 6 (.pointer (some ⟨b45, o45, none⟩)) rfl (by kernel_rfl)  (fun _ => hp45 _ _ _ _ _ _ _ _ _ rfl rfl) (fun _ => hS) ?_
    refine x_l 7 (.int .i64 x44) rfl (by kernel_rfl)  (fun w' hw' => y_load rfl ((at_load_int Ag3 Sz3 ha45) w' hw')) hS ?_
    refine x_p 8 (.bool (x42 != x44)) rfl (by kernel_rfl)  (fun _ => y_neq rfl rfl) (fun _ => hS) ?_
    refine x_end (by kernel_rfl) ?_
    clear hS
    rcases bif_some hs with ⟨hc46, hs⟩ | ⟨hc46, hs⟩
    ·skip
     refine c_condT (congrArg Value.bool hc46) ?_
     refine c_seq ?_
     refine c_seq ?_
     refine x_start [] Mx rfl ?_
     have hCw47 := Chg.drew w41
     generalize World.drew w41 = w47 at hCw47 ⊢
     have h0 := h0.ext hCw47
     have h1 := h1.ext hCw47
     have hC := hC.ext hCw47
     have hO := hO.ext hCw47
     have hS := Chg.refl [] w47
     refine x_p 0 (.slice pa0 pn0 pc0) rfl (by kernel_rfl)  (fun _ => y_move rfl) (fun _ => hS) ?_
     refine x_p 1 (.int .i64 s25) rfl (by kernel_rfl)  (fun _ => y_move rfl) (fun _ => hS) ?_
     obtain ⟨x48, hx48, hs⟩ := bind_some hs
     obtain ⟨b49, o49, hp49, ha49⟩ := rs_idx Sl22 Sz3 h0 hx48
     refine x_p 2 (.pointer (some ⟨b49, o49, none⟩)) rfl (by kernel_rfl)  (fun _ => hp49 _ _ _ _ _ _ _ _ _ rfl rfl) (fun _ => hS) ?_
     refine x_l 3 (.int .i64 x48) rfl (by kernel_rfl)  (fun w' hw' => y_load rfl ((at_load_int Ag3 Sz3 ha49) w' hw')) hS ?_
     refine x_p 4 (.slice pa1 pn1 pc1) rfl (by kernel_rfl)  (fun _ => y_move rfl) (fun _ => hS) ?_
     refine x_p 5 (.int .i64 s25) rfl (by kernel_rfl)  (fun _ => y_move rfl) (fun _ => hS) ?_
     obtain ⟨x50, hx50, hs⟩ := bind_some hs
     obtain ⟨b51, o51, hp51, ha51⟩ := rs_idx Sl22 Sz3 h1 hx50
     refine x_p 6 (.pointer (some ⟨b51, o51, none⟩)) rfl (by kernel_rfl)  (fun _ => hp51 _ _ _ _ _ _ _ _ _ rfl rfl) (fun _ => hS) ?_
     refine x_l 7 (.int .i64 x50) rfl (by kernel_rfl)  (fun w' hw' => y_load rfl ((at_load_int Ag3 Sz3 ha51) w' hw')) hS ?_
     refine x_p 8 (.bool (decide (x48 < x50))) rfl (by kernel_rfl)  (fun _ => y_lss rfl rfl) (fun _ => hS) ?_
     refine x_end (by kernel_rfl) ?_
     clear hS
     rcases bif_some hs with ⟨hc52, hs⟩ | ⟨hc52, hs⟩
     ·skip
      refine c_condT (congrArg Value.bool hc52) ?_
      refine c_seq (c_region ?_)
      refine pl_val (.int .i64 (-1)) (y_assign rfl) ?_
      refine c_nil ?_
      refine wp_ret ?_
      cases hs
      exact ⟨_, fr_ovl 48 ⟨rfl, trivial⟩, hC⟩
     ·skip
      refine c_condF (congrArg Value.bool hc52) ?_
      refine wp_skip ?_
      refine c_seq (c_region ?_)
      refine pl_val (.int .i64 1) (y_assign rfl) ?_
      refine c_nil ?_
      refine wp_ret ?_
      cases hs
      exact ⟨_, fr_ovl 48 ⟨rfl, trivial⟩, hC⟩
    ·skip
     refine c_condF (congrArg Value.bool hc46) ?_
     refine wp_skip ?_
     refine c_region ?_
     refine pl_val (.int .i64 s25) (y_move rfl) ?_
     refine pl_val (.int .i64 (w64 (s25 + 1))) (y_add rfl rfl) ?_
     refine pl_val (.int .i64 (w64 (s25 + 1))) (y_assign rfl) ?_
     refine c_nil ?_
     cases hs
     exact ⟨_, fr_ovl 48 ⟨rfl, rfl, rfl, trivial⟩, hC, hO, h0, h1⟩
   ·skip
    refine c_condF (congrArg Value.bool hc35) ?_
    refine wp_exit ?_
    cases hs
    exact ⟨rfl, _, fr_ovl 48 ⟨rfl, rfl, trivial⟩, hC, hO, h0, h1⟩
 ·skip
  exact ⟨_, fr_ovl 48 ⟨rfl, rfl, rfl, trivial⟩, hC, hO, h0, h1⟩
 ·cases o29 with
  | nx _ => exact True.intro
  | rt r_ =>
   have hs := after_rt hs
   intro a1 w1 hK
   cases hs
   exact hK
  | br s25 =>
   have hs := after_br hs
   rintro a1 w26 ⟨σ, rfl, hC, hO, h0, h1⟩
   refine c_seq ?_
   refine wp_block ?_
   refine c_seq (c_region ?_)
   refine pl_val (.slice pa0 pn0 pc0) (y_move rfl) ?_
   refine pl_val (.int .i64 (s_.length : Int)) (y_len' Sl22 (rs_len h0) rfl) ?_
   refine pl_val (.slice pa1 pn1 pc1) (y_move rfl) ?_
   refine pl_val (.int .i64 (t.length : Int)) (y_len' Sl22 (rs_len h1) rfl) ?_
   refine pl_val (.bool (decide ((s_.length : Int) < (t.length : Int)))) (y_lss rfl rfl) ?_
   refine pl_val (.bool (decide ((s_.length : Int) < (t.length : Int)))) (y_assign rfl) ?_
   refine c_nil ?_
   rcases bif_some hs with ⟨hc53, hs⟩ | ⟨hc53, hs⟩
   ·skip
    refine c_condT (congrArg Value.bool hc53) ?_
    refine c_seq (c_region ?_)
    refine pl_val (.int .i64 (-1)) (y_assign rfl) ?_
    refine c_nil ?_
    refine wp_ret ?_
    cases hs
    exact ⟨_, fr_ovl 48 ⟨rfl, trivial⟩, hC⟩
   ·skip
    refine c_condF (congrArg Value.bool hc53) ?_
    refine c_seq (c_region ?_)
    refine pl_val (.slice pa0 pn0 pc0) (y_move rfl) ?_
    refine pl_val (.int .i64 (s_.length : Int)) (y_len' Sl22 (rs_len h0) rfl) ?_
    refine pl_val (.slice pa1 pn1 pc1) (y_move rfl) ?_
    refine pl_val (.int .i64 (t.length : Int)) (y_len' Sl22 (rs_len h1) rfl) ?_
    refine pl_val (.bool (decide ((t.length : Int) < (s_.length : Int)))) (y_gtr rfl rfl) ?_
    refine pl_val (.bool (decide ((t.length : Int) < (s_.length : Int)))) (y_assign rfl) ?_
    refine c_nil ?_
    rcases bif_some hs with ⟨hc54, hs⟩ | ⟨hc54, hs⟩
    ·skip
     refine c_condT (congrArg Value.bool hc54) ?_
     refine c_seq (c_region ?_)
     refine pl_val (.int .i64 1) (y_assign rfl) ?_
     refine c_nil ?_
     refine wp_ret ?_
     cases hs
     exact ⟨_, fr_ovl 48 ⟨rfl, trivial⟩, hC⟩
    ·skip
     refine c_condF (congrArg Value.bool hc54) ?_
     refine wp_skip ?_
     refine c_seq (c_region ?_)
     refine pl_val (.int .i64 0) (y_assign rfl) ?_
     refine c_nil ?_
     refine wp_ret ?_
     cases hs
     exact ⟨_, fr_ovl 48 ⟨rfl, trivial⟩, hC⟩

theorem Bd99 : Bodied Try.prog 99 := bodied Try.func99 (by kernel_rfl) rfl

theorem Bd132 : Bodied Try.prog 132 := bodied Try.func132 (by kernel_rfl) rfl

def k_impl_compareCongruences (M : Nat → Prop) (w0 : World) (r : Int) (a : Act) (w : World) : Prop :=
  ∃ (σ : Nat → Value) , a = fr 17 (ovl σ [(4, (.int .i64 r))]) ∧ Chg [] w0 w
def s_impl_compareCongruences (p : List Int) (q : List Int) : Option (Int) :=
  (s_impl_blockCount q).bind fun r4 =>
  (s_impl_blockCount p).bind fun r6 =>
  (bif ((w64 (r4 - r6)) != 0) then some (w64 (r4 - r6)) else (s_impl_compareLists p q).bind fun r9 =>
  some r9)
set_option maxHeartbeats 4000000 in
theorem c_impl_compareCongruences {M : Nat → Prop} {w : World} {pa0 : Option Addr} {pn0 pc0 : Nat} {pa1 : Option Addr} {pn1 pc1 : Nat} (p : List Int) (q : List Int) (h0 : (RT.rs (RT.int .i64)).val M w (.slice pa0 pn0 pc0) p ([])) (h1 : (RT.rs (RT.int .i64)).val M w (.slice pa1 pn1 pc1) q ([])) (hM : ∀ g, w.heap.size ≤ g → M g) {r : Int} (hs : s_impl_compareCongruences p q = some r) :
    Gives Try.prog 129 [(.slice pa0 pn0 pc0), (.slice pa1 pn1 pc1)] w (fun v w' => v = (.int .i64 r) ∧ Chg [] w w') := by
 refine calls_fr Try.func129 rfl Try.ntmps129 (Nat.le_of_ble_eq_true rfl) ?_
 have hO := Own.start (N := Nw w []) hM Nw.fut
 have hC := Chg.refl [] w
 unfold s_impl_compareCongruences at hs
 refine wp_mono (Q := KPost (k_impl_compareCongruences M w r)) ?_ (fun e a w1 h => ?_)
 rotate_left
 ·cases e
  case ret =>
   obtain ⟨σ, rfl, hrest⟩ := h
   exact ret1x Try.results129 (res_tmp rfl) ⟨rfl, hrest⟩
  all_goals exact (h : False).elim
 refine c_seq (c_region ?_)
 refine pl_val (.int .i64 0) (y_assign rfl) ?_
 refine c_nil ?_
 refine c_seq ?_
 refine c_seq (c_region ?_)
 refine pl_val (.slice pa1 pn1 pc1) (y_move rfl) ?_
 obtain ⟨r4, hr4, hs⟩ := bind_some hs
 refine pl_call Bd99 rfl (c_impl_blockCount (M := M) q h1 hO.fut hr4) ?_
 rintro _ w3 ⟨rfl, hC3⟩
 have h0 := h0.ext hC3
 have h1 := h1.ext hC3
 have hC := hC.ext hC3
 have hO := hO.ext hC3
 refine pl_val (.slice pa0 pn0 pc0) (y_move rfl) ?_
 obtain ⟨r6, hr6, hs⟩ := bind_some hs
 refine pl_call Bd99 rfl (c_impl_blockCount (M := M) p h0 hO.fut hr6) ?_
 rintro _ w5 ⟨rfl, hC5⟩
 have h0 := h0.ext hC5
 have h1 := h1.ext hC5
 have hC := hC.ext hC5
 have hO := hO.ext hC5
 refine pl_val (.int .i64 (w64 (r4 - r6))) (y_sub rfl rfl) ?_
 refine pl_val (.int .i64 (w64 (r4 - r6))) (y_assign rfl) ?_
 refine c_nil ?_
 refine c_seq (c_region ?_)
 refine pl_val (.int .i64 (w64 (r4 - r6))) (y_move rfl) ?_
 refine pl_val (.bool ((w64 (r4 - r6)) != 0)) (y_neq rfl rfl) ?_
 refine c_nil ?_
 rcases bif_some hs with ⟨hc7, hs⟩ | ⟨hc7, hs⟩
 ·skip
  refine c_condT (congrArg Value.bool hc7) ?_
  refine c_seq (c_region ?_)
  refine pl_val (.int .i64 (w64 (r4 - r6))) (y_move rfl) ?_
  refine pl_val (.int .i64 (w64 (r4 - r6))) (y_assign rfl) ?_
  refine c_nil ?_
  refine wp_ret ?_
  cases hs
  exact ⟨_, fr_ovl 17 ⟨rfl, trivial⟩, hC⟩
 ·skip
  refine c_condF (congrArg Value.bool hc7) ?_
  refine wp_skip ?_
  refine c_seq (c_region ?_)
  refine pl_val (.slice pa0 pn0 pc0) (y_move rfl) ?_
  refine pl_val (.slice pa1 pn1 pc1) (y_move rfl) ?_
  obtain ⟨r9, hr9, hs⟩ := bind_some hs
  refine pl_call Bd132 rfl (c_impl_compareLists (M := M) p q h0 h1 hO.fut hr9) ?_
  rintro _ w8 ⟨rfl, hC8⟩
  have h0 := h0.ext hC8
  have h1 := h1.ext hC8
  have hC := hC.ext hC8
  have hO := hO.ext hC8
  refine pl_val (.int .i64 r9) (y_assign rfl) ?_
  refine c_nil ?_
  refine wp_ret ?_
  cases hs
  exact ⟨_, fr_ovl 17 ⟨rfl, trivial⟩, hC⟩

theorem Bd125 : Bodied Try.prog 125 := bodied Try.func125 (by kernel_rfl) rfl

theorem Bd127 : Bodied Try.prog 127 := bodied Try.func127 (by kernel_rfl) rfl

theorem Bd78 : Bodied Try.prog 78 := bodied Try.func78 (by kernel_rfl) rfl

theorem Zv4 : ∀ w, (zeroValue 4).run Try.prog w = .ok (Value.bool false) w := fun _ => by kernel_rfl

theorem Ag41 : AggT Try.prog 41 false := fun _ => by kernel_rfl

theorem Sz41 : SzT Try.prog 41 1 := ⟨_, rfl, rfl⟩

theorem Ag52 : AggT Try.prog 52 false := fun _ => by kernel_rfl

theorem Sz52 : SzT Try.prog 52 1 := ⟨_, rfl, rfl⟩

theorem Bd129 : Bodied Try.prog 129 := bodied Try.func129 (by kernel_rfl) rfl

def k_impl_sortRows_1__impl_compareCongruences (M : Nat → Prop) (w0 : World) (r : Bool) (a : Act) (w : World) : Prop :=
  ∃ (σ : Nat → Value) , a = fr 18 (ovl σ [(6, (.bool r))]) ∧ Chg [] w0 w
def s_impl_sortRows_1__impl_compareCongruences (tab1 : List (List Int)) (i : Int) (j : Int) : Option (Bool) :=
  (idx tab1 i).bind fun x5 =>
  (idx tab1 j).bind fun x9 =>
  (s_impl_compareCongruences x5 x9).bind fun r14 =>
  some (decide (r14 < 0))
set_option maxHeartbeats 4000000 in
theorem c_impl_sortRows_1__impl_compareCongruences {M : Nat → Prop} {w : World} {gv0 : Nat} {pa1 : Option Addr} {pn1 pc1 : Nat} {gv1 : Nat} (tab1 : List (List Int)) (i : Int) (j : Int) (hbgv0 : BoxV w gv0 52 [(.func (.func 129) #[] #[])]) (h1 : (RT.rs (RT.rs (RT.int .i64))).val M w (.slice pa1 pn1 pc1) tab1 ([])) (hbgv1 : BoxV w gv1 41 [(.slice pa1 pn1 pc1)]) (hM : ∀ g, w.heap.size ≤ g → M g) {r : Bool} (hs : s_impl_sortRows_1__impl_compareCongruences tab1 i j = some r) :
    Gives Try.prog 136 [(.int .i64 i), (.int .i64 j), (.pointer (some ⟨gv0, 0, none⟩)), (.pointer (some ⟨gv1, 0, none⟩))] w (fun v w' => v = (.bool r) ∧ Chg [] w w') := by
 refine calls_fr Try.func136 rfl Try.ntmps136 (Nat.le_of_ble_eq_true rfl) ?_
 have hO := Own.start (N := Nw w []) hM Nw.fut
 have hC := Chg.refl [] w
 unfold s_impl_sortRows_1__impl_compareCongruences at hs
 refine wp_mono (Q := KPost (k_impl_sortRows_1__impl_compareCongruences M w r)) ?_ (fun e a w1 h => ?_)
 rotate_left
 ·cases e
  case ret =>
   obtain ⟨σ, rfl, hrest⟩ := h
   exact ret1x Try.results136 (res_tmp rfl) ⟨rfl, hrest⟩
  all_goals exact (h : False).elim
 refine c_seq (c_region ?_)
 refine pl_val (.bool false) (y_assign rfl) ?_
 refine c_nil ?_
 refine c_seq ?_
 refine x_start [] Mx rfl ?_
 have hCw4 := Chg.drew w
 generalize World.drew w = w4 at hCw4 ⊢
 have hbgv0 := hbgv0.chg hCw4 (fun h => nomatch h)
 have h1 := h1.ext hCw4
 have hbgv1 := hbgv1.chg hCw4 (fun h => nomatch h)
 have hC := hC.ext hCw4
 have hO := hO.ext hCw4
 have hS := Chg.refl [] w4
 refine x_l 0 (.func (.func 129) #[] #[]) rfl (by kernel_rfl)  (fun w' hw' => y_load rfl ((box_load Ag52 Sz52 hbgv0 [] [(.func (.func 129) #[] #[])] [] rfl rfl (fun _ => rfl)) w' hw')) hS ?_
 refine x_l 1 (.slice pa1 pn1 pc1) rfl (by kernel_rfl)  (fun w' hw' => y_load rfl ((box_load Ag41 Sz41 hbgv1 [] [(.slice pa1 pn1 pc1)] [] rfl rfl (fun _ => rfl)) w' hw')) hS ?_
 refine x_p 2 (.int .i64 i) rfl (by kernel_rfl)  (fun _ => y_move rfl) (fun _ => hS) ?_
 obtain ⟨x5, hx5, hs⟩ := bind_some hs
 obtain ⟨b6, o6, hp6, ha6⟩ := rs_idx Sl41 Sz22 h1 hx5
 refine x_p 3 (.pointer (some ⟨b6, o6, none⟩)) rfl (by kernel_rfl)  (fun _ => hp6 _ _ _ _ _ _ _ _ _ rfl rfl) (fun _ => hS) ?_
 obtain ⟨v7, hl7, hv7⟩ := at_load Ag22 Sz22 (fun _ => rfl) ha6
 obtain ⟨a7, n7, c7, rfl⟩ := rs_sl hv7
 refine x_l 4 (.slice a7 n7 c7) rfl (by kernel_rfl)  (fun w' hw' => y_load rfl (hl7 w' hw')) hS ?_
 refine x_l 5 (.slice pa1 pn1 pc1) rfl (by kernel_rfl)  (fun w' hw' => y_load rfl ((box_load Ag41 Sz41 hbgv1 [] [(.slice pa1 pn1 pc1)] [] rfl rfl (fun _ => rfl)) w' hw')) hS ?_
 refine x_p 6 (.int .i64 j) rfl (by kernel_rfl)  (fun _ => y_move rfl) (fun _ => hS) ?_
 obtain ⟨x9, hx9, hs⟩ := bind_some hs
 obtain ⟨b10, o10, hp10, ha10⟩ := rs_idx Sl41 Sz22 h1 hx9
 refine x_p 7 (.pointer (some ⟨b10, o10, none⟩)) rfl (by kernel_rfl)  (fun _ => hp10 _ _ _ _ _ _ _ _ _ rfl rfl) (fun _ => hS) ?_
 obtain ⟨v11, hl11, hv11⟩ := at_load Ag22 Sz22 (fun _ => rfl) ha10
 obtain ⟨a11, n11, c11, rfl⟩ := rs_sl hv11
 refine x_l 8 (.slice a11 n11 c11) rfl (by kernel_rfl)  (fun w' hw' => y_load rfl (hl11 w' hw')) hS ?_
 refine x_one (i := 9) (by kernel_rfl) ?_
 obtain ⟨r14, hr14, hs⟩ := bind_some hs
 refine xk_callv (b := false) rfl  (h := rfl) Bd129 rfl (c_impl_compareCongruences (M := M) x5 x9 hv7 hv11 hO.fut hr14) rfl (by rintro _ _ _ ⟨rfl, hC13⟩; exact hS.ext hC13) ?_
 rintro _ w13 ⟨rfl, hC13⟩
 have hbgv0 := hbgv0.chg hC13 (fun h => nomatch h)
 have h1 := h1.ext hC13
 have hbgv1 := hbgv1.chg hC13 (fun h => nomatch h)
 have hv7 := hv7.ext hC13
 have hv11 := hv11.ext hC13
 have hC := hC.ext hC13
 have hO := hO.ext hC13
 have hS := hS.ext hC13
 refine x_p 10 (.bool (decide (r14 < 0))) rfl (by kernel_rfl)  (fun _ => y_lss rfl rfl) (fun _ => hS) ?_
 refine x_p 11 (.bool (decide (r14 < 0))) rfl (by kernel_rfl)  (fun _ => y_assign rfl) (fun _ => hS) ?_
 refine x_end (by kernel_rfl) ?_
 clear hS
 refine wp_ret ?_
 cases hs
 exact ⟨_, fr_ovl 18 ⟨rfl, trivial⟩, hC⟩

theorem Fx137 : ∀ args W, (callFunc 137 args).run Try.prog W = (((fun args : Array Value => Extern.ReflectliteValue.unpack (args.getD 0 (.tuple #[]))) args).run Try.prog W).andThen fun v w' => .ok (.value v) w' := fun args W => run_callFunc_extern Try.func137 (by kernel_rfl) (by kernel_rfl) (by kernel_rfl) (e := (fun args : Array Value => Extern.ReflectliteValue.unpack (args.getD 0 (.tuple #[])))) (by kernel_rfl) args W

theorem Ti41 : ∃ i, Try.prog.info? 41 = some i ∧ i.desc = .slice 22 := ⟨(Try.prog.info? 41).get (by kernel_rfl), by kernel_rfl, by kernel_rfl⟩

theorem Sz119 : SzT Try.prog 119 3 := ⟨_, rfl, rfl⟩

theorem Fx138 : ∀ args W, (callFunc 138 args).run Try.prog W = (((Extern.ReflectliteSwapper.swapper "internal/reflectlite" (Extern.ReflectliteValue.valueError "Swapper")) args).run Try.prog W).andThen fun v w' => .ok (.value v) w' := fun args W => run_callFunc_extern Try.func138 (by kernel_rfl) (by kernel_rfl) (by kernel_rfl) (e := (Extern.ReflectliteSwapper.swapper "internal/reflectlite" (Extern.ReflectliteValue.valueError "Swapper"))) (by kernel_rfl) args W

theorem Ke22 : ∀ w, (Extern.Rtype.kind 22).run Try.prog w = .ok 23 w := fun _ => by kernel_rfl

theorem Ag119 : AggT Try.prog 119 true := fun _ => by kernel_rfl

theorem Fx140 : ∀ args W, (callFunc 140 args).run Try.prog W = (((Extern.ReflectliteValue.method (Extern.ReflectliteValue.valueError "reflectlite.Value.Len" 0) Extern.ReflectliteValue.len) args).run Try.prog W).andThen fun v w' => .ok (.value v) w' := fun args W => run_callFunc_extern Try.func140 (by kernel_rfl) (by kernel_rfl) (by kernel_rfl) (e := (Extern.ReflectliteValue.method (Extern.ReflectliteValue.valueError "reflectlite.Value.Len" 0) Extern.ReflectliteValue.len)) (by kernel_rfl) args W

theorem Pk41 : Try.prog.packed 41 = false := by kernel_rfl

theorem Bd139 : Bodied Try.prog 139 := bodied Try.func139 (by kernel_rfl) rfl

def k_sort_SliceStable (M : Nat → Prop) (w0 : World) {α_ : Type} (I_ : World → List α_ → Prop) (G_ : List Nat) (r : (List α_)) (a : Act) (w : World) : Prop :=
  ∃ (σ : Nat → Value) , a = fr 16 (ovl σ []) ∧ Chg (G_ ++ ([])) w0 w ∧ I_ w r
def s_sort_SliceStable {α_ : Type} (ls_ : α_ → α_ → Option Bool) (d_ : List α_) (n_ : Nat) : Option ((List α_)) :=
  (s_sort_stable_func ls_ d_ (n_ : Int)).bind fun r7 =>
  some r7
set_option maxHeartbeats 4000000 in
theorem c_sort_SliceStable {M : Nat → Prop} {w : World} {a_ : Option Addr} {c_ : Nat} {ie_ : TypeInfo} {α_ : Type} {n0_ : Nat} {I_ : World → List α_ → Prop} {G_ : List Nat} {g_ sf_ : Nat} {lb_ : Array Value} (ls_ : α_ → α_ → Option Bool) (d_ : List α_) (n_ : Nat) (hN_ : n0_ ≤ w.heap.size) (hie_ : Try.prog.info? 22 = some ie_) (hf_ : Try.prog.funcs.findIdx? (·.name == "internal/reflectlite" ++ ".Swapper$" ++ toString (Go.Lib.swapperK n_ ie_ 23)) = some sf_) (hE_ : Env Try.prog n0_ I_ G_ ls_ g_ lb_ sf_ (if Go.Lib.swapperK n_ ie_ 23 ≤ 2 then #[] else #[.slice a_ n_ c_, typeHandle Try.prog 22])) (hI_ : I_ w d_) (hI : Own (Nw w (G_ ++ ([]))) M w (G_ ++ ([]))) (hM : ∀ g, w.heap.size ≤ g → M g) {r : (List α_)} (hs : s_sort_SliceStable ls_ d_ n_ = some r) :
    Gives Try.prog 135 [(.iface 41 (.slice a_ n_ c_)), (.func (.func g_) #[] lb_)] w (fun v w' => v = (.tuple #[]) ∧ Chg (G_ ++ ([])) w w' ∧ I_ w' r) := by
 refine calls_fr Try.func135 rfl Try.ntmps135 (Nat.le_of_ble_eq_true rfl) ?_
 have hO := hI
 have hC := Chg.refl (G_ ++ ([])) w
 unfold s_sort_SliceStable at hs
 refine wp_mono (Q := KPostN (k_sort_SliceStable M w I_ G_ r)) ?_ (fun e a w1 h => ?_)
 rotate_left
 ·cases e
  case ret =>
   obtain ⟨σ, rfl, hrest⟩ := h
   exact ret0x Try.results135  ⟨rfl, hrest⟩
  case normal =>
   obtain ⟨σ, rfl, hrest⟩ := h
   exact ret0n Try.results135  ⟨rfl, hrest⟩
  all_goals exact (h : False).elim
 refine c_seq (c_region ?_)
 refine pl_val (.iface 41 (.slice a_ n_ c_)) (y_move rfl) ?_
 obtain ⟨i1, hi1, hd1⟩ := Ti41
 obtain ⟨w1, g1, ew1, eg1, hC1, hb1⟩ := new_block w [(.slice a_ n_ c_)] 41
 refine pl_val (w' := w1) (.agg #[(typeHandle Try.prog 41), (.pointer (some ⟨g1, 0, none⟩)), (.int .u64 151)]) (y_callg rfl rfl (by rw [Fx137]; show Result.andThen (Sem.run Try.prog (Extern.ReflectliteValue.unpack (.iface 41 (.slice a_ n_ c_))) _) _ = _; rw [Go.Lib.run_valueOf_slice 41 22 i1 hi1 hd1, ew1, eg1]; rfl)) ?_
 have hI_ := hE_.ext hI_ hC1 (fun _ h => nomatch h)
 have hC := hC.ext hC1
 have hO := hO.new1 hC1 eg1 hb1.lt
 obtain ⟨w2, g2, ew2, eg2, hC2, hb2⟩ := new_block w1 [(.pointer none), (.pointer none), (.int .u64 0)] 119
 refine pl_val (w' := w2) (.pointer (some ⟨g2, 0, none⟩)) (y_alloc (by rw [ew2, eg2]; kernel_rfl)) ?_
 have hI_ := hE_.ext hI_ hC2 (fun _ h => nomatch h)
 have hb1 := hb1.chg hC2 (fun h => nomatch h)
 have hC := hC.ext hC2
 have hO := hO.new1 hC2 eg2 hb2.lt
 obtain ⟨w3, hst3, hC3, hb3⟩ := box_store (P := Try.prog) hb2 [] [(.pointer none), (.pointer none), (.int .u64 0)] [] [(typeHandle Try.prog 41), (.pointer (some ⟨g1, 0, none⟩)), (.int .u64 151)] rfl rfl (by intro u hu; simp only [List.mem_cons, List.not_mem_nil, or_false] at hu; rcases hu with rfl | rfl | rfl <;> rfl)
 refine pl_skip (w' := w3) (ys_store rfl rfl (hst3 _ _ rfl Sz119)) ?_
 have hI_ := hE_.ext hI_ hC3 (fun q hq => Nat.le_trans hN_ ((hO.inN q ((fun _ h => h) q hq)).resolve_left (fun e => hO.apart q ((fun _ h => h) q hq) (mem_r (mem_l (nil_mem q e))))))
 have hb1 := hb1.chg hC3 (fun hg => hO.apart _ ((fun _ h => h) _ hg) (mem_l (List.mem_singleton.2 rfl)))
 have hC := hC.step hC3 (fun g hg => hO.inN g ((fun _ h => h) g hg))
 have hO := hO.ext hC3
 have hb3 : BoxV w3 g2 119 [(typeHandle Try.prog 41), (.pointer (some ⟨g1, 0, none⟩)), (.int .u64 151)] := hb3
 refine c_nil ?_
 refine c_seq (c_region ?_)
 refine pl_val (.iface 41 (.slice a_ n_ c_)) (y_move rfl) ?_
 obtain ⟨i4, hi4, hd4⟩ := Ti41
 refine pl_val (.func (.func sf_) #[] (if Go.Lib.swapperK n_ ie_ 23 ≤ 2 then #[] else #[.slice a_ n_ c_, typeHandle Try.prog 22])) ((y_callg rfl rfl (by rw [Fx138]; show Result.andThen (Sem.run Try.prog (Extern.ReflectliteSwapper.swapper "internal/reflectlite" (Extern.ReflectliteValue.valueError "Swapper") #[(.iface 41 (.slice a_ n_ c_))]) _) _ = _; rw [Go.Lib.run_swapper_slice 41 22 i4 ie_ hi4 hd4 hie_ 23 Ke22 a_ n_ c_ sf_ hf_]; rfl))) ?_
 refine pl_val (.func (.func sf_) #[] (if Go.Lib.swapperK n_ ie_ 23 ≤ 2 then #[] else #[.slice a_ n_ c_, typeHandle Try.prog 22])) (y_assign rfl) ?_
 refine c_nil ?_
 refine c_region ?_
 refine pl_val (.func (.func g_) #[] lb_) (y_move rfl) ?_
 refine pl_val (.func (.func sf_) #[] (if Go.Lib.swapperK n_ ie_ 23 ≤ 2 then #[] else #[.slice a_ n_ c_, typeHandle Try.prog 22])) (y_move rfl) ?_
 refine pl_val (.agg #[(.func (.func g_) #[] lb_), (.func (.func sf_) #[] (if Go.Lib.swapperK n_ ie_ 23 ≤ 2 then #[] else #[.slice a_ n_ c_, typeHandle Try.prog 22]))]) (y_build rfl (by kernel_rfl)) ?_
 refine pl_val (.agg #[(typeHandle Try.prog 41), (.pointer (some ⟨g1, 0, none⟩)), (.int .u64 151)]) (y_load rfl ((box_load Ag119 Sz119 hb3 [] [(typeHandle Try.prog 41), (.pointer (some ⟨g1, 0, none⟩)), (.int .u64 151)] [] rfl rfl (fun h => nomatch h)) _ (Chg.refl _ _))) ?_
 obtain ⟨i5, hi5, hd5⟩ := Ti41
 refine pl_val (.int .i64 (n_ : Int)) ((y_callg rfl rfl (by rw [Fx140]; show Result.andThen (Sem.run Try.prog (Extern.ReflectliteValue.method (Extern.ReflectliteValue.valueError "reflectlite.Value.Len" 0) Extern.ReflectliteValue.len #[(.agg #[(typeHandle Try.prog 41), (.pointer (some ⟨g1, 0, none⟩)), (.int .u64 151)])]) _) _ = _; rw [Go.Lib.run_valueLen_slice 41 22 i5 hi5 hd5 Pk41 _ _ _ _ _ (box_cell hb1)]; rfl))) ?_
 have hO := hO.fr2
 have hI6 := Own.lend (F := (G_ ++ ([]))) (R := ([g2]) ++ (([g1]) ++ ([]))) (Own.perm hO (by simp))
 obtain ⟨r7, hr7, hs⟩ := bind_some hs
 refine pl_call Bd139 rfl (c_sort_stable_func (M := M) ls_ d_ (n_ : Int) (Nat.le_trans hN_ hC.size) hE_ hI_ hI6 hO.fut hr7) ?_
 rintro _ w6 ⟨rfl, hC6, hv6⟩
 have hb1 := hb1.chg hC6 (fun hg => hO.apart _ (nil_mem _ hg) (mem_r (mem_l (List.mem_singleton.2 rfl))))
 have hb3 := hb3.chg hC6 (fun hg => hO.apart _ (nil_mem _ hg) (mem_l (List.mem_singleton.2 rfl)))
 have hC := hC.step hC6 (fun g hg => hO.inN g (nil_mem g hg))
 have hO := hO.ext hC6
 refine c_nil ?_
 cases hs
 exact ⟨_, fr_ovl 16 trivial, hC, hv6⟩

theorem Ei22 : ∃ ie, Try.prog.info? 22 = some ie ∧ ie.size = 1 ∧ ie.hasPointers = true ∧ (ie.bytes == 8) = false := ⟨(Try.prog.info? 22).get (by kernel_rfl), by kernel_rfl, by kernel_rfl, by kernel_rfl, by kernel_rfl⟩

theorem Fs2 : ∀ W, (callFunc 142 #[.int .i64 0, .int .i64 0]).run Try.prog W = .ok (.value (.tuple #[])) W := fun W => (run_callFunc_extern Try.func142 (by kernel_rfl) (by kernel_rfl) (by kernel_rfl) (e := (Extern.find Try.f142).get (by kernel_rfl)) (by kernel_rfl) _ W).trans (by kernel_rfl)

theorem Fx149 : ∀ args W, (callFunc 149 args).run Try.prog W = (((Extern.ReflectliteSwapper.swap false) args).run Try.prog W).andThen fun v w' => .ok (.value v) w' := fun args W => run_callFunc_extern Try.func149 (by kernel_rfl) (by kernel_rfl) (by kernel_rfl) (e := (Extern.ReflectliteSwapper.swap false)) (by kernel_rfl) args W

theorem Sn1 : Try.prog.funcs.findIdx? (·.name == "internal/reflectlite" ++ ".Swapper$" ++ toString 1) = some 141 := by kernel_rfl

theorem Sn2 : Try.prog.funcs.findIdx? (·.name == "internal/reflectlite" ++ ".Swapper$" ++ toString 2) = some 142 := by kernel_rfl

theorem Sn9 : Try.prog.funcs.findIdx? (·.name == "internal/reflectlite" ++ ".Swapper$" ++ toString 9) = some 149 := by kernel_rfl

theorem Bd136 : Bodied Try.prog 136 := bodied Try.func136 (by kernel_rfl) rfl

theorem Bd135 : Bodied Try.prog 135 := bodied Try.func135 (by kernel_rfl) rfl

def k_impl_sortRows__impl_compareCongruences (M : Nat → Prop) (w0 : World) (qa0 : Option Addr) (qn0 qc0 : Nat) (qf0 : List Nat) (r : (List (List Int))) (a : Act) (w : World) : Prop :=
  ∃ (σ : Nat → Value) (rfi0 : List Nat), a = fr 8 (ovl σ []) ∧ Chg (qf0 ++ ([])) w0 w ∧ (RT.os 22 (RT.os 3 (RT.int .i64))).val M w (.slice qa0 qn0 qc0) r rfi0 ∧ Own (Nw w0 (qf0 ++ ([]))) (fun _ => True) w (rfi0 ++ ([]))
def s_impl_sortRows__impl_compareCongruences (rows : List (List Int)) : Option ((List (List Int))) :=
  (s_sort_SliceStable (fun x_ y_ => (s_impl_compareCongruences x_ y_).bind fun r_ => some (decide (r_ < 0))) rows (rows.length)).bind fun r5 =>
  some r5
set_option maxHeartbeats 4000000 in
theorem c_impl_sortRows__impl_compareCongruences {M : Nat → Prop} {w : World} {pa0 : Option Addr} {pn0 pc0 : Nat} {pf0 : List Nat} (rows : List (List Int)) (h0 : (RT.os 22 (RT.os 3 (RT.int .i64))).val M w (.slice pa0 pn0 pc0) rows pf0) (hI : Own (Nw w (pf0 ++ ([]))) M w (pf0 ++ ([]))) (hM : ∀ g, w.heap.size ≤ g → M g) {r : (List (List Int))} (hs : s_impl_sortRows__impl_compareCongruences rows = some r) :
    Gives Try.prog 128 [(.slice pa0 pn0 pc0), (.func (.func 129) #[] #[])] w (fun v w' => ∃ (rfi0 : List Nat), v = (.tuple #[]) ∧ Chg (pf0 ++ ([])) w w' ∧ (RT.os 22 (RT.os 3 (RT.int .i64))).val M w' (.slice pa0 pn0 pc0) r rfi0 ∧ Own (Nw w (pf0 ++ ([]))) (fun _ => True) w' (rfi0 ++ ([]))) := by
 refine calls_fr Try.func128 rfl Try.ntmps128 (Nat.le_of_ble_eq_true rfl) ?_
 have hO := hI
 have hC := Chg.refl (pf0 ++ ([])) w
 unfold s_impl_sortRows__impl_compareCongruences at hs
 refine wp_mono (Q := KPostN (k_impl_sortRows__impl_compareCongruences M w pa0 pn0 pc0 pf0 r)) ?_ (fun e a w1 h => ?_)
 rotate_left
 ·cases e
  case ret =>
   obtain ⟨σ, rfi0, rfl, hrest⟩ := h
   exact ret0x Try.results128  ⟨rfi0, rfl, hrest⟩
  case normal =>
   obtain ⟨σ, rfi0, rfl, hrest⟩ := h
   exact ret0n Try.results128  ⟨rfi0, rfl, hrest⟩
  all_goals exact (h : False).elim
 refine c_seq (c_region ?_)
 obtain ⟨w2, g2, ew2, eg2, hC2, hb2⟩ := new_block w [(.slice pa0 pn0 pc0)] 41
 refine pl_val (w' := w2) (.pointer (some ⟨g2, 0, none⟩)) (y_box rfl (by rw [ew2, eg2]; kernel_rfl)) ?_
 have h0 := h0.ext hC2
 have hC := hC.ext hC2
 have hO := hO.new1 hC2 eg2 hb2.lt
 obtain ⟨w3, g3, ew3, eg3, hC3, hb3⟩ := new_block w2 [(.func (.func 129) #[] #[])] 52
 refine pl_val (w' := w3) (.pointer (some ⟨g3, 0, none⟩)) (y_box rfl (by rw [ew3, eg3]; kernel_rfl)) ?_
 have h0 := h0.ext hC3
 have hb2 := hb2.chg hC3 (fun h => nomatch h)
 have hC := hC.ext hC3
 have hO := hO.new1 hC3 eg3 hb3.lt
 refine c_nil ?_
 refine c_region ?_
 refine pl_val (.slice pa0 pn0 pc0) (y_load rfl ((box_load Ag41 Sz41 hb2 [] [(.slice pa0 pn0 pc0)] [] rfl rfl (fun _ => rfl)) _ (Chg.refl _ _))) ?_
 refine pl_val (.iface 41 (.slice pa0 pn0 pc0)) (y_iface Try.underlying41 rfl) ?_
 refine pl_val (.func (.func 136) #[] #[(.pointer (some ⟨g3, 0, none⟩)), (.pointer (some ⟨g2, 0, none⟩))]) (y_func rfl rfl) ?_
 have hO := hO.fr2
 obtain ⟨ie4, hie4, hz4, hp4, hb4⟩ := Ei22
 have hl4 := os_n h0
 obtain ⟨sf4, hf4, hE4⟩ := sort_env (P := Try.prog) (ke := 23) (M := M) (gO := g3) (gR := g2) (tO := 52) (tR := 41) (fv := (.func (.func 129) #[] #[])) (ls := (fun x_ y_ => (s_impl_compareCongruences x_ y_).bind fun r_ => some (decide (r_ < 0)))) (g := 136) (lb := #[(.pointer (some ⟨g3, 0, none⟩)), (.pointer (some ⟨g2, 0, none⟩))]) rfl hie4 hz4 Ag22 hp4 hb4 rfl Sn1 Sn2 Sn9 Fs2 Fx149 Bd136 hO.inM (fun hg => hO.apart _ hg (mem_l (List.mem_singleton.2 rfl))) (fun hg => hO.apart _ hg (mem_r (mem_l (List.mem_singleton.2 rfl)))) (fun h hm ho hr hf hl => c_impl_sortRows_1__impl_compareCongruences (M := Less M _) _ _ _ ho (((Frz.os (Frz.os Frz.int))).val h Less.sub Less.not) hr (less_fut hf h.fpl) (show s_impl_sortRows_1__impl_compareCongruences _ _ _ = some _ from hl)) h0 (n0 := (w3).heap.size) hO.lt hb3.lt hb2.lt hO.fut
 have hJ4 : SortI (RT.os 3 (RT.int .i64)) 22 M pa0 pn0 pc0 pf0 g3 g2 52 41 (.func (.func 129) #[] #[]) w3 rows := ⟨⟨_, h0, List.Perm.refl _⟩, hb3, hb2, hO.fut⟩
 have hI4 := Own.lend (F := (pf0 ++ ([]))) (R := ([g3]) ++ (([g2]) ++ ([]))) (Own.perm hO (by simp))
 obtain ⟨r5, hr5, hs⟩ := bind_some hs
 refine pl_call Bd135 rfl (c_sort_SliceStable (M := M) (fun x_ y_ => (s_impl_compareCongruences x_ y_).bind fun r_ => some (decide (r_ < 0))) rows pn0 (Nat.le_refl _) hie4 hf4 hE4 hJ4 hI4 hO.fut (by rw [hl4]; exact hr5)) ?_
 rintro _ w4 ⟨rfl, hC4, ⟨⟨f4, hv4, hp4⟩, _, _, _⟩⟩
 have hb2 := hb2.chg hC4 (fun hg => hO.apart _ (nil_mem _ hg) (mem_r (mem_l (List.mem_singleton.2 rfl))))
 have hb3 := hb3.chg hC4 (fun hg => hO.apart _ (nil_mem _ hg) (mem_l (List.mem_singleton.2 rfl)))
 have hC := hC.step hC4 (fun g hg => hO.inN g (nil_mem g hg))
 have hO := hO.grow hC4 (fun q hq => .inl (hp4.mem_iff.1 hq)) (os_nodup hv4) hv4.fpl
 refine c_nil ?_
 cases hs
 have hO := hO.fr1
 have hO := hO.drop
 have hO := hO.fr1
 have hO := hO.drop
 exact ⟨_, f4, fr_ovl 8 trivial, hC, hv4, hO.top⟩

theorem Bd128 : Bodied Try.prog 128 := bodied Try.func128 (by kernel_rfl) rfl

end Go.Proofs
