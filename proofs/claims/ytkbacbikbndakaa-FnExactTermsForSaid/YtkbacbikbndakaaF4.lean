/- What functions of the program compute, as plain functions, and that a call gives just that. Conditions: those named in each theorem. -/
import Derived.Test.YtkbacbikbndakaaF3
set_option linter.unusedVariables false
namespace Go.Proofs
open Go.G Go.RowKit
set_option maxRecDepth 100000

def k_impl_TermsFor (M : Nat → Prop) (w0 : World) (r : (List (List Int)) × Bool) (a : Act) (w : World) : Prop :=
  ∃ (σ : Nat → Value) (ra0 : Option Addr) (rn0 rc0 : Nat) (rf0 : List Nat), a = fr 69 (ovl σ [(6, (.slice ra0 rn0 rc0)), (7, (.bool r.2))]) ∧ Chg [] w0 w ∧ (RT.os 43 (RT.os 3 (RT.int .i64))).val M w (.slice ra0 rn0 rc0) r.1 rf0 ∧ Own (Nw w0 []) (fun _ => True) w (rf0 ++ ([]))
def s_impl_TermsFor (a_ : Int × (List (Int × (List Int)))) (k : Int) (gens : List (List Int)) : Option ((List (List Int)) × Bool) :=
  ((s_impl_areGens (a_.1, a_.2) k gens).bind fun r8 =>
  (bif (!r8) then some true else some (decide (6 < (gens.length : Int))))).bind fun s4 =>
  (bif s4 then some ([], false) else (s_impl_spanOf (a_.1, a_.2) k gens).bind fun r14 =>
  (bif (!r14.2) then some ([], false) else (r14.1).bind fun p20 =>
  (s_impl_span__firstTerms gens (p20.1.1, p20.1.2, p20.2.1, p20.2.2.1, p20.2.2.2)).bind fun r26 =>
  (s_impl_sortedTuples p20.2.2.1).bind fun r31 =>
  (forR (S := (List (List Int)) × (List (Option (List Int)))) (R := (List (List Int)) × Bool) (fun _ x130 s127 =>
  (s_impl_keyOf x130).bind fun r152 =>
  (idx s127.2 ((mget p20.2.2.2 r152).getD 0)).bind fun x153 =>
  (x153).bind fun x155 =>
  (bif (List.isEmpty x155) then some (.rt ([], false)) else (idx s127.2 ((mget p20.2.2.2 r152).getD 0)).bind fun o163 =>
  (o163).bind fun x164 =>
  (app s127.1 ([x164])).bind fun y167 =>
  some (.nx (y167, List.set s127.2 (Int.toNat ((mget p20.2.2.2 r152).getD 0)) none)))) 0 r31 ([], List.map some r26)).bind fun o131 => after o131 (fun r_ => some r_) (fun s127 =>
  some (s127.1, true))))
set_option maxHeartbeats 4000000 in
theorem c_impl_TermsFor {M : Nat → Prop} {w : World} {pa0 : Option Addr} {pn0 pc0 : Nat} {pa1 : Option Addr} {pn1 pc1 : Nat} (a_ : Int × (List (Int × (List Int)))) (k : Int) (gens : List (List Int)) (h0 : (RT.rs (RT.pr ri (RT.rs ri))).val M w (.slice pa0 pn0 pc0) a_.2 ([])) (h1 : (RT.rs (RT.rs ri)).val M w (.slice pa1 pn1 pc1) gens ([])) (hM : ∀ g, w.heap.size ≤ g → M g) {r : (List (List Int)) × Bool} (hs : s_impl_TermsFor a_ k gens = some r) :
    Gives Try.prog 28 [(.agg #[(.int .i64 a_.1), (.slice pa0 pn0 pc0)]), (.int .i64 k), (.slice pa1 pn1 pc1)] w (fun v w' => ∃ (ra0 : Option Addr) (rn0 rc0 : Nat) (rf0 : List Nat), v = (.tuple #[(.slice ra0 rn0 rc0), (.bool r.2)]) ∧ Chg [] w w' ∧ (RT.os 43 (RT.os 3 ri)).val M w' (.slice ra0 rn0 rc0) r.1 rf0 ∧ Own (Nw w []) (fun _ => True) w' (rf0 ++ ([]))) := by
 refine calls_fr Try.func28 rfl Try.ntmps28 (Nat.le_of_ble_eq_true rfl) ?_
 have hO := Own.start (N := Nw w []) hM Nw.fut
 have hC := Chg.refl [] w
 unfold s_impl_TermsFor at hs
 refine wp_mono (Q := KPost (k_impl_TermsFor M w r)) ?_ (fun e a l4 h => ?_)
 rotate_left
 ·cases e
  case ret =>
   obtain ⟨σ, ra0, rn0, rc0, rf0, rfl, hrest⟩ := h
   exact ret2x Try.results28 (res_tmp rfl) (res_tmp rfl) ⟨ra0, rn0, rc0, rf0, rfl, hrest⟩
  all_goals exact (h : False).elim
 refine c_sr ?_
 obtain ⟨g9, c7, l5, j5, g2, b0⟩ := new_block w [(.int .i64 a_.1), (.slice pa0 pn0 pc0)] 35
 refine pl_val (w' := g9) (pq c7 0) (y_box rfl (by rw [l5, j5]; kernel_rfl)) ?_
 have h0 := h0.ext g2
 have h1 := h1.ext g2
 have hC := hC.ext g2
 have hO := hO.new1 g2 j5 b0.lt
 refine ax rfl (ab rfl (c_nil (c_seq (c_seq ?_))))
 obtain ⟨s4, l6, hs⟩ := bind_some hs
 refine c_mid (I := fun a a0 => ∃ (σ : Nat → Value), a = fr 69 (ovl σ [(1, (.int .i64 k)), (2, (.slice pa1 pn1 pc1)), (3, (pq c7 0)), (6, (.slice none 0 0)), (7, (.bool false)), (24, (.bool s4))]) ∧ Chg [] g9 a0) ?_ ?_
 ·replace hs := l6
  have hMid := Chg.refl [] g9
  refine c_region (pl_val (.agg #[(.int .i64 a_.1), (.slice pa0 pn0 pc0)]) (y_load rfl ((box_load Ag35 Sz35 b0 [] [(.int .i64 a_.1), (.slice pa0 pn0 pc0)] [] rfl rfl (fun h => nomatch h)) _ (Chg.refl _ _))) (mi rfl (ms rfl ?_)))
  obtain ⟨r8, l7, hs⟩ := bind_some hs
  refine pl_call Bd55 rfl (c_impl_areGens (M := M) (a_.1, a_.2) k gens h0 h1 hO.fut l7) ?_
  rintro _ r2 ⟨rfl, e0⟩
  have h0 := h0.ext e0
  have h1 := h1.ext e0
  have b0 := b0.cn e0
  have hMid := hMid.ext e0
  have hC := hC.ext e0
  have hO := hO.ext e0
  refine pl_val _ (y_not rfl) (mb rfl ?_)
  rcases bif_some hs with ⟨c0, hs⟩ | ⟨c0, hs⟩
  ·skip
   refine pl_not (tg := 20) (by kernel_rfl) (cb c0) (pl_not (tg := 20) (by kernel_rfl) (cb c0) (pl_not (tg := 20) (by kernel_rfl) (cb c0) (pl_val (.bool true) (y_pick_t (cb c0) rfl) (c_nil ?_))))
   cases hs
   exact ⟨_, fr_ovl 69 ⟨rfl, rfl, rfl, rfl, rfl, rfl, trivial⟩, hMid⟩
  refine pl_yes (.slice pa1 pn1 pc1) (tg := 20) (by kernel_rfl) (cb c0) (y_move rfl) (pl_yes (.int .i64 (gens.length : Int)) (tg := 20) (by kernel_rfl) (cb c0) (y_len' Sl25 (rs_len h1) rfl) (pl_yes (.bool (decide (6 < (gens.length : Int)))) (tg := 20) (by kernel_rfl) (cb c0) (y_gtr rfl rfl) (pl_val (.bool (decide (6 < (gens.length : Int)))) (y_pick_f (cb c0) rfl) (c_nil ?_))))
  cases hs
  exact ⟨_, fr_ovl 69 ⟨rfl, rfl, rfl, rfl, rfl, rfl, trivial⟩, hMid⟩
 rintro j6 a0 ⟨σ, rfl, f3⟩
 have h0 := h0.ext f3
 have h1 := h1.ext f3
 have b0 := b0.cn f3
 have hC := hC.ext f3
 have hO := hO.ext f3
 rcases bif_some hs with ⟨h2, hs⟩ | ⟨h2, hs⟩
 ·refine c_condT (cb h2) (c_sr ?_)
  obtain ⟨j7, e1, l8, j8, f4, j9⟩ := new_block a0 [] 43
  refine pl_val (w' := j7) (.slice (some ⟨e1, 0, none⟩) 0 0) (y_bslice rfl (by rw [l8, j8]; kernel_rfl)) ?_
  have h0 := h0.ext f4
  have h1 := h1.ext f4
  have b0 := b0.cn f4
  have hC := hC.ext f4
  have hO := hO.new1 f4 j8 j9.lt
  have h3 := os_of_box (r := (RT.os 3 ri)) (M := M) (css := []) (fps := []) (xs := ([] : List (List Int))) j9 trivial (Nat.zero_le _) (List.nodup_cons.2 ⟨(fun h => nomatch h), List.nodup_nil⟩)
  have h3 : (RT.os 43 (RT.os 3 ri)).val M j7 (.slice (some ⟨e1, 0, none⟩) 0 0) [] [e1] := h3
  refine ax rfl (ab rfl (c_nil (wp_ret ?_)))
  cases hs
  have hO := hO.fr1
  have hO := hO.drop
  exact ⟨_, (some ⟨e1, 0, none⟩), 0, 0, ([e1]), fr_ovl 69 ⟨rfl, rfl, trivial⟩, hC, h3, hO.top⟩
 refine c_condF (cb h2) (wp_skip (c_sr (pl_val (.agg #[(.int .i64 a_.1), (.slice pa0 pn0 pc0)]) (y_load rfl ((box_load Ag35 Sz35 b0 [] [(.int .i64 a_.1), (.slice pa0 pn0 pc0)] [] rfl rfl (fun h => nomatch h)) _ (Chg.refl _ _))) (mi rfl (ms rfl ?_)))))
 obtain ⟨r14, l9, hs⟩ := bind_some hs
 refine pl_call Bd56 rfl (c_impl_spanOf (M := M) (a_.1, a_.2) k gens h0 h1 hO.fut l9) ?_
 rintro _ a1 ⟨g3, a2, rfl, f5, h4, m0⟩
 have hO := hO.perm (R := [] ++ (([c7]) ++ ([]))) (by simp)
 have m1 := Own.pastL hO f5 m0
 have hK := (show Keeps w M (PastL M [] a0 a1 (a2 ++ ([]))) from Keeps.pastL hC.size (fun g hg => (hO.inN g hg).resolve_left (fun h => nomatch h)))
 have h0 := h0.ext f5
 have h1 := h1.ext f5
 have b0 := b0.cn f5
 have hC := hC.ext f5
 have hO := m1
 have h0 := h0.sub (M' := (PastL M [] a0 a1 (a2 ++ ([])))) (fun g hg => .inl hg.1)
 have h1 := h1.sub (M' := (PastL M [] a0 a1 (a2 ++ ([])))) (fun g hg => .inl hg.1)
 have hO := hO.perm (R := a2 ++ (([c7]) ++ ([]))) (by simp)
 refine pl_val (.tuple #[g3, (.bool r14.2)]) (y_move rfl) (pl_val g3 (y_extract rfl (by kernel_rfl)) (pl_val (.bool r14.2) (y_extract rfl (by kernel_rfl)) (pl_val g3 (y_assign rfl) (ab rfl (c_nil (c_seq (c_sr (mb rfl (pl_val _ (y_not rfl) (c_nil ?_))))))))))
 rcases bif_some hs with ⟨h5, hs⟩ | ⟨h5, hs⟩
 ·refine c_condT (cb h5) (c_sr ?_)
  obtain ⟨k0, e2, m2, k1, f6, k2⟩ := new_block a1 [] 43
  refine pl_val (w' := k0) (.slice (some ⟨e2, 0, none⟩) 0 0) (y_bslice rfl (by rw [m2, k1]; kernel_rfl)) ?_
  have h1 := h1.ext f6
  have b0 := b0.cn f6
  have h4 := h4.ext f6
  have hC := hC.ext f6
  have hO := hO.new1 f6 k1 k2.lt
  have h6 := os_of_box (r := (RT.os 3 ri)) (M := (PastL M [] a0 a1 (a2 ++ ([])))) (css := []) (fps := []) (xs := ([] : List (List Int))) k2 trivial (Nat.zero_le _) (List.nodup_cons.2 ⟨(fun h => nomatch h), List.nodup_nil⟩)
  have h6 : (RT.os 43 (RT.os 3 ri)).val (PastL M [] a0 a1 (a2 ++ ([]))) k0 (.slice (some ⟨e2, 0, none⟩) 0 0) [] [e2] := h6
  refine ax rfl (ab rfl (c_nil (wp_ret ?_)))
  cases hs
  have hO := hO.fr1
  have hO := hO.drop
  have hO := hO.fr1
  have hO := hO.drop
  exact ⟨_, (some ⟨e2, 0, none⟩), 0, 0, ([e2]), fr_ovl 69 ⟨rfl, rfl, trivial⟩, hC, (h6.free (Free.os (Free.os Free.int))), hO.top⟩
 refine c_condF (cb h5) (wp_skip (c_sr (pl_val g3 (y_move rfl) (ms rfl ?_))))
 obtain ⟨p20, m3, hs⟩ := bind_some hs
 obtain ⟨a9, rfl, m4⟩ := op_get h4 m3
 obtain ⟨r3, r4, m5, a3, m6⟩ := po_open m4
 obtain ⟨r5, r6, r7, r9, rfl, rfl, m7, m8⟩ := m6
 obtain ⟨s0, s1, s2, s3, rfl, rfl, m9, n0⟩ := m7
 obtain ⟨rfl, rfl⟩ := m9
 obtain ⟨c8, c9, d0, rfl, rfl, a7⟩ := rs_rel' n0
 obtain ⟨s5, s6, s7, s8, rfl, rfl, n1, n2⟩ := m8
 obtain ⟨rfl, rfl⟩ := n1
 obtain ⟨s9, t0, b2, b5, rfl, rfl, n3, n4⟩ := n2
 obtain ⟨c1, c2, c3, rfl, a4⟩ := os_rel' n3
 obtain ⟨c4, rfl, a5⟩ := mo_rel' n4
 have a3 : BoxV a1 a9 81 [(.int .i64 p20.1.1), (.slice c8 c9 d0), (.int .i64 p20.2.1), (.slice c1 c2 c3), (.map (some c4))] := a3
 have hO := hO.perm (R := ([a9]) ++ (b2 ++ (b5 ++ (([c7]) ++ ([]))))) (by rw [m5]; simp)
 have hO := hO.fr2
 have hO := hO.fr2
 have hO := hO.fr2
 obtain ⟨r26, n5, hs⟩ := bind_some hs
 refine pl_call Bd57 rfl (c_impl_span__firstTerms (M := (Less (Less (Less (PastL M [] a0 a1 (a2 ++ ([]))) ([a9])) b2) b5)) gens (p20.1.1, p20.1.2, p20.2.1, p20.2.2.1, p20.2.2.2) (((h1.sub Less.sub).sub Less.sub).sub Less.sub) (show RBox (Less (Less (Less (PastL M [] a0 a1 (a2 ++ ([]))) ([a9])) b2) b5) _ a9 81 [(.int .i64 p20.1.1), (.slice c8 c9 d0), (.int .i64 p20.2.1), (.slice c1 c2 c3), (.map (some c4))] from ⟨a3, fun h => by simp [Less] at h⟩) (((a7.sub Less.sub).sub Less.sub).sub Less.sub) ((((Frz.os (Frz.rs Frz.int))).val (a4.sub Less.sub) Less.sub Less.not).sub Less.sub) ((Frz.mo).val ((a5.sub Less.sub).sub Less.sub) Less.sub Less.not) ((hO.less).less).less.fut n5) ?_
 rintro _ n6 ⟨f7, f8, f9, h7, rfl, d1, c5, n7⟩
 have hO := hO.fr2
 have hO := hO.fr2
 have hO := hO.fr2
 have hO := hO.perm (R := [] ++ (([a9]) ++ (b2 ++ (b5 ++ (([c7]) ++ ([])))))) (by simp)
 have h1 := h1.ext d1
 have b0 := b0.cn d1
 have a7 := a7.ext d1
 have a4 := a4.ext d1
 have a5 := a5.ext d1
 have a3 := a3.cn d1
 have hC := hC.ext d1
 have hO := Own.join hO d1 n7
 have hO := hO.perm (R := h7 ++ (([a9]) ++ (b2 ++ (b5 ++ (([c7]) ++ ([])))))) (by simp)
 have c5 := c5.free (M' := (PastL M [] a0 a1 (a2 ++ ([])))) (Free.os (Free.on Free.int))
 refine ax rfl (c_nil (c_sr ?_))
 obtain ⟨k3, d7, n8, k4, d2, k5⟩ := new_block n6 [] 43
 refine pl_val (w' := k3) (.slice (some ⟨d7, 0, none⟩) 0 0) (y_bslice rfl (by rw [n8, k4]; kernel_rfl)) ?_
 have b0 := b0.cn d2
 have a7 := a7.ext d2
 have a4 := a4.ext d2
 have a5 := a5.ext d2
 have a3 := a3.cn d2
 have c5 := c5.ext d2
 have hC := hC.ext d2
 have hO := hO.new1 d2 k4 k5.lt
 have g0 := os_of_box (r := (RT.os 3 ri)) (M := (PastL M [] a0 a1 (a2 ++ ([])))) (css := []) (fps := []) (xs := ([] : List (List Int))) k5 trivial (Nat.zero_le _) (List.nodup_cons.2 ⟨(fun h => nomatch h), List.nodup_nil⟩)
 have g0 : (RT.os 43 (RT.os 3 ri)).val (PastL M [] a0 a1 (a2 ++ ([]))) k3 (.slice (some ⟨d7, 0, none⟩) 0 0) [] [d7] := g0
 refine ax rfl (c_nil (c_seq (c_sr (mp rfl (pl_val _ (y_nilc rfl) (pl_val (pq a9 3) (y_faddr rfl Fa81x2) (pl_val (.slice c1 c2 c3) (y_load rfl ((box_load Ag25 Sz25 a3 [(.int .i64 p20.1.1), (.slice c8 c9 d0), (.int .i64 p20.2.1)] [(.slice c1 c2 c3)] [(.map (some c4))] rfl rfl (fun _ => rfl)) _ (Chg.refl _ _))) ?_)))))))
 have hO := hO.fr3
 obtain ⟨r31, n9, hs⟩ := bind_some hs
 refine pl_call Bd58 rfl (c_impl_sortedTuples (M := (Less (PastL M [] a0 a1 (a2 ++ ([]))) b2)) p20.2.2.1 (((Frz.os (Frz.rs Frz.int))).val a4 Less.sub Less.not) hO.less.fut n9) ?_
 rintro _ t1 ⟨h8, h9, i0, d8, rfl, c6, a8, o0⟩
 have b0 := b0.cn c6
 have a7 := a7.ext c6
 have a4 := a4.ext c6
 have a5 := a5.ext c6
 have a3 := a3.cn c6
 have c5 := c5.ext c6
 have g0 := g0.ext c6
 have hC := hC.ext c6
 have hO := Own.join0 hO c6 o0
 have hO := hO.perm (R := d8 ++ (b2 ++ (([d7]) ++ (h7 ++ (([a9]) ++ (b5 ++ (([c7]) ++ ([])))))))) (by simp)
 have a8 := a8.free (M' := (PastL M [] a0 a1 (a2 ++ ([])))) (Free.os (Free.os Free.int))
 refine pl_val _ (y_len' Sl25 (os_len a8) rfl) (mi rfl (c_nil ?_))
 have hO := hO.fr6
 have hO := hO.drop
 have c5 := os_hole c5
 obtain ⟨o131, o1, hs⟩ := bind_some hs
 refine wp_block (wp_forR (id := 0) (I := fun i_ xs_ s127 a a6 => ∃ b7 : Nat, i_ = (b7 : Int) ∧ List.drop b7 r31 = xs_ ∧ (∃ (σ : Nat → Value) (e3 : Option Addr) (e4 : Nat) (e5 : Nat) (e6 : List Nat) (e7 : List Nat), a = fr 69 (ovl σ [(8, (pq a9 0)), (10, (.slice f7 f8 f9)), (11, (.slice e3 e4 e5)), (44, (.slice h8 h9 i0)), (45, (.int .i64 (r31.length : Int))), (46, (.int .i64 (b7 : Int)))]) ∧ Chg [] w a6 ∧ Own (Nw w []) (PastL M [] a0 a1 (a2 ++ ([]))) a6 (e6 ++ (d8 ++ (b2 ++ (e7 ++ (([a9]) ++ (b5 ++ [])))))) ∧ (RT.rs (RT.pr ri (RT.rs ri))).val (PastL M [] a0 a1 (a2 ++ ([]))) a6 (.slice c8 c9 d0) p20.1.2 ([]) ∧ (RT.os 43 (RT.rs ri)).val (PastL M [] a0 a1 (a2 ++ ([]))) a6 (.slice c1 c2 c3) p20.2.2.1 b2 ∧ (RT.mo (Value.int .i64)).val (PastL M [] a0 a1 (a2 ++ ([]))) a6 (.map (some c4)) p20.2.2.2 b5 ∧ BoxV a6 a9 81 [(.int .i64 p20.1.1), (.slice c8 c9 d0), (.int .i64 p20.2.1), (.slice c1 c2 c3), (.map (some c4))] ∧ (RT.os 43 (RT.hole (RT.on 3 ri))).val (PastL M [] a0 a1 (a2 ++ ([]))) a6 (.slice f7 f8 f9) s127.2 e7 ∧ (RT.os 43 (RT.os 3 ri)).val (PastL M [] a0 a1 (a2 ++ ([]))) a6 (.slice h8 h9 i0) r31 d8 ∧ (RT.os 43 (RT.os 3 ri)).val (PastL M [] a0 a1 (a2 ++ ([]))) a6 (.slice e3 e4 e5) s127.1 e6)) (J := fun s127 a a6 => ∃ (σ : Nat → Value) (e8 : Option Addr) (e9 : Nat) (f0 : Nat) (g4 : List Nat) (i1 : List Nat), a = fr 69 (ovl σ [(11, (.slice e8 e9 f0))]) ∧ Chg [] w a6 ∧ Own (Nw w []) (PastL M [] a0 a1 (a2 ++ ([]))) a6 (g4 ++ (d8 ++ (b2 ++ (i1 ++ (([a9]) ++ (b5 ++ [])))))) ∧ (RT.rs (RT.pr ri (RT.rs ri))).val (PastL M [] a0 a1 (a2 ++ ([]))) a6 (.slice c8 c9 d0) p20.1.2 ([]) ∧ (RT.os 43 (RT.rs ri)).val (PastL M [] a0 a1 (a2 ++ ([]))) a6 (.slice c1 c2 c3) p20.2.2.1 b2 ∧ (RT.mo (Value.int .i64)).val (PastL M [] a0 a1 (a2 ++ ([]))) a6 (.map (some c4)) p20.2.2.2 b5 ∧ BoxV a6 a9 81 [(.int .i64 p20.1.1), (.slice c8 c9 d0), (.int .i64 p20.2.1), (.slice c1 c2 c3), (.map (some c4))] ∧ (RT.os 43 (RT.hole (RT.on 3 ri))).val (PastL M [] a0 a1 (a2 ++ ([]))) a6 (.slice f7 f8 f9) s127.2 i1 ∧ (RT.os 43 (RT.os 3 ri)).val (PastL M [] a0 a1 (a2 ++ ([]))) a6 (.slice h8 h9 i0) r31 d8 ∧ (RT.os 43 (RT.os 3 ri)).val (PastL M [] a0 a1 (a2 ++ ([]))) a6 (.slice e8 e9 f0) s127.1 g4) (K := (k_impl_TermsFor M w)) ?_ ?_ r31 0 ([], List.map some r26) o131 _ _ ?_ o1 ?_)
 ·rintro _ s127 a a6 ⟨b7, rfl, hd, σ, e3, e4, e5, e6, e7, rfl, hC, hO, a7, a4, a5, a3, b8, a8, b3⟩
  have hlt := drop_nil_ge hd
  refine c_sr (pl_val _ (y_lss rfl rfl) (c_nil (c_seq (c_condF (cb (decide_eq_false hlt)) (wp_exit ?_)))))
  have hO := hO.fr5
  have hO := hO.fr5
  have hO := hO.fr5
  have hO := hO.fr5
  have hO := hO.fr5
  have hO := hO.fr5
  exact ⟨rfl, _, e3, e4, e5, e6, e7, fr_ovl 69 ⟨rfl, trivial⟩, hC, hO, a7, a4, a5, a3, b8, a8, b3⟩
 ·rintro _ x130 xs_ s127 o131 a a6 ⟨b7, rfl, hd, σ, e3, e4, e5, e6, e7, rfl, hC, hO, a7, a4, a5, a3, b8, a8, b3⟩ hs
  have hlt := drop_cons_lt hd
  have o2 := drop_cons_idx hd
  refine c_sr (pl_val _ (y_lss rfl rfl) (c_nil (c_seq (c_condT (cb (decide_eq_true hlt)) (wp_skip (c_seq (wp_block (c_sr ?_))))))))
  obtain ⟨o3, t2, t3, t4, o4, o5, o6⟩ := os_idx Sl25 Sz43 a8 o2
  have o7 := own_row (Frz.os Frz.int) o5 o6
  refine pl_val _ (o4 _ _ _ _ _ _ _ _ _ rfl rfl) ?_
  obtain ⟨t5, o8, hrow140, f1⟩ := at_load1 Ag43 Sz43 rfl rfl o7
  obtain ⟨i2, i3, i4, rfl⟩ := rs_sl f1
  refine pl_val (.slice i2 i3 i4) (y_load rfl (o8 _ (Chg.refl _ _))) (ax rfl (c_nil (c_seq (x_start [] Mx rfl ?_))))
  have b4 := Chg.drew a6
  generalize World.drew a6 = o9 at b4 ⊢
  have a7 := a7.ext b4
  have a4 := a4.ext b4
  have a5 := a5.ext b4
  have a3 := a3.cn b4
  have b8 := b8.ext b4
  have a8 := a8.ext b4
  have b3 := b3.ext b4
  have f1 := f1.ext b4
  have hrow140 := hrow140.cn b4
  have hC := hC.ext b4
  have hO := hO.ext b4
  have hS := Chg.refl [] o9
  refine x_p 0 (.slice f7 f8 f9) rfl (by kernel_rfl)  (fun _ => y_move rfl) (fun _ => hS) (x_p 1 (pq a9 0) rfl (by kernel_rfl)  (fun _ => y_move rfl) (fun _ => hS) (x_p 2 (pq a9 0) rfl (by kernel_rfl)  (fun _ => y_nilc rfl) (fun _ => hS) (x_p 3 (pq a9 4) rfl (by kernel_rfl)  (fun _ => y_faddr rfl Fa81x3) (fun _ => hS) (x_l 4 (.map (some c4)) rfl (by kernel_rfl)  (fun w' hw' => y_load rfl ((box_load Ag79 Sz79 a3 [(.int .i64 p20.1.1), (.slice c8 c9 d0), (.int .i64 p20.2.1), (.slice c1 c2 c3)] [(.map (some c4))] [] rfl rfl (fun _ => rfl)) w' hw')) hS (x_p 5 (.slice i2 i3 i4) rfl (by kernel_rfl)  (fun _ => y_move rfl) (fun _ => hS) (x_one (i := 6) (by kernel_rfl) ?_))))))
  have hO := hO.fr1
  obtain ⟨r152, p0, hs⟩ := bind_some hs
  refine xk_call (b := false) rfl  Bd59 rfl (c_impl_keyOf (M := (Less (PastL M [] a0 a1 (a2 ++ ([]))) d8)) x130 f1 hO.less.fut p0) rfl (by rintro _ _ _ ⟨rfl, b1⟩; exact hS.ext b1) ?_
  rintro _ g5 ⟨rfl, b1⟩
  have a7 := a7.ext b1
  have a4 := a4.ext b1
  have a5 := a5.ext b1
  have a3 := a3.cn b1
  have b8 := b8.ext b1
  have a8 := a8.ext b1
  have b3 := b3.ext b1
  have f1 := f1.ext b1
  have hrow140 := hrow140.cn b1
  have hC := hC.ext b1
  have hO := hO.ext b1
  have hS := hS.ext b1
  refine x_one (i := 7) (by kernel_rfl) (xk_val (b := false) (.int .i64 ((mget p20.2.2.2 r152).getD 0)) rfl  (y_look (enc := (Value.int .i64)) Try.underlying79 Try.underlying9 Zv3 (mo_at a5) rfl rfl) rfl (fun _ => hS) ?_)
  obtain ⟨x153, p1, hs⟩ := bind_some hs
  obtain ⟨x155, p2, hs⟩ := bind_some hs
  obtain ⟨k6, t6, p3, t7, p4, p5, p6⟩ := os_idx Sl25 Sz43 b8 (p1.trans (congrArg some p2))
  have i5 := own_row (Frz.hole (Frz.onn Frz.int)) p5 p6
  have i5 : (RT.rn ri).at_ (Less (PastL M [] a0 a1 (a2 ++ ([]))) e7) g5 ⟨k6, 0 + Int.toNat ((mget p20.2.2.2 r152).getD 0) * 1, none⟩ x155 [] := i5
  refine x_p 8 (.pointer (some ⟨k6, 0 + Int.toNat ((mget p20.2.2.2 r152).getD 0) * 1, none⟩)) rfl (by kernel_rfl)  (fun _ => p4 _ _ _ _ _ _ _ _ _ rfl rfl) (fun _ => hS) (x_one (i := 9) (by kernel_rfl) ?_)
  obtain ⟨t8, p7, hrow156, g6⟩ := at_load1 Ag43 Sz43 rfl rfl i5
  obtain ⟨d3, d4, d5, rfl, g6, p8⟩ := rn_sl g6
  refine xk_val (b := false) (.slice d3 d4 d5) rfl  (y_load rfl (p7 _ (Chg.refl _ _))) rfl (fun _ => hS) (x_p 10 (.slice d3 d4 d5) rfl (by kernel_rfl)  (fun _ => y_assign rfl) (fun _ => hS) (x_end (by kernel_rfl) ?_))
  clear hS
  refine c_seq (c_sr (ms rfl (pl_val (.bool (List.isEmpty x155)) (y_nil Try.underlying43 rfl rfl p8) (c_nil ?_))))
  rcases bif_some hs with ⟨i6, hs⟩ | ⟨i6, hs⟩
  ·refine c_condT (cb i6) (c_sr ?_)
   obtain ⟨k7, f2, p9, k8, b6, k9⟩ := new_block g5 [] 43
   refine pl_val (w' := k7) (.slice (some ⟨f2, 0, none⟩) 0 0) (y_bslice rfl (by rw [p9, k8]; kernel_rfl)) ?_
   have a7 := a7.ext b6
   have a4 := a4.ext b6
   have a5 := a5.ext b6
   have a3 := a3.cn b6
   have b8 := b8.ext b6
   have a8 := a8.ext b6
   have b3 := b3.ext b6
   have g6 := g6.ext b6
   have hrow156 := hrow156.cn b6
   have hC := hC.ext b6
   have hO := hO.new1 b6 k8 k9.lt
   have i7 := os_of_box (r := (RT.os 3 ri)) (M := (PastL M [] a0 a1 (a2 ++ ([])))) (css := []) (fps := []) (xs := ([] : List (List Int))) k9 trivial (Nat.zero_le _) (List.nodup_cons.2 ⟨(fun h => nomatch h), List.nodup_nil⟩)
   have i7 : (RT.os 43 (RT.os 3 ri)).val (PastL M [] a0 a1 (a2 ++ ([]))) k7 (.slice (some ⟨f2, 0, none⟩) 0 0) [] [f2] := i7
   refine ax rfl (ab rfl (c_nil (wp_ret ?_)))
   cases hs
   have hO := hO.fr1
   have hO := hO.drop
   have hO := hO.fr1
   have hO := hO.drop
   have hO := hO.fr1
   have hO := hO.drop
   have hO := hO.fr1
   have hO := hO.drop
   have hO := hO.fr1
   have hO := hO.drop
   have hO := hO.fr1
   have hO := hO.drop
   exact ⟨_, (some ⟨f2, 0, none⟩), 0, 0, ([f2]), fr_ovl 69 ⟨rfl, rfl, trivial⟩, hC, (i7.free (Free.os (Free.os Free.int))), hO.top⟩
  refine c_condF (cb i6) (wp_skip (c_region (ms rfl (ms rfl ?_))))
  obtain ⟨o163, q0, hs⟩ := bind_some hs
  obtain ⟨x164, q1, hs⟩ := bind_some hs
  have hO := hO.fr3
  obtain ⟨g7, l0, q2, t9, q3, g1⟩ := oh_take (c := [(.slice d3 d4 d5)]) p3 b8 (q0.trans (congrArg some q1)) hrow156 rfl
  have hO := hO.split q3
  have i9 : (RT.os 3 ri).val (PastL M [] a0 a1 (a2 ++ ([]))) g5 (.slice d3 d4 d5) x164 g7 := ⟨[_], rfl, q2.1⟩
  obtain ⟨l1, g8, q4, l2, b9, l3⟩ := new_block g5 [(.slice d3 d4 d5)] 43
  refine pl_val (w' := l1) (.slice (some ⟨g8, 0, none⟩) 1 1) (y_bslice rfl (by rw [q4, l2]; kernel_rfl)) ?_
  have a7 := a7.ext b9
  have a4 := a4.ext b9
  have a5 := a5.ext b9
  have a3 := a3.cn b9
  have g1 := g1.ext b9
  have a8 := a8.ext b9
  have b3 := b3.ext b9
  have i9 := i9.ext b9
  have hC := hC.ext b9
  have hO := hO.new1 b9 l2 l3.lt
  have hO := hO.perm (R := (g8 :: ((g7) ++ ([]))) ++ (l0 ++ (d8 ++ (e6 ++ (b2 ++ (([a9]) ++ (b5 ++ ([])))))))) (by simp)
  have q5 := hO.nd
  have j0 := os_of_box (r := (RT.os 3 ri)) (M := (PastL M [] a0 a1 (a2 ++ ([])))) (css := [[(.slice d3 d4 d5)]]) (fps := [(g7 : List Nat)]) (xs := ([x164] : List (List Int))) l3 ⟨(os_unval i9), trivial⟩ (Nat.le_of_ble_eq_true rfl) q5
  have j0 : (RT.os 43 (RT.os 3 ri)).val (PastL M [] a0 a1 (a2 ++ ([]))) l1 (.slice (some ⟨g8, 0, none⟩) 1 1) [x164] (g8 :: ((g7) ++ ([]))) := j0
  obtain ⟨y167, q6, hs⟩ := bind_some hs
  have hO := hO.fr3
  obtain ⟨j1, j2, j3, q7, q8, q9, d6, r0, j4⟩ := app_os Rw25 q6 b3 j0 hO.inM (fun g hg hq => hO.apart g hq (mem_l hg))
  have d9 := os_block b3
  refine pl_val (w' := q7) (.slice j1 j2 j3) (y_append rfl rfl (q9 _)) ?_
  have hO := hO.fr1
  have hO := hO.fr1
  have a7 := a7.mt d6 hO d9
  have a4 := a4.ma d6 hO d9 (fun _ e => (mem_r (mem_r (mem_r (mem_l (e))))))
  have a5 := a5.ma d6 hO d9 (fun _ e => (mem_r (mem_r (mem_r (mem_r (mem_r (mem_l (e))))))))
  have a3 := a3.ap d6 hO d9 (mem_r (mem_r (mem_r (mem_r (mem_l (List.mem_singleton.2 rfl))))))
  have g1 := g1.ma d6 hO d9 (fun _ e => (mem_r (mem_l (e))))
  have a8 := a8.ma d6 hO d9 (fun _ e => (mem_r (mem_r (mem_l (e)))))
  have hC := hC.st d6 hO d9
  have hO := hO.eat d6 r0 (os_nodup j4) j4.fpl
  refine ax rfl (c_nil (c_region (pl_val (.int .i64 (w64 ((b7 : Int) + 1))) (y_add rfl rfl) (mi rfl (c_nil ?_)))))
  cases hs
  have hO := hO.fr5
  have hO := hO.fr5
  have hO := hO.fr3
  have hO := hO.fr5
  have hO := hO.fr5
  have hO := hO.fr5
  exact ⟨_, rfl, drop_cons_next hd, _, j1, j2, j3, q8, l0, fr_ovl 69 ⟨rfl, rfl, rfl, rfl, rfl, congrArg (Value.int .i64) (w64_succ hlt (Int.natCast_nonneg _) (os_max a8)), trivial⟩, hC, hO, a7, a4, a5, a3, g1, a8, j4⟩
 ·skip
  have hO := hO.fr5
  have hO := hO.fr5
  have hO := hO.fr5
  have hO := hO.fr4
  have hO := hO.fr4
  have hO := hO.fr5
  exact ⟨0, rfl, rfl, _, (some ⟨d7, 0, none⟩), 0, 0, ([d7]), h7, fr_ovl 69 ⟨rfl, rfl, rfl, rfl, rfl, rfl, trivial⟩, hC, hO, a7, a4, a5, a3, c5, a8, g0⟩
 cases o131 with
 | nx _ => exact True.intro
 | rt r_ =>
  have hs := after_rt hs
  intro j6 l4 hK
  cases hs
  exact hK
 | br s127 =>
  have hs := after_br hs
  rintro j6 a6 ⟨σ, e8, e9, f0, g4, i1, rfl, hC, hO, a7, a4, a5, a3, u0, a8, r1⟩
  refine c_sr (ms rfl (ax rfl (ab rfl (c_nil (wp_ret ?_)))))
  cases hs
  have hO := hO.fr1
  have hO := hO.drop
  have hO := hO.fr1
  have hO := hO.drop
  have hO := hO.fr1
  have hO := hO.drop
  have hO := hO.fr1
  have hO := hO.drop
  have hO := hO.fr1
  have hO := hO.drop
  exact ⟨_, e8, e9, f0, g4, fr_ovl 69 ⟨rfl, rfl, trivial⟩, hC, (r1.free (Free.os (Free.os Free.int))), hO.top⟩

def k_laws_eqIntS (M : Nat → Prop) (w0 : World) (r : Bool) (a : Act) (w : World) : Prop :=
  ∃ (σ : Nat → Value) , a = fr 26 (ovl σ [(4, (.bool r))]) ∧ Chg [] w0 w
def s_laws_eqIntS (a_ : List Int) (b : List Int) : Option (Bool) :=
  (bif ((a_.length : Int) != (b.length : Int)) then some false else (forC (S := Unit) (R := Bool) (fun k12 s10 =>
  (idx a_ k12).bind fun x17 =>
  (idx b k12).bind fun x19 =>
  (bif (x17 != x19) then some (.rt false) else some (.nx ()))) 0 (a_.length : Int) ()).bind fun o14 => after o14 (fun r_ => some r_) (fun s10 =>
  some true))
set_option maxHeartbeats 4000000 in
theorem c_laws_eqIntS {M : Nat → Prop} {w : World} {pa0 : Option Addr} {pn0 pc0 : Nat} {pa1 : Option Addr} {pn1 pc1 : Nat} (a_ : List Int) (b : List Int) (h0 : (RT.rs ri).val M w (.slice pa0 pn0 pc0) a_ ([])) (h1 : (RT.rs ri).val M w (.slice pa1 pn1 pc1) b ([])) (hM : ∀ g, w.heap.size ≤ g → M g) {r : Bool} (hs : s_laws_eqIntS a_ b = some r) :
    Gives Try.prog 22 [(.slice pa0 pn0 pc0), (.slice pa1 pn1 pc1)] w (fun v w' => v = (.bool r) ∧ Chg [] w w') := by
 refine calls_fr Try.func22 rfl Try.ntmps22 (Nat.le_of_ble_eq_true rfl) ?_
 have hO := Own.start (N := Nw w []) hM Nw.fut
 have hC := Chg.refl [] w
 unfold s_laws_eqIntS at hs
 refine wp_mono (Q := KPost (k_laws_eqIntS M w r)) ?_ (fun e a a4 h => ?_)
 rotate_left
 ·cases e
  case ret =>
   obtain ⟨σ, rfl, hrest⟩ := h
   exact ret1x Try.results22 (res_tmp rfl) ⟨rfl, hrest⟩
  all_goals exact (h : False).elim
 refine c_sr (ab rfl (c_nil (c_seq (c_sr (ms rfl (pl_val _ (y_len' Sl43 (rs_len h0) rfl) (ms rfl (pl_val _ (y_len' Sl43 (rs_len h1) rfl) (pl_val (.bool ((a_.length : Int) != (b.length : Int))) (y_neq rfl rfl) (c_nil ?_))))))))))
 rcases bif_some hs with ⟨a2, hs⟩ | ⟨a2, hs⟩
 ·refine c_condT (cb a2) (c_sr (ab rfl (c_nil (wp_ret ?_))))
  cases hs
  exact ⟨_, fr_ovl 26 ⟨rfl, trivial⟩, hC⟩
 refine c_condF (cb a2) (wp_skip (c_seq (c_sr (ai rfl (c_nil ?_)))))
 obtain ⟨o14, a5, hs⟩ := bind_some hs
 refine wp_block (wp_forC (id := 0) (a_.length : Int) (I := fun k12 s10 a a0 => ∃ (σ : Nat → Value), a = fr 26 (ovl σ [(0, (.slice pa0 pn0 pc0)), (1, (.slice pa1 pn1 pc1)), (5, (.int .i64 k12))]) ∧ Chg [] w a0 ∧ Own (Nw w []) M a0 ([]) ∧ (RT.rs ri).val M a0 (.slice pa0 pn0 pc0) a_ ([]) ∧ (RT.rs ri).val M a0 (.slice pa1 pn1 pc1) b ([])) (J := fun s10 a a0 => ∃ (σ : Nat → Value), a = fr 26 (ovl σ []) ∧ Chg [] w a0 ∧ Own (Nw w []) M a0 ([]) ∧ (RT.rs ri).val M a0 (.slice pa0 pn0 pc0) a_ ([]) ∧ (RT.rs ri).val M a0 (.slice pa1 pn1 pc1) b ([])) (K := (k_laws_eqIntS M w)) ?_ ?_ 0 () o14 _ _ ?_ a5 ?_)
 ·rintro k12 s10 a a0 ⟨σ, rfl, hC, hO, h0, h1⟩ hlt
  refine c_seq (c_sr (mi rfl (ms rfl (pl_val _ (y_len' Sl43 (rs_len h0) rfl) (pl_val _ (y_lss rfl rfl) (c_nil (c_condF (cb (decide_eq_false hlt)) (wp_exit ?_))))))))
  exact ⟨rfl, _, fr_ovl 26 trivial, hC, hO, h0, h1⟩
 ·rintro k12 s10 o14 a a0 ⟨σ, rfl, hC, hO, h0, h1⟩ hlt hw hs
  refine c_seq (c_sr (mi rfl (ms rfl (pl_val _ (y_len' Sl43 (rs_len h0) rfl) (pl_val _ (y_lss rfl rfl) (c_nil (c_condT (cb (decide_eq_true hlt)) (wp_skip (c_seq (wp_block (c_seq (x_start [] Mx rfl ?_))))))))))))
  have a1 := Chg.drew a0
  generalize World.drew a0 = a6 at a1 ⊢
  have h0 := h0.ext a1
  have h1 := h1.ext a1
  have hC := hC.ext a1
  have hO := hO.ext a1
  have hS := Chg.refl [] a6
  refine x_p 0 (.slice pa0 pn0 pc0) rfl (by kernel_rfl)  (fun _ => y_move rfl) (fun _ => hS) (x_p 1 (.int .i64 k12) rfl (by kernel_rfl)  (fun _ => y_move rfl) (fun _ => hS) ?_)
  obtain ⟨x17, a7, hs⟩ := bind_some hs
  obtain ⟨a8, a9, b0, b1⟩ := rs_idx Sl43 Sz3 h0 a7
  refine x_p 2 (pq a8 a9) rfl (by kernel_rfl)  (fun _ => b0 _ _ _ _ _ _ _ _ _ rfl rfl) (fun _ => hS) (x_l 3 (.int .i64 x17) rfl (by kernel_rfl)  (fun w' hw' => y_load rfl ((at_load_int Ag3 Sz3 b1) w' hw')) hS (x_p 4 (.slice pa1 pn1 pc1) rfl (by kernel_rfl)  (fun _ => y_move rfl) (fun _ => hS) (x_p 5 (.int .i64 k12) rfl (by kernel_rfl)  (fun _ => y_move rfl) (fun _ => hS) ?_)))
  obtain ⟨x19, b2, hs⟩ := bind_some hs
  obtain ⟨b3, b4, b5, b6⟩ := rs_idx Sl43 Sz3 h1 b2
  refine x_p 6 (pq b3 b4) rfl (by kernel_rfl)  (fun _ => b5 _ _ _ _ _ _ _ _ _ rfl rfl) (fun _ => hS) (x_l 7 (.int .i64 x19) rfl (by kernel_rfl)  (fun w' hw' => y_load rfl ((at_load_int Ag3 Sz3 b6) w' hw')) hS (x_p 8 (.bool (x17 != x19)) rfl (by kernel_rfl)  (fun _ => y_neq rfl rfl) (fun _ => hS) (x_end (by kernel_rfl) ?_)))
  clear hS
  rcases bif_some hs with ⟨a3, hs⟩ | ⟨a3, hs⟩
  ·refine c_condT (cb a3) (c_sr (ab rfl (c_nil (wp_ret ?_))))
   cases hs
   exact ⟨_, fr_ovl 26 ⟨rfl, trivial⟩, hC⟩
  refine c_condF (cb a3) (wp_skip (c_region (mi rfl (pl_val (.int .i64 (w64 (k12 + 1))) (y_add rfl rfl) (ai rfl (c_nil ?_))))))
  cases hs
  exact ⟨_, fr_ovl 26 ⟨rfl, rfl, congrArg (Value.int .i64) hw, trivial⟩, hC, hO, h0, h1⟩
 ·skip
  exact ⟨_, fr_ovl 26 ⟨rfl, rfl, rfl, trivial⟩, hC, hO, h0, h1⟩
 cases o14 with
 | nx _ => exact True.intro
 | rt r_ =>
  have hs := after_rt hs
  intro b7 a4 hK
  cases hs
  exact hK
 | br s10 =>
  have hs := after_br hs
  rintro b7 a0 ⟨σ, rfl, hC, hO, h0, h1⟩
  refine c_sr (ab rfl (c_nil (wp_ret ?_)))
  cases hs
  exact ⟨_, fr_ovl 26 ⟨rfl, trivial⟩, hC⟩

theorem Bd22 : Bodied Try.prog 22 := bodied Try.func22 (by kernel_rfl) rfl

def k_laws_eqIntSS (M : Nat → Prop) (w0 : World) (r : Bool) (a : Act) (w : World) : Prop :=
  ∃ (σ : Nat → Value) , a = fr 27 (ovl σ [(4, (.bool r))]) ∧ Chg [] w0 w
def s_laws_eqIntSS (a_ : List (List Int)) (b : List (List Int)) : Option (Bool) :=
  (bif ((a_.length : Int) != (b.length : Int)) then some false else (forC (S := Unit) (R := Bool) (fun k18 s16 =>
  (idx a_ k18).bind fun x23 =>
  (idx b k18).bind fun x27 =>
  (s_laws_eqIntS x23 x27).bind fun r32 =>
  (bif (!r32) then some (.rt false) else some (.nx ()))) 0 (a_.length : Int) ()).bind fun o20 => after o20 (fun r_ => some r_) (fun s16 =>
  some true))
set_option maxHeartbeats 4000000 in
theorem c_laws_eqIntSS {M : Nat → Prop} {w : World} {pa0 : Option Addr} {pn0 pc0 : Nat} {pa1 : Option Addr} {pn1 pc1 : Nat} (a_ : List (List Int)) (b : List (List Int)) (h0 : (RT.rs (RT.rs ri)).val M w (.slice pa0 pn0 pc0) a_ ([])) (h1 : (RT.rs (RT.rs ri)).val M w (.slice pa1 pn1 pc1) b ([])) (hM : ∀ g, w.heap.size ≤ g → M g) {r : Bool} (hs : s_laws_eqIntSS a_ b = some r) :
    Gives Try.prog 29 [(.slice pa0 pn0 pc0), (.slice pa1 pn1 pc1)] w (fun v w' => v = (.bool r) ∧ Chg [] w w') := by
 refine calls_fr Try.func29 rfl Try.ntmps29 (Nat.le_of_ble_eq_true rfl) ?_
 have hO := Own.start (N := Nw w []) hM Nw.fut
 have hC := Chg.refl [] w
 unfold s_laws_eqIntSS at hs
 refine wp_mono (Q := KPost (k_laws_eqIntSS M w r)) ?_ (fun e a a9 h => ?_)
 rotate_left
 ·cases e
  case ret =>
   obtain ⟨σ, rfl, hrest⟩ := h
   exact ret1x Try.results29 (res_tmp rfl) ⟨rfl, hrest⟩
  all_goals exact (h : False).elim
 refine c_sr (ab rfl (c_nil (c_seq (c_sr (ms rfl (pl_val _ (y_len' Sl25 (rs_len h0) rfl) (ms rfl (pl_val _ (y_len' Sl25 (rs_len h1) rfl) (pl_val (.bool ((a_.length : Int) != (b.length : Int))) (y_neq rfl rfl) (c_nil ?_))))))))))
 rcases bif_some hs with ⟨a5, hs⟩ | ⟨a5, hs⟩
 ·refine c_condT (cb a5) (c_sr (ab rfl (c_nil (wp_ret ?_))))
  cases hs
  exact ⟨_, fr_ovl 27 ⟨rfl, trivial⟩, hC⟩
 refine c_condF (cb a5) (wp_skip (c_seq (c_sr (ai rfl (c_nil ?_)))))
 obtain ⟨o20, b0, hs⟩ := bind_some hs
 refine wp_block (wp_forC (id := 0) (a_.length : Int) (I := fun k18 s16 a a0 => ∃ (σ : Nat → Value), a = fr 27 (ovl σ [(0, (.slice pa0 pn0 pc0)), (1, (.slice pa1 pn1 pc1)), (5, (.int .i64 k18))]) ∧ Chg [] w a0 ∧ Own (Nw w []) M a0 ([]) ∧ (RT.rs (RT.rs ri)).val M a0 (.slice pa0 pn0 pc0) a_ ([]) ∧ (RT.rs (RT.rs ri)).val M a0 (.slice pa1 pn1 pc1) b ([])) (J := fun s16 a a0 => ∃ (σ : Nat → Value), a = fr 27 (ovl σ []) ∧ Chg [] w a0 ∧ Own (Nw w []) M a0 ([]) ∧ (RT.rs (RT.rs ri)).val M a0 (.slice pa0 pn0 pc0) a_ ([]) ∧ (RT.rs (RT.rs ri)).val M a0 (.slice pa1 pn1 pc1) b ([])) (K := (k_laws_eqIntSS M w)) ?_ ?_ 0 () o20 _ _ ?_ b0 ?_)
 ·rintro k18 s16 a a0 ⟨σ, rfl, hC, hO, h0, h1⟩ hlt
  refine c_seq (c_sr (mi rfl (ms rfl (pl_val _ (y_len' Sl25 (rs_len h0) rfl) (pl_val _ (y_lss rfl rfl) (c_nil (c_condF (cb (decide_eq_false hlt)) (wp_exit ?_))))))))
  exact ⟨rfl, _, fr_ovl 27 trivial, hC, hO, h0, h1⟩
 ·rintro k18 s16 o20 a a0 ⟨σ, rfl, hC, hO, h0, h1⟩ hlt hw hs
  refine c_seq (c_sr (mi rfl (ms rfl (pl_val _ (y_len' Sl25 (rs_len h0) rfl) (pl_val _ (y_lss rfl rfl) (c_nil (c_condT (cb (decide_eq_true hlt)) (wp_skip (c_seq (wp_block (c_seq (x_start [] Mx rfl ?_))))))))))))
  have a2 := Chg.drew a0
  generalize World.drew a0 = b1 at a2 ⊢
  have h0 := h0.ext a2
  have h1 := h1.ext a2
  have hC := hC.ext a2
  have hO := hO.ext a2
  have hS := Chg.refl [] b1
  refine x_p 0 (.slice pa0 pn0 pc0) rfl (by kernel_rfl)  (fun _ => y_move rfl) (fun _ => hS) (x_p 1 (.int .i64 k18) rfl (by kernel_rfl)  (fun _ => y_move rfl) (fun _ => hS) ?_)
  obtain ⟨x23, b2, hs⟩ := bind_some hs
  obtain ⟨b3, b4, b5, a6⟩ := rs_idx Sl25 Sz43 h0 b2
  refine x_p 2 (pq b3 b4) rfl (by kernel_rfl)  (fun _ => b5 _ _ _ _ _ _ _ _ _ rfl rfl) (fun _ => hS) ?_
  obtain ⟨d0, b6, a3⟩ := at_load Ag43 Sz43 (fun _ => rfl) a6
  obtain ⟨b7, b8, b9, rfl⟩ := rs_sl a3
  refine x_l 3 (.slice b7 b8 b9) rfl (by kernel_rfl)  (fun w' hw' => y_load rfl (b6 w' hw')) hS (x_p 4 (.slice pa1 pn1 pc1) rfl (by kernel_rfl)  (fun _ => y_move rfl) (fun _ => hS) (x_p 5 (.int .i64 k18) rfl (by kernel_rfl)  (fun _ => y_move rfl) (fun _ => hS) ?_))
  obtain ⟨x27, c0, hs⟩ := bind_some hs
  obtain ⟨c1, c2, c3, a7⟩ := rs_idx Sl25 Sz43 h1 c0
  refine x_p 6 (pq c1 c2) rfl (by kernel_rfl)  (fun _ => c3 _ _ _ _ _ _ _ _ _ rfl rfl) (fun _ => hS) ?_
  obtain ⟨d1, c4, a4⟩ := at_load Ag43 Sz43 (fun _ => rfl) a7
  obtain ⟨c5, c6, c7, rfl⟩ := rs_sl a4
  refine x_l 7 (.slice c5 c6 c7) rfl (by kernel_rfl)  (fun w' hw' => y_load rfl (c4 w' hw')) hS (x_one (i := 8) (by kernel_rfl) ?_)
  obtain ⟨r32, c8, hs⟩ := bind_some hs
  refine xk_call (b := false) rfl  Bd22 rfl (c_laws_eqIntS (M := M) x23 x27 a3 a4 hO.fut c8) rfl (by rintro _ _ _ ⟨rfl, a1⟩; exact hS.ext a1) ?_
  rintro _ d2 ⟨rfl, a1⟩
  have h0 := h0.ext a1
  have h1 := h1.ext a1
  have a3 := a3.ext a1
  have a4 := a4.ext a1
  have a6 := at_ext a6 a1
  have a7 := at_ext a7 a1
  have hC := hC.ext a1
  have hO := hO.ext a1
  have hS := hS.ext a1
  refine x_p 9 (.bool (!r32)) rfl (by kernel_rfl)  (fun _ => y_not rfl) (fun _ => hS) (x_end (by kernel_rfl) ?_)
  clear hS
  rcases bif_some hs with ⟨a8, hs⟩ | ⟨a8, hs⟩
  ·refine c_condT (cb a8) (c_sr (ab rfl (c_nil (wp_ret ?_))))
   cases hs
   exact ⟨_, fr_ovl 27 ⟨rfl, trivial⟩, hC⟩
  refine c_condF (cb a8) (wp_skip (c_region (mi rfl (pl_val (.int .i64 (w64 (k18 + 1))) (y_add rfl rfl) (ai rfl (c_nil ?_))))))
  cases hs
  exact ⟨_, fr_ovl 27 ⟨rfl, rfl, congrArg (Value.int .i64) hw, trivial⟩, hC, hO, h0, h1⟩
 ·skip
  exact ⟨_, fr_ovl 27 ⟨rfl, rfl, rfl, trivial⟩, hC, hO, h0, h1⟩
 cases o20 with
 | nx _ => exact True.intro
 | rt r_ =>
  have hs := after_rt hs
  intro c9 a9 hK
  cases hs
  exact hK
 | br s16 =>
  have hs := after_br hs
  rintro c9 a0 ⟨σ, rfl, hC, hO, h0, h1⟩
  refine c_sr (ab rfl (c_nil (wp_ret ?_)))
  cases hs
  exact ⟨_, fr_ovl 27 ⟨rfl, trivial⟩, hC⟩

def k_laws_eqOp (M : Nat → Prop) (w0 : World) (r : Bool) (a : Act) (w : World) : Prop :=
  ∃ (σ : Nat → Value) , a = fr 16 (ovl σ [(4, (.bool r))]) ∧ Chg [] w0 w
def s_laws_eqOp (a_ : Int × (List Int)) (b : Int × (List Int)) : Option (Bool) :=
  (bif (a_.1 != b.1) then some false else (s_laws_eqIntS a_.2 b.2).bind fun r7 =>
  (bif (!r7) then some false else some true))
set_option maxHeartbeats 4000000 in
theorem c_laws_eqOp {M : Nat → Prop} {w : World} {pa0 : Option Addr} {pn0 pc0 : Nat} {pa1 : Option Addr} {pn1 pc1 : Nat} (a_ : Int × (List Int)) (b : Int × (List Int)) (h0 : (RT.rs ri).val M w (.slice pa0 pn0 pc0) a_.2 ([])) (h1 : (RT.rs ri).val M w (.slice pa1 pn1 pc1) b.2 ([])) (hM : ∀ g, w.heap.size ≤ g → M g) {r : Bool} (hs : s_laws_eqOp a_ b = some r) :
    Gives Try.prog 79 [(.agg #[(.int .i64 a_.1), (.slice pa0 pn0 pc0)]), (.agg #[(.int .i64 b.1), (.slice pa1 pn1 pc1)])] w (fun v w' => v = (.bool r) ∧ Chg [] w w') := by
 refine calls_fr Try.func79 rfl Try.ntmps79 (Nat.le_of_ble_eq_true rfl) ?_
 have hO := Own.start (N := Nw w []) hM Nw.fut
 have hC := Chg.refl [] w
 unfold s_laws_eqOp at hs
 refine wp_mono (Q := KPost (k_laws_eqOp M w r)) ?_ (fun e a b6 h => ?_)
 rotate_left
 ·cases e
  case ret =>
   obtain ⟨σ, rfl, hrest⟩ := h
   exact ret1x Try.results79 (res_tmp rfl) ⟨rfl, hrest⟩
  all_goals exact (h : False).elim
 refine c_sr ?_
 obtain ⟨a9, a5, b2, b0, a4, a0⟩ := new_block w [(.int .i64 a_.1), (.slice pa0 pn0 pc0)] 89
 refine pl_val (w' := a9) (pq a5 0) (y_box rfl (by rw [b2, b0]; kernel_rfl)) ?_
 have h0 := h0.ext a4
 have h1 := h1.ext a4
 have hC := hC.ext a4
 have hO := hO.new1 a4 b0 a0.lt
 obtain ⟨b3, a6, b4, b1, a2, a3⟩ := new_block a9 [(.int .i64 b.1), (.slice pa1 pn1 pc1)] 89
 refine pl_val (w' := b3) (pq a6 0) (y_box rfl (by rw [b4, b1]; kernel_rfl)) ?_
 have h0 := h0.ext a2
 have h1 := h1.ext a2
 have a0 := a0.cn a2
 have hC := hC.ext a2
 have hO := hO.new1 a2 b1 a3.lt
 refine ab rfl (c_nil (c_seq (c_sr (pl_val (pq a5 0) (y_faddr rfl Fa89x0) (pl_val (.int .i64 a_.1) (y_load rfl ((box_load Ag3 Sz3 a0 [] [(.int .i64 a_.1)] [(.slice pa0 pn0 pc0)] rfl rfl (fun _ => rfl)) _ (Chg.refl _ _))) (pl_val (pq a6 0) (y_faddr rfl Fa89x0) (pl_val (.int .i64 b.1) (y_load rfl ((box_load Ag3 Sz3 a3 [] [(.int .i64 b.1)] [(.slice pa1 pn1 pc1)] rfl rfl (fun _ => rfl)) _ (Chg.refl _ _))) (pl_val (.bool (a_.1 != b.1)) (y_neq rfl rfl) (c_nil ?_)))))))))
 rcases bif_some hs with ⟨a7, hs⟩ | ⟨a7, hs⟩
 ·refine c_condT (cb a7) (c_sr (ab rfl (c_nil (wp_ret ?_))))
  cases hs
  exact ⟨_, fr_ovl 16 ⟨rfl, trivial⟩, hC⟩
 refine c_condF (cb a7) (wp_skip (c_seq (c_sr (pl_val (pq a5 1) (y_faddr rfl Fa89x1) (pl_val (.slice pa0 pn0 pc0) (y_load rfl ((box_load Ag43 Sz43 a0 [(.int .i64 a_.1)] [(.slice pa0 pn0 pc0)] [] rfl rfl (fun _ => rfl)) _ (Chg.refl _ _))) (pl_val (pq a6 1) (y_faddr rfl Fa89x1) (pl_val (.slice pa1 pn1 pc1) (y_load rfl ((box_load Ag43 Sz43 a3 [(.int .i64 b.1)] [(.slice pa1 pn1 pc1)] [] rfl rfl (fun _ => rfl)) _ (Chg.refl _ _))) ?_)))))))
 obtain ⟨r7, b5, hs⟩ := bind_some hs
 refine pl_call Bd22 rfl (c_laws_eqIntS (M := M) a_.2 b.2 h0 h1 hO.fut b5) ?_
 rintro _ b7 ⟨rfl, a1⟩
 have h0 := h0.ext a1
 have h1 := h1.ext a1
 have a0 := a0.cn a1
 have a3 := a3.cn a1
 have hC := hC.ext a1
 have hO := hO.ext a1
 refine pl_val _ (y_not rfl) (c_nil ?_)
 have hO := hO.drop
 have hO := hO.drop
 rcases bif_some hs with ⟨a8, hs⟩ | ⟨a8, hs⟩
 ·refine c_condT (cb a8) (c_sr (ab rfl (c_nil (wp_ret ?_))))
  cases hs
  exact ⟨_, fr_ovl 16 ⟨rfl, trivial⟩, hC⟩
 refine c_condF (cb a8) (wp_skip (c_sr (ab rfl (c_nil (wp_ret ?_)))))
 cases hs
 exact ⟨_, fr_ovl 16 ⟨rfl, trivial⟩, hC⟩

theorem Bd79 : Bodied Try.prog 79 := bodied Try.func79 (by kernel_rfl) rfl

def k_laws_eqOpS (M : Nat → Prop) (w0 : World) (r : Bool) (a : Act) (w : World) : Prop :=
  ∃ (σ : Nat → Value) , a = fr 27 (ovl σ [(4, (.bool r))]) ∧ Chg [] w0 w
def s_laws_eqOpS (a_ : List (Int × (List Int))) (b : List (Int × (List Int))) : Option (Bool) :=
  (bif ((a_.length : Int) != (b.length : Int)) then some false else (forC (S := Unit) (R := Bool) (fun k18 s16 =>
  (idx a_ k18).bind fun x23 =>
  (idx b k18).bind fun x27 =>
  (s_laws_eqOp (x23.1, x23.2) (x27.1, x27.2)).bind fun r32 =>
  (bif (!r32) then some (.rt false) else some (.nx ()))) 0 (a_.length : Int) ()).bind fun o20 => after o20 (fun r_ => some r_) (fun s16 =>
  some true))
set_option maxHeartbeats 4000000 in
theorem c_laws_eqOpS {M : Nat → Prop} {w : World} {pa0 : Option Addr} {pn0 pc0 : Nat} {pa1 : Option Addr} {pn1 pc1 : Nat} (a_ : List (Int × (List Int))) (b : List (Int × (List Int))) (h0 : (RT.rs (RT.pr ri (RT.rs ri))).val M w (.slice pa0 pn0 pc0) a_ ([])) (h1 : (RT.rs (RT.pr ri (RT.rs ri))).val M w (.slice pa1 pn1 pc1) b ([])) (hM : ∀ g, w.heap.size ≤ g → M g) {r : Bool} (hs : s_laws_eqOpS a_ b = some r) :
    Gives Try.prog 42 [(.slice pa0 pn0 pc0), (.slice pa1 pn1 pc1)] w (fun v w' => v = (.bool r) ∧ Chg [] w w') := by
 refine calls_fr Try.func42 rfl Try.ntmps42 (Nat.le_of_ble_eq_true rfl) ?_
 have hO := Own.start (N := Nw w []) hM Nw.fut
 have hC := Chg.refl [] w
 unfold s_laws_eqOpS at hs
 refine wp_mono (Q := KPost (k_laws_eqOpS M w r)) ?_ (fun e a a9 h => ?_)
 rotate_left
 ·cases e
  case ret =>
   obtain ⟨σ, rfl, hrest⟩ := h
   exact ret1x Try.results42 (res_tmp rfl) ⟨rfl, hrest⟩
  all_goals exact (h : False).elim
 refine c_sr (ab rfl (c_nil (c_seq (c_sr (ms rfl (pl_val _ (y_len' Sl33 (rs_len h0) rfl) (ms rfl (pl_val _ (y_len' Sl33 (rs_len h1) rfl) (pl_val (.bool ((a_.length : Int) != (b.length : Int))) (y_neq rfl rfl) (c_nil ?_))))))))))
 rcases bif_some hs with ⟨a3, hs⟩ | ⟨a3, hs⟩
 ·refine c_condT (cb a3) (c_sr (ab rfl (c_nil (wp_ret ?_))))
  cases hs
  exact ⟨_, fr_ovl 27 ⟨rfl, trivial⟩, hC⟩
 refine c_condF (cb a3) (wp_skip (c_seq (c_sr (ai rfl (c_nil ?_)))))
 obtain ⟨o20, b0, hs⟩ := bind_some hs
 refine wp_block (wp_forC (id := 0) (a_.length : Int) (I := fun k18 s16 a a0 => ∃ (σ : Nat → Value), a = fr 27 (ovl σ [(0, (.slice pa0 pn0 pc0)), (1, (.slice pa1 pn1 pc1)), (5, (.int .i64 k18))]) ∧ Chg [] w a0 ∧ Own (Nw w []) M a0 ([]) ∧ (RT.rs (RT.pr ri (RT.rs ri))).val M a0 (.slice pa0 pn0 pc0) a_ ([]) ∧ (RT.rs (RT.pr ri (RT.rs ri))).val M a0 (.slice pa1 pn1 pc1) b ([])) (J := fun s16 a a0 => ∃ (σ : Nat → Value), a = fr 27 (ovl σ []) ∧ Chg [] w a0 ∧ Own (Nw w []) M a0 ([]) ∧ (RT.rs (RT.pr ri (RT.rs ri))).val M a0 (.slice pa0 pn0 pc0) a_ ([]) ∧ (RT.rs (RT.pr ri (RT.rs ri))).val M a0 (.slice pa1 pn1 pc1) b ([])) (K := (k_laws_eqOpS M w)) ?_ ?_ 0 () o20 _ _ ?_ b0 ?_)
 ·rintro k18 s16 a a0 ⟨σ, rfl, hC, hO, h0, h1⟩ hlt
  refine c_seq (c_sr (mi rfl (ms rfl (pl_val _ (y_len' Sl33 (rs_len h0) rfl) (pl_val _ (y_lss rfl rfl) (c_nil (c_condF (cb (decide_eq_false hlt)) (wp_exit ?_))))))))
  exact ⟨rfl, _, fr_ovl 27 trivial, hC, hO, h0, h1⟩
 ·rintro k18 s16 o20 a a0 ⟨σ, rfl, hC, hO, h0, h1⟩ hlt hw hs
  refine c_seq (c_sr (mi rfl (ms rfl (pl_val _ (y_len' Sl33 (rs_len h0) rfl) (pl_val _ (y_lss rfl rfl) (c_nil (c_condT (cb (decide_eq_true hlt)) (wp_skip (c_seq (wp_block (c_seq (x_start [] Mx rfl ?_))))))))))))
  have a2 := Chg.drew a0
  generalize World.drew a0 = b1 at a2 ⊢
  have h0 := h0.ext a2
  have h1 := h1.ext a2
  have hC := hC.ext a2
  have hO := hO.ext a2
  have hS := Chg.refl [] b1
  refine x_p 0 (.slice pa0 pn0 pc0) rfl (by kernel_rfl)  (fun _ => y_move rfl) (fun _ => hS) (x_p 1 (.int .i64 k18) rfl (by kernel_rfl)  (fun _ => y_move rfl) (fun _ => hS) ?_)
  obtain ⟨x23, b2, hs⟩ := bind_some hs
  obtain ⟨b3, b4, b5, a4⟩ := rs_idx Sl33 Sz89 h0 b2
  refine x_p 2 (pq b3 b4) rfl (by kernel_rfl)  (fun _ => b5 _ _ _ _ _ _ _ _ _ rfl rfl) (fun _ => hS) ?_
  obtain ⟨d8, b6, b7⟩ := at_load Ag89 Sz89 (by intro h; cases h) a4
  obtain ⟨d9, rfl, b8⟩ := b7
  obtain ⟨e0, e1, rfl, b9, c0⟩ := pr_open b8
  obtain rfl := int_rel b9
  obtain ⟨c1, c2, c3, rfl, a5⟩ := rs_rel c0
  refine x_l 3 (.agg #[(.int .i64 x23.1), (.slice c1 c2 c3)]) rfl (by kernel_rfl)  (fun w' hw' => y_load rfl (b6 w' hw')) hS (x_p 4 (.slice pa1 pn1 pc1) rfl (by kernel_rfl)  (fun _ => y_move rfl) (fun _ => hS) (x_p 5 (.int .i64 k18) rfl (by kernel_rfl)  (fun _ => y_move rfl) (fun _ => hS) ?_))
  obtain ⟨x27, c4, hs⟩ := bind_some hs
  obtain ⟨c5, c6, c7, a6⟩ := rs_idx Sl33 Sz89 h1 c4
  refine x_p 6 (pq c5 c6) rfl (by kernel_rfl)  (fun _ => c7 _ _ _ _ _ _ _ _ _ rfl rfl) (fun _ => hS) ?_
  obtain ⟨e2, c8, c9⟩ := at_load Ag89 Sz89 (by intro h; cases h) a6
  obtain ⟨e3, rfl, d0⟩ := c9
  obtain ⟨e4, e5, rfl, d1, d2⟩ := pr_open d0
  obtain rfl := int_rel d1
  obtain ⟨d3, d4, d5, rfl, a7⟩ := rs_rel d2
  refine x_l 7 (.agg #[(.int .i64 x27.1), (.slice d3 d4 d5)]) rfl (by kernel_rfl)  (fun w' hw' => y_load rfl (c8 w' hw')) hS (x_one (i := 8) (by kernel_rfl) ?_)
  obtain ⟨r32, d6, hs⟩ := bind_some hs
  refine xk_call (b := false) rfl  Bd79 rfl (c_laws_eqOp (M := M) (x23.1, x23.2) (x27.1, x27.2) a5 a7 hO.fut d6) rfl (by rintro _ _ _ ⟨rfl, a1⟩; exact hS.ext a1) ?_
  rintro _ e6 ⟨rfl, a1⟩
  have h0 := h0.ext a1
  have h1 := h1.ext a1
  have a5 := a5.ext a1
  have a7 := a7.ext a1
  have a4 := at_ext a4 a1
  have a6 := at_ext a6 a1
  have hC := hC.ext a1
  have hO := hO.ext a1
  have hS := hS.ext a1
  refine x_p 9 (.bool (!r32)) rfl (by kernel_rfl)  (fun _ => y_not rfl) (fun _ => hS) (x_end (by kernel_rfl) ?_)
  clear hS
  rcases bif_some hs with ⟨a8, hs⟩ | ⟨a8, hs⟩
  ·refine c_condT (cb a8) (c_sr (ab rfl (c_nil (wp_ret ?_))))
   cases hs
   exact ⟨_, fr_ovl 27 ⟨rfl, trivial⟩, hC⟩
  refine c_condF (cb a8) (wp_skip (c_region (mi rfl (pl_val (.int .i64 (w64 (k18 + 1))) (y_add rfl rfl) (ai rfl (c_nil ?_))))))
  cases hs
  exact ⟨_, fr_ovl 27 ⟨rfl, rfl, congrArg (Value.int .i64) hw, trivial⟩, hC, hO, h0, h1⟩
 ·skip
  exact ⟨_, fr_ovl 27 ⟨rfl, rfl, rfl, trivial⟩, hC, hO, h0, h1⟩
 cases o20 with
 | nx _ => exact True.intro
 | rt r_ =>
  have hs := after_rt hs
  intro d7 a9 hK
  cases hs
  exact hK
 | br s16 =>
  have hs := after_br hs
  rintro d7 a0 ⟨σ, rfl, hC, hO, h0, h1⟩
  refine c_sr (ab rfl (c_nil (wp_ret ?_)))
  cases hs
  exact ⟨_, fr_ovl 27 ⟨rfl, trivial⟩, hC⟩

theorem Bd42 : Bodied Try.prog 42 := bodied Try.func42 (by kernel_rfl) rfl

def k_laws_eqAlgebra (M : Nat → Prop) (w0 : World) (r : Bool) (a : Act) (w : World) : Prop :=
  ∃ (σ : Nat → Value) , a = fr 16 (ovl σ [(4, (.bool r))]) ∧ Chg [] w0 w
def s_laws_eqAlgebra (a_ : Int × (List (Int × (List Int)))) (b : Int × (List (Int × (List Int)))) : Option (Bool) :=
  (bif (a_.1 != b.1) then some false else (s_laws_eqOpS a_.2 b.2).bind fun r7 =>
  (bif (!r7) then some false else some true))
set_option maxHeartbeats 4000000 in
theorem c_laws_eqAlgebra {M : Nat → Prop} {w : World} {pa0 : Option Addr} {pn0 pc0 : Nat} {pa1 : Option Addr} {pn1 pc1 : Nat} (a_ : Int × (List (Int × (List Int)))) (b : Int × (List (Int × (List Int)))) (h0 : (RT.rs (RT.pr ri (RT.rs ri))).val M w (.slice pa0 pn0 pc0) a_.2 ([])) (h1 : (RT.rs (RT.pr ri (RT.rs ri))).val M w (.slice pa1 pn1 pc1) b.2 ([])) (hM : ∀ g, w.heap.size ≤ g → M g) {r : Bool} (hs : s_laws_eqAlgebra a_ b = some r) :
    Gives Try.prog 15 [(.agg #[(.int .i64 a_.1), (.slice pa0 pn0 pc0)]), (.agg #[(.int .i64 b.1), (.slice pa1 pn1 pc1)])] w (fun v w' => v = (.bool r) ∧ Chg [] w w') := by
 refine calls_fr Try.func15 rfl Try.ntmps15 (Nat.le_of_ble_eq_true rfl) ?_
 have hO := Own.start (N := Nw w []) hM Nw.fut
 have hC := Chg.refl [] w
 unfold s_laws_eqAlgebra at hs
 refine wp_mono (Q := KPost (k_laws_eqAlgebra M w r)) ?_ (fun e a b6 h => ?_)
 rotate_left
 ·cases e
  case ret =>
   obtain ⟨σ, rfl, hrest⟩ := h
   exact ret1x Try.results15 (res_tmp rfl) ⟨rfl, hrest⟩
  all_goals exact (h : False).elim
 refine c_sr ?_
 obtain ⟨a9, a5, b2, b0, a4, a0⟩ := new_block w [(.int .i64 a_.1), (.slice pa0 pn0 pc0)] 35
 refine pl_val (w' := a9) (pq a5 0) (y_box rfl (by rw [b2, b0]; kernel_rfl)) ?_
 have h0 := h0.ext a4
 have h1 := h1.ext a4
 have hC := hC.ext a4
 have hO := hO.new1 a4 b0 a0.lt
 obtain ⟨b3, a6, b4, b1, a2, a3⟩ := new_block a9 [(.int .i64 b.1), (.slice pa1 pn1 pc1)] 35
 refine pl_val (w' := b3) (pq a6 0) (y_box rfl (by rw [b4, b1]; kernel_rfl)) ?_
 have h0 := h0.ext a2
 have h1 := h1.ext a2
 have a0 := a0.cn a2
 have hC := hC.ext a2
 have hO := hO.new1 a2 b1 a3.lt
 refine ab rfl (c_nil (c_seq (c_sr (pl_val (pq a5 0) (y_faddr rfl Fa35x0) (pl_val (.int .i64 a_.1) (y_load rfl ((box_load Ag3 Sz3 a0 [] [(.int .i64 a_.1)] [(.slice pa0 pn0 pc0)] rfl rfl (fun _ => rfl)) _ (Chg.refl _ _))) (pl_val (pq a6 0) (y_faddr rfl Fa35x0) (pl_val (.int .i64 b.1) (y_load rfl ((box_load Ag3 Sz3 a3 [] [(.int .i64 b.1)] [(.slice pa1 pn1 pc1)] rfl rfl (fun _ => rfl)) _ (Chg.refl _ _))) (pl_val (.bool (a_.1 != b.1)) (y_neq rfl rfl) (c_nil ?_)))))))))
 rcases bif_some hs with ⟨a7, hs⟩ | ⟨a7, hs⟩
 ·refine c_condT (cb a7) (c_sr (ab rfl (c_nil (wp_ret ?_))))
  cases hs
  exact ⟨_, fr_ovl 16 ⟨rfl, trivial⟩, hC⟩
 refine c_condF (cb a7) (wp_skip (c_seq (c_sr (pl_val (pq a5 1) (y_faddr rfl Fa35x1) (pl_val (.slice pa0 pn0 pc0) (y_load rfl ((box_load Ag33 Sz33 a0 [(.int .i64 a_.1)] [(.slice pa0 pn0 pc0)] [] rfl rfl (fun _ => rfl)) _ (Chg.refl _ _))) (pl_val (pq a6 1) (y_faddr rfl Fa35x1) (pl_val (.slice pa1 pn1 pc1) (y_load rfl ((box_load Ag33 Sz33 a3 [(.int .i64 b.1)] [(.slice pa1 pn1 pc1)] [] rfl rfl (fun _ => rfl)) _ (Chg.refl _ _))) ?_)))))))
 obtain ⟨r7, b5, hs⟩ := bind_some hs
 refine pl_call Bd42 rfl (c_laws_eqOpS (M := M) a_.2 b.2 h0 h1 hO.fut b5) ?_
 rintro _ b7 ⟨rfl, a1⟩
 have h0 := h0.ext a1
 have h1 := h1.ext a1
 have a0 := a0.cn a1
 have a3 := a3.cn a1
 have hC := hC.ext a1
 have hO := hO.ext a1
 refine pl_val _ (y_not rfl) (c_nil ?_)
 have hO := hO.drop
 have hO := hO.drop
 rcases bif_some hs with ⟨a8, hs⟩ | ⟨a8, hs⟩
 ·refine c_condT (cb a8) (c_sr (ab rfl (c_nil (wp_ret ?_))))
  cases hs
  exact ⟨_, fr_ovl 16 ⟨rfl, trivial⟩, hC⟩
 refine c_condF (cb a8) (wp_skip (c_sr (ab rfl (c_nil (wp_ret ?_)))))
 cases hs
 exact ⟨_, fr_ovl 16 ⟨rfl, trivial⟩, hC⟩

def k_laws_markIntS (M : Nat → Prop) (w0 : World) (qa0 : Option Addr) (qn0 qc0 : Nat) (qf0 : List Nat) (r : Int × (List Int)) (a : Act) (w : World) : Prop :=
  ∃ (σ : Nat → Value) (rfi0 : List Nat), a = fr 19 (ovl σ [(4, (.int .i64 r.1))]) ∧ Chg (qf0 ++ ([])) w0 w ∧ (RT.os 3 (RT.int .i64)).val M w (.slice qa0 qn0 qc0) r.2 rfi0 ∧ Own (Nw w0 (qf0 ++ ([]))) (fun _ => True) w (rfi0 ++ ([]))
def s_laws_markIntS (a_ : List Int) (k : Int) : Option (Int × (List Int)) :=
  (iter (S := Int × Int × (List Int)) (R := Int × (List Int)) (fun s25 =>
  (bif (decide (s25.2.1 < (s25.2.2.length : Int))) then (idx s25.2.2 s25.2.1).bind fun x34 =>
  some (.nx (w64 (s25.1 + 1), w64 (s25.2.1 + 1), List.set s25.2.2 (Int.toNat s25.2.1) s25.1)) else some (.br (s25.1, s25.2.1, s25.2.2)))) FU (k, 0, a_)).bind fun o29 => after o29 (fun r_ => some r_) (fun s25 =>
  some (s25.1, s25.2.2))
set_option maxHeartbeats 4000000 in
theorem c_laws_markIntS {M : Nat → Prop} {w : World} {pa0 : Option Addr} {pn0 pc0 : Nat} {pf0 : List Nat} (a_ : List Int) (k : Int) (h0 : (RT.os 3 ri).val M w (.slice pa0 pn0 pc0) a_ pf0) (hI : Own (Nw w (pf0 ++ ([]))) M w (pf0 ++ ([]))) (hM : ∀ g, w.heap.size ≤ g → M g) {r : Int × (List Int)} (hs : s_laws_markIntS a_ k = some r) :
    Gives Try.prog 60 [(.slice pa0 pn0 pc0), (.int .i64 k)] w (fun v w' => ∃ (rfi0 : List Nat), v = (.int .i64 r.1) ∧ Chg (pf0 ++ ([])) w w' ∧ (RT.os 3 ri).val M w' (.slice pa0 pn0 pc0) r.2 rfi0 ∧ Own (Nw w (pf0 ++ ([]))) (fun _ => True) w' (rfi0 ++ ([]))) := by
 refine calls_fr Try.func60 rfl Try.ntmps60 (Nat.le_of_ble_eq_true rfl) ?_
 have hO := hI
 have hC := Chg.refl (pf0 ++ ([])) w
 unfold s_laws_markIntS at hs
 refine wp_mono (Q := KPost (k_laws_markIntS M w pa0 pn0 pc0 pf0 r)) ?_ (fun e a a9 h => ?_)
 rotate_left
 ·cases e
  case ret =>
   obtain ⟨σ, rfi0, rfl, hrest⟩ := h
   exact ret1x Try.results60 (res_tmp rfl) ⟨rfi0, rfl, hrest⟩
  all_goals exact (h : False).elim
 refine c_sr (ai rfl (c_nil (c_seq (c_sr (ai rfl (c_nil ?_))))))
 obtain ⟨o29, b0, hs⟩ := bind_some hs
 refine wp_block (wp_iter (id := 0) (I := fun s25 a a0 => ∃ (σ : Nat → Value) (a2 : List Nat), a = fr 19 (ovl σ [(0, (.slice pa0 pn0 pc0)), (1, (.int .i64 s25.1)), (5, (.int .i64 s25.2.1))]) ∧ Chg (pf0 ++ ([])) w a0 ∧ Own (Nw w (pf0 ++ ([]))) M a0 (a2 ++ []) ∧ (RT.os 3 ri).val M a0 (.slice pa0 pn0 pc0) s25.2.2 a2) (J := fun s25 a a0 => ∃ (σ : Nat → Value) (a3 : List Nat), a = fr 19 (ovl σ [(1, (.int .i64 s25.1))]) ∧ Chg (pf0 ++ ([])) w a0 ∧ Own (Nw w (pf0 ++ ([]))) M a0 (a3 ++ []) ∧ (RT.os 3 ri).val M a0 (.slice pa0 pn0 pc0) s25.2.2 a3) (K := (k_laws_markIntS M w pa0 pn0 pc0 pf0)) ?_ FU (k, 0, a_) o29 _ _ ?_ b0 ?_)
 ·rintro s25 o29 a a0 ⟨σ, a2, rfl, hC, hO, a1⟩ hs
  refine c_seq (c_sr (mi rfl (ms rfl (pl_val _ (y_len' Sl43 (os_len a1) rfl) (pl_val _ (y_lss rfl rfl) (c_nil ?_))))))
  rcases bif_some hs with ⟨a4, hs⟩ | ⟨a4, hs⟩
  ·refine c_condT (cb a4) (wp_skip (c_seq (wp_block (c_sr (ms rfl (mi rfl (mi rfl ?_)))))))
   obtain ⟨x34, b1, hs⟩ := bind_some hs
   obtain ⟨a6, c1, a7, b2, b3, c2, c3⟩ := os_idx Sl43 Sz3 a1 b1
   refine pl_val _ (b3 _ _ _ _ _ _ _ _ _ rfl rfl) ?_
   obtain ⟨b4, b5, b6, a8, b7, a5⟩ := os_store (P := Try.prog) (c' := [(.int .i64 s25.1)]) a7 a1 b2 (fun g hg => hO.inM g (os_block a1 g (by simpa using hg))) ⟨rfl, rfl⟩ List.nodup_nil (fun _ h => nomatch h) (fun _ h => .inl h)
   have b8 : ∀ q ∈ [a6], q ∈ a2 := fun q hq => os_block a1 q (by rw [a7]; exact hq)
   refine pl_skip (w' := b4) (ys_store rfl rfl (b6 _ _ rfl Sz3)) ?_
   have hC := hC.st a8 hO b8
   have hO := hO.grow a8 (fun q hq => .inl ((b7 q hq).resolve_right (fun h => nomatch h))) (os_nodup a5) a5.fpl
   refine c_nil (c_region (mi rfl (pl_val (.int .i64 (w64 (s25.1 + 1))) (y_add rfl rfl) (ai rfl (c_nil (c_region (mi rfl (pl_val (.int .i64 (w64 (s25.2.1 + 1))) (y_add rfl rfl) (ai rfl (c_nil ?_))))))))))
   cases hs
   exact ⟨_, b5, fr_ovl 19 ⟨rfl, rfl, rfl, trivial⟩, hC, hO, a5⟩
  refine c_condF (cb a4) (wp_exit ?_)
  cases hs
  exact ⟨rfl, _, a2, fr_ovl 19 ⟨rfl, trivial⟩, hC, hO, a1⟩
 ·skip
  exact ⟨_, pf0, fr_ovl 19 ⟨rfl, rfl, rfl, trivial⟩, hC, hO, h0⟩
 cases o29 with
 | nx _ => exact True.intro
 | rt r_ =>
  have hs := after_rt hs
  intro b9 a9 hK
  cases hs
  exact hK
 | br s25 =>
  have hs := after_br hs
  rintro b9 a0 ⟨σ, a3, rfl, hC, hO, c0⟩
  refine c_sr (mi rfl (ai rfl (c_nil (wp_ret ?_))))
  cases hs
  exact ⟨_, a3, fr_ovl 19 ⟨rfl, trivial⟩, hC, c0, hO.top⟩

theorem Bd60 : Bodied Try.prog 60 := bodied Try.func60 (by kernel_rfl) rfl

def k_laws_markOpS (M : Nat → Prop) (w0 : World) (qa0 : Option Addr) (qn0 qc0 : Nat) (qf0 : List Nat) (r : Int × (List (Int × (List Int)))) (a : Act) (w : World) : Prop :=
  ∃ (σ : Nat → Value) (rfi0 : List Nat), a = fr 27 (ovl σ [(4, (.int .i64 r.1))]) ∧ Chg (qf0 ++ ([])) w0 w ∧ (RT.os 89 (RT.pr (RT.int .i64) (RT.os 3 (RT.int .i64)))).val M w (.slice qa0 qn0 qc0) r.2 rfi0 ∧ Own (Nw w0 (qf0 ++ ([]))) (fun _ => True) w (rfi0 ++ ([]))
def s_laws_markOpS (a_ : List (Int × (List Int))) (k : Int) : Option (Int × (List (Int × (List Int)))) :=
  (iter (S := Int × Int × (List (Int × (List Int)))) (R := Int × (List (Int × (List Int)))) (fun s57 =>
  (bif (decide (s57.2.1 < (s57.2.2.length : Int))) then (idx s57.2.2 s57.2.1).bind fun x67 =>
  (idx (List.set s57.2.2 (Int.toNat s57.2.1) (s57.1, x67.2)) s57.2.1).bind fun x71 =>
  (s_laws_markIntS x71.2 (w64 (s57.1 + 1))).bind fun r77 =>
  some (.nx (r77.1, w64 (s57.2.1 + 1), List.set (List.set s57.2.2 (Int.toNat s57.2.1) (s57.1, x67.2)) (Int.toNat s57.2.1) (x71.1, r77.2))) else some (.br (s57.1, s57.2.1, s57.2.2)))) FU (k, 0, a_)).bind fun o61 => after o61 (fun r_ => some r_) (fun s57 =>
  some (s57.1, s57.2.2))
set_option maxHeartbeats 4000000 in
theorem c_laws_markOpS {M : Nat → Prop} {w : World} {pa0 : Option Addr} {pn0 pc0 : Nat} {pf0 : List Nat} (a_ : List (Int × (List Int))) (k : Int) (h0 : (RT.os 89 (RT.pr ri (RT.os 3 ri))).val M w (.slice pa0 pn0 pc0) a_ pf0) (hI : Own (Nw w (pf0 ++ ([]))) M w (pf0 ++ ([]))) (hM : ∀ g, w.heap.size ≤ g → M g) {r : Int × (List (Int × (List Int)))} (hs : s_laws_markOpS a_ k = some r) :
    Gives Try.prog 43 [(.slice pa0 pn0 pc0), (.int .i64 k)] w (fun v w' => ∃ (rfi0 : List Nat), v = (.int .i64 r.1) ∧ Chg (pf0 ++ ([])) w w' ∧ (RT.os 89 (RT.pr ri (RT.os 3 ri))).val M w' (.slice pa0 pn0 pc0) r.2 rfi0 ∧ Own (Nw w (pf0 ++ ([]))) (fun _ => True) w' (rfi0 ++ ([]))) := by
 refine calls_fr Try.func43 rfl Try.ntmps43 (Nat.le_of_ble_eq_true rfl) ?_
 have hO := hI
 have hC := Chg.refl (pf0 ++ ([])) w
 unfold s_laws_markOpS at hs
 refine wp_mono (Q := KPost (k_laws_markOpS M w pa0 pn0 pc0 pf0 r)) ?_ (fun e a c7 h => ?_)
 rotate_left
 ·cases e
  case ret =>
   obtain ⟨σ, rfi0, rfl, hrest⟩ := h
   exact ret1x Try.results43 (res_tmp rfl) ⟨rfi0, rfl, hrest⟩
  all_goals exact (h : False).elim
 refine c_sr (ai rfl (c_nil (c_seq (c_sr (ai rfl (c_nil ?_))))))
 obtain ⟨o61, c8, hs⟩ := bind_some hs
 refine wp_block (wp_iter (id := 0) (I := fun s57 a a0 => ∃ (σ : Nat → Value) (a1 : List Nat), a = fr 27 (ovl σ [(0, (.slice pa0 pn0 pc0)), (1, (.int .i64 s57.1)), (5, (.int .i64 s57.2.1))]) ∧ Chg (pf0 ++ ([])) w a0 ∧ Own (Nw w (pf0 ++ ([]))) M a0 (a1 ++ []) ∧ (RT.os 89 (RT.pr ri (RT.os 3 ri))).val M a0 (.slice pa0 pn0 pc0) s57.2.2 a1) (J := fun s57 a a0 => ∃ (σ : Nat → Value) (a4 : List Nat), a = fr 27 (ovl σ [(1, (.int .i64 s57.1))]) ∧ Chg (pf0 ++ ([])) w a0 ∧ Own (Nw w (pf0 ++ ([]))) M a0 (a4 ++ []) ∧ (RT.os 89 (RT.pr ri (RT.os 3 ri))).val M a0 (.slice pa0 pn0 pc0) s57.2.2 a4) (K := (k_laws_markOpS M w pa0 pn0 pc0 pf0)) ?_ FU (k, 0, a_) o61 _ _ ?_ c8 ?_)
 ·rintro s57 o61 a a0 ⟨σ, a1, rfl, hC, hO, a5⟩ hs
  refine c_seq (c_sr (mi rfl (ms rfl (pl_val _ (y_len' Sl33 (os_len a5) rfl) (pl_val _ (y_lss rfl rfl) (c_nil ?_))))))
  rcases bif_some hs with ⟨b1, hs⟩ | ⟨b1, hs⟩
  ·refine c_condT (cb b1) (wp_skip (c_seq (wp_block (c_sr (ms rfl (mi rfl (mi rfl ?_)))))))
   obtain ⟨x67, b5, hs⟩ := bind_some hs
   obtain ⟨a2, h2, c9, h3, d0, d1, d2⟩ := os_idx Sl33 Sz89 a5 b5
   have d3 := own_row (Frz.pr Frz.int (Frz.os Frz.int)) d1 d2
   refine pl_val _ (d0 _ _ _ _ _ _ _ _ _ rfl rfl) ?_
   obtain ⟨h4, _⟩ := pr_at d3
   refine pl_val (.pointer (some ⟨a2, (0 + Int.toNat s57.2.1 * 2) + 0, none⟩)) (y_faddr rfl Fa89x0) ?_
   obtain ⟨b6, h5, d4, h6, d5, h7, d6, d7, h8, d8, b7, d9, hput70⟩ := os_focus c9 a5 b5 hO.inM
   obtain ⟨h9, b8, i0, e0, rfl, rfl, e1, b9⟩ := d7
   obtain ⟨rfl, rfl⟩ := e1
   have i1 := RT.len _ b9
   obtain ⟨b2, c0, a6, e2⟩ := box_store (P := Try.prog) d6 (b6) [(Value.int .i64 x67.1)] (b8 ++ (d4)) [(Value.int .i64 s57.1)] (by simp) rfl (by intro u hu; rw [List.mem_singleton.1 hu]; rfl)
   have e3 : (b6).length = ((0 + Int.toNat s57.2.1 * 2) + 0) := by
    simp only [List.length_append, d5]
    try rfl
   rw [e3] at c0
   have e4 : ∀ q ∈ [a2], M q ∨ (a0).heap.size ≤ q := fun q hq => .inl (by rw [List.mem_singleton.1 hq]; exact hO.inM _ b7)
   obtain ⟨e5, a7, e6⟩ := hput70 b2 [a2] ([(Value.int .i64 s57.1)] ++ b8) (s57.1, x67.2) (([] : List Nat) ++ e0) a6 (fun q hq => .inl (List.mem_singleton.1 hq)) (by simpa using e2) ⟨_, _, _, _, rfl, rfl, ⟨rfl, rfl⟩, (RT.mono _ b9 a6 e4 (fun q hq hq' => d9 (by rw [List.mem_singleton.1 hq] at hq'; simp [hq'])) (fun _ h => .inl h))⟩ d8 (fun q hq => .inl hq)
   refine pl_skip (w' := b2) (ys_store rfl rfl (c0 _ _ rfl Sz3)) ?_
   have e7 : ∀ q ∈ [a2], q ∈ a1 := fun q hq => by rw [List.mem_singleton.1 hq]; exact b7
   have hC := hC.st a6 hO e7
   have hO := hO.grow a6 e6 (os_nodup a7) a7.fpl
   refine c_nil (c_sr (mi rfl (pl_val (.int .i64 (w64 (s57.1 + 1))) (y_add rfl rfl) (ai rfl (c_nil (c_region (ms rfl (mi rfl ?_))))))))
   obtain ⟨x71, c1, hs⟩ := bind_some hs
   obtain ⟨c2, i2, e8, i3, e9, f0, f1⟩ := os_idx Sl33 Sz89 a7 c1
   have c3 := own_row (Frz.pr Frz.int (Frz.os Frz.int)) f0 f1
   refine pl_val _ (e9 _ _ _ _ _ _ _ _ _ rfl rfl) ?_
   obtain ⟨_, i4⟩ := pr_at c3
   refine pl_val (.pointer (some ⟨c2, (0 + Int.toNat s57.2.1 * 2) + 1, none⟩)) (y_faddr rfl Fa89x1) ?_
   obtain ⟨i5, hrow74, f2⟩ := at_open c3
   obtain ⟨i6, i7, rfl, f3, f4⟩ := pr_open f2
   obtain rfl := int_rel f3
   obtain ⟨a8, a9, b0, rfl, i9⟩ := rs_rel f4
   refine pl_val (.slice a8 a9 b0) (y_load rfl ((part_load (l1 := [(.int .i64 x71.1)]) (c := [(.slice a8 a9 b0)]) (l2 := []) Ag43 Sz43 hrow74 rfl rfl (fun _ => rfl)) _ (Chg.refl _ _))) (mi rfl ?_)
   obtain ⟨j0, f5, f6, f7, hput76⟩ := os_put e8 a7 c1 hrow74 rfl hO.inM
   obtain ⟨j1, a3, rfl, f8, f9⟩ := pr_split (c := [(.int .i64 x71.1)]) (d := [(.slice a8 a9 b0)]) f5 rfl
   obtain rfl := int_fp f8
   have g0 : (RT.os 3 ri).val M b2 (.slice a8 a9 b0) x71.2 a3 := ⟨[_], rfl, f9⟩
   have c4 : ∀ q ∈ (a3 ++ ([])), q ∈ e5 := fun q hq => f6 q (by simpa using hq)
   have g1 : List.Nodup (a3 ++ ([])) := by simpa using f7
   have g2 := hO
   have c5 := Own.part (X := (a3 ++ ([]))) (g2) c4 g1
   obtain ⟨r77, g3, hs⟩ := bind_some hs
   refine pl_call Bd60 rfl (c_laws_markIntS (M := M) x71.2 (w64 (s57.1 + 1)) g0 c5 c5.fut g3) ?_
   rintro _ g4 ⟨g5, rfl, b3, g6, c6⟩
   obtain ⟨g7, b4, g8⟩ := hput76 g4 (a3 ++ ([])) (x71.1, r77.2) (([] : List Nat) ++ g5) b3 (fun q hq => by simpa using hq) ⟨_, _, _, _, rfl, rfl, ⟨rfl, rfl⟩, (os_unval g6)⟩ (by simpa using c6.1) (fun q hq => (c6.2.1 q (by simpa using hq)).2.2.imp (fun h => by simpa using h) id)
   have hC := hC.st b3 hO c4
   have hO := hO.grow b3 g8 (os_nodup b4) b4.fpl
   refine ai rfl (c_nil (c_region (mi rfl (pl_val (.int .i64 (w64 (s57.2.1 + 1))) (y_add rfl rfl) (ai rfl (c_nil ?_))))))
   cases hs
   exact ⟨_, g7, fr_ovl 27 ⟨rfl, rfl, rfl, trivial⟩, hC, hO, b4⟩
  refine c_condF (cb b1) (wp_exit ?_)
  cases hs
  exact ⟨rfl, _, a1, fr_ovl 27 ⟨rfl, trivial⟩, hC, hO, a5⟩
 ·skip
  exact ⟨_, pf0, fr_ovl 27 ⟨rfl, rfl, rfl, trivial⟩, hC, hO, h0⟩
 cases o61 with
 | nx _ => exact True.intro
 | rt r_ =>
  have hs := after_rt hs
  intro g9 c7 hK
  cases hs
  exact hK
 | br s57 =>
  have hs := after_br hs
  rintro g9 a0 ⟨σ, a4, rfl, hC, hO, h1⟩
  refine c_sr (mi rfl (ai rfl (c_nil (wp_ret ?_))))
  cases hs
  exact ⟨_, a4, fr_ovl 27 ⟨rfl, trivial⟩, hC, h1, hO.top⟩

theorem Bd43 : Bodied Try.prog 43 := bodied Try.func43 (by kernel_rfl) rfl

def k_laws_markAlgebra (M : Nat → Prop) (w0 : World) (qa0 : Option Addr) (qn0 qc0 : Nat) (qf0 : List Nat) (r : Int × (List (Int × (List Int)))) (a : Act) (w : World) : Prop :=
  ∃ (σ : Nat → Value) (rfi0 : List Nat), a = fr 10 (ovl σ [(4, (.int .i64 r.1))]) ∧ Chg (qf0 ++ ([])) w0 w ∧ (RT.os 89 (RT.pr (RT.int .i64) (RT.os 3 (RT.int .i64)))).val M w (.slice qa0 qn0 qc0) r.2 rfi0 ∧ Own (Nw w0 (qf0 ++ ([]))) (fun _ => True) w (rfi0 ++ ([]))
def s_laws_markAlgebra (a_ : Int × (List (Int × (List Int)))) (k : Int) : Option (Int × (List (Int × (List Int)))) :=
  (s_laws_markOpS a_.2 k).bind fun r4 =>
  some (r4.1, r4.2)
set_option maxHeartbeats 4000000 in
theorem c_laws_markAlgebra {M : Nat → Prop} {w : World} {pa0 : Option Addr} {pn0 pc0 : Nat} {pf0 : List Nat} (a_ : Int × (List (Int × (List Int)))) (k : Int) (h0 : (RT.os 89 (RT.pr ri (RT.os 3 ri))).val M w (.slice pa0 pn0 pc0) a_.2 pf0) (hI : Own (Nw w (pf0 ++ ([]))) M w (pf0 ++ ([]))) (hM : ∀ g, w.heap.size ≤ g → M g) {r : Int × (List (Int × (List Int)))} (hs : s_laws_markAlgebra a_ k = some r) :
    Gives Try.prog 16 [(.agg #[(.int .i64 a_.1), (.slice pa0 pn0 pc0)]), (.int .i64 k)] w (fun v w' => ∃ (rfi0 : List Nat), v = (.int .i64 r.1) ∧ Chg (pf0 ++ ([])) w w' ∧ (RT.os 89 (RT.pr ri (RT.os 3 ri))).val M w' (.slice pa0 pn0 pc0) r.2 rfi0 ∧ Own (Nw w (pf0 ++ ([]))) (fun _ => True) w' (rfi0 ++ ([]))) := by
 refine calls_fr Try.func16 rfl Try.ntmps16 (Nat.le_of_ble_eq_true rfl) ?_
 have hO := hI
 have hC := Chg.refl (pf0 ++ ([])) w
 unfold s_laws_markAlgebra at hs
 refine wp_mono (Q := KPost (k_laws_markAlgebra M w pa0 pn0 pc0 pf0 r)) ?_ (fun e a b3 h => ?_)
 rotate_left
 ·cases e
  case ret =>
   obtain ⟨σ, rfi0, rfl, hrest⟩ := h
   exact ret1x Try.results16 (res_tmp rfl) ⟨rfi0, rfl, hrest⟩
  all_goals exact (h : False).elim
 refine c_sr ?_
 obtain ⟨a7, a0, a8, a4, a2, a1⟩ := new_block w [(.int .i64 a_.1), (.slice pa0 pn0 pc0)] 35
 refine pl_val (w' := a7) (pq a0 0) (y_box rfl (by rw [a8, a4]; kernel_rfl)) ?_
 have h0 := h0.ext a2
 have hC := hC.ext a2
 have hO := hO.new1 a2 a4 a1.lt
 refine ai rfl (c_nil (c_sr (pl_val (pq a0 1) (y_faddr rfl Fa35x1) (pl_val (.slice pa0 pn0 pc0) (y_load rfl ((box_load Ag33 Sz33 a1 [(.int .i64 a_.1)] [(.slice pa0 pn0 pc0)] [] rfl rfl (fun _ => rfl)) _ (Chg.refl _ _))) (mi rfl ?_)))))
 have hO := hO.fr1
 have a9 := hO
 have a5 := Own.lend (F := (pf0 ++ ([]))) (R := ([a0]) ++ ([])) (Own.perm (a9) (by simp))
 obtain ⟨r4, b0, hs⟩ := bind_some hs
 refine pl_call Bd43 rfl (c_laws_markOpS (M := M) a_.2 k h0 a5 a5.fut b0) ?_
 rintro _ b4 ⟨a6, rfl, a3, b1, b2⟩
 have hO := hO.perm (R := (pf0 ++ ([])) ++ (([a0]) ++ ([]))) (by simp)
 have a1 := a1.ap a3 hO same_ (mem_l (List.mem_singleton.2 rfl))
 have hC := hC.st a3 hO same_
 have hO := Own.join hO a3 b2
 have hO := hO.perm (R := a6 ++ (([a0]) ++ ([]))) (by simp)
 refine ai rfl (c_nil ?_)
 have hO := hO.fr1
 have hO := hO.drop
 refine c_sr (mi rfl (ai rfl (c_nil (wp_ret ?_))))
 cases hs
 exact ⟨_, a6, fr_ovl 10 ⟨rfl, trivial⟩, hC, b1, hO.top⟩

def k_laws_markIntSS (M : Nat → Prop) (w0 : World) (qa0 : Option Addr) (qn0 qc0 : Nat) (qf0 : List Nat) (r : Int × (List (List Int))) (a : Act) (w : World) : Prop :=
  ∃ (σ : Nat → Value) (rfi0 : List Nat), a = fr 19 (ovl σ [(4, (.int .i64 r.1))]) ∧ Chg (qf0 ++ ([])) w0 w ∧ (RT.os 43 (RT.os 3 (RT.int .i64))).val M w (.slice qa0 qn0 qc0) r.2 rfi0 ∧ Own (Nw w0 (qf0 ++ ([]))) (fun _ => True) w (rfi0 ++ ([]))
def s_laws_markIntSS (a_ : List (List Int)) (k : Int) : Option (Int × (List (List Int))) :=
  (iter (S := Int × Int × (List (List Int))) (R := Int × (List (List Int))) (fun s37 =>
  (bif (decide (s37.2.1 < (s37.2.2.length : Int))) then (idx s37.2.2 s37.2.1).bind fun x46 =>
  (s_laws_markIntS x46 s37.1).bind fun r51 =>
  some (.nx (r51.1, w64 (s37.2.1 + 1), List.set s37.2.2 (Int.toNat s37.2.1) r51.2)) else some (.br (s37.1, s37.2.1, s37.2.2)))) FU (k, 0, a_)).bind fun o41 => after o41 (fun r_ => some r_) (fun s37 =>
  some (s37.1, s37.2.2))
set_option maxHeartbeats 4000000 in
theorem c_laws_markIntSS {M : Nat → Prop} {w : World} {pa0 : Option Addr} {pn0 pc0 : Nat} {pf0 : List Nat} (a_ : List (List Int)) (k : Int) (h0 : (RT.os 43 (RT.os 3 ri)).val M w (.slice pa0 pn0 pc0) a_ pf0) (hI : Own (Nw w (pf0 ++ ([]))) M w (pf0 ++ ([]))) (hM : ∀ g, w.heap.size ≤ g → M g) {r : Int × (List (List Int))} (hs : s_laws_markIntSS a_ k = some r) :
    Gives Try.prog 30 [(.slice pa0 pn0 pc0), (.int .i64 k)] w (fun v w' => ∃ (rfi0 : List Nat), v = (.int .i64 r.1) ∧ Chg (pf0 ++ ([])) w w' ∧ (RT.os 43 (RT.os 3 ri)).val M w' (.slice pa0 pn0 pc0) r.2 rfi0 ∧ Own (Nw w (pf0 ++ ([]))) (fun _ => True) w' (rfi0 ++ ([]))) := by
 refine calls_fr Try.func30 rfl Try.ntmps30 (Nat.le_of_ble_eq_true rfl) ?_
 have hO := hI
 have hC := Chg.refl (pf0 ++ ([])) w
 unfold s_laws_markIntSS at hs
 refine wp_mono (Q := KPost (k_laws_markIntSS M w pa0 pn0 pc0 pf0 r)) ?_ (fun e a b5 h => ?_)
 rotate_left
 ·cases e
  case ret =>
   obtain ⟨σ, rfi0, rfl, hrest⟩ := h
   exact ret1x Try.results30 (res_tmp rfl) ⟨rfi0, rfl, hrest⟩
  all_goals exact (h : False).elim
 refine c_sr (ai rfl (c_nil (c_seq (c_sr (ai rfl (c_nil ?_))))))
 obtain ⟨o41, b6, hs⟩ := bind_some hs
 refine wp_block (wp_iter (id := 0) (I := fun s37 a a0 => ∃ (σ : Nat → Value) (a1 : List Nat), a = fr 19 (ovl σ [(0, (.slice pa0 pn0 pc0)), (1, (.int .i64 s37.1)), (5, (.int .i64 s37.2.1))]) ∧ Chg (pf0 ++ ([])) w a0 ∧ Own (Nw w (pf0 ++ ([]))) M a0 (a1 ++ []) ∧ (RT.os 43 (RT.os 3 ri)).val M a0 (.slice pa0 pn0 pc0) s37.2.2 a1) (J := fun s37 a a0 => ∃ (σ : Nat → Value) (a3 : List Nat), a = fr 19 (ovl σ [(1, (.int .i64 s37.1))]) ∧ Chg (pf0 ++ ([])) w a0 ∧ Own (Nw w (pf0 ++ ([]))) M a0 (a3 ++ []) ∧ (RT.os 43 (RT.os 3 ri)).val M a0 (.slice pa0 pn0 pc0) s37.2.2 a3) (K := (k_laws_markIntSS M w pa0 pn0 pc0 pf0)) ?_ FU (k, 0, a_) o41 _ _ ?_ b6 ?_)
 ·rintro s37 o41 a a0 ⟨σ, a1, rfl, hC, hO, a4⟩ hs
  refine c_seq (c_sr (mi rfl (ms rfl (pl_val _ (y_len' Sl25 (os_len a4) rfl) (pl_val _ (y_lss rfl rfl) (c_nil ?_))))))
  rcases bif_some hs with ⟨a5, hs⟩ | ⟨a5, hs⟩
  ·refine c_condT (cb a5) (wp_skip (c_seq (wp_block (c_region (ms rfl (mi rfl ?_))))))
   obtain ⟨x46, a8, hs⟩ := bind_some hs
   obtain ⟨b7, d9, b8, e0, b9, c0, c1⟩ := os_idx Sl25 Sz43 a4 a8
   have c2 := own_row (Frz.os Frz.int) c0 c1
   refine pl_val _ (b9 _ _ _ _ _ _ _ _ _ rfl rfl) ?_
   obtain ⟨e1, c3, hrow48, c4⟩ := at_load1 Ag43 Sz43 rfl rfl c2
   obtain ⟨a9, b0, b1, rfl⟩ := rs_sl c4
   refine pl_val (.slice a9 b0 b1) (y_load rfl (c3 _ (Chg.refl _ _))) (mi rfl ?_)
   obtain ⟨a2, c5, c6, c7, hput50⟩ := os_put b8 a4 a8 hrow48 rfl hO.inM
   have c8 : (RT.os 3 ri).val M a0 (.slice a9 b0 b1) x46 a2 := ⟨[_], rfl, c5⟩
   have b2 : ∀ q ∈ (a2 ++ ([])), q ∈ a1 := fun q hq => c6 q (by simpa using hq)
   have c9 : List.Nodup (a2 ++ ([])) := by simpa using c7
   have d0 := hO
   have b3 := Own.part (X := (a2 ++ ([]))) (d0) b2 c9
   obtain ⟨r51, d1, hs⟩ := bind_some hs
   refine pl_call Bd60 rfl (c_laws_markIntS (M := M) x46 s37.1 c8 b3 b3.fut d1) ?_
   rintro _ d2 ⟨d3, rfl, a6, d4, b4⟩
   obtain ⟨d5, a7, d6⟩ := hput50 d2 (a2 ++ ([])) r51.2 d3 a6 (fun q hq => by simpa using hq) (os_unval d4) (by simpa using b4.1) (fun q hq => (b4.2.1 q (by simpa using hq)).2.2.imp (fun h => by simpa using h) id)
   have hC := hC.st a6 hO b2
   have hO := hO.grow a6 d6 (os_nodup a7) a7.fpl
   refine ai rfl (c_nil (c_region (mi rfl (pl_val (.int .i64 (w64 (s37.2.1 + 1))) (y_add rfl rfl) (ai rfl (c_nil ?_))))))
   cases hs
   exact ⟨_, d5, fr_ovl 19 ⟨rfl, rfl, rfl, trivial⟩, hC, hO, a7⟩
  refine c_condF (cb a5) (wp_exit ?_)
  cases hs
  exact ⟨rfl, _, a1, fr_ovl 19 ⟨rfl, trivial⟩, hC, hO, a4⟩
 ·skip
  exact ⟨_, pf0, fr_ovl 19 ⟨rfl, rfl, rfl, trivial⟩, hC, hO, h0⟩
 cases o41 with
 | nx _ => exact True.intro
 | rt r_ =>
  have hs := after_rt hs
  intro d7 b5 hK
  cases hs
  exact hK
 | br s37 =>
  have hs := after_br hs
  rintro d7 a0 ⟨σ, a3, rfl, hC, hO, d8⟩
  refine c_sr (mi rfl (ai rfl (c_nil (wp_ret ?_))))
  cases hs
  exact ⟨_, a3, fr_ovl 19 ⟨rfl, trivial⟩, hC, d8, hO.top⟩

def k_laws_heldIntS (M : Nat → Prop) (w0 : World) (r : Int) (a : Act) (w : World) : Prop :=
  ∃ (σ : Nat → Value) , a = fr 21 (ovl σ [(4, (.int .i64 r))]) ∧ Chg [] w0 w
def s_laws_heldIntS (a_ : List Int) (k : Int) : Option (Int) :=
  (forC (S := Int) (R := Int) (fun k7 s5 =>
  (idx a_ k7).bind fun x11 =>
  (bif (x11 != s5) then some (.rt (-1)) else some (.nx (w64 (s5 + 1))))) 0 (a_.length : Int) k).bind fun o9 => after o9 (fun r_ => some r_) (fun s5 =>
  some s5)
set_option maxHeartbeats 4000000 in
theorem c_laws_heldIntS {M : Nat → Prop} {w : World} {pa0 : Option Addr} {pn0 pc0 : Nat} (a_ : List Int) (k : Int) (h0 : (RT.rs ri).val M w (.slice pa0 pn0 pc0) a_ ([])) (hM : ∀ g, w.heap.size ≤ g → M g) {r : Int} (hs : s_laws_heldIntS a_ k = some r) :
    Gives Try.prog 61 [(.slice pa0 pn0 pc0), (.int .i64 k)] w (fun v w' => v = (.int .i64 r) ∧ Chg [] w w') := by
 refine calls_fr Try.func61 rfl Try.ntmps61 (Nat.le_of_ble_eq_true rfl) ?_
 have hO := Own.start (N := Nw w []) hM Nw.fut
 have hC := Chg.refl [] w
 unfold s_laws_heldIntS at hs
 refine wp_mono (Q := KPost (k_laws_heldIntS M w r)) ?_ (fun e a a2 h => ?_)
 rotate_left
 ·cases e
  case ret =>
   obtain ⟨σ, rfl, hrest⟩ := h
   exact ret1x Try.results61 (res_tmp rfl) ⟨rfl, hrest⟩
  all_goals exact (h : False).elim
 refine c_sr (ai rfl (c_nil (c_seq (c_sr (ai rfl (c_nil ?_))))))
 obtain ⟨o9, a3, hs⟩ := bind_some hs
 refine wp_block (wp_forC (id := 0) (a_.length : Int) (I := fun k7 s5 a a0 => ∃ (σ : Nat → Value), a = fr 21 (ovl σ [(0, (.slice pa0 pn0 pc0)), (1, (.int .i64 s5)), (5, (.int .i64 k7))]) ∧ Chg [] w a0 ∧ Own (Nw w []) M a0 ([]) ∧ (RT.rs ri).val M a0 (.slice pa0 pn0 pc0) a_ ([])) (J := fun s5 a a0 => ∃ (σ : Nat → Value), a = fr 21 (ovl σ [(1, (.int .i64 s5))]) ∧ Chg [] w a0 ∧ Own (Nw w []) M a0 ([]) ∧ (RT.rs ri).val M a0 (.slice pa0 pn0 pc0) a_ ([])) (K := (k_laws_heldIntS M w)) ?_ ?_ 0 k o9 _ _ ?_ a3 ?_)
 ·rintro k7 s5 a a0 ⟨σ, rfl, hC, hO, h0⟩ hlt
  refine c_seq (c_sr (mi rfl (ms rfl (pl_val _ (y_len' Sl43 (rs_len h0) rfl) (pl_val _ (y_lss rfl rfl) (c_nil (c_condF (cb (decide_eq_false hlt)) (wp_exit ?_))))))))
  exact ⟨rfl, _, fr_ovl 21 ⟨rfl, trivial⟩, hC, hO, h0⟩
 ·rintro k7 s5 o9 a a0 ⟨σ, rfl, hC, hO, h0⟩ hlt hw hs
  refine c_seq (c_sr (mi rfl (ms rfl (pl_val _ (y_len' Sl43 (rs_len h0) rfl) (pl_val _ (y_lss rfl rfl) (c_nil (c_condT (cb (decide_eq_true hlt)) (wp_skip (c_seq (wp_block (c_seq (c_sr (ms rfl (mi rfl ?_))))))))))))))
  obtain ⟨x11, a4, hs⟩ := bind_some hs
  obtain ⟨a5, a6, a7, a8⟩ := rs_idx Sl43 Sz3 h0 a4
  refine pl_val _ (a7 _ _ _ _ _ _ _ _ _ rfl rfl) (pl_val (.int .i64 x11) (y_load rfl ((at_load_int Ag3 Sz3 a8) _ (Chg.refl _ _))) (mi rfl (pl_val (.bool (x11 != s5)) (y_neq rfl rfl) (c_nil ?_))))
  rcases bif_some hs with ⟨a1, hs⟩ | ⟨a1, hs⟩
  ·refine c_condT (cb a1) (c_sr (ai rfl (c_nil (wp_ret ?_))))
   cases hs
   exact ⟨_, fr_ovl 21 ⟨rfl, trivial⟩, hC⟩
  refine c_condF (cb a1) (wp_skip (c_region (mi rfl (pl_val (.int .i64 (w64 (s5 + 1))) (y_add rfl rfl) (ai rfl (c_nil (c_region (mi rfl (pl_val (.int .i64 (w64 (k7 + 1))) (y_add rfl rfl) (ai rfl (c_nil ?_)))))))))))
  cases hs
  exact ⟨_, fr_ovl 21 ⟨rfl, rfl, congrArg (Value.int .i64) hw, trivial⟩, hC, hO, h0⟩
 ·skip
  exact ⟨_, fr_ovl 21 ⟨rfl, rfl, rfl, trivial⟩, hC, hO, h0⟩
 cases o9 with
 | nx _ => exact True.intro
 | rt r_ =>
  have hs := after_rt hs
  intro a9 a2 hK
  cases hs
  exact hK
 | br s5 =>
  have hs := after_br hs
  rintro a9 a0 ⟨σ, rfl, hC, hO, h0⟩
  refine c_sr (mi rfl (ai rfl (c_nil (wp_ret ?_))))
  cases hs
  exact ⟨_, fr_ovl 21 ⟨rfl, trivial⟩, hC⟩

theorem Bd61 : Bodied Try.prog 61 := bodied Try.func61 (by kernel_rfl) rfl

def k_laws_heldIntSS (M : Nat → Prop) (w0 : World) (r : Int) (a : Act) (w : World) : Prop :=
  ∃ (σ : Nat → Value) , a = fr 21 (ovl σ [(4, (.int .i64 r))]) ∧ Chg [] w0 w
def s_laws_heldIntSS (a_ : List (List Int)) (k : Int) : Option (Int) :=
  (forC (S := Int) (R := Int) (fun k11 s9 =>
  (idx a_ k11).bind fun x15 =>
  (s_laws_heldIntS x15 s9).bind fun r20 =>
  (bif (decide (r20 < 0)) then some (.rt (-1)) else some (.nx r20))) 0 (a_.length : Int) k).bind fun o13 => after o13 (fun r_ => some r_) (fun s9 =>
  some s9)
set_option maxHeartbeats 4000000 in
theorem c_laws_heldIntSS {M : Nat → Prop} {w : World} {pa0 : Option Addr} {pn0 pc0 : Nat} (a_ : List (List Int)) (k : Int) (h0 : (RT.rs (RT.rs ri)).val M w (.slice pa0 pn0 pc0) a_ ([])) (hM : ∀ g, w.heap.size ≤ g → M g) {r : Int} (hs : s_laws_heldIntSS a_ k = some r) :
    Gives Try.prog 31 [(.slice pa0 pn0 pc0), (.int .i64 k)] w (fun v w' => v = (.int .i64 r) ∧ Chg [] w w') := by
 refine calls_fr Try.func31 rfl Try.ntmps31 (Nat.le_of_ble_eq_true rfl) ?_
 have hO := Own.start (N := Nw w []) hM Nw.fut
 have hC := Chg.refl [] w
 unfold s_laws_heldIntSS at hs
 refine wp_mono (Q := KPost (k_laws_heldIntSS M w r)) ?_ (fun e a a5 h => ?_)
 rotate_left
 ·cases e
  case ret =>
   obtain ⟨σ, rfl, hrest⟩ := h
   exact ret1x Try.results31 (res_tmp rfl) ⟨rfl, hrest⟩
  all_goals exact (h : False).elim
 refine c_sr (ai rfl (c_nil (c_seq (c_sr (ai rfl (c_nil ?_))))))
 obtain ⟨o13, a6, hs⟩ := bind_some hs
 refine wp_block (wp_forC (id := 0) (a_.length : Int) (I := fun k11 s9 a a0 => ∃ (σ : Nat → Value), a = fr 21 (ovl σ [(0, (.slice pa0 pn0 pc0)), (1, (.int .i64 s9)), (5, (.int .i64 k11))]) ∧ Chg [] w a0 ∧ Own (Nw w []) M a0 ([]) ∧ (RT.rs (RT.rs ri)).val M a0 (.slice pa0 pn0 pc0) a_ ([])) (J := fun s9 a a0 => ∃ (σ : Nat → Value), a = fr 21 (ovl σ [(1, (.int .i64 s9))]) ∧ Chg [] w a0 ∧ Own (Nw w []) M a0 ([]) ∧ (RT.rs (RT.rs ri)).val M a0 (.slice pa0 pn0 pc0) a_ ([])) (K := (k_laws_heldIntSS M w)) ?_ ?_ 0 k o13 _ _ ?_ a6 ?_)
 ·rintro k11 s9 a a0 ⟨σ, rfl, hC, hO, h0⟩ hlt
  refine c_seq (c_sr (mi rfl (ms rfl (pl_val _ (y_len' Sl25 (rs_len h0) rfl) (pl_val _ (y_lss rfl rfl) (c_nil (c_condF (cb (decide_eq_false hlt)) (wp_exit ?_))))))))
  exact ⟨rfl, _, fr_ovl 21 ⟨rfl, trivial⟩, hC, hO, h0⟩
 ·rintro k11 s9 o13 a a0 ⟨σ, rfl, hC, hO, h0⟩ hlt hw hs
  refine c_seq (c_sr (mi rfl (ms rfl (pl_val _ (y_len' Sl25 (rs_len h0) rfl) (pl_val _ (y_lss rfl rfl) (c_nil (c_condT (cb (decide_eq_true hlt)) (wp_skip (c_seq (wp_block (c_sr (ms rfl (mi rfl ?_)))))))))))))
  obtain ⟨x15, a7, hs⟩ := bind_some hs
  obtain ⟨a8, a9, b0, a3⟩ := rs_idx Sl25 Sz43 h0 a7
  refine pl_val _ (b0 _ _ _ _ _ _ _ _ _ rfl rfl) ?_
  obtain ⟨b7, b1, a2⟩ := at_load Ag43 Sz43 (fun _ => rfl) a3
  obtain ⟨b2, b3, b4, rfl⟩ := rs_sl a2
  refine pl_val (.slice b2 b3 b4) (y_load rfl (b1 _ (Chg.refl _ _))) (mi rfl ?_)
  obtain ⟨r20, b5, hs⟩ := bind_some hs
  refine pl_call Bd61 rfl (c_laws_heldIntS (M := M) x15 s9 a2 hO.fut b5) ?_
  rintro _ b8 ⟨rfl, a1⟩
  have h0 := h0.ext a1
  have a2 := a2.ext a1
  have a3 := at_ext a3 a1
  have hC := hC.ext a1
  have hO := hO.ext a1
  refine ai rfl (c_nil (c_sr (mi rfl (pl_val _ (y_lss rfl rfl) (c_nil ?_)))))
  rcases bif_some hs with ⟨a4, hs⟩ | ⟨a4, hs⟩
  ·refine c_condT (cb a4) (c_sr (ai rfl (c_nil (wp_ret ?_))))
   cases hs
   exact ⟨_, fr_ovl 21 ⟨rfl, trivial⟩, hC⟩
  refine c_condF (cb a4) (wp_skip (c_region (mi rfl (pl_val (.int .i64 (w64 (k11 + 1))) (y_add rfl rfl) (ai rfl (c_nil ?_))))))
  cases hs
  exact ⟨_, fr_ovl 21 ⟨rfl, rfl, congrArg (Value.int .i64) hw, trivial⟩, hC, hO, h0⟩
 ·skip
  exact ⟨_, fr_ovl 21 ⟨rfl, rfl, rfl, trivial⟩, hC, hO, h0⟩
 cases o13 with
 | nx _ => exact True.intro
 | rt r_ =>
  have hs := after_rt hs
  intro b6 a5 hK
  cases hs
  exact hK
 | br s9 =>
  have hs := after_br hs
  rintro b6 a0 ⟨σ, rfl, hC, hO, h0⟩
  refine c_sr (mi rfl (ai rfl (c_nil (wp_ret ?_))))
  cases hs
  exact ⟨_, fr_ovl 21 ⟨rfl, trivial⟩, hC⟩

theorem Ag24 : AggT Try.prog 24 true := fun _ => by kernel_rfl

theorem Sz24 : SzT Try.prog 24 2 := ⟨_, rfl, rfl⟩

theorem Bd8 : Bodied Try.prog 8 := bodied Try.func8 (by kernel_rfl) rfl

theorem Bd25 : Bodied Try.prog 25 := bodied Try.func25 (by kernel_rfl) rfl

theorem Bd11 : Bodied Try.prog 11 := bodied Try.func11 (by kernel_rfl) rfl

theorem Bd27 : Bodied Try.prog 27 := bodied Try.func27 (by kernel_rfl) rfl

theorem Bd26 : Bodied Try.prog 26 := bodied Try.func26 (by kernel_rfl) rfl

theorem Bd28 : Bodied Try.prog 28 := bodied Try.func28 (by kernel_rfl) rfl

theorem Bd29 : Bodied Try.prog 29 := bodied Try.func29 (by kernel_rfl) rfl

theorem Bd15 : Bodied Try.prog 15 := bodied Try.func15 (by kernel_rfl) rfl

theorem Bd16 : Bodied Try.prog 16 := bodied Try.func16 (by kernel_rfl) rfl

theorem Bd30 : Bodied Try.prog 30 := bodied Try.func30 (by kernel_rfl) rfl

theorem Bd31 : Bodied Try.prog 31 := bodied Try.func31 (by kernel_rfl) rfl

def k_laws_FnExactTermsFor (M : Nat → Prop) (w0 : World) (r : Bool) (a : Act) (w : World) : Prop :=
  ∃ (σ : Nat → Value) , a = fr 124 (ovl σ [(6, (.bool r))]) ∧ Chg [] w0 w
def s_laws_FnExactTermsFor (aA : Int × (List (Int × (List Int)))) (aK : Int) (aGens : List (List Int)) : Option (Bool) :=
  (s_laws_szAlgebra (aA.1, aA.2) 1048576).bind fun r5 =>
  (bif (decide (r5 < 0)) then some true else (s_laws_szIntSS aGens r5).bind fun r8 =>
  (bif (decide (r8 < 0)) then some true else (s_laws_toAlgebra (aA.1, aA.2)).bind fun r11 =>
  (s_laws_toIntSS aGens).bind fun r14 =>
  (s_spec_TermsFor (r11.1, r11.2) aK r14).bind fun r17 =>
  (s_laws_toAlgebra (aA.1, aA.2)).bind fun r20 =>
  (s_laws_toIntSS aGens).bind fun r25 =>
  (s_impl_TermsFor (r20.1, r20.2) aK r25).bind fun r28 =>
  ((s_laws_eqIntSS r28.1 r17.1).bind fun r34 =>
  (bif (!r34) then some true else some (!(r28.2 == r17.2)))).bind fun s30 =>
  (bif s30 then some false else (s_laws_toAlgebra (aA.1, aA.2)).bind fun r45 =>
  (s_laws_eqAlgebra (r20.1, r20.2) (r45.1, r45.2)).bind fun r48 =>
  (bif (!r48) then some false else (s_laws_toIntSS aGens).bind fun r51 =>
  (s_laws_eqIntSS r25 r51).bind fun r54 =>
  (bif (!r54) then some false else (s_laws_markAlgebra (r20.1, r20.2) 1).bind fun r57 =>
  (s_laws_markIntSS r25 r57.1).bind fun r59 =>
  ((bif (decide (r59.1 < 0)) then some true else (s_laws_eqIntSS r28.1 r17.1).bind fun r66 =>
  (bif (!r66) then some true else some (!(r28.2 == r17.2))))).bind fun s60 =>
  (bif s60 then some false else (s_laws_markIntSS r28.1 1).bind fun r70 =>
  (s_laws_heldIntSS r70.2 1).bind fun r72 =>
  (bif (decide (r72 < 0)) then some false else (bif (r72 != r70.1) then some false else (s_laws_toAlgebra (aA.1, aA.2)).bind fun r76 =>
  (s_laws_toIntSS aGens).bind fun r79 =>
  (s_impl_TermsFor (r76.1, r76.2) aK r79).bind fun r82 =>
  ((s_laws_eqIntSS r82.1 r17.1).bind fun r88 =>
  (bif (!r88) then some true else some (!(r82.2 == r17.2)))).bind fun s84 =>
  (bif s84 then some false else (s_laws_heldIntSS r70.2 1).bind fun r92 =>
  (bif (decide (r92 < 0)) then some false else (bif (r92 != r70.1) then some false else some true)))))))))))
set_option maxHeartbeats 4000000 in
theorem c_laws_FnExactTermsFor {M : Nat → Prop} {w : World} {pa0 : Option Addr} {pn0 pc0 : Nat} {pa1 : Option Addr} {pn1 pc1 : Nat} (aA : Int × (List (Int × (List Int)))) (aK : Int) (aGens : List (List Int)) (h0 : (RT.rs (RT.pr ri (RT.rs ri))).val M w (.slice pa0 pn0 pc0) aA.2 ([])) (h1 : (RT.rs (RT.rs ri)).val M w (.slice pa1 pn1 pc1) aGens ([])) (hM : ∀ g, w.heap.size ≤ g → M g) {r : Bool} (hs : s_laws_FnExactTermsFor aA aK aGens = some r) :
    Gives Try.prog 6 [(.agg #[(.int .i64 aA.1), (.slice pa0 pn0 pc0)]), (.int .i64 aK), (.slice pa1 pn1 pc1)] w (fun v w' => v = (.bool r) ∧ Chg [] w w') := by
 refine calls_fr Try.func6 rfl Try.ntmps6 (Nat.le_of_ble_eq_true rfl) ?_
 have hO := Own.start (N := Nw w []) hM Nw.fut
 have hC := Chg.refl [] w
 unfold s_laws_FnExactTermsFor at hs
 refine wp_mono (Q := KPost (k_laws_FnExactTermsFor M w r)) ?_ (fun e a q0 h => ?_)
 rotate_left
 ·cases e
  case ret =>
   obtain ⟨σ, rfl, hrest⟩ := h
   exact ret1x Try.results6 (res_tmp rfl) ⟨rfl, hrest⟩
  all_goals exact (h : False).elim
 refine c_sr ?_
 obtain ⟨k6, a5, k7, j0, g2, a0⟩ := new_block w [(.int .i64 aA.1), (.slice pa0 pn0 pc0)] 24
 refine pl_val (w' := k6) (pq a5 0) (y_box rfl (by rw [k7, j0]; kernel_rfl)) ?_
 have h0 := h0.ext g2
 have h1 := h1.ext g2
 have hC := hC.ext g2
 have hO := hO.new1 g2 j0 a0.lt
 refine ab rfl (c_nil (c_sr (ai rfl (c_nil (c_sr (pl_val (.agg #[(.int .i64 aA.1), (.slice pa0 pn0 pc0)]) (y_load rfl ((box_load Ag24 Sz24 a0 [] [(.int .i64 aA.1), (.slice pa0 pn0 pc0)] [] rfl rfl (fun h => nomatch h)) _ (Chg.refl _ _))) (mi rfl ?_)))))))
 obtain ⟨r5, k8, hs⟩ := bind_some hs
 refine pl_call Bd8 rfl (c_laws_szAlgebra (M := M) (aA.1, aA.2) 1048576 h0 hO.fut k8) ?_
 rintro _ q1 ⟨rfl, f3⟩
 have h0 := h0.ext f3
 have h1 := h1.ext f3
 have a0 := a0.cn f3
 have hC := hC.ext f3
 have hO := hO.ext f3
 refine ai rfl (c_nil (c_seq (c_sr (mi rfl (pl_val _ (y_lss rfl rfl) (c_nil ?_))))))
 rcases bif_some hs with ⟨h2, hs⟩ | ⟨h2, hs⟩
 ·refine c_condT (cb h2) (c_sr (ab rfl (c_nil (wp_ret ?_))))
  cases hs
  exact ⟨_, fr_ovl 124 ⟨rfl, trivial⟩, hC⟩
 refine c_condF (cb h2) (wp_skip (c_sr (ms rfl (mi rfl ?_))))
 obtain ⟨r8, k9, hs⟩ := bind_some hs
 refine pl_call Bd25 rfl (c_laws_szIntSS (M := M) aGens r5 h1 hO.fut k9) ?_
 rintro _ q2 ⟨rfl, f4⟩
 have h0 := h0.ext f4
 have h1 := h1.ext f4
 have a0 := a0.cn f4
 have hC := hC.ext f4
 have hO := hO.ext f4
 refine ai rfl (c_nil (c_seq (c_sr (mi rfl (pl_val _ (y_lss rfl rfl) (c_nil ?_))))))
 rcases bif_some hs with ⟨h3, hs⟩ | ⟨h3, hs⟩
 ·refine c_condT (cb h3) (c_sr (ab rfl (c_nil (wp_ret ?_))))
  cases hs
  exact ⟨_, fr_ovl 124 ⟨rfl, trivial⟩, hC⟩
 refine c_condF (cb h3) (wp_skip (c_sr (pl_val (.agg #[(.int .i64 aA.1), (.slice pa0 pn0 pc0)]) (y_load rfl ((box_load Ag24 Sz24 a0 [] [(.int .i64 aA.1), (.slice pa0 pn0 pc0)] [] rfl rfl (fun h => nomatch h)) _ (Chg.refl _ _))) ?_)))
 obtain ⟨r11, l0, hs⟩ := bind_some hs
 refine pl_call Bd11 rfl (c_laws_toAlgebra (M := M) (aA.1, aA.2) h0 hO.fut l0) ?_
 rintro _ q3 ⟨q4, q5, q6, g3, rfl, f5, f6, l1⟩
 have h0 := h0.ext f5
 have h1 := h1.ext f5
 have a0 := a0.cn f5
 have hC := hC.ext f5
 have hO := Own.join0 hO f5 l1
 have hO := hO.perm (R := g3 ++ (([a5]) ++ ([]))) (by simp)
 refine mi rfl (ms rfl ?_)
 obtain ⟨r14, l2, hs⟩ := bind_some hs
 refine pl_call Bd27 rfl (c_laws_toIntSS (M := M) aGens h1 hO.fut l2) ?_
 rintro _ q7 ⟨q8, q9, r0, h4, rfl, e8, h5, l3⟩
 have h0 := h0.ext e8
 have h1 := h1.ext e8
 have a0 := a0.cn e8
 have f6 := f6.ext e8
 have hC := hC.ext e8
 have hO := Own.join0 hO e8 l3
 have hO := hO.perm (R := h4 ++ (g3 ++ (([a5]) ++ ([])))) (by simp)
 have hO := hO.fr1
 obtain ⟨r17, l4, hs⟩ := bind_some hs
 refine pl_call Bd26 rfl (c_spec_TermsFor (M := (Less (Less M g3) h4)) (r11.1, r11.2) aK r14 ((((Frz.os (Frz.pr Frz.int (Frz.os Frz.int)))).val f6 Less.sub Less.not).sub Less.sub) (((Frz.os (Frz.os Frz.int))).val (h5.sub Less.sub) Less.sub Less.not) (hO.less).less.fut l4) ?_
 rintro _ r1 ⟨d0, d1, d2, a6, rfl, e0, a1, l5⟩
 have h0 := h0.ext e0
 have h1 := h1.ext e0
 have a0 := a0.cn e0
 have f6 := f6.ext e0
 have h5 := h5.ext e0
 have hC := hC.ext e0
 have hO := Own.join0 hO e0 l5
 have hO := hO.perm (R := a6 ++ (g3 ++ (h4 ++ (([a5]) ++ ([]))))) (by simp)
 have a1 := a1.free (M' := M) (Free.os (Free.os Free.int))
 refine pl_val (.tuple #[(.slice d0 d1 d2), (.bool r17.2)]) (y_move rfl) (pl_val (.slice d0 d1 d2) (y_extract rfl (by kernel_rfl)) (pl_val (.bool r17.2) (y_extract rfl (by kernel_rfl)) (ax rfl (ab rfl (c_nil ?_)))))
 have hO := hO.fr1
 have hO := hO.drop
 have hO := hO.fr1
 have hO := hO.drop
 refine c_sr (pl_val (.agg #[(.int .i64 aA.1), (.slice pa0 pn0 pc0)]) (y_load rfl ((box_load Ag24 Sz24 a0 [] [(.int .i64 aA.1), (.slice pa0 pn0 pc0)] [] rfl rfl (fun h => nomatch h)) _ (Chg.refl _ _))) ?_)
 obtain ⟨r20, l6, hs⟩ := bind_some hs
 refine pl_call Bd11 rfl (c_laws_toAlgebra (M := M) (aA.1, aA.2) h0 hO.fut l6) ?_
 rintro _ l7 ⟨d3, d4, d5, c3, rfl, e9, a3, l8⟩
 have h0 := h0.ext e9
 have h1 := h1.ext e9
 have a0 := a0.cn e9
 have a1 := a1.ext e9
 have hC := hC.ext e9
 have hO := Own.join0 hO e9 l8
 have hO := hO.perm (R := c3 ++ (a6 ++ (([a5]) ++ ([])))) (by simp)
 obtain ⟨l9, c1, m0, j1, e1, j2⟩ := new_block l7 [(.int .i64 0), (.slice none 0 0)] 35
 refine pl_val (w' := l9) (pq c1 0) (y_alloc (by rw [m0, j1]; kernel_rfl)) ?_
 have h0 := h0.ext e1
 have h1 := h1.ext e1
 have a0 := a0.cn e1
 have a1 := a1.ext e1
 have a3 := a3.ext e1
 have hC := hC.ext e1
 have hO := hO.new1 e1 j1 j2.lt
 obtain ⟨j3, m1, e2, a4⟩ := box_store (P := Try.prog) j2 [] [(.int .i64 0), (.slice none 0 0)] [] [(.int .i64 r20.1), (.slice d3 d4 d5)] rfl rfl (by intro u hu; simp only [List.mem_cons, List.not_mem_nil, or_false] at hu; rcases hu with rfl | rfl <;> rfl)
 refine pl_skip (w' := j3) (ys_store rfl rfl (m1 _ _ rfl Sz35)) ?_
 have h0 := h0.mt e2 hO same_
 have h1 := h1.mt e2 hO same_
 have a0 := a0.ap e2 hO same_ (mem_r (mem_r (mem_l (List.mem_singleton.2 rfl))))
 have a1 := a1.ma e2 hO same_ (fun _ e => (mem_r (mem_l (e))))
 have a3 := a3.ma e2 hO same_ (fun _ e => (mem_l (e)))
 have hC := hC.st e2 hO same_
 have hO := hO.ext e2
 have a4 : BoxV j3 c1 35 [(.int .i64 r20.1), (.slice d3 d4 d5)] := a4
 refine c_nil (c_sr (ms rfl ?_))
 obtain ⟨r25, m2, hs⟩ := bind_some hs
 refine pl_call Bd27 rfl (c_laws_toIntSS (M := M) aGens h1 hO.fut m2) ?_
 rintro _ r2 ⟨f7, f8, f9, b3, rfl, d6, a7, m3⟩
 have h0 := h0.ext d6
 have h1 := h1.ext d6
 have a0 := a0.cn d6
 have a1 := a1.ext d6
 have a3 := a3.ext d6
 have a4 := a4.cn d6
 have hC := hC.ext d6
 have hO := Own.join0 hO d6 m3
 have hO := hO.perm (R := b3 ++ (([c1]) ++ (c3 ++ (a6 ++ (([a5]) ++ ([])))))) (by simp)
 refine ax rfl (c_nil (c_sr (pl_val (.agg #[(.int .i64 r20.1), (.slice d3 d4 d5)]) (y_load rfl ((box_load Ag35 Sz35 a4 [] [(.int .i64 r20.1), (.slice d3 d4 d5)] [] rfl rfl (fun h => nomatch h)) _ (Chg.refl _ _))) (mi rfl (ms rfl ?_)))))
 have hO := hO.fr2
 obtain ⟨r28, m4, hs⟩ := bind_some hs
 refine pl_call Bd28 rfl (c_impl_TermsFor (M := (Less (Less M c3) b3)) (r20.1, r20.2) aK r25 ((((Frz.os (Frz.pr Frz.int (Frz.os Frz.int)))).val a3 Less.sub Less.not).sub Less.sub) (((Frz.os (Frz.os Frz.int))).val (a7.sub Less.sub) Less.sub Less.not) (hO.less).less.fut m4) ?_
 rintro _ j4 ⟨b4, b5, b6, b0, rfl, c4, a2, m5⟩
 have h0 := h0.ext c4
 have h1 := h1.ext c4
 have a0 := a0.cn c4
 have a1 := a1.ext c4
 have a3 := a3.ext c4
 have a4 := a4.cn c4
 have a7 := a7.ext c4
 have hC := hC.ext c4
 have hO := Own.join0 hO c4 m5
 have hO := hO.perm (R := b0 ++ (c3 ++ (b3 ++ (([c1]) ++ (a6 ++ (([a5]) ++ ([]))))))) (by simp)
 have a2 := a2.free (M' := M) (Free.os (Free.os Free.int))
 refine pl_val (.tuple #[(.slice b4 b5 b6), (.bool r28.2)]) (y_move rfl) (pl_val (.slice b4 b5 b6) (y_extract rfl (by kernel_rfl)) (pl_val (.bool r28.2) (y_extract rfl (by kernel_rfl)) (ax rfl (ab rfl (c_nil (c_seq (c_seq ?_)))))))
 obtain ⟨s30, m6, hs⟩ := bind_some hs
 refine c_mid (I := fun a g4 => ∃ (σ : Nat → Value), a = fr 124 (ovl σ [(1, (.int .i64 aK)), (2, (.slice pa1 pn1 pc1)), (3, (pq a5 0)), (6, (.bool false)), (8, (.slice d0 d1 d2)), (9, (.bool r17.2)), (10, (pq c1 0)), (11, (.slice f7 f8 f9)), (12, (.slice b4 b5 b6)), (13, (.bool r28.2)), (57, (.bool s30))]) ∧ Chg [] j4 g4) ?_ ?_
 ·replace hs := m6
  have hMid := Chg.refl [] j4
  refine c_region (ms rfl (ms rfl ?_))
  have hO := hO.fr4
  have hO := hO.fr1
  obtain ⟨r34, m7, hs⟩ := bind_some hs
  refine pl_call Bd29 rfl (c_laws_eqIntSS (M := (Less (Less M b0) a6)) r28.1 r17.1 ((((Frz.os (Frz.os Frz.int))).val a2 Less.sub Less.not).sub Less.sub) (((Frz.os (Frz.os Frz.int))).val (a1.sub Less.sub) Less.sub Less.not) (hO.less).less.fut m7) ?_
  rintro _ r3 ⟨rfl, b7⟩
  have h0 := h0.ext b7
  have h1 := h1.ext b7
  have a0 := a0.cn b7
  have a1 := a1.ext b7
  have a3 := a3.ext b7
  have a4 := a4.cn b7
  have a7 := a7.ext b7
  have a2 := a2.ext b7
  have hMid := hMid.ext b7
  have hC := hC.ext b7
  have hO := hO.ext b7
  refine pl_val _ (y_not rfl) (mb rfl ?_)
  rcases bif_some hs with ⟨c5, hs⟩ | ⟨c5, hs⟩
  ·skip
   refine pl_not (tg := 53) (by kernel_rfl) (cb c5) (pl_not (tg := 53) (by kernel_rfl) (cb c5) (pl_not (tg := 53) (by kernel_rfl) (cb c5) (pl_val (.bool true) (y_pick_t (cb c5) rfl) (c_nil ?_))))
   cases hs
   exact ⟨_, fr_ovl 124 ⟨rfl, rfl, rfl, rfl, rfl, rfl, rfl, rfl, rfl, rfl, rfl, trivial⟩, hMid⟩
  refine pl_yes (.bool r28.2) (tg := 53) (by kernel_rfl) (cb c5) (y_move rfl) (pl_yes (.bool r17.2) (tg := 53) (by kernel_rfl) (cb c5) (y_move rfl) (pl_yes (.bool (!(r28.2 == r17.2))) (tg := 53) (by kernel_rfl) (cb c5) (y_bneq Try.underlying4 rfl rfl) (pl_val (.bool (!(r28.2 == r17.2))) (y_pick_f (cb c5) rfl) (c_nil ?_))))
  cases hs
  exact ⟨_, fr_ovl 124 ⟨rfl, rfl, rfl, rfl, rfl, rfl, rfl, rfl, rfl, rfl, rfl, trivial⟩, hMid⟩
 rintro j5 g4 ⟨σ, rfl, c2⟩
 have h0 := h0.ext c2
 have h1 := h1.ext c2
 have a0 := a0.cn c2
 have a1 := a1.ext c2
 have a3 := a3.ext c2
 have a4 := a4.cn c2
 have a7 := a7.ext c2
 have a2 := a2.ext c2
 have hC := hC.ext c2
 have hO := hO.ext c2
 rcases bif_some hs with ⟨h6, hs⟩ | ⟨h6, hs⟩
 ·refine c_condT (cb h6) (c_sr (ab rfl (c_nil (wp_ret ?_))))
  cases hs
  exact ⟨_, fr_ovl 124 ⟨rfl, trivial⟩, hC⟩
 refine c_condF (cb h6) (wp_skip (c_seq (c_seq (x_start [] Mx rfl ?_))))
 have b8 := Chg.drew g4
 generalize World.drew g4 = m8 at b8 ⊢
 have h0 := h0.ext b8
 have h1 := h1.ext b8
 have a0 := a0.cn b8
 have a1 := a1.ext b8
 have a3 := a3.ext b8
 have a4 := a4.cn b8
 have a7 := a7.ext b8
 have a2 := a2.ext b8
 have hC := hC.ext b8
 have hO := hO.ext b8
 have hS := Chg.refl [] m8
 refine x_l 0 (.agg #[(.int .i64 r20.1), (.slice d3 d4 d5)]) rfl (by kernel_rfl)  (fun w' hw' => y_load rfl ((box_load Ag35 Sz35 a4 [] [(.int .i64 r20.1), (.slice d3 d4 d5)] [] rfl rfl (fun h => nomatch h)) w' hw')) hS (x_l 1 (.agg #[(.int .i64 aA.1), (.slice pa0 pn0 pc0)]) rfl (by kernel_rfl)  (fun w' hw' => y_load rfl ((box_load Ag24 Sz24 a0 [] [(.int .i64 aA.1), (.slice pa0 pn0 pc0)] [] rfl rfl (fun h => nomatch h)) w' hw')) hS (x_one (i := 2) (by kernel_rfl) ?_))
 obtain ⟨r45, m9, hs⟩ := bind_some hs
 refine xk_call (b := false) rfl  Bd11 rfl (c_laws_toAlgebra (M := M) (aA.1, aA.2) h0 hO.fut m9) rfl (by rintro _ _ _ ⟨n0, n1, n2, g5, rfl, b1, d7, j6⟩; exact hS.ext b1) ?_
 rintro _ r4 ⟨n0, n1, n2, g5, rfl, b1, d7, j6⟩
 have h0 := h0.ext b1
 have h1 := h1.ext b1
 have a0 := a0.cn b1
 have a1 := a1.ext b1
 have a3 := a3.ext b1
 have a4 := a4.cn b1
 have a7 := a7.ext b1
 have a2 := a2.ext b1
 have hC := hC.ext b1
 have hO := Own.join0 hO b1 j6
 have hO := hO.perm (R := g5 ++ (b0 ++ (c3 ++ (b3 ++ (([c1]) ++ (a6 ++ (([a5]) ++ ([])))))))) (by simp)
 have hS := hS.ext b1
 refine x_one (i := 3) (by kernel_rfl) ?_
 have hO := hO.fr2
 obtain ⟨r48, n3, hs⟩ := bind_some hs
 refine xk_call (b := false) rfl  Bd15 rfl (c_laws_eqAlgebra (M := (Less (Less M c3) g5)) (r20.1, r20.2) (r45.1, r45.2) ((((Frz.os (Frz.pr Frz.int (Frz.os Frz.int)))).val a3 Less.sub Less.not).sub Less.sub) (((Frz.os (Frz.pr Frz.int (Frz.os Frz.int)))).val (d7.sub Less.sub) Less.sub Less.not) (hO.less).less.fut n3) rfl (by rintro _ _ _ ⟨rfl, a9⟩; exact hS.ext a9) ?_
 rintro _ r6 ⟨rfl, a9⟩
 have h0 := h0.ext a9
 have h1 := h1.ext a9
 have a0 := a0.cn a9
 have a1 := a1.ext a9
 have a3 := a3.ext a9
 have a4 := a4.cn a9
 have a7 := a7.ext a9
 have a2 := a2.ext a9
 have d7 := d7.ext a9
 have hC := hC.ext a9
 have hO := hO.ext a9
 have hS := hS.ext a9
 refine x_p 4 (.bool (!r48)) rfl (by kernel_rfl)  (fun _ => y_not rfl) (fun _ => hS) (x_end (by kernel_rfl) ?_)
 clear hS
 rcases bif_some hs with ⟨h7, hs⟩ | ⟨h7, hs⟩
 ·refine c_condT (cb h7) (c_sr (ab rfl (c_nil ?_)))
  have hO := hO.fr1
  have hO := hO.drop
  refine wp_ret ?_
  cases hs
  exact ⟨_, fr_ovl 124 ⟨rfl, trivial⟩, hC⟩
 refine c_condF (cb h7) (wp_skip (c_seq (c_sr (ms rfl (ms rfl ?_)))))
 obtain ⟨r51, n4, hs⟩ := bind_some hs
 refine pl_call Bd27 rfl (c_laws_toIntSS (M := M) aGens h1 hO.fut n4) ?_
 rintro _ r7 ⟨r9, s0, s1, j7, rfl, b9, h8, n5⟩
 have h0 := h0.ext b9
 have h1 := h1.ext b9
 have a0 := a0.cn b9
 have a1 := a1.ext b9
 have a3 := a3.ext b9
 have a4 := a4.cn b9
 have a7 := a7.ext b9
 have a2 := a2.ext b9
 have d7 := d7.ext b9
 have hC := hC.ext b9
 have hO := Own.join0 hO b9 n5
 have hO := hO.perm (R := j7 ++ (c3 ++ (g5 ++ (b0 ++ (b3 ++ (([c1]) ++ (a6 ++ (([a5]) ++ ([]))))))))) (by simp)
 have hO := hO.fr4
 obtain ⟨r54, n6, hs⟩ := bind_some hs
 refine pl_call Bd29 rfl (c_laws_eqIntSS (M := (Less (Less M b3) j7)) r25 r51 ((((Frz.os (Frz.os Frz.int))).val a7 Less.sub Less.not).sub Less.sub) (((Frz.os (Frz.os Frz.int))).val (h8.sub Less.sub) Less.sub Less.not) (hO.less).less.fut n6) ?_
 rintro _ s2 ⟨rfl, b2⟩
 have h0 := h0.ext b2
 have h1 := h1.ext b2
 have a0 := a0.cn b2
 have a1 := a1.ext b2
 have a3 := a3.ext b2
 have a4 := a4.cn b2
 have a7 := a7.ext b2
 have a2 := a2.ext b2
 have d7 := d7.ext b2
 have h8 := h8.ext b2
 have hC := hC.ext b2
 have hO := hO.ext b2
 refine pl_val _ (y_not rfl) (c_nil ?_)
 have hO := hO.fr1
 have hO := hO.drop
 have hO := hO.fr2
 have hO := hO.drop
 rcases bif_some hs with ⟨h9, hs⟩ | ⟨h9, hs⟩
 ·refine c_condT (cb h9) (c_sr (ab rfl (c_nil (wp_ret ?_))))
  cases hs
  exact ⟨_, fr_ovl 124 ⟨rfl, trivial⟩, hC⟩
 refine c_condF (cb h9) (wp_skip (c_sr (ai rfl (c_nil (c_sr (pl_val (.agg #[(.int .i64 r20.1), (.slice d3 d4 d5)]) (y_load rfl ((box_load Ag35 Sz35 a4 [] [(.int .i64 r20.1), (.slice d3 d4 d5)] [] rfl rfl (fun h => nomatch h)) _ (Chg.refl _ _))) (mi rfl ?_)))))))
 have hO := hO.fr1
 have n7 := hO
 have j8 := Own.lend (F := (c3 ++ ([]))) (R := b3 ++ (b0 ++ (([c1]) ++ (a6 ++ (([a5]) ++ ([])))))) (Own.perm (n7) (by simp))
 obtain ⟨r57, n8, hs⟩ := bind_some hs
 refine pl_call Bd16 rfl (c_laws_markAlgebra (M := M) (r20.1, r20.2) 1 a3 j8 j8.fut n8) ?_
 rintro _ s3 ⟨n9, rfl, c6, s4, o0⟩
 have hO := hO.perm (R := (c3 ++ ([])) ++ (b3 ++ (b0 ++ (([c1]) ++ (a6 ++ (([a5]) ++ ([]))))))) (by simp)
 have h0 := h0.mt c6 hO same_
 have h1 := h1.mt c6 hO same_
 have a0 := a0.ap c6 hO same_ (mem_r (mem_r (mem_r (mem_r (mem_l (List.mem_singleton.2 rfl))))))
 have a1 := a1.ma c6 hO same_ (fun _ e => (mem_r (mem_r (mem_r (mem_l (e))))))
 have a4 := a4.ap c6 hO same_ (mem_r (mem_r (mem_l (List.mem_singleton.2 rfl))))
 have a7 := a7.ma c6 hO same_ (fun _ e => (mem_l (e)))
 have a2 := a2.ma c6 hO same_ (fun _ e => (mem_r (mem_l (e))))
 have hC := hC.st c6 hO same_
 have hO := Own.join hO c6 o0
 have hO := hO.perm (R := n9 ++ (b3 ++ (b0 ++ (([c1]) ++ (a6 ++ (([a5]) ++ ([]))))))) (by simp)
 refine ai rfl (c_nil ?_)
 have hO := hO.drop
 have hO := hO.fr2
 have hO := hO.drop
 refine c_sr (ms rfl (mi rfl ?_))
 have o1 := hO
 have j9 := Own.lend (F := (b3 ++ ([]))) (R := b0 ++ (a6 ++ (([a5]) ++ ([])))) (Own.perm (o1) (by simp))
 obtain ⟨r59, o2, hs⟩ := bind_some hs
 refine pl_call Bd30 rfl (c_laws_markIntSS (M := M) r25 r57.1 a7 j9 j9.fut o2) ?_
 rintro _ k0 ⟨o3, rfl, e3, s5, o4⟩
 have hO := hO.perm (R := (b3 ++ ([])) ++ (b0 ++ (a6 ++ (([a5]) ++ ([]))))) (by simp)
 have h0 := h0.mt e3 hO same_
 have h1 := h1.mt e3 hO same_
 have a0 := a0.ap e3 hO same_ (mem_r (mem_r (mem_l (List.mem_singleton.2 rfl))))
 have a1 := a1.ma e3 hO same_ (fun _ e => (mem_r (mem_l (e))))
 have a2 := a2.ma e3 hO same_ (fun _ e => (mem_l (e)))
 have hC := hC.st e3 hO same_
 have hO := Own.join hO e3 o4
 have hO := hO.perm (R := o3 ++ (b0 ++ (a6 ++ (([a5]) ++ ([]))))) (by simp)
 refine ai rfl (c_nil ?_)
 have hO := hO.drop
 refine c_seq (c_seq ?_)
 obtain ⟨s60, o5, hs⟩ := bind_some hs
 refine c_mid (I := fun a k1 => ∃ (σ : Nat → Value), a = fr 124 (ovl σ [(1, (.int .i64 aK)), (2, (.slice pa1 pn1 pc1)), (3, (pq a5 0)), (6, (.bool false)), (8, (.slice d0 d1 d2)), (9, (.bool r17.2)), (12, (.slice b4 b5 b6)), (86, (.bool s60))]) ∧ Chg [] k0 k1) ?_ ?_
 ·replace hs := o5
  have hMid := Chg.refl [] k0
  refine c_region (mi rfl (pl_val _ (y_lss rfl rfl) (mb rfl ?_)))
  rcases bif_some hs with ⟨c0, hs⟩ | ⟨c0, hs⟩
  ·skip
   refine pl_not (tg := 76) (by kernel_rfl) (cb c0) (pl_not (tg := 76) (by kernel_rfl) (cb c0) (pl_not (tg := 76) (by kernel_rfl) (cb c0) (pl_not (tg := 76) (by kernel_rfl) (cb c0) (pl_val (.bool true) (y_pick_t (cb c0) rfl) (mb rfl (pl_not (tg := 82) (by kernel_rfl) (by rfl) (pl_not (tg := 82) (by kernel_rfl) (by rfl) (pl_not (tg := 82) (by kernel_rfl) (by rfl) (pl_val (.bool true) (y_pick_t (by rfl) rfl) (c_nil ?_))))))))))
   cases hs
   exact ⟨_, fr_ovl 124 ⟨rfl, rfl, rfl, rfl, rfl, rfl, rfl, rfl, trivial⟩, hMid⟩
  refine pl_yes (.slice b4 b5 b6) (tg := 76) (by kernel_rfl) (cb c0) (y_move rfl) (pl_yes (.slice d0 d1 d2) (tg := 76) (by kernel_rfl) (cb c0) (y_move rfl) ?_)
  have hO := hO.fr1
  have hO := hO.fr1
  obtain ⟨r66, o6, hs⟩ := bind_some hs
  refine pl_cally (tg := 76) (by kernel_rfl) (cb c0) Bd29 rfl (c_laws_eqIntSS (M := (Less (Less M b0) a6)) r28.1 r17.1 ((((Frz.os (Frz.os Frz.int))).val a2 Less.sub Less.not).sub Less.sub) (((Frz.os (Frz.os Frz.int))).val (a1.sub Less.sub) Less.sub Less.not) (hO.less).less.fut o6) ?_
  rintro _ s6 ⟨rfl, d8⟩
  have h0 := h0.ext d8
  have h1 := h1.ext d8
  have a0 := a0.cn d8
  have a1 := a1.ext d8
  have a2 := a2.ext d8
  have hMid := hMid.ext d8
  have hC := hC.ext d8
  have hO := hO.ext d8
  refine pl_yes (.bool (!r66)) (tg := 76) (by kernel_rfl) (cb c0) (y_not rfl) (pl_val (.bool (!r66)) (y_pick_f (cb c0) rfl) (mb rfl ?_))
  rcases bif_some hs with ⟨c7, hs⟩ | ⟨c7, hs⟩
  ·skip
   refine pl_not (tg := 82) (by kernel_rfl) (cb c7) (pl_not (tg := 82) (by kernel_rfl) (cb c7) (pl_not (tg := 82) (by kernel_rfl) (cb c7) (pl_val (.bool true) (y_pick_t (cb c7) rfl) (c_nil ?_))))
   cases hs
   exact ⟨_, fr_ovl 124 ⟨rfl, rfl, rfl, rfl, rfl, rfl, rfl, rfl, trivial⟩, hMid⟩
  refine pl_yes (.bool r28.2) (tg := 82) (by kernel_rfl) (cb c7) (y_move rfl) (pl_yes (.bool r17.2) (tg := 82) (by kernel_rfl) (cb c7) (y_move rfl) (pl_yes (.bool (!(r28.2 == r17.2))) (tg := 82) (by kernel_rfl) (cb c7) (y_bneq Try.underlying4 rfl rfl) (pl_val (.bool (!(r28.2 == r17.2))) (y_pick_f (cb c7) rfl) (c_nil ?_))))
  cases hs
  exact ⟨_, fr_ovl 124 ⟨rfl, rfl, rfl, rfl, rfl, rfl, rfl, rfl, trivial⟩, hMid⟩
 rintro j5 k1 ⟨σ, rfl, e4⟩
 have h0 := h0.ext e4
 have h1 := h1.ext e4
 have a0 := a0.cn e4
 have a1 := a1.ext e4
 have a2 := a2.ext e4
 have hC := hC.ext e4
 have hO := hO.ext e4
 rcases bif_some hs with ⟨i0, hs⟩ | ⟨i0, hs⟩
 ·refine c_condT (cb i0) (c_sr (ab rfl (c_nil (wp_ret ?_))))
  cases hs
  exact ⟨_, fr_ovl 124 ⟨rfl, trivial⟩, hC⟩
 refine c_condF (cb i0) (wp_skip (c_sr (ai rfl (c_nil (c_sr (ms rfl (mi rfl ?_)))))))
 have o7 := hO
 have k2 := Own.lend (F := (b0 ++ ([]))) (R := a6 ++ (([a5]) ++ ([]))) (Own.perm (o7) (by simp))
 obtain ⟨r70, o8, hs⟩ := bind_some hs
 refine pl_call Bd30 rfl (c_laws_markIntSS (M := M) r28.1 1 a2 k2 k2.fut o8) ?_
 rintro _ s7 ⟨f0, rfl, f1, a8, o9⟩
 have hO := hO.perm (R := (b0 ++ ([])) ++ (a6 ++ (([a5]) ++ ([])))) (by simp)
 have h0 := h0.mt f1 hO same_
 have h1 := h1.mt f1 hO same_
 have a0 := a0.ap f1 hO same_ (mem_r (mem_l (List.mem_singleton.2 rfl)))
 have a1 := a1.ma f1 hO same_ (fun _ e => (mem_l (e)))
 have hC := hC.st f1 hO same_
 have hO := Own.join hO f1 o9
 have hO := hO.perm (R := f0 ++ (a6 ++ (([a5]) ++ ([])))) (by simp)
 refine ai rfl (c_nil (c_sr (ai rfl (c_nil (c_sr (ms rfl (mi rfl ?_)))))))
 obtain ⟨r72, p0, hs⟩ := bind_some hs
 refine pl_call Bd31 rfl (c_laws_heldIntSS (M := (Less M f0)) r70.2 1 (((Frz.os (Frz.os Frz.int))).val a8 Less.sub Less.not) hO.less.fut p0) ?_
 rintro _ s8 ⟨rfl, e5⟩
 have h0 := h0.ext e5
 have h1 := h1.ext e5
 have a0 := a0.cn e5
 have a1 := a1.ext e5
 have a8 := a8.ext e5
 have hC := hC.ext e5
 have hO := hO.ext e5
 refine ai rfl (c_nil (c_seq (c_sr (mi rfl (pl_val _ (y_lss rfl rfl) (c_nil ?_))))))
 rcases bif_some hs with ⟨i1, hs⟩ | ⟨i1, hs⟩
 ·refine c_condT (cb i1) (c_sr (ab rfl (c_nil (wp_ret ?_))))
  cases hs
  exact ⟨_, fr_ovl 124 ⟨rfl, trivial⟩, hC⟩
 refine c_condF (cb i1) (wp_skip (c_seq (c_sr (mi rfl (mi rfl (pl_val (.bool (r72 != r70.1)) (y_neq rfl rfl) (c_nil ?_)))))))
 rcases bif_some hs with ⟨i2, hs⟩ | ⟨i2, hs⟩
 ·refine c_condT (cb i2) (c_sr (ab rfl (c_nil (wp_ret ?_))))
  cases hs
  exact ⟨_, fr_ovl 124 ⟨rfl, trivial⟩, hC⟩
 refine c_condF (cb i2) (wp_skip (c_sr (pl_val (.agg #[(.int .i64 aA.1), (.slice pa0 pn0 pc0)]) (y_load rfl ((box_load Ag24 Sz24 a0 [] [(.int .i64 aA.1), (.slice pa0 pn0 pc0)] [] rfl rfl (fun h => nomatch h)) _ (Chg.refl _ _))) ?_)))
 obtain ⟨r76, p1, hs⟩ := bind_some hs
 refine pl_call Bd11 rfl (c_laws_toAlgebra (M := M) (aA.1, aA.2) h0 hO.fut p1) ?_
 rintro _ s9 ⟨t0, t1, t2, g6, rfl, e6, g0, p2⟩
 have h0 := h0.ext e6
 have h1 := h1.ext e6
 have a0 := a0.cn e6
 have a1 := a1.ext e6
 have a8 := a8.ext e6
 have hC := hC.ext e6
 have hO := Own.join0 hO e6 p2
 have hO := hO.perm (R := g6 ++ (f0 ++ (a6 ++ (([a5]) ++ ([]))))) (by simp)
 refine mi rfl (ms rfl ?_)
 obtain ⟨r79, p3, hs⟩ := bind_some hs
 refine pl_call Bd27 rfl (c_laws_toIntSS (M := M) aGens h1 hO.fut p3) ?_
 rintro _ t3 ⟨t4, t5, t6, i3, rfl, d9, i4, p4⟩
 have h0 := h0.ext d9
 have h1 := h1.ext d9
 have a0 := a0.cn d9
 have a1 := a1.ext d9
 have a8 := a8.ext d9
 have g0 := g0.ext d9
 have hC := hC.ext d9
 have hO := Own.join0 hO d9 p4
 have hO := hO.perm (R := i3 ++ (g6 ++ (f0 ++ (a6 ++ (([a5]) ++ ([])))))) (by simp)
 have hO := hO.fr1
 obtain ⟨r82, p5, hs⟩ := bind_some hs
 refine pl_call Bd28 rfl (c_impl_TermsFor (M := (Less (Less M g6) i3)) (r76.1, r76.2) aK r79 ((((Frz.os (Frz.pr Frz.int (Frz.os Frz.int)))).val g0 Less.sub Less.not).sub Less.sub) (((Frz.os (Frz.os Frz.int))).val (i4.sub Less.sub) Less.sub Less.not) (hO.less).less.fut p5) ?_
 rintro _ k3 ⟨g7, g8, g9, k4, rfl, c8, e7, p6⟩
 have h0 := h0.ext c8
 have h1 := h1.ext c8
 have a0 := a0.cn c8
 have a1 := a1.ext c8
 have a8 := a8.ext c8
 have g0 := g0.ext c8
 have i4 := i4.ext c8
 have hC := hC.ext c8
 have hO := Own.join0 hO c8 p6
 have hO := hO.perm (R := k4 ++ (g6 ++ (i3 ++ (f0 ++ (a6 ++ (([a5]) ++ ([]))))))) (by simp)
 have e7 := e7.free (M' := M) (Free.os (Free.os Free.int))
 refine pl_val (.tuple #[(.slice g7 g8 g9), (.bool r82.2)]) (y_move rfl) (pl_val (.slice g7 g8 g9) (y_extract rfl (by kernel_rfl)) (pl_val (.bool r82.2) (y_extract rfl (by kernel_rfl)) (ax rfl (ab rfl (c_nil ?_)))))
 have hO := hO.fr1
 have hO := hO.drop
 have hO := hO.fr1
 have hO := hO.drop
 have hO := hO.fr3
 have hO := hO.drop
 refine c_seq (c_seq ?_)
 obtain ⟨s84, p7, hs⟩ := bind_some hs
 refine c_mid (I := fun a k5 => ∃ (σ : Nat → Value), a = fr 124 (ovl σ [(6, (.bool false)), (12, (.slice b4 b5 b6)), (15, (.int .i64 r70.1)), (16, (.int .i64 r72)), (115, (.bool s84))]) ∧ Chg [] k3 k5) ?_ ?_
 ·replace hs := p7
  have hMid := Chg.refl [] k3
  refine c_region (ms rfl (ms rfl ?_))
  have hO := hO.fr2
  have hO := hO.fr1
  obtain ⟨r88, p8, hs⟩ := bind_some hs
  refine pl_call Bd29 rfl (c_laws_eqIntSS (M := (Less (Less M k4) a6)) r82.1 r17.1 ((((Frz.os (Frz.os Frz.int))).val e7 Less.sub Less.not).sub Less.sub) (((Frz.os (Frz.os Frz.int))).val (a1.sub Less.sub) Less.sub Less.not) (hO.less).less.fut p8) ?_
  rintro _ t7 ⟨rfl, f2⟩
  have a1 := a1.ext f2
  have a8 := a8.ext f2
  have e7 := e7.ext f2
  have hMid := hMid.ext f2
  have hC := hC.ext f2
  have hO := hO.ext f2
  refine pl_val _ (y_not rfl) (mb rfl ?_)
  rcases bif_some hs with ⟨c9, hs⟩ | ⟨c9, hs⟩
  ·skip
   refine pl_not (tg := 111) (by kernel_rfl) (cb c9) (pl_not (tg := 111) (by kernel_rfl) (cb c9) (pl_not (tg := 111) (by kernel_rfl) (cb c9) (pl_val (.bool true) (y_pick_t (cb c9) rfl) (c_nil ?_))))
   have hO := hO.drop
   have hO := hO.drop
   cases hs
   exact ⟨_, fr_ovl 124 ⟨rfl, rfl, rfl, rfl, rfl, trivial⟩, hMid⟩
  refine pl_yes (.bool r82.2) (tg := 111) (by kernel_rfl) (cb c9) (y_move rfl) (pl_yes (.bool r17.2) (tg := 111) (by kernel_rfl) (cb c9) (y_move rfl) (pl_yes (.bool (!(r82.2 == r17.2))) (tg := 111) (by kernel_rfl) (cb c9) (y_bneq Try.underlying4 rfl rfl) (pl_val (.bool (!(r82.2 == r17.2))) (y_pick_f (cb c9) rfl) (c_nil ?_))))
  have hO := hO.drop
  have hO := hO.drop
  cases hs
  exact ⟨_, fr_ovl 124 ⟨rfl, rfl, rfl, rfl, rfl, trivial⟩, hMid⟩
 rintro j5 k5 ⟨σ, rfl, g1⟩
 have a1 := a1.ext g1
 have a8 := a8.ext g1
 have e7 := e7.ext g1
 have hC := hC.ext g1
 have hO := hO.ext g1
 rcases bif_some hs with ⟨i5, hs⟩ | ⟨i5, hs⟩
 ·refine c_condT (cb i5) (c_sr (ab rfl (c_nil ?_)))
  have hO := hO.drop
  have hO := hO.fr1
  have hO := hO.drop
  refine wp_ret ?_
  cases hs
  exact ⟨_, fr_ovl 124 ⟨rfl, trivial⟩, hC⟩
 refine c_condF (cb i5) (wp_skip (c_sr (ai rfl (c_nil ?_))))
 have hO := hO.drop
 have hO := hO.fr1
 have hO := hO.drop
 refine c_sr (ms rfl (mi rfl ?_))
 obtain ⟨r92, p9, hs⟩ := bind_some hs
 refine pl_call Bd31 rfl (c_laws_heldIntSS (M := (Less M f0)) r70.2 1 (((Frz.os (Frz.os Frz.int))).val a8 Less.sub Less.not) hO.less.fut p9) ?_
 rintro _ t8 ⟨rfl, i6⟩
 have a8 := a8.ext i6
 have hC := hC.ext i6
 have hO := hO.ext i6
 refine ai rfl (c_nil ?_)
 have hO := hO.drop
 refine c_seq (c_sr (mi rfl (pl_val _ (y_lss rfl rfl) (c_nil ?_))))
 rcases bif_some hs with ⟨i7, hs⟩ | ⟨i7, hs⟩
 ·refine c_condT (cb i7) (c_sr (ab rfl (c_nil (wp_ret ?_))))
  cases hs
  exact ⟨_, fr_ovl 124 ⟨rfl, trivial⟩, hC⟩
 refine c_condF (cb i7) (wp_skip (c_seq (c_sr (mi rfl (mi rfl (pl_val (.bool (r92 != r70.1)) (y_neq rfl rfl) (c_nil ?_)))))))
 rcases bif_some hs with ⟨i9, hs⟩ | ⟨i9, hs⟩
 ·refine c_condT (cb i9) (c_sr (ab rfl (c_nil (wp_ret ?_))))
  cases hs
  exact ⟨_, fr_ovl 124 ⟨rfl, trivial⟩, hC⟩
 refine c_condF (cb i9) (wp_skip (c_sr (ab rfl (c_nil (wp_ret ?_)))))
 cases hs
 exact ⟨_, fr_ovl 124 ⟨rfl, trivial⟩, hC⟩

end Go.Proofs
