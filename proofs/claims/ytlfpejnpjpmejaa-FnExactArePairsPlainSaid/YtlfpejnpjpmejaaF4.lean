/- What functions of the program compute, as plain functions, and that a call gives just that. Conditions: those named in each theorem. -/
import Derived.Test.YtlfpejnpjpmejaaF3
set_option linter.unusedVariables false
namespace Go.Proofs
open Go.G Go.RowKit
set_option maxRecDepth 100000

def k_sort_symMerge_func (M : Nat → Prop) (w0 : World) {α_ : Type} (I_ : World → List α_ → Prop) (G_ : List Nat) (r : (List α_)) (a : Act) (w : World) : Prop :=
  ∃ (σ : Nat → Value) , a = fr 177 (ovl σ []) ∧ Chg (G_ ++ ([])) w0 w ∧ I_ w r
def s_sort_symMerge_func {α_ : Type} : Nat → (α_ → α_ → Option Bool) → (List α_) → (Int) → (Int) → (Int) → Option ((List α_))
  | 0, _, _, _, _, _ => none
  | fu_ + 1, ls_, d_, a_, m, b =>
  (bif ((w64 (m - a_)) == 1) then (iter (S := Int × Int) (R := (List α_)) (fun s7 =>
  (bif (decide (s7.1 < s7.2)) then (lsx ls_ d_ (w64 (ishr .u64 (IntKind.u64.wrap (w64 (s7.1 + s7.2))) 1)) a_).bind fun r15 =>
  (bif r15 then some (.nx (w64 ((w64 (ishr .u64 (IntKind.u64.wrap (w64 (s7.1 + s7.2))) 1)) + 1), s7.2)) else some (.nx (s7.1, w64 (ishr .u64 (IntKind.u64.wrap (w64 (s7.1 + s7.2))) 1)))) else some (.br (s7.1, s7.2)))) FU (m, b)).bind fun o11 => after o11 (fun r_ => some r_) (fun s7 =>
  (forC (S := (List α_)) (R := (List α_)) (fun k24 s22 =>
  (swx s22 k24 (w64 (k24 + 1))).bind fun y31 =>
  some (.nx y31)) a_ (w64 (s7.1 - 1)) d_).bind fun o26 => after o26 (fun r_ => some r_) (fun s22 =>
  some s22)) else (bif ((w64 (b - m)) == 1) then (iter (S := Int × Int) (R := (List α_)) (fun s37 =>
  (bif (decide (s37.1 < s37.2)) then (lsx ls_ d_ m (w64 (ishr .u64 (IntKind.u64.wrap (w64 (s37.1 + s37.2))) 1))).bind fun r45 =>
  (bif (!r45) then some (.nx (w64 ((w64 (ishr .u64 (IntKind.u64.wrap (w64 (s37.1 + s37.2))) 1)) + 1), s37.2)) else some (.nx (s37.1, w64 (ishr .u64 (IntKind.u64.wrap (w64 (s37.1 + s37.2))) 1)))) else some (.br (s37.1, s37.2)))) FU (a_, m)).bind fun o41 => after o41 (fun r_ => some r_) (fun s37 =>
  (iter (S := Int × (List α_)) (R := (List α_)) (fun s54 =>
  (bif (decide (s37.1 < s54.1)) then (swx s54.2 s54.1 (w64 (s54.1 - 1))).bind fun y64 =>
  some (.nx (w64 (s54.1 - 1), y64)) else some (.br (s54.1, s54.2)))) FU (m, d_)).bind fun o58 => after o58 (fun r_ => some r_) (fun s54 =>
  some s54.2)) else (bif (decide ((w64 (ishr .u64 (IntKind.u64.wrap (w64 (a_ + b))) 1)) < m)) then some (w64 ((w64 ((w64 (ishr .u64 (IntKind.u64.wrap (w64 (a_ + b))) 1)) + m)) - b), w64 (ishr .u64 (IntKind.u64.wrap (w64 (a_ + b))) 1)) else some (a_, m)).bind fun s65 =>
  (iter (S := Int × Int) (R := (List α_)) (fun s73 =>
  (bif (decide (s73.1 < s73.2)) then (lsx ls_ d_ (w64 ((w64 ((w64 ((w64 (ishr .u64 (IntKind.u64.wrap (w64 (a_ + b))) 1)) + m)) - 1)) - (w64 (ishr .u64 (IntKind.u64.wrap (w64 (s73.1 + s73.2))) 1)))) (w64 (ishr .u64 (IntKind.u64.wrap (w64 (s73.1 + s73.2))) 1))).bind fun r81 =>
  (bif (!r81) then some (.nx (w64 ((w64 (ishr .u64 (IntKind.u64.wrap (w64 (s73.1 + s73.2))) 1)) + 1), s73.2)) else some (.nx (s73.1, w64 (ishr .u64 (IntKind.u64.wrap (w64 (s73.1 + s73.2))) 1)))) else some (.br (s73.1, s73.2)))) FU (s65.1, s65.2)).bind fun o77 => after o77 (fun r_ => some r_) (fun s73 =>
  (bif ((decide (s73.1 < m)) && (decide (m < (w64 ((w64 ((w64 (ishr .u64 (IntKind.u64.wrap (w64 (a_ + b))) 1)) + m)) - s73.1))))) then (s_sort_rotate_func ls_ d_ s73.1 m (w64 ((w64 ((w64 (ishr .u64 (IntKind.u64.wrap (w64 (a_ + b))) 1)) + m)) - s73.1))).bind fun r97 =>
  some r97 else some d_).bind fun s91 =>
  (bif ((decide (a_ < s73.1)) && (decide (s73.1 < (w64 (ishr .u64 (IntKind.u64.wrap (w64 (a_ + b))) 1))))) then (s_sort_symMerge_func fu_ ls_ s91 a_ s73.1 (w64 (ishr .u64 (IntKind.u64.wrap (w64 (a_ + b))) 1))).bind fun r112 =>
  some r112 else some s91).bind fun s106 =>
  (bif ((decide ((w64 (ishr .u64 (IntKind.u64.wrap (w64 (a_ + b))) 1)) < (w64 ((w64 ((w64 (ishr .u64 (IntKind.u64.wrap (w64 (a_ + b))) 1)) + m)) - s73.1)))) && (decide ((w64 ((w64 ((w64 (ishr .u64 (IntKind.u64.wrap (w64 (a_ + b))) 1)) + m)) - s73.1)) < b))) then (s_sort_symMerge_func fu_ ls_ s106 (w64 (ishr .u64 (IntKind.u64.wrap (w64 (a_ + b))) 1)) (w64 ((w64 ((w64 (ishr .u64 (IntKind.u64.wrap (w64 (a_ + b))) 1)) + m)) - s73.1)) b).bind fun r119 =>
  some r119 else some s106))))
set_option maxHeartbeats 4000000 in
theorem c_sort_symMerge_func : ∀ (fu_ : Nat) {M : Nat → Prop} {w : World} {α_ : Type} {n0_ : Nat} {I_ : World → List α_ → Prop} {G_ : List Nat} {g_ sf_ : Nat} {lb_ sb_ : Array Value} (ls_ : α_ → α_ → Option Bool) (d_ : List α_) (a_ : Int) (m : Int) (b : Int) (hN_ : n0_ ≤ w.heap.size) (hE_ : Env Try.prog n0_ I_ G_ ls_ g_ lb_ sf_ sb_) (hI_ : I_ w d_) (hI : Own (Nw w (G_ ++ ([]))) M w (G_ ++ ([]))) (hM : ∀ g, w.heap.size ≤ g → M g) {r : (List α_)} (hs : s_sort_symMerge_func fu_ ls_ d_ a_ m b = some r), Gives Try.prog 114 [(.agg #[(.func (.func g_) #[] lb_), (.func (.func sf_) #[] sb_)]), (.int .i64 a_), (.int .i64 m), (.int .i64 b)] w (fun v w' => v = (.tuple #[]) ∧ Chg (G_ ++ ([])) w w' ∧ I_ w' r) := by
 intro fu_
 induction fu_ with
 | zero => intro M w α_ n0_ I_ G_ g_ sf_ lb_ sb_ ls_ d_ a_ m b hN_ hE_ hI_ hI hM r hs; exact (nomatch hs)
 | succ fu_ c_ih =>
 intro M w α_ n0_ I_ G_ g_ sf_ lb_ sb_ ls_ d_ a_ m b hN_ hE_ hI_ hI hM r hs
 refine calls_fr Try.func114 rfl Try.ntmps114 (Nat.le_of_ble_eq_true rfl) ?_
 have hO := hI
 have hC := Chg.refl (G_ ++ ([])) w
 rw [s_sort_symMerge_func] at hs
 refine wp_mono (Q := KPostN (k_sort_symMerge_func M w I_ G_ r)) ?_ (fun e a w1 h => ?_)
 rotate_left
 ·cases e
  case ret =>
   obtain ⟨σ, rfl, hrest⟩ := h
   exact ret0x Try.results114  ⟨rfl, hrest⟩
  case normal =>
   obtain ⟨σ, rfl, hrest⟩ := h
   exact ret0n Try.results114  ⟨rfl, hrest⟩
  all_goals exact (h : False).elim
 refine c_seq (c_region ?_)
 obtain ⟨w1, g1, ew1, eg1, hC1, hb1⟩ := new_block w [(.func (.func g_) #[] lb_), (.func (.func sf_) #[] sb_)] 122
 refine pl_val (w' := w1) (.pointer (some ⟨g1, 0, none⟩)) (y_box rfl (by rw [ew1, eg1]; kernel_rfl)) ?_
 have hI_ := hE_.ext hI_ hC1 (fun _ h => nomatch h)
 have hC := hC.ext hC1
 have hO := hO.new1 hC1 eg1 hb1.lt
 refine c_nil ?_
 refine c_seq ?_
 refine c_seq (c_region ?_)
 refine pl_val (.int .i64 m) (y_move rfl) ?_
 refine pl_val (.int .i64 a_) (y_move rfl) ?_
 refine pl_val (.int .i64 (w64 (m - a_))) (y_sub rfl rfl) ?_
 refine pl_val (.bool ((w64 (m - a_)) == 1)) (y_eql rfl rfl) ?_
 refine c_nil ?_
 rcases bif_some hs with ⟨hc2, hs⟩ | ⟨hc2, hs⟩
 ·skip
  refine c_condT (congrArg Value.bool hc2) ?_
  refine c_seq (c_region ?_)
  refine pl_val (.int .i64 m) (y_move rfl) ?_
  refine pl_val (.int .i64 m) (y_assign rfl) ?_
  refine c_nil ?_
  refine c_seq (c_region ?_)
  refine pl_val (.int .i64 b) (y_move rfl) ?_
  refine pl_val (.int .i64 b) (y_assign rfl) ?_
  refine c_nil ?_
  refine c_seq ?_
  obtain ⟨o11, hl12, hs⟩ := bind_some hs
  refine wp_block ?_
  refine wp_iter (id := 0) (I := fun s7 a w8 => ∃ (σ : Nat → Value), a = fr 177 (ovl σ [(1, (.int .i64 a_)), (2, (.int .i64 m)), (3, (.int .i64 b)), (4, (.pointer (some ⟨g1, 0, none⟩))), (8, (.int .i64 s7.1)), (9, (.int .i64 s7.2))]) ∧ Chg (G_ ++ ([])) w w8 ∧ Own (Nw w (G_ ++ ([]))) M w8 (([g1]) ++ (G_ ++ [])) ∧ I_ w8 d_ ∧ BoxV w8 g1 122 [(.func (.func g_) #[] lb_), (.func (.func sf_) #[] sb_)]) (J := fun s7 a w8 => ∃ (σ : Nat → Value), a = fr 177 (ovl σ [(1, (.int .i64 a_)), (2, (.int .i64 m)), (3, (.int .i64 b)), (4, (.pointer (some ⟨g1, 0, none⟩))), (8, (.int .i64 s7.1))]) ∧ Chg (G_ ++ ([])) w w8 ∧ Own (Nw w (G_ ++ ([]))) M w8 (([g1]) ++ (G_ ++ [])) ∧ I_ w8 d_ ∧ BoxV w8 g1 122 [(.func (.func g_) #[] lb_), (.func (.func sf_) #[] sb_)]) (K := (k_sort_symMerge_func M w I_ G_)) ?_ FU (m, b) o11 _ _ ?_ hl12 ?_
  ·rintro s7 o11 a w8 ⟨σ, rfl, hC, hO, hI_, hb1⟩ hs
   refine c_seq ?_
   refine c_seq (c_region ?_)
   refine pl_val (.int .i64 s7.1) (y_move rfl) ?_
   refine pl_val (.int .i64 s7.2) (y_move rfl) ?_
   refine pl_val (.bool (decide (s7.1 < s7.2))) (y_lss rfl rfl) ?_
   refine c_nil ?_
   rcases bif_some hs with ⟨hc13, hs⟩ | ⟨hc13, hs⟩
   ·skip
    refine c_condT (congrArg Value.bool hc13) ?_
    refine wp_skip ?_
    refine wp_block ?_
    refine c_seq (c_region ?_)
    refine pl_val (.int .i64 s7.1) (y_move rfl) ?_
    refine pl_val (.int .i64 s7.2) (y_move rfl) ?_
    refine pl_val (.int .i64 (w64 (s7.1 + s7.2))) (y_add rfl rfl) ?_
    refine pl_val (.int .u64 (IntKind.u64.wrap (w64 (s7.1 + s7.2)))) (y_conv_int Try.underlying3 Try.underlying103 rfl) ?_
    refine pl_val (.int .u64 (ishr .u64 (IntKind.u64.wrap (w64 (s7.1 + s7.2))) 1)) (y_shr rfl rfl (by decide)) ?_
    refine pl_val (.int .i64 (w64 (ishr .u64 (IntKind.u64.wrap (w64 (s7.1 + s7.2))) 1))) (y_conv_int Try.underlying103 Try.underlying3 rfl) ?_
    refine pl_val (.int .i64 (w64 (ishr .u64 (IntKind.u64.wrap (w64 (s7.1 + s7.2))) 1))) (y_assign rfl) ?_
    refine c_nil ?_
    refine c_seq (c_region ?_)
    refine pl_val (.pointer (some ⟨g1, 0, none⟩)) (y_faddr rfl Fa122x0) ?_
    refine pl_val (.func (.func g_) #[] lb_) (y_load rfl ((box_load Ag111 Sz111 hb1 [] [(.func (.func g_) #[] lb_)] [(.func (.func sf_) #[] sb_)] rfl rfl (fun _ => rfl)) _ (Chg.refl _ _))) ?_
    refine pl_val (.int .i64 (w64 (ishr .u64 (IntKind.u64.wrap (w64 (s7.1 + s7.2))) 1))) (y_move rfl) ?_
    refine pl_val (.int .i64 a_) (y_move rfl) ?_
    obtain ⟨r15, hr15, hs⟩ := bind_some hs
    refine pl_callb rfl hE_.bod rfl (hE_.less hI_ hr15) ?_
    rintro _ w14 ⟨rfl, hC14⟩
    have hI_ := hE_.ext hI_ hC14 (fun _ h => nomatch h)
    have hb1 := hb1.chg hC14 (fun h => nomatch h)
    have hC := hC.ext hC14
    have hO := hO.ext hC14
    refine c_nil ?_
    rcases bif_some hs with ⟨hc16, hs⟩ | ⟨hc16, hs⟩
    ·skip
     refine c_condT (congrArg Value.bool hc16) ?_
     refine c_region ?_
     refine pl_val (.int .i64 (w64 (ishr .u64 (IntKind.u64.wrap (w64 (s7.1 + s7.2))) 1))) (y_move rfl) ?_
     refine pl_val (.int .i64 (w64 ((w64 (ishr .u64 (IntKind.u64.wrap (w64 (s7.1 + s7.2))) 1)) + 1))) (y_add rfl rfl) ?_
     refine pl_val (.int .i64 (w64 ((w64 (ishr .u64 (IntKind.u64.wrap (w64 (s7.1 + s7.2))) 1)) + 1))) (y_assign rfl) ?_
     refine c_nil ?_
     cases hs
     have hO := hO.fr1
     have hO := hO.fr1
     exact ⟨_, fr_ovl 177 ⟨rfl, rfl, rfl, rfl, rfl, rfl, trivial⟩, hC, hO, hI_, hb1⟩
    ·skip
     refine c_condF (congrArg Value.bool hc16) ?_
     refine c_region ?_
     refine pl_val (.int .i64 (w64 (ishr .u64 (IntKind.u64.wrap (w64 (s7.1 + s7.2))) 1))) (y_move rfl) ?_
     refine pl_val (.int .i64 (w64 (ishr .u64 (IntKind.u64.wrap (w64 (s7.1 + s7.2))) 1))) (y_assign rfl) ?_
     refine c_nil ?_
     cases hs
     have hO := hO.fr1
     have hO := hO.fr1
     exact ⟨_, fr_ovl 177 ⟨rfl, rfl, rfl, rfl, rfl, rfl, trivial⟩, hC, hO, hI_, hb1⟩
   ·skip
    refine c_condF (congrArg Value.bool hc13) ?_
    refine wp_exit ?_
    cases hs
    have hO := hO.fr1
    have hO := hO.fr1
    exact ⟨rfl, _, fr_ovl 177 ⟨rfl, rfl, rfl, rfl, rfl, trivial⟩, hC, hO, hI_, hb1⟩
  ·skip
   have hO := hO.fr1
   have hO := hO.fr1
   exact ⟨_, fr_ovl 177 ⟨rfl, rfl, rfl, rfl, rfl, rfl, trivial⟩, hC, hO, hI_, hb1⟩
  ·cases o11 with
   | nx _ => exact True.intro
   | rt r_ =>
    have hs := after_rt hs
    intro a1 w1 hK
    cases hs
    exact hK
   | br s7 =>
    have hs := after_br hs
    rintro a1 w8 ⟨σ, rfl, hC, hO, hI_, hb1⟩
    refine c_seq ?_
    refine c_seq (c_region ?_)
    refine pl_val (.int .i64 a_) (y_move rfl) ?_
    refine pl_val (.int .i64 a_) (y_assign rfl) ?_
    refine c_nil ?_
    obtain ⟨o26, hl27, hs⟩ := bind_some hs
    refine wp_block ?_
    refine wp_forC (id := 2) (w64 (s7.1 - 1)) (I := fun k24 s22 a w23 => ∃ (σ : Nat → Value), a = fr 177 (ovl σ [(1, (.int .i64 a_)), (2, (.int .i64 m)), (3, (.int .i64 b)), (4, (.pointer (some ⟨g1, 0, none⟩))), (8, (.int .i64 s7.1)), (11, (.int .i64 k24))]) ∧ Chg (G_ ++ ([])) w w23 ∧ Own (Nw w (G_ ++ ([]))) M w23 (([g1]) ++ (G_ ++ [])) ∧ I_ w23 s22 ∧ BoxV w23 g1 122 [(.func (.func g_) #[] lb_), (.func (.func sf_) #[] sb_)]) (J := fun s22 a w23 => ∃ (σ : Nat → Value), a = fr 177 (ovl σ [(1, (.int .i64 a_)), (2, (.int .i64 m)), (3, (.int .i64 b)), (4, (.pointer (some ⟨g1, 0, none⟩)))]) ∧ Chg (G_ ++ ([])) w w23 ∧ Own (Nw w (G_ ++ ([]))) M w23 (([g1]) ++ (G_ ++ [])) ∧ I_ w23 s22 ∧ BoxV w23 g1 122 [(.func (.func g_) #[] lb_), (.func (.func sf_) #[] sb_)]) (K := (k_sort_symMerge_func M w I_ G_)) ?_ ?_ a_ d_ o26 _ _ ?_ hl27 ?_
    ·rintro k24 s22 a w23 ⟨σ, rfl, hC, hO, hv28, hb1⟩ hlt
     refine c_seq ?_
     refine c_seq (c_region ?_)
     refine pl_val (.int .i64 k24) (y_move rfl) ?_
     refine pl_val (.int .i64 s7.1) (y_move rfl) ?_
     refine pl_val (.int .i64 (w64 (s7.1 - 1))) (y_sub rfl rfl) ?_
     refine pl_val (.bool (decide (k24 < (w64 (s7.1 - 1))))) (y_lss rfl rfl) ?_
     refine c_nil ?_
     refine c_condF (congrArg Value.bool (decide_eq_false hlt)) ?_
     refine wp_exit ?_
     have hO := hO.fr1
     have hO := hO.fr1
     exact ⟨rfl, _, fr_ovl 177 ⟨rfl, rfl, rfl, rfl, trivial⟩, hC, hO, hv28, hb1⟩
    ·rintro k24 s22 o26 a w23 ⟨σ, rfl, hC, hO, hv28, hb1⟩ hlt hw hs
     refine c_seq ?_
     refine c_seq (c_region ?_)
     refine pl_val (.int .i64 k24) (y_move rfl) ?_
     refine pl_val (.int .i64 s7.1) (y_move rfl) ?_
     refine pl_val (.int .i64 (w64 (s7.1 - 1))) (y_sub rfl rfl) ?_
     refine pl_val (.bool (decide (k24 < (w64 (s7.1 - 1))))) (y_lss rfl rfl) ?_
     refine c_nil ?_
     refine c_condT (congrArg Value.bool (decide_eq_true hlt)) ?_
     refine wp_skip ?_
     refine c_seq ?_
     refine wp_block ?_
     refine c_region ?_
     refine pl_val (.pointer (some ⟨g1, 1, none⟩)) (y_faddr rfl Fa122x1) ?_
     refine pl_val (.func (.func sf_) #[] sb_) (y_load rfl ((box_load Ag118 Sz118 hb1 [(.func (.func g_) #[] lb_)] [(.func (.func sf_) #[] sb_)] [] rfl rfl (fun _ => rfl)) _ (Chg.refl _ _))) ?_
     refine pl_val (.int .i64 k24) (y_move rfl) ?_
     refine pl_val (.int .i64 k24) (y_move rfl) ?_
     refine pl_val (.int .i64 (w64 (k24 + 1))) (y_add rfl rfl) ?_
     obtain ⟨y31, hy31, hs⟩ := bind_some hs
     obtain ⟨w30, hx30, hC30, hv30⟩ := hE_.swap hv28 hy31
     refine pl_val (w' := w30) (.tuple #[]) (y_callx rfl rfl hx30) ?_
     have hO := hO.fr1
     have hb1 := hb1.chg hC30 (fun hg => hO.apart _ ((fun _ h => h) _ hg) (mem_l (List.mem_singleton.2 rfl)))
     have hC := hC.step hC30 (fun g hg => hO.inN g ((fun _ h => h) g hg))
     have hO := hO.ext hC30
     refine c_nil ?_
     refine c_region ?_
     refine pl_val (.int .i64 k24) (y_move rfl) ?_
     refine pl_val (.int .i64 (w64 (k24 + 1))) (y_add rfl rfl) ?_
     refine pl_val (.int .i64 (w64 (k24 + 1))) (y_assign rfl) ?_
     refine c_nil ?_
     cases hs
     have hO := hO.fr1
     exact ⟨_, fr_ovl 177 ⟨rfl, rfl, rfl, rfl, rfl, congrArg (Value.int .i64) hw, trivial⟩, hC, hO, hv30, hb1⟩
    ·skip
     have hO := hO.fr1
     have hO := hO.fr1
     exact ⟨_, fr_ovl 177 ⟨rfl, rfl, rfl, rfl, rfl, rfl, trivial⟩, hC, hO, hI_, hb1⟩
    ·cases o26 with
     | nx _ => exact True.intro
     | rt r_ =>
      have hs := after_rt hs
      intro a1 w1 hK
      cases hs
      exact hK
     | br s22 =>
      have hs := after_br hs
      rintro a1 w23 ⟨σ, rfl, hC, hO, hv29, hb1⟩
      refine wp_ret ?_
      cases hs
      exact ⟨_, fr_ovl 177 trivial, hC, hv29⟩
 ·skip
  refine c_condF (congrArg Value.bool hc2) ?_
  refine wp_skip ?_
  refine c_seq ?_
  refine c_seq (c_region ?_)
  refine pl_val (.int .i64 b) (y_move rfl) ?_
  refine pl_val (.int .i64 m) (y_move rfl) ?_
  refine pl_val (.int .i64 (w64 (b - m))) (y_sub rfl rfl) ?_
  refine pl_val (.bool ((w64 (b - m)) == 1)) (y_eql rfl rfl) ?_
  refine c_nil ?_
  rcases bif_some hs with ⟨hc32, hs⟩ | ⟨hc32, hs⟩
  ·skip
   refine c_condT (congrArg Value.bool hc32) ?_
   refine c_seq (c_region ?_)
   refine pl_val (.int .i64 a_) (y_move rfl) ?_
   refine pl_val (.int .i64 a_) (y_assign rfl) ?_
   refine c_nil ?_
   refine c_seq (c_region ?_)
   refine pl_val (.int .i64 m) (y_move rfl) ?_
   refine pl_val (.int .i64 m) (y_assign rfl) ?_
   refine c_nil ?_
   refine c_seq ?_
   obtain ⟨o41, hl42, hs⟩ := bind_some hs
   refine wp_block ?_
   refine wp_iter (id := 4) (I := fun s37 a w38 => ∃ (σ : Nat → Value), a = fr 177 (ovl σ [(1, (.int .i64 a_)), (2, (.int .i64 m)), (3, (.int .i64 b)), (4, (.pointer (some ⟨g1, 0, none⟩))), (12, (.int .i64 s37.1)), (13, (.int .i64 s37.2))]) ∧ Chg (G_ ++ ([])) w w38 ∧ Own (Nw w (G_ ++ ([]))) M w38 (([g1]) ++ (G_ ++ [])) ∧ I_ w38 d_ ∧ BoxV w38 g1 122 [(.func (.func g_) #[] lb_), (.func (.func sf_) #[] sb_)]) (J := fun s37 a w38 => ∃ (σ : Nat → Value), a = fr 177 (ovl σ [(1, (.int .i64 a_)), (2, (.int .i64 m)), (3, (.int .i64 b)), (4, (.pointer (some ⟨g1, 0, none⟩))), (12, (.int .i64 s37.1))]) ∧ Chg (G_ ++ ([])) w w38 ∧ Own (Nw w (G_ ++ ([]))) M w38 (([g1]) ++ (G_ ++ [])) ∧ I_ w38 d_ ∧ BoxV w38 g1 122 [(.func (.func g_) #[] lb_), (.func (.func sf_) #[] sb_)]) (K := (k_sort_symMerge_func M w I_ G_)) ?_ FU (a_, m) o41 _ _ ?_ hl42 ?_
   ·rintro s37 o41 a w38 ⟨σ, rfl, hC, hO, hI_, hb1⟩ hs
    refine c_seq ?_
    refine c_seq (c_region ?_)
    refine pl_val (.int .i64 s37.1) (y_move rfl) ?_
    refine pl_val (.int .i64 s37.2) (y_move rfl) ?_
    refine pl_val (.bool (decide (s37.1 < s37.2))) (y_lss rfl rfl) ?_
    refine c_nil ?_
    rcases bif_some hs with ⟨hc43, hs⟩ | ⟨hc43, hs⟩
    ·skip
     refine c_condT (congrArg Value.bool hc43) ?_
     refine wp_skip ?_
     refine wp_block ?_
     refine c_seq (c_region ?_)
     refine pl_val (.int .i64 s37.1) (y_move rfl) ?_
     refine pl_val (.int .i64 s37.2) (y_move rfl) ?_
     refine pl_val (.int .i64 (w64 (s37.1 + s37.2))) (y_add rfl rfl) ?_
     refine pl_val (.int .u64 (IntKind.u64.wrap (w64 (s37.1 + s37.2)))) (y_conv_int Try.underlying3 Try.underlying103 rfl) ?_
     refine pl_val (.int .u64 (ishr .u64 (IntKind.u64.wrap (w64 (s37.1 + s37.2))) 1)) (y_shr rfl rfl (by decide)) ?_
     refine pl_val (.int .i64 (w64 (ishr .u64 (IntKind.u64.wrap (w64 (s37.1 + s37.2))) 1))) (y_conv_int Try.underlying103 Try.underlying3 rfl) ?_
     refine pl_val (.int .i64 (w64 (ishr .u64 (IntKind.u64.wrap (w64 (s37.1 + s37.2))) 1))) (y_assign rfl) ?_
     refine c_nil ?_
     refine c_seq (c_region ?_)
     refine pl_val (.pointer (some ⟨g1, 0, none⟩)) (y_faddr rfl Fa122x0) ?_
     refine pl_val (.func (.func g_) #[] lb_) (y_load rfl ((box_load Ag111 Sz111 hb1 [] [(.func (.func g_) #[] lb_)] [(.func (.func sf_) #[] sb_)] rfl rfl (fun _ => rfl)) _ (Chg.refl _ _))) ?_
     refine pl_val (.int .i64 m) (y_move rfl) ?_
     refine pl_val (.int .i64 (w64 (ishr .u64 (IntKind.u64.wrap (w64 (s37.1 + s37.2))) 1))) (y_move rfl) ?_
     obtain ⟨r45, hr45, hs⟩ := bind_some hs
     refine pl_callb rfl hE_.bod rfl (hE_.less hI_ hr45) ?_
     rintro _ w44 ⟨rfl, hC44⟩
     have hI_ := hE_.ext hI_ hC44 (fun _ h => nomatch h)
     have hb1 := hb1.chg hC44 (fun h => nomatch h)
     have hC := hC.ext hC44
     have hO := hO.ext hC44
     refine pl_val (.bool (!r45)) (y_not rfl) ?_
     refine c_nil ?_
     rcases bif_some hs with ⟨hc46, hs⟩ | ⟨hc46, hs⟩
     ·skip
      refine c_condT (congrArg Value.bool hc46) ?_
      refine c_region ?_
      refine pl_val (.int .i64 (w64 (ishr .u64 (IntKind.u64.wrap (w64 (s37.1 + s37.2))) 1))) (y_move rfl) ?_
      refine pl_val (.int .i64 (w64 ((w64 (ishr .u64 (IntKind.u64.wrap (w64 (s37.1 + s37.2))) 1)) + 1))) (y_add rfl rfl) ?_
      refine pl_val (.int .i64 (w64 ((w64 (ishr .u64 (IntKind.u64.wrap (w64 (s37.1 + s37.2))) 1)) + 1))) (y_assign rfl) ?_
      refine c_nil ?_
      cases hs
      have hO := hO.fr1
      have hO := hO.fr1
      exact ⟨_, fr_ovl 177 ⟨rfl, rfl, rfl, rfl, rfl, rfl, trivial⟩, hC, hO, hI_, hb1⟩
     ·skip
      refine c_condF (congrArg Value.bool hc46) ?_
      refine c_region ?_
      refine pl_val (.int .i64 (w64 (ishr .u64 (IntKind.u64.wrap (w64 (s37.1 + s37.2))) 1))) (y_move rfl) ?_
      refine pl_val (.int .i64 (w64 (ishr .u64 (IntKind.u64.wrap (w64 (s37.1 + s37.2))) 1))) (y_assign rfl) ?_
      refine c_nil ?_
      cases hs
      have hO := hO.fr1
      have hO := hO.fr1
      exact ⟨_, fr_ovl 177 ⟨rfl, rfl, rfl, rfl, rfl, rfl, trivial⟩, hC, hO, hI_, hb1⟩
    ·skip
     refine c_condF (congrArg Value.bool hc43) ?_
     refine wp_exit ?_
     cases hs
     have hO := hO.fr1
     have hO := hO.fr1
     exact ⟨rfl, _, fr_ovl 177 ⟨rfl, rfl, rfl, rfl, rfl, trivial⟩, hC, hO, hI_, hb1⟩
   ·skip
    have hO := hO.fr1
    have hO := hO.fr1
    exact ⟨_, fr_ovl 177 ⟨rfl, rfl, rfl, rfl, rfl, rfl, trivial⟩, hC, hO, hI_, hb1⟩
   ·cases o41 with
    | nx _ => exact True.intro
    | rt r_ =>
     have hs := after_rt hs
     intro a1 w1 hK
     cases hs
     exact hK
    | br s37 =>
     have hs := after_br hs
     rintro a1 w38 ⟨σ, rfl, hC, hO, hI_, hb1⟩
     refine c_seq ?_
     refine c_seq (c_region ?_)
     refine pl_val (.int .i64 m) (y_move rfl) ?_
     refine pl_val (.int .i64 m) (y_assign rfl) ?_
     refine c_nil ?_
     obtain ⟨o58, hl59, hs⟩ := bind_some hs
     refine wp_block ?_
     refine wp_iter (id := 6) (I := fun s54 a w55 => ∃ (σ : Nat → Value), a = fr 177 (ovl σ [(1, (.int .i64 a_)), (2, (.int .i64 m)), (3, (.int .i64 b)), (4, (.pointer (some ⟨g1, 0, none⟩))), (12, (.int .i64 s37.1)), (15, (.int .i64 s54.1))]) ∧ Chg (G_ ++ ([])) w w55 ∧ Own (Nw w (G_ ++ ([]))) M w55 (([g1]) ++ (G_ ++ [])) ∧ I_ w55 s54.2 ∧ BoxV w55 g1 122 [(.func (.func g_) #[] lb_), (.func (.func sf_) #[] sb_)]) (J := fun s54 a w55 => ∃ (σ : Nat → Value), a = fr 177 (ovl σ [(1, (.int .i64 a_)), (2, (.int .i64 m)), (3, (.int .i64 b)), (4, (.pointer (some ⟨g1, 0, none⟩)))]) ∧ Chg (G_ ++ ([])) w w55 ∧ Own (Nw w (G_ ++ ([]))) M w55 (([g1]) ++ (G_ ++ [])) ∧ I_ w55 s54.2 ∧ BoxV w55 g1 122 [(.func (.func g_) #[] lb_), (.func (.func sf_) #[] sb_)]) (K := (k_sort_symMerge_func M w I_ G_)) ?_ FU (m, d_) o58 _ _ ?_ hl59 ?_
     ·rintro s54 o58 a w55 ⟨σ, rfl, hC, hO, hv60, hb1⟩ hs
      refine c_seq ?_
      refine c_seq (c_region ?_)
      refine pl_val (.int .i64 s54.1) (y_move rfl) ?_
      refine pl_val (.int .i64 s37.1) (y_move rfl) ?_
      refine pl_val (.bool (decide (s37.1 < s54.1))) (y_gtr rfl rfl) ?_
      refine c_nil ?_
      rcases bif_some hs with ⟨hc62, hs⟩ | ⟨hc62, hs⟩
      ·skip
       refine c_condT (congrArg Value.bool hc62) ?_
       refine wp_skip ?_
       refine c_seq ?_
       refine wp_block ?_
       refine c_region ?_
       refine pl_val (.pointer (some ⟨g1, 1, none⟩)) (y_faddr rfl Fa122x1) ?_
       refine pl_val (.func (.func sf_) #[] sb_) (y_load rfl ((box_load Ag118 Sz118 hb1 [(.func (.func g_) #[] lb_)] [(.func (.func sf_) #[] sb_)] [] rfl rfl (fun _ => rfl)) _ (Chg.refl _ _))) ?_
       refine pl_val (.int .i64 s54.1) (y_move rfl) ?_
       refine pl_val (.int .i64 s54.1) (y_move rfl) ?_
       refine pl_val (.int .i64 (w64 (s54.1 - 1))) (y_sub rfl rfl) ?_
       obtain ⟨y64, hy64, hs⟩ := bind_some hs
       obtain ⟨w63, hx63, hC63, hv63⟩ := hE_.swap hv60 hy64
       refine pl_val (w' := w63) (.tuple #[]) (y_callx rfl rfl hx63) ?_
       have hO := hO.fr1
       have hb1 := hb1.chg hC63 (fun hg => hO.apart _ ((fun _ h => h) _ hg) (mem_l (List.mem_singleton.2 rfl)))
       have hC := hC.step hC63 (fun g hg => hO.inN g ((fun _ h => h) g hg))
       have hO := hO.ext hC63
       refine c_nil ?_
       refine c_region ?_
       refine pl_val (.int .i64 s54.1) (y_move rfl) ?_
       refine pl_val (.int .i64 (w64 (s54.1 - 1))) (y_sub rfl rfl) ?_
       refine pl_val (.int .i64 (w64 (s54.1 - 1))) (y_assign rfl) ?_
       refine c_nil ?_
       cases hs
       have hO := hO.fr1
       exact ⟨_, fr_ovl 177 ⟨rfl, rfl, rfl, rfl, rfl, rfl, trivial⟩, hC, hO, hv63, hb1⟩
      ·skip
       refine c_condF (congrArg Value.bool hc62) ?_
       refine wp_exit ?_
       cases hs
       have hO := hO.fr1
       have hO := hO.fr1
       exact ⟨rfl, _, fr_ovl 177 ⟨rfl, rfl, rfl, rfl, trivial⟩, hC, hO, hv60, hb1⟩
     ·skip
      have hO := hO.fr1
      have hO := hO.fr1
      exact ⟨_, fr_ovl 177 ⟨rfl, rfl, rfl, rfl, rfl, rfl, trivial⟩, hC, hO, hI_, hb1⟩
     ·cases o58 with
      | nx _ => exact True.intro
      | rt r_ =>
       have hs := after_rt hs
       intro a1 w1 hK
       cases hs
       exact hK
      | br s54 =>
       have hs := after_br hs
       rintro a1 w55 ⟨σ, rfl, hC, hO, hv61, hb1⟩
       refine wp_ret ?_
       cases hs
       exact ⟨_, fr_ovl 177 trivial, hC, hv61⟩
  ·skip
   refine c_condF (congrArg Value.bool hc32) ?_
   refine wp_skip ?_
   refine c_seq (c_region ?_)
   refine pl_val (.int .i64 a_) (y_move rfl) ?_
   refine pl_val (.int .i64 b) (y_move rfl) ?_
   refine pl_val (.int .i64 (w64 (a_ + b))) (y_add rfl rfl) ?_
   refine pl_val (.int .u64 (IntKind.u64.wrap (w64 (a_ + b)))) (y_conv_int Try.underlying3 Try.underlying103 rfl) ?_
   refine pl_val (.int .u64 (ishr .u64 (IntKind.u64.wrap (w64 (a_ + b))) 1)) (y_shr rfl rfl (by decide)) ?_
   refine pl_val (.int .i64 (w64 (ishr .u64 (IntKind.u64.wrap (w64 (a_ + b))) 1))) (y_conv_int Try.underlying103 Try.underlying3 rfl) ?_
   refine pl_val (.int .i64 (w64 (ishr .u64 (IntKind.u64.wrap (w64 (a_ + b))) 1))) (y_assign rfl) ?_
   refine c_nil ?_
   refine c_seq (c_region ?_)
   refine pl_val (.int .i64 (w64 (ishr .u64 (IntKind.u64.wrap (w64 (a_ + b))) 1))) (y_move rfl) ?_
   refine pl_val (.int .i64 m) (y_move rfl) ?_
   refine pl_val (.int .i64 (w64 ((w64 (ishr .u64 (IntKind.u64.wrap (w64 (a_ + b))) 1)) + m))) (y_add rfl rfl) ?_
   refine pl_val (.int .i64 (w64 ((w64 (ishr .u64 (IntKind.u64.wrap (w64 (a_ + b))) 1)) + m))) (y_assign rfl) ?_
   refine c_nil ?_
   refine c_seq (c_region ?_)
   refine pl_val (.int .i64 0) (y_assign rfl) ?_
   refine pl_val (.int .i64 0) (y_assign rfl) ?_
   refine c_nil ?_
   refine c_seq ?_
   refine c_seq (c_region ?_)
   refine pl_val (.int .i64 m) (y_move rfl) ?_
   refine pl_val (.int .i64 (w64 (ishr .u64 (IntKind.u64.wrap (w64 (a_ + b))) 1))) (y_move rfl) ?_
   refine pl_val (.bool (decide ((w64 (ishr .u64 (IntKind.u64.wrap (w64 (a_ + b))) 1)) < m))) (y_gtr rfl rfl) ?_
   refine c_nil ?_
   obtain ⟨s65, hm67, hs⟩ := bind_some hs
   refine c_mid (I := fun a w66 => ∃ (σ : Nat → Value), a = fr 177 (ovl σ [(1, (.int .i64 a_)), (2, (.int .i64 m)), (3, (.int .i64 b)), (4, (.pointer (some ⟨g1, 0, none⟩))), (16, (.int .i64 (w64 (ishr .u64 (IntKind.u64.wrap (w64 (a_ + b))) 1)))), (17, (.int .i64 (w64 ((w64 (ishr .u64 (IntKind.u64.wrap (w64 (a_ + b))) 1)) + m)))), (18, (.int .i64 s65.1)), (19, (.int .i64 s65.2))]) ∧ Chg (G_ ++ ([])) w w66 ∧ Own (Nw w (G_ ++ ([]))) M w66 (([g1]) ++ (G_ ++ [])) ∧ I_ w66 d_ ∧ BoxV w66 g1 122 [(.func (.func g_) #[] lb_), (.func (.func sf_) #[] sb_)]) ?_ ?_
   ·replace hs := hm67
    rcases bif_some hs with ⟨hc68, hs⟩ | ⟨hc68, hs⟩
    ·skip
     refine c_condT (congrArg Value.bool hc68) ?_
     refine c_seq (c_region ?_)
     refine pl_val (.int .i64 (w64 ((w64 (ishr .u64 (IntKind.u64.wrap (w64 (a_ + b))) 1)) + m))) (y_move rfl) ?_
     refine pl_val (.int .i64 b) (y_move rfl) ?_
     refine pl_val (.int .i64 (w64 ((w64 ((w64 (ishr .u64 (IntKind.u64.wrap (w64 (a_ + b))) 1)) + m)) - b))) (y_sub rfl rfl) ?_
     refine pl_val (.int .i64 (w64 ((w64 ((w64 (ishr .u64 (IntKind.u64.wrap (w64 (a_ + b))) 1)) + m)) - b))) (y_assign rfl) ?_
     refine c_nil ?_
     refine c_region ?_
     refine pl_val (.int .i64 (w64 (ishr .u64 (IntKind.u64.wrap (w64 (a_ + b))) 1))) (y_move rfl) ?_
     refine pl_val (.int .i64 (w64 (ishr .u64 (IntKind.u64.wrap (w64 (a_ + b))) 1))) (y_assign rfl) ?_
     refine c_nil ?_
     cases hs
     have hO := hO.fr1
     have hO := hO.fr1
     exact ⟨_, fr_ovl 177 ⟨rfl, rfl, rfl, rfl, rfl, rfl, rfl, rfl, trivial⟩, hC, hO, hI_, hb1⟩
    ·skip
     refine c_condF (congrArg Value.bool hc68) ?_
     refine c_seq (c_region ?_)
     refine pl_val (.int .i64 a_) (y_move rfl) ?_
     refine pl_val (.int .i64 a_) (y_assign rfl) ?_
     refine c_nil ?_
     refine c_region ?_
     refine pl_val (.int .i64 m) (y_move rfl) ?_
     refine pl_val (.int .i64 m) (y_assign rfl) ?_
     refine c_nil ?_
     cases hs
     have hO := hO.fr1
     have hO := hO.fr1
     exact ⟨_, fr_ovl 177 ⟨rfl, rfl, rfl, rfl, rfl, rfl, rfl, rfl, trivial⟩, hC, hO, hI_, hb1⟩
   ·rintro a1 w66 ⟨σ, rfl, hC, hO, hI_, hb1⟩
    refine c_seq (c_region ?_)
    refine pl_val (.int .i64 (w64 ((w64 (ishr .u64 (IntKind.u64.wrap (w64 (a_ + b))) 1)) + m))) (y_move rfl) ?_
    refine pl_val (.int .i64 (w64 ((w64 ((w64 (ishr .u64 (IntKind.u64.wrap (w64 (a_ + b))) 1)) + m)) - 1))) (y_sub rfl rfl) ?_
    refine pl_val (.int .i64 (w64 ((w64 ((w64 (ishr .u64 (IntKind.u64.wrap (w64 (a_ + b))) 1)) + m)) - 1))) (y_assign rfl) ?_
    refine c_nil ?_
    refine c_seq ?_
    obtain ⟨o77, hl78, hs⟩ := bind_some hs
    refine wp_block ?_
    refine wp_iter (id := 8) (I := fun s73 a w74 => ∃ (σ : Nat → Value), a = fr 177 (ovl σ [(1, (.int .i64 a_)), (2, (.int .i64 m)), (3, (.int .i64 b)), (4, (.pointer (some ⟨g1, 0, none⟩))), (16, (.int .i64 (w64 (ishr .u64 (IntKind.u64.wrap (w64 (a_ + b))) 1)))), (17, (.int .i64 (w64 ((w64 (ishr .u64 (IntKind.u64.wrap (w64 (a_ + b))) 1)) + m)))), (18, (.int .i64 s73.1)), (19, (.int .i64 s73.2)), (20, (.int .i64 (w64 ((w64 ((w64 (ishr .u64 (IntKind.u64.wrap (w64 (a_ + b))) 1)) + m)) - 1))))]) ∧ Chg (G_ ++ ([])) w w74 ∧ Own (Nw w (G_ ++ ([]))) M w74 (([g1]) ++ (G_ ++ [])) ∧ I_ w74 d_ ∧ BoxV w74 g1 122 [(.func (.func g_) #[] lb_), (.func (.func sf_) #[] sb_)]) (J := fun s73 a w74 => ∃ (σ : Nat → Value), a = fr 177 (ovl σ [(1, (.int .i64 a_)), (2, (.int .i64 m)), (3, (.int .i64 b)), (4, (.pointer (some ⟨g1, 0, none⟩))), (16, (.int .i64 (w64 (ishr .u64 (IntKind.u64.wrap (w64 (a_ + b))) 1)))), (17, (.int .i64 (w64 ((w64 (ishr .u64 (IntKind.u64.wrap (w64 (a_ + b))) 1)) + m)))), (18, (.int .i64 s73.1))]) ∧ Chg (G_ ++ ([])) w w74 ∧ Own (Nw w (G_ ++ ([]))) M w74 (([g1]) ++ (G_ ++ [])) ∧ I_ w74 d_ ∧ BoxV w74 g1 122 [(.func (.func g_) #[] lb_), (.func (.func sf_) #[] sb_)]) (K := (k_sort_symMerge_func M w I_ G_)) ?_ FU (s65.1, s65.2) o77 _ _ ?_ hl78 ?_
    ·rintro s73 o77 a w74 ⟨σ, rfl, hC, hO, hI_, hb1⟩ hs
     refine c_seq ?_
     refine c_seq (c_region ?_)
     refine pl_val (.int .i64 s73.1) (y_move rfl) ?_
     refine pl_val (.int .i64 s73.2) (y_move rfl) ?_
     refine pl_val (.bool (decide (s73.1 < s73.2))) (y_lss rfl rfl) ?_
     refine c_nil ?_
     rcases bif_some hs with ⟨hc79, hs⟩ | ⟨hc79, hs⟩
     ·skip
      refine c_condT (congrArg Value.bool hc79) ?_
      refine wp_skip ?_
      refine wp_block ?_
      refine c_seq (c_region ?_)
      refine pl_val (.int .i64 s73.1) (y_move rfl) ?_
      refine pl_val (.int .i64 s73.2) (y_move rfl) ?_
      refine pl_val (.int .i64 (w64 (s73.1 + s73.2))) (y_add rfl rfl) ?_
      refine pl_val (.int .u64 (IntKind.u64.wrap (w64 (s73.1 + s73.2)))) (y_conv_int Try.underlying3 Try.underlying103 rfl) ?_
      refine pl_val (.int .u64 (ishr .u64 (IntKind.u64.wrap (w64 (s73.1 + s73.2))) 1)) (y_shr rfl rfl (by decide)) ?_
      refine pl_val (.int .i64 (w64 (ishr .u64 (IntKind.u64.wrap (w64 (s73.1 + s73.2))) 1))) (y_conv_int Try.underlying103 Try.underlying3 rfl) ?_
      refine pl_val (.int .i64 (w64 (ishr .u64 (IntKind.u64.wrap (w64 (s73.1 + s73.2))) 1))) (y_assign rfl) ?_
      refine c_nil ?_
      refine c_seq (c_region ?_)
      refine pl_val (.pointer (some ⟨g1, 0, none⟩)) (y_faddr rfl Fa122x0) ?_
      refine pl_val (.func (.func g_) #[] lb_) (y_load rfl ((box_load Ag111 Sz111 hb1 [] [(.func (.func g_) #[] lb_)] [(.func (.func sf_) #[] sb_)] rfl rfl (fun _ => rfl)) _ (Chg.refl _ _))) ?_
      refine pl_val (.int .i64 (w64 ((w64 ((w64 (ishr .u64 (IntKind.u64.wrap (w64 (a_ + b))) 1)) + m)) - 1))) (y_move rfl) ?_
      refine pl_val (.int .i64 (w64 (ishr .u64 (IntKind.u64.wrap (w64 (s73.1 + s73.2))) 1))) (y_move rfl) ?_
      refine pl_val (.int .i64 (w64 ((w64 ((w64 ((w64 (ishr .u64 (IntKind.u64.wrap (w64 (a_ + b))) 1)) + m)) - 1)) - (w64 (ishr .u64 (IntKind.u64.wrap (w64 (s73.1 + s73.2))) 1))))) (y_sub rfl rfl) ?_
      refine pl_val (.int .i64 (w64 (ishr .u64 (IntKind.u64.wrap (w64 (s73.1 + s73.2))) 1))) (y_move rfl) ?_
      obtain ⟨r81, hr81, hs⟩ := bind_some hs
      refine pl_callb rfl hE_.bod rfl (hE_.less hI_ hr81) ?_
      rintro _ w80 ⟨rfl, hC80⟩
      have hI_ := hE_.ext hI_ hC80 (fun _ h => nomatch h)
      have hb1 := hb1.chg hC80 (fun h => nomatch h)
      have hC := hC.ext hC80
      have hO := hO.ext hC80
      refine pl_val (.bool (!r81)) (y_not rfl) ?_
      refine c_nil ?_
      rcases bif_some hs with ⟨hc82, hs⟩ | ⟨hc82, hs⟩
      ·skip
       refine c_condT (congrArg Value.bool hc82) ?_
       refine c_region ?_
       refine pl_val (.int .i64 (w64 (ishr .u64 (IntKind.u64.wrap (w64 (s73.1 + s73.2))) 1))) (y_move rfl) ?_
       refine pl_val (.int .i64 (w64 ((w64 (ishr .u64 (IntKind.u64.wrap (w64 (s73.1 + s73.2))) 1)) + 1))) (y_add rfl rfl) ?_
       refine pl_val (.int .i64 (w64 ((w64 (ishr .u64 (IntKind.u64.wrap (w64 (s73.1 + s73.2))) 1)) + 1))) (y_assign rfl) ?_
       refine c_nil ?_
       cases hs
       have hO := hO.fr1
       have hO := hO.fr1
       exact ⟨_, fr_ovl 177 ⟨rfl, rfl, rfl, rfl, rfl, rfl, rfl, rfl, rfl, trivial⟩, hC, hO, hI_, hb1⟩
      ·skip
       refine c_condF (congrArg Value.bool hc82) ?_
       refine c_region ?_
       refine pl_val (.int .i64 (w64 (ishr .u64 (IntKind.u64.wrap (w64 (s73.1 + s73.2))) 1))) (y_move rfl) ?_
       refine pl_val (.int .i64 (w64 (ishr .u64 (IntKind.u64.wrap (w64 (s73.1 + s73.2))) 1))) (y_assign rfl) ?_
       refine c_nil ?_
       cases hs
       have hO := hO.fr1
       have hO := hO.fr1
       exact ⟨_, fr_ovl 177 ⟨rfl, rfl, rfl, rfl, rfl, rfl, rfl, rfl, rfl, trivial⟩, hC, hO, hI_, hb1⟩
     ·skip
      refine c_condF (congrArg Value.bool hc79) ?_
      refine wp_exit ?_
      cases hs
      have hO := hO.fr1
      have hO := hO.fr1
      exact ⟨rfl, _, fr_ovl 177 ⟨rfl, rfl, rfl, rfl, rfl, rfl, rfl, trivial⟩, hC, hO, hI_, hb1⟩
    ·skip
     have hO := hO.fr1
     have hO := hO.fr1
     exact ⟨_, fr_ovl 177 ⟨rfl, rfl, rfl, rfl, rfl, rfl, rfl, rfl, rfl, trivial⟩, hC, hO, hI_, hb1⟩
    ·cases o77 with
     | nx _ => exact True.intro
     | rt r_ =>
      have hs := after_rt hs
      intro a1 w1 hK
      cases hs
      exact hK
     | br s73 =>
      have hs := after_br hs
      rintro a1 w74 ⟨σ, rfl, hC, hO, hI_, hb1⟩
      refine c_seq (c_region ?_)
      refine pl_val (.int .i64 (w64 ((w64 (ishr .u64 (IntKind.u64.wrap (w64 (a_ + b))) 1)) + m))) (y_move rfl) ?_
      refine pl_val (.int .i64 s73.1) (y_move rfl) ?_
      refine pl_val (.int .i64 (w64 ((w64 ((w64 (ishr .u64 (IntKind.u64.wrap (w64 (a_ + b))) 1)) + m)) - s73.1))) (y_sub rfl rfl) ?_
      refine pl_val (.int .i64 (w64 ((w64 ((w64 (ishr .u64 (IntKind.u64.wrap (w64 (a_ + b))) 1)) + m)) - s73.1))) (y_assign rfl) ?_
      refine c_nil ?_
      refine c_seq ?_
      refine c_seq ?_
      refine c_mid (I := fun a w84 => ∃ (σ : Nat → Value), a = fr 177 (ovl σ [(1, (.int .i64 a_)), (2, (.int .i64 m)), (3, (.int .i64 b)), (4, (.pointer (some ⟨g1, 0, none⟩))), (16, (.int .i64 (w64 (ishr .u64 (IntKind.u64.wrap (w64 (a_ + b))) 1)))), (18, (.int .i64 s73.1)), (22, (.int .i64 (w64 ((w64 ((w64 (ishr .u64 (IntKind.u64.wrap (w64 (a_ + b))) 1)) + m)) - s73.1)))), (145, (.bool ((decide (s73.1 < m)) && (decide (m < (w64 ((w64 ((w64 (ishr .u64 (IntKind.u64.wrap (w64 (a_ + b))) 1)) + m)) - s73.1)))))))]) ∧ Chg [] w74 w84) ?_ ?_
      ·have hMid := Chg.refl [] w74
       refine c_region ?_
       refine pl_val (.int .i64 s73.1) (y_move rfl) ?_
       refine pl_val (.int .i64 m) (y_move rfl) ?_
       refine pl_val (.bool (decide (s73.1 < m))) (y_lss rfl rfl) ?_
       refine pl_val (.bool (decide (s73.1 < m))) (y_move rfl) ?_
       rcases Bool.eq_false_or_eq_true ((decide (s73.1 < m))) with hc86 | hc86
       ·skip
        refine pl_yes (.int .i64 m) (tg := 141) (by kernel_rfl) (congrArg Value.bool hc86) (y_move rfl) ?_
        refine pl_yes (.int .i64 (w64 ((w64 ((w64 (ishr .u64 (IntKind.u64.wrap (w64 (a_ + b))) 1)) + m)) - s73.1))) (tg := 141) (by kernel_rfl) (congrArg Value.bool hc86) (y_move rfl) ?_
        refine pl_yes (.bool (decide (m < (w64 ((w64 ((w64 (ishr .u64 (IntKind.u64.wrap (w64 (a_ + b))) 1)) + m)) - s73.1))))) (tg := 141) (by kernel_rfl) (congrArg Value.bool hc86) (y_lss rfl rfl) ?_
        refine pl_val (.bool ((decide (s73.1 < m)) && (decide (m < (w64 ((w64 ((w64 (ishr .u64 (IntKind.u64.wrap (w64 (a_ + b))) 1)) + m)) - s73.1)))))) (y_pick_t (congrArg Value.bool hc86) (congrArg Value.bool (by rw [hc86]; rfl))) ?_
        refine c_nil ?_
        exact ⟨_, fr_ovl 177 ⟨rfl, rfl, rfl, rfl, rfl, rfl, rfl, rfl, trivial⟩, hMid⟩
       ·skip
        refine pl_not (tg := 141) (by kernel_rfl) (congrArg Value.bool hc86) ?_
        refine pl_not (tg := 141) (by kernel_rfl) (congrArg Value.bool hc86) ?_
        refine pl_not (tg := 141) (by kernel_rfl) (congrArg Value.bool hc86) ?_
        refine pl_val (.bool ((decide (s73.1 < m)) && (decide (m < (w64 ((w64 ((w64 (ishr .u64 (IntKind.u64.wrap (w64 (a_ + b))) 1)) + m)) - s73.1)))))) (y_pick_f (congrArg Value.bool hc86) (congrArg Value.bool (by rw [hc86]; rfl))) ?_
        refine c_nil ?_
        exact ⟨_, fr_ovl 177 ⟨rfl, rfl, rfl, rfl, rfl, rfl, rfl, rfl, trivial⟩, hMid⟩
      ·rintro a1 w84 ⟨σ, rfl, hCs83⟩
       have hI_ := hE_.ext hI_ hCs83 (fun _ h => nomatch h)
       have hb1 := hb1.chg hCs83 (fun h => nomatch h)
       have hC := hC.ext hCs83
       have hO := hO.ext hCs83
       obtain ⟨s91, hm93, hs⟩ := bind_some hs
       refine c_mid (I := fun a w92 => ∃ (σ : Nat → Value), a = fr 177 (ovl σ [(1, (.int .i64 a_)), (3, (.int .i64 b)), (4, (.pointer (some ⟨g1, 0, none⟩))), (16, (.int .i64 (w64 (ishr .u64 (IntKind.u64.wrap (w64 (a_ + b))) 1)))), (18, (.int .i64 s73.1)), (22, (.int .i64 (w64 ((w64 ((w64 (ishr .u64 (IntKind.u64.wrap (w64 (a_ + b))) 1)) + m)) - s73.1))))]) ∧ Chg (G_ ++ ([])) w w92 ∧ Own (Nw w (G_ ++ ([]))) M w92 (([g1]) ++ (G_ ++ [])) ∧ I_ w92 s91 ∧ BoxV w92 g1 122 [(.func (.func g_) #[] lb_), (.func (.func sf_) #[] sb_)]) ?_ ?_
       ·replace hs := hm93
        rcases bif_some hs with ⟨hc95, hs⟩ | ⟨hc95, hs⟩
        ·skip
         refine c_condT (congrArg Value.bool hc95) ?_
         refine c_region ?_
         refine pl_val (.agg #[(.func (.func g_) #[] lb_), (.func (.func sf_) #[] sb_)]) (y_load rfl ((box_load Ag122 Sz122 hb1 [] [(.func (.func g_) #[] lb_), (.func (.func sf_) #[] sb_)] [] rfl rfl (fun h => nomatch h)) _ (Chg.refl _ _))) ?_
         refine pl_val (.int .i64 s73.1) (y_move rfl) ?_
         refine pl_val (.int .i64 m) (y_move rfl) ?_
         refine pl_val (.int .i64 (w64 ((w64 ((w64 (ishr .u64 (IntKind.u64.wrap (w64 (a_ + b))) 1)) + m)) - s73.1))) (y_move rfl) ?_
         have hO := hO.fr1
         have hI96 := Own.lend (F := (G_ ++ ([]))) (R := ([g1]) ++ ([])) (Own.perm hO (by simp))
         obtain ⟨r97, hr97, hs⟩ := bind_some hs
         refine pl_call Bd115 rfl (c_sort_rotate_func (M := M) ls_ d_ s73.1 m (w64 ((w64 ((w64 (ishr .u64 (IntKind.u64.wrap (w64 (a_ + b))) 1)) + m)) - s73.1)) (Nat.le_trans hN_ hC.size) hE_ hI_ hI96 hO.fut hr97) ?_
         rintro _ w96 ⟨rfl, hC96, hv96⟩
         have hb1 := hb1.chg hC96 (fun hg => hO.apart _ (nil_mem _ hg) (mem_l (List.mem_singleton.2 rfl)))
         have hC := hC.step hC96 (fun g hg => hO.inN g (nil_mem g hg))
         have hO := hO.ext hC96
         refine c_nil ?_
         cases hs
         have hO := hO.fr1
         exact ⟨_, fr_ovl 177 ⟨rfl, rfl, rfl, rfl, rfl, rfl, trivial⟩, hC, hO, hv96, hb1⟩
        ·skip
         refine c_condF (congrArg Value.bool hc95) ?_
         refine wp_skip ?_
         cases hs
         have hO := hO.fr1
         have hO := hO.fr1
         exact ⟨_, fr_ovl 177 ⟨rfl, rfl, rfl, rfl, rfl, rfl, trivial⟩, hC, hO, hI_, hb1⟩
       ·rintro a1 w92 ⟨σ, rfl, hC, hO, hv94, hb1⟩
        refine c_seq ?_
        refine c_seq ?_
        refine c_mid (I := fun a w99 => ∃ (σ : Nat → Value), a = fr 177 (ovl σ [(1, (.int .i64 a_)), (3, (.int .i64 b)), (4, (.pointer (some ⟨g1, 0, none⟩))), (16, (.int .i64 (w64 (ishr .u64 (IntKind.u64.wrap (w64 (a_ + b))) 1)))), (18, (.int .i64 s73.1)), (22, (.int .i64 (w64 ((w64 ((w64 (ishr .u64 (IntKind.u64.wrap (w64 (a_ + b))) 1)) + m)) - s73.1)))), (158, (.bool ((decide (a_ < s73.1)) && (decide (s73.1 < (w64 (ishr .u64 (IntKind.u64.wrap (w64 (a_ + b))) 1)))))))]) ∧ Chg [] w92 w99) ?_ ?_
        ·have hMid := Chg.refl [] w92
         refine c_region ?_
         refine pl_val (.int .i64 a_) (y_move rfl) ?_
         refine pl_val (.int .i64 s73.1) (y_move rfl) ?_
         refine pl_val (.bool (decide (a_ < s73.1))) (y_lss rfl rfl) ?_
         refine pl_val (.bool (decide (a_ < s73.1))) (y_move rfl) ?_
         rcases Bool.eq_false_or_eq_true ((decide (a_ < s73.1))) with hc101 | hc101
         ·skip
          refine pl_yes (.int .i64 s73.1) (tg := 154) (by kernel_rfl) (congrArg Value.bool hc101) (y_move rfl) ?_
          refine pl_yes (.int .i64 (w64 (ishr .u64 (IntKind.u64.wrap (w64 (a_ + b))) 1))) (tg := 154) (by kernel_rfl) (congrArg Value.bool hc101) (y_move rfl) ?_
          refine pl_yes (.bool (decide (s73.1 < (w64 (ishr .u64 (IntKind.u64.wrap (w64 (a_ + b))) 1))))) (tg := 154) (by kernel_rfl) (congrArg Value.bool hc101) (y_lss rfl rfl) ?_
          refine pl_val (.bool ((decide (a_ < s73.1)) && (decide (s73.1 < (w64 (ishr .u64 (IntKind.u64.wrap (w64 (a_ + b))) 1)))))) (y_pick_t (congrArg Value.bool hc101) (congrArg Value.bool (by rw [hc101]; rfl))) ?_
          refine c_nil ?_
          exact ⟨_, fr_ovl 177 ⟨rfl, rfl, rfl, rfl, rfl, rfl, rfl, trivial⟩, hMid⟩
         ·skip
          refine pl_not (tg := 154) (by kernel_rfl) (congrArg Value.bool hc101) ?_
          refine pl_not (tg := 154) (by kernel_rfl) (congrArg Value.bool hc101) ?_
          refine pl_not (tg := 154) (by kernel_rfl) (congrArg Value.bool hc101) ?_
          refine pl_val (.bool ((decide (a_ < s73.1)) && (decide (s73.1 < (w64 (ishr .u64 (IntKind.u64.wrap (w64 (a_ + b))) 1)))))) (y_pick_f (congrArg Value.bool hc101) (congrArg Value.bool (by rw [hc101]; rfl))) ?_
          refine c_nil ?_
          exact ⟨_, fr_ovl 177 ⟨rfl, rfl, rfl, rfl, rfl, rfl, rfl, trivial⟩, hMid⟩
        ·rintro a1 w99 ⟨σ, rfl, hCs98⟩
         have hv94 := hE_.ext hv94 hCs98 (fun _ h => nomatch h)
         have hb1 := hb1.chg hCs98 (fun h => nomatch h)
         have hC := hC.ext hCs98
         have hO := hO.ext hCs98
         obtain ⟨s106, hm108, hs⟩ := bind_some hs
         refine c_mid (I := fun a w107 => ∃ (σ : Nat → Value), a = fr 177 (ovl σ [(3, (.int .i64 b)), (4, (.pointer (some ⟨g1, 0, none⟩))), (16, (.int .i64 (w64 (ishr .u64 (IntKind.u64.wrap (w64 (a_ + b))) 1)))), (22, (.int .i64 (w64 ((w64 ((w64 (ishr .u64 (IntKind.u64.wrap (w64 (a_ + b))) 1)) + m)) - s73.1))))]) ∧ Chg (G_ ++ ([])) w w107 ∧ Own (Nw w (G_ ++ ([]))) M w107 (([g1]) ++ (G_ ++ [])) ∧ I_ w107 s106 ∧ BoxV w107 g1 122 [(.func (.func g_) #[] lb_), (.func (.func sf_) #[] sb_)]) ?_ ?_
         ·replace hs := hm108
          rcases bif_some hs with ⟨hc110, hs⟩ | ⟨hc110, hs⟩
          ·skip
           refine c_condT (congrArg Value.bool hc110) ?_
           refine c_region ?_
           refine pl_val (.agg #[(.func (.func g_) #[] lb_), (.func (.func sf_) #[] sb_)]) (y_load rfl ((box_load Ag122 Sz122 hb1 [] [(.func (.func g_) #[] lb_), (.func (.func sf_) #[] sb_)] [] rfl rfl (fun h => nomatch h)) _ (Chg.refl _ _))) ?_
           refine pl_val (.int .i64 a_) (y_move rfl) ?_
           refine pl_val (.int .i64 s73.1) (y_move rfl) ?_
           refine pl_val (.int .i64 (w64 (ishr .u64 (IntKind.u64.wrap (w64 (a_ + b))) 1))) (y_move rfl) ?_
           have hO := hO.fr1
           have hI111 := Own.lend (F := (G_ ++ ([]))) (R := ([g1]) ++ ([])) (Own.perm hO (by simp))
           obtain ⟨r112, hr112, hs⟩ := bind_some hs
           refine pl_call Bd114 rfl (c_ih (M := M) ls_ s91 a_ s73.1 (w64 (ishr .u64 (IntKind.u64.wrap (w64 (a_ + b))) 1)) (Nat.le_trans hN_ hC.size) hE_ hv94 hI111 hO.fut hr112) ?_
           rintro _ w111 ⟨rfl, hC111, hv111⟩
           have hb1 := hb1.chg hC111 (fun hg => hO.apart _ (nil_mem _ hg) (mem_l (List.mem_singleton.2 rfl)))
           have hC := hC.step hC111 (fun g hg => hO.inN g (nil_mem g hg))
           have hO := hO.ext hC111
           refine c_nil ?_
           cases hs
           have hO := hO.fr1
           exact ⟨_, fr_ovl 177 ⟨rfl, rfl, rfl, rfl, trivial⟩, hC, hO, hv111, hb1⟩
          ·skip
           refine c_condF (congrArg Value.bool hc110) ?_
           refine wp_skip ?_
           cases hs
           have hO := hO.fr1
           have hO := hO.fr1
           exact ⟨_, fr_ovl 177 ⟨rfl, rfl, rfl, rfl, trivial⟩, hC, hO, hv94, hb1⟩
         ·rintro a1 w107 ⟨σ, rfl, hC, hO, hv109, hb1⟩
          refine c_seq ?_
          refine c_mid (I := fun a w114 => ∃ (σ : Nat → Value), a = fr 177 (ovl σ [(3, (.int .i64 b)), (4, (.pointer (some ⟨g1, 0, none⟩))), (16, (.int .i64 (w64 (ishr .u64 (IntKind.u64.wrap (w64 (a_ + b))) 1)))), (22, (.int .i64 (w64 ((w64 ((w64 (ishr .u64 (IntKind.u64.wrap (w64 (a_ + b))) 1)) + m)) - s73.1)))), (171, (.bool ((decide ((w64 (ishr .u64 (IntKind.u64.wrap (w64 (a_ + b))) 1)) < (w64 ((w64 ((w64 (ishr .u64 (IntKind.u64.wrap (w64 (a_ + b))) 1)) + m)) - s73.1)))) && (decide ((w64 ((w64 ((w64 (ishr .u64 (IntKind.u64.wrap (w64 (a_ + b))) 1)) + m)) - s73.1)) < b)))))]) ∧ Chg [] w107 w114) ?_ ?_
          ·have hMid := Chg.refl [] w107
           refine c_region ?_
           refine pl_val (.int .i64 (w64 (ishr .u64 (IntKind.u64.wrap (w64 (a_ + b))) 1))) (y_move rfl) ?_
           refine pl_val (.int .i64 (w64 ((w64 ((w64 (ishr .u64 (IntKind.u64.wrap (w64 (a_ + b))) 1)) + m)) - s73.1))) (y_move rfl) ?_
           refine pl_val (.bool (decide ((w64 (ishr .u64 (IntKind.u64.wrap (w64 (a_ + b))) 1)) < (w64 ((w64 ((w64 (ishr .u64 (IntKind.u64.wrap (w64 (a_ + b))) 1)) + m)) - s73.1))))) (y_lss rfl rfl) ?_
           refine pl_val (.bool (decide ((w64 (ishr .u64 (IntKind.u64.wrap (w64 (a_ + b))) 1)) < (w64 ((w64 ((w64 (ishr .u64 (IntKind.u64.wrap (w64 (a_ + b))) 1)) + m)) - s73.1))))) (y_move rfl) ?_
           rcases Bool.eq_false_or_eq_true ((decide ((w64 (ishr .u64 (IntKind.u64.wrap (w64 (a_ + b))) 1)) < (w64 ((w64 ((w64 (ishr .u64 (IntKind.u64.wrap (w64 (a_ + b))) 1)) + m)) - s73.1))))) with hc116 | hc116
           ·skip
            refine pl_yes (.int .i64 (w64 ((w64 ((w64 (ishr .u64 (IntKind.u64.wrap (w64 (a_ + b))) 1)) + m)) - s73.1))) (tg := 167) (by kernel_rfl) (congrArg Value.bool hc116) (y_move rfl) ?_
            refine pl_yes (.int .i64 b) (tg := 167) (by kernel_rfl) (congrArg Value.bool hc116) (y_move rfl) ?_
            refine pl_yes (.bool (decide ((w64 ((w64 ((w64 (ishr .u64 (IntKind.u64.wrap (w64 (a_ + b))) 1)) + m)) - s73.1)) < b))) (tg := 167) (by kernel_rfl) (congrArg Value.bool hc116) (y_lss rfl rfl) ?_
            refine pl_val (.bool ((decide ((w64 (ishr .u64 (IntKind.u64.wrap (w64 (a_ + b))) 1)) < (w64 ((w64 ((w64 (ishr .u64 (IntKind.u64.wrap (w64 (a_ + b))) 1)) + m)) - s73.1)))) && (decide ((w64 ((w64 ((w64 (ishr .u64 (IntKind.u64.wrap (w64 (a_ + b))) 1)) + m)) - s73.1)) < b)))) (y_pick_t (congrArg Value.bool hc116) (congrArg Value.bool (by rw [hc116]; rfl))) ?_
            refine c_nil ?_
            exact ⟨_, fr_ovl 177 ⟨rfl, rfl, rfl, rfl, rfl, trivial⟩, hMid⟩
           ·skip
            refine pl_not (tg := 167) (by kernel_rfl) (congrArg Value.bool hc116) ?_
            refine pl_not (tg := 167) (by kernel_rfl) (congrArg Value.bool hc116) ?_
            refine pl_not (tg := 167) (by kernel_rfl) (congrArg Value.bool hc116) ?_
            refine pl_val (.bool ((decide ((w64 (ishr .u64 (IntKind.u64.wrap (w64 (a_ + b))) 1)) < (w64 ((w64 ((w64 (ishr .u64 (IntKind.u64.wrap (w64 (a_ + b))) 1)) + m)) - s73.1)))) && (decide ((w64 ((w64 ((w64 (ishr .u64 (IntKind.u64.wrap (w64 (a_ + b))) 1)) + m)) - s73.1)) < b)))) (y_pick_f (congrArg Value.bool hc116) (congrArg Value.bool (by rw [hc116]; rfl))) ?_
            refine c_nil ?_
            exact ⟨_, fr_ovl 177 ⟨rfl, rfl, rfl, rfl, rfl, trivial⟩, hMid⟩
          ·rintro a1 w114 ⟨σ, rfl, hCs113⟩
           have hv109 := hE_.ext hv109 hCs113 (fun _ h => nomatch h)
           have hb1 := hb1.chg hCs113 (fun h => nomatch h)
           have hC := hC.ext hCs113
           have hO := hO.ext hCs113
           rcases bif_some hs with ⟨hc117, hs⟩ | ⟨hc117, hs⟩
           ·skip
            refine c_condT (congrArg Value.bool hc117) ?_
            refine c_region ?_
            refine pl_val (.agg #[(.func (.func g_) #[] lb_), (.func (.func sf_) #[] sb_)]) (y_load rfl ((box_load Ag122 Sz122 hb1 [] [(.func (.func g_) #[] lb_), (.func (.func sf_) #[] sb_)] [] rfl rfl (fun h => nomatch h)) _ (Chg.refl _ _))) ?_
            refine pl_val (.int .i64 (w64 (ishr .u64 (IntKind.u64.wrap (w64 (a_ + b))) 1))) (y_move rfl) ?_
            refine pl_val (.int .i64 (w64 ((w64 ((w64 (ishr .u64 (IntKind.u64.wrap (w64 (a_ + b))) 1)) + m)) - s73.1))) (y_move rfl) ?_
            refine pl_val (.int .i64 b) (y_move rfl) ?_
            have hO := hO.fr1
            have hI118 := Own.lend (F := (G_ ++ ([]))) (R := ([g1]) ++ ([])) (Own.perm hO (by simp))
            obtain ⟨r119, hr119, hs⟩ := bind_some hs
            refine pl_call Bd114 rfl (c_ih (M := M) ls_ s106 (w64 (ishr .u64 (IntKind.u64.wrap (w64 (a_ + b))) 1)) (w64 ((w64 ((w64 (ishr .u64 (IntKind.u64.wrap (w64 (a_ + b))) 1)) + m)) - s73.1)) b (Nat.le_trans hN_ hC.size) hE_ hv109 hI118 hO.fut hr119) ?_
            rintro _ w118 ⟨rfl, hC118, hv118⟩
            have hb1 := hb1.chg hC118 (fun hg => hO.apart _ (nil_mem _ hg) (mem_l (List.mem_singleton.2 rfl)))
            have hC := hC.step hC118 (fun g hg => hO.inN g (nil_mem g hg))
            have hO := hO.ext hC118
            refine c_nil ?_
            cases hs
            exact ⟨_, fr_ovl 177 trivial, hC, hv118⟩
           ·skip
            refine c_condF (congrArg Value.bool hc117) ?_
            refine wp_skip ?_
            cases hs
            exact ⟨_, fr_ovl 177 trivial, hC, hv109⟩

theorem Bd113 : Bodied Try.prog 113 := bodied Try.func113 (by kernel_rfl) rfl

def k_sort_stable_func (M : Nat → Prop) (w0 : World) {α_ : Type} (I_ : World → List α_ → Prop) (G_ : List Nat) (r : (List α_)) (a : Act) (w : World) : Prop :=
  ∃ (σ : Nat → Value) , a = fr 57 (ovl σ []) ∧ Chg (G_ ++ ([])) w0 w ∧ I_ w r
def s_sort_stable_func {α_ : Type} (ls_ : α_ → α_ → Option Bool) (d_ : List α_) (n : Int) : Option ((List α_)) :=
  (iter (S := Int × Int × (List α_)) (R := (List α_)) (fun s9 =>
  (bif (decide (s9.2.1 ≤ n)) then (s_sort_insertionSort_func ls_ s9.2.2 s9.1 s9.2.1).bind fun r19 =>
  some (.nx (s9.2.1, w64 (s9.2.1 + 20), r19)) else some (.br (s9.1, s9.2.1, s9.2.2)))) FU (0, 20, d_)).bind fun o13 => after o13 (fun r_ => some r_) (fun s9 =>
  (s_sort_insertionSort_func ls_ s9.2.2 s9.1 n).bind fun r21 =>
  (iter (S := Int × Int × Int × (List α_)) (R := (List α_)) (fun s67 =>
  (bif (decide (s67.1 < n)) then (iter (S := Int × Int × (List α_)) (R := (List α_)) (fun s83 =>
  (bif (decide (s83.2.1 ≤ n)) then (s_sort_symMerge_func FU ls_ s83.2.2 s83.1 (w64 (s83.1 + s67.1)) s83.2.1).bind fun r93 =>
  some (.nx (s83.2.1, w64 (s83.2.1 + (w64 (2 * s67.1))), r93)) else some (.br (s83.1, s83.2.1, s83.2.2)))) FU (0, w64 (2 * s67.1), s67.2.2.2)).bind fun o87 => after o87 (fun r_ => some (.rt r_)) (fun s83 =>
  (bif (decide ((w64 (s83.1 + s67.1)) < n)) then (s_sort_symMerge_func FU ls_ s83.2.2 s83.1 (w64 (s83.1 + s67.1)) n).bind fun r96 =>
  some (.nx (w64 (s67.1 * 2), s83.1, s83.2.1, r96)) else some (.nx (w64 (s67.1 * 2), s83.1, s83.2.1, s83.2.2)))) else some (.br (s67.1, s67.2.1, s67.2.2.1, s67.2.2.2)))) FU (20, s9.1, s9.2.1, r21)).bind fun o71 => after o71 (fun r_ => some r_) (fun s67 =>
  some s67.2.2.2))
set_option maxHeartbeats 4000000 in
theorem c_sort_stable_func {M : Nat → Prop} {w : World} {α_ : Type} {n0_ : Nat} {I_ : World → List α_ → Prop} {G_ : List Nat} {g_ sf_ : Nat} {lb_ sb_ : Array Value} (ls_ : α_ → α_ → Option Bool) (d_ : List α_) (n : Int) (hN_ : n0_ ≤ w.heap.size) (hE_ : Env Try.prog n0_ I_ G_ ls_ g_ lb_ sf_ sb_) (hI_ : I_ w d_) (hI : Own (Nw w (G_ ++ ([]))) M w (G_ ++ ([]))) (hM : ∀ g, w.heap.size ≤ g → M g) {r : (List α_)} (hs : s_sort_stable_func ls_ d_ n = some r) :
    Gives Try.prog 101 [(.agg #[(.func (.func g_) #[] lb_), (.func (.func sf_) #[] sb_)]), (.int .i64 n)] w (fun v w' => v = (.tuple #[]) ∧ Chg (G_ ++ ([])) w w' ∧ I_ w' r) := by
 refine calls_fr Try.func101 rfl Try.ntmps101 (Nat.le_of_ble_eq_true rfl) ?_
 have hO := hI
 have hC := Chg.refl (G_ ++ ([])) w
 unfold s_sort_stable_func at hs
 refine wp_mono (Q := KPostN (k_sort_stable_func M w I_ G_ r)) ?_ (fun e a w1 h => ?_)
 rotate_left
 ·cases e
  case ret =>
   obtain ⟨σ, rfl, hrest⟩ := h
   exact ret0x Try.results101  ⟨rfl, hrest⟩
  case normal =>
   obtain ⟨σ, rfl, hrest⟩ := h
   exact ret0n Try.results101  ⟨rfl, hrest⟩
  all_goals exact (h : False).elim
 refine c_seq (c_region ?_)
 obtain ⟨w1, g1, ew1, eg1, hC1, hb1⟩ := new_block w [(.func (.func g_) #[] lb_), (.func (.func sf_) #[] sb_)] 122
 refine pl_val (w' := w1) (.pointer (some ⟨g1, 0, none⟩)) (y_box rfl (by rw [ew1, eg1]; kernel_rfl)) ?_
 have hI_ := hE_.ext hI_ hC1 (fun _ h => nomatch h)
 have hC := hC.ext hC1
 have hO := hO.new1 hC1 eg1 hb1.lt
 refine c_nil ?_
 refine c_seq (c_region ?_)
 refine pl_val (.int .i64 20) (y_assign rfl) ?_
 refine c_nil ?_
 refine c_seq (c_region ?_)
 refine pl_val (.int .i64 20) (y_move rfl) ?_
 refine pl_val (.int .i64 0) (y_assign rfl) ?_
 refine pl_val (.int .i64 20) (y_assign rfl) ?_
 refine c_nil ?_
 refine c_seq ?_
 obtain ⟨o13, hl14, hs⟩ := bind_some hs
 refine wp_block ?_
 refine wp_iter (id := 0) (I := fun s9 a w10 => ∃ (σ : Nat → Value), a = fr 57 (ovl σ [(1, (.int .i64 n)), (2, (.pointer (some ⟨g1, 0, none⟩))), (4, (.int .i64 20)), (5, (.int .i64 s9.1)), (6, (.int .i64 s9.2.1))]) ∧ Chg (G_ ++ ([])) w w10 ∧ Own (Nw w (G_ ++ ([]))) M w10 (([g1]) ++ (G_ ++ [])) ∧ I_ w10 s9.2.2 ∧ BoxV w10 g1 122 [(.func (.func g_) #[] lb_), (.func (.func sf_) #[] sb_)]) (J := fun s9 a w10 => ∃ (σ : Nat → Value), a = fr 57 (ovl σ [(1, (.int .i64 n)), (2, (.pointer (some ⟨g1, 0, none⟩))), (4, (.int .i64 20)), (5, (.int .i64 s9.1)), (6, (.int .i64 s9.2.1))]) ∧ Chg (G_ ++ ([])) w w10 ∧ Own (Nw w (G_ ++ ([]))) M w10 (([g1]) ++ (G_ ++ [])) ∧ I_ w10 s9.2.2 ∧ BoxV w10 g1 122 [(.func (.func g_) #[] lb_), (.func (.func sf_) #[] sb_)]) (K := (k_sort_stable_func M w I_ G_)) ?_ FU (0, 20, d_) o13 _ _ ?_ hl14 ?_
 ·rintro s9 o13 a w10 ⟨σ, rfl, hC, hO, hv15, hb1⟩ hs
  refine c_seq ?_
  refine c_seq (c_region ?_)
  refine pl_val (.int .i64 s9.2.1) (y_move rfl) ?_
  refine pl_val (.int .i64 n) (y_move rfl) ?_
  refine pl_val (.bool (decide (s9.2.1 ≤ n))) (y_leq rfl rfl) ?_
  refine c_nil ?_
  rcases bif_some hs with ⟨hc17, hs⟩ | ⟨hc17, hs⟩
  ·skip
   refine c_condT (congrArg Value.bool hc17) ?_
   refine wp_skip ?_
   refine wp_block ?_
   refine c_seq (c_region ?_)
   refine pl_val (.agg #[(.func (.func g_) #[] lb_), (.func (.func sf_) #[] sb_)]) (y_load rfl ((box_load Ag122 Sz122 hb1 [] [(.func (.func g_) #[] lb_), (.func (.func sf_) #[] sb_)] [] rfl rfl (fun h => nomatch h)) _ (Chg.refl _ _))) ?_
   refine pl_val (.int .i64 s9.1) (y_move rfl) ?_
   refine pl_val (.int .i64 s9.2.1) (y_move rfl) ?_
   have hO := hO.fr1
   have hI18 := Own.lend (F := (G_ ++ ([]))) (R := ([g1]) ++ ([])) (Own.perm hO (by simp))
   obtain ⟨r19, hr19, hs⟩ := bind_some hs
   refine pl_call Bd113 rfl (c_sort_insertionSort_func (M := M) ls_ s9.2.2 s9.1 s9.2.1 (Nat.le_trans hN_ hC.size) hE_ hv15 hI18 hO.fut hr19) ?_
   rintro _ w18 ⟨rfl, hC18, hv18⟩
   have hb1 := hb1.chg hC18 (fun hg => hO.apart _ (nil_mem _ hg) (mem_l (List.mem_singleton.2 rfl)))
   have hC := hC.step hC18 (fun g hg => hO.inN g (nil_mem g hg))
   have hO := hO.ext hC18
   refine c_nil ?_
   refine c_seq (c_region ?_)
   refine pl_val (.int .i64 s9.2.1) (y_move rfl) ?_
   refine pl_val (.int .i64 s9.2.1) (y_assign rfl) ?_
   refine c_nil ?_
   refine c_region ?_
   refine pl_val (.int .i64 s9.2.1) (y_move rfl) ?_
   refine pl_val (.int .i64 20) (y_move rfl) ?_
   refine pl_val (.int .i64 (w64 (s9.2.1 + 20))) (y_add rfl rfl) ?_
   refine pl_val (.int .i64 (w64 (s9.2.1 + 20))) (y_assign rfl) ?_
   refine c_nil ?_
   cases hs
   have hO := hO.fr1
   exact ⟨_, fr_ovl 57 ⟨rfl, rfl, rfl, rfl, rfl, trivial⟩, hC, hO, hv18, hb1⟩
  ·skip
   refine c_condF (congrArg Value.bool hc17) ?_
   refine wp_exit ?_
   cases hs
   have hO := hO.fr1
   have hO := hO.fr1
   exact ⟨rfl, _, fr_ovl 57 ⟨rfl, rfl, rfl, rfl, rfl, trivial⟩, hC, hO, hv15, hb1⟩
 ·skip
  have hO := hO.fr1
  have hO := hO.fr1
  exact ⟨_, fr_ovl 57 ⟨rfl, rfl, rfl, rfl, rfl, trivial⟩, hC, hO, hI_, hb1⟩
 ·cases o13 with
  | nx _ => exact True.intro
  | rt r_ =>
   have hs := after_rt hs
   intro a1 w1 hK
   cases hs
   exact hK
  | br s9 =>
   have hs := after_br hs
   rintro a1 w10 ⟨σ, rfl, hC, hO, hv16, hb1⟩
   refine c_seq (c_region ?_)
   refine pl_val (.agg #[(.func (.func g_) #[] lb_), (.func (.func sf_) #[] sb_)]) (y_load rfl ((box_load Ag122 Sz122 hb1 [] [(.func (.func g_) #[] lb_), (.func (.func sf_) #[] sb_)] [] rfl rfl (fun h => nomatch h)) _ (Chg.refl _ _))) ?_
   refine pl_val (.int .i64 s9.1) (y_move rfl) ?_
   refine pl_val (.int .i64 n) (y_move rfl) ?_
   have hO := hO.fr1
   have hI20 := Own.lend (F := (G_ ++ ([]))) (R := ([g1]) ++ ([])) (Own.perm hO (by simp))
   obtain ⟨r21, hr21, hs⟩ := bind_some hs
   refine pl_call Bd113 rfl (c_sort_insertionSort_func (M := M) ls_ s9.2.2 s9.1 n (Nat.le_trans hN_ hC.size) hE_ hv16 hI20 hO.fut hr21) ?_
   rintro _ w20 ⟨rfl, hC20, hv20⟩
   have hb1 := hb1.chg hC20 (fun hg => hO.apart _ (nil_mem _ hg) (mem_l (List.mem_singleton.2 rfl)))
   have hC := hC.step hC20 (fun g hg => hO.inN g (nil_mem g hg))
   have hO := hO.ext hC20
   refine c_nil ?_
   obtain ⟨o71, hl72, hs⟩ := bind_some hs
   refine wp_block ?_
   refine wp_iter (id := 2) (I := fun s67 a w68 => ∃ (σ : Nat → Value), a = fr 57 (ovl σ [(1, (.int .i64 n)), (2, (.pointer (some ⟨g1, 0, none⟩))), (4, (.int .i64 s67.1)), (5, (.int .i64 s67.2.1)), (6, (.int .i64 s67.2.2.1))]) ∧ Chg (G_ ++ ([])) w w68 ∧ Own (Nw w (G_ ++ ([]))) M w68 (G_ ++ (([g1]) ++ [])) ∧ I_ w68 s67.2.2.2 ∧ BoxV w68 g1 122 [(.func (.func g_) #[] lb_), (.func (.func sf_) #[] sb_)]) (J := fun s67 a w68 => ∃ (σ : Nat → Value), a = fr 57 (ovl σ []) ∧ Chg (G_ ++ ([])) w w68 ∧ Own (Nw w (G_ ++ ([]))) M w68 (G_ ++ (([g1]) ++ [])) ∧ I_ w68 s67.2.2.2 ∧ BoxV w68 g1 122 [(.func (.func g_) #[] lb_), (.func (.func sf_) #[] sb_)]) (K := (k_sort_stable_func M w I_ G_)) ?_ FU (20, s9.1, s9.2.1, r21) o71 _ _ ?_ hl72 ?_
   ·rintro s67 o71 a w68 ⟨σ, rfl, hC, hO, hv73, hb1⟩ hs
    refine c_seq ?_
    refine c_seq (c_region ?_)
    refine pl_val (.int .i64 s67.1) (y_move rfl) ?_
    refine pl_val (.int .i64 n) (y_move rfl) ?_
    refine pl_val (.bool (decide (s67.1 < n))) (y_lss rfl rfl) ?_
    refine c_nil ?_
    rcases bif_some hs with ⟨hc75, hs⟩ | ⟨hc75, hs⟩
    ·skip
     refine c_condT (congrArg Value.bool hc75) ?_
     refine wp_skip ?_
     refine wp_block ?_
     refine c_seq (c_region ?_)
     refine pl_val (.int .i64 s67.1) (y_move rfl) ?_
     refine pl_val (.int .i64 (w64 (2 * s67.1))) (y_mul rfl rfl) ?_
     refine pl_val (.int .i64 0) (y_assign rfl) ?_
     refine pl_val (.int .i64 (w64 (2 * s67.1))) (y_assign rfl) ?_
     refine c_nil ?_
     refine c_seq ?_
     obtain ⟨o87, hl88, hs⟩ := bind_some hs
     refine wp_block ?_
     refine wp_iter (id := 4) (I := fun s83 a w84 => ∃ (σ : Nat → Value), a = fr 57 (ovl σ [(1, (.int .i64 n)), (2, (.pointer (some ⟨g1, 0, none⟩))), (4, (.int .i64 s67.1)), (5, (.int .i64 s83.1)), (6, (.int .i64 s83.2.1))]) ∧ Chg (G_ ++ ([])) w w84 ∧ Own (Nw w (G_ ++ ([]))) M w84 (G_ ++ (([g1]) ++ [])) ∧ I_ w84 s83.2.2 ∧ BoxV w84 g1 122 [(.func (.func g_) #[] lb_), (.func (.func sf_) #[] sb_)]) (J := fun s83 a w84 => ∃ (σ : Nat → Value), a = fr 57 (ovl σ [(1, (.int .i64 n)), (2, (.pointer (some ⟨g1, 0, none⟩))), (4, (.int .i64 s67.1)), (5, (.int .i64 s83.1)), (6, (.int .i64 s83.2.1))]) ∧ Chg (G_ ++ ([])) w w84 ∧ Own (Nw w (G_ ++ ([]))) M w84 (G_ ++ (([g1]) ++ [])) ∧ I_ w84 s83.2.2 ∧ BoxV w84 g1 122 [(.func (.func g_) #[] lb_), (.func (.func sf_) #[] sb_)]) (K := (k_sort_stable_func M w I_ G_)) ?_ FU (0, w64 (2 * s67.1), s67.2.2.2) o87 _ _ ?_ hl88 ?_
     ·rintro s83 o87 a w84 ⟨σ, rfl, hC, hO, hv89, hb1⟩ hs
      refine c_seq ?_
      refine c_seq (c_region ?_)
      refine pl_val (.int .i64 s83.2.1) (y_move rfl) ?_
      refine pl_val (.int .i64 n) (y_move rfl) ?_
      refine pl_val (.bool (decide (s83.2.1 ≤ n))) (y_leq rfl rfl) ?_
      refine c_nil ?_
      rcases bif_some hs with ⟨hc91, hs⟩ | ⟨hc91, hs⟩
      ·skip
       refine c_condT (congrArg Value.bool hc91) ?_
       refine wp_skip ?_
       refine wp_block ?_
       refine c_seq (c_region ?_)
       refine pl_val (.agg #[(.func (.func g_) #[] lb_), (.func (.func sf_) #[] sb_)]) (y_load rfl ((box_load Ag122 Sz122 hb1 [] [(.func (.func g_) #[] lb_), (.func (.func sf_) #[] sb_)] [] rfl rfl (fun h => nomatch h)) _ (Chg.refl _ _))) ?_
       refine pl_val (.int .i64 s83.1) (y_move rfl) ?_
       refine pl_val (.int .i64 s83.1) (y_move rfl) ?_
       refine pl_val (.int .i64 s67.1) (y_move rfl) ?_
       refine pl_val (.int .i64 (w64 (s83.1 + s67.1))) (y_add rfl rfl) ?_
       refine pl_val (.int .i64 s83.2.1) (y_move rfl) ?_
       have hI92 := Own.lend (F := (G_ ++ ([]))) (R := ([g1]) ++ ([])) (Own.perm hO (by simp))
       obtain ⟨r93, hr93, hs⟩ := bind_some hs
       refine pl_call Bd114 rfl (c_sort_symMerge_func (M := M) FU ls_ s83.2.2 s83.1 (w64 (s83.1 + s67.1)) s83.2.1 (Nat.le_trans hN_ hC.size) hE_ hv89 hI92 hO.fut hr93) ?_
       rintro _ w92 ⟨rfl, hC92, hv92⟩
       have hb1 := hb1.chg hC92 (fun hg => hO.apart _ (nil_mem _ hg) (mem_l (List.mem_singleton.2 rfl)))
       have hC := hC.step hC92 (fun g hg => hO.inN g (nil_mem g hg))
       have hO := hO.ext hC92
       refine c_nil ?_
       refine c_seq (c_region ?_)
       refine pl_val (.int .i64 s83.2.1) (y_move rfl) ?_
       refine pl_val (.int .i64 s83.2.1) (y_assign rfl) ?_
       refine c_nil ?_
       refine c_region ?_
       refine pl_val (.int .i64 s83.2.1) (y_move rfl) ?_
       refine pl_val (.int .i64 s67.1) (y_move rfl) ?_
       refine pl_val (.int .i64 (w64 (2 * s67.1))) (y_mul rfl rfl) ?_
       refine pl_val (.int .i64 (w64 (s83.2.1 + (w64 (2 * s67.1))))) (y_add rfl rfl) ?_
       refine pl_val (.int .i64 (w64 (s83.2.1 + (w64 (2 * s67.1))))) (y_assign rfl) ?_
       refine c_nil ?_
       cases hs
       have hO := hO.fr1
       have hO := hO.fr1
       exact ⟨_, fr_ovl 57 ⟨rfl, rfl, rfl, rfl, rfl, trivial⟩, hC, hO, hv92, hb1⟩
      ·skip
       refine c_condF (congrArg Value.bool hc91) ?_
       refine wp_exit ?_
       cases hs
       have hO := hO.fr1
       have hO := hO.fr1
       exact ⟨rfl, _, fr_ovl 57 ⟨rfl, rfl, rfl, rfl, rfl, trivial⟩, hC, hO, hv89, hb1⟩
     ·skip
      have hO := hO.fr1
      have hO := hO.fr1
      exact ⟨_, fr_ovl 57 ⟨rfl, rfl, rfl, rfl, rfl, trivial⟩, hC, hO, hv73, hb1⟩
     ·cases o87 with
      | nx _ => exact True.intro
      | rt r_ =>
       have hs := after_rt hs
       intro a1 w1 hK
       cases hs
       exact hK
      | br s83 =>
       have hs := after_br hs
       rintro a1 w84 ⟨σ, rfl, hC, hO, hv90, hb1⟩
       refine c_seq ?_
       refine c_seq (c_region ?_)
       refine pl_val (.int .i64 s83.1) (y_move rfl) ?_
       refine pl_val (.int .i64 s67.1) (y_move rfl) ?_
       refine pl_val (.int .i64 (w64 (s83.1 + s67.1))) (y_add rfl rfl) ?_
       refine pl_val (.int .i64 (w64 (s83.1 + s67.1))) (y_assign rfl) ?_
       refine c_nil ?_
       refine c_seq (c_region ?_)
       refine pl_val (.int .i64 (w64 (s83.1 + s67.1))) (y_move rfl) ?_
       refine pl_val (.int .i64 n) (y_move rfl) ?_
       refine pl_val (.bool (decide ((w64 (s83.1 + s67.1)) < n))) (y_lss rfl rfl) ?_
       refine c_nil ?_
       rcases bif_some hs with ⟨hc94, hs⟩ | ⟨hc94, hs⟩
       ·skip
        refine c_condT (congrArg Value.bool hc94) ?_
        refine c_region ?_
        refine pl_val (.agg #[(.func (.func g_) #[] lb_), (.func (.func sf_) #[] sb_)]) (y_load rfl ((box_load Ag122 Sz122 hb1 [] [(.func (.func g_) #[] lb_), (.func (.func sf_) #[] sb_)] [] rfl rfl (fun h => nomatch h)) _ (Chg.refl _ _))) ?_
        refine pl_val (.int .i64 s83.1) (y_move rfl) ?_
        refine pl_val (.int .i64 (w64 (s83.1 + s67.1))) (y_move rfl) ?_
        refine pl_val (.int .i64 n) (y_move rfl) ?_
        have hI95 := Own.lend (F := (G_ ++ ([]))) (R := ([g1]) ++ ([])) (Own.perm hO (by simp))
        obtain ⟨r96, hr96, hs⟩ := bind_some hs
        refine pl_call Bd114 rfl (c_sort_symMerge_func (M := M) FU ls_ s83.2.2 s83.1 (w64 (s83.1 + s67.1)) n (Nat.le_trans hN_ hC.size) hE_ hv90 hI95 hO.fut hr96) ?_
        rintro _ w95 ⟨rfl, hC95, hv95⟩
        have hb1 := hb1.chg hC95 (fun hg => hO.apart _ (nil_mem _ hg) (mem_l (List.mem_singleton.2 rfl)))
        have hC := hC.step hC95 (fun g hg => hO.inN g (nil_mem g hg))
        have hO := hO.ext hC95
        refine c_nil ?_
        refine c_region ?_
        refine pl_val (.int .i64 s67.1) (y_move rfl) ?_
        refine pl_val (.int .i64 (w64 (s67.1 * 2))) (y_mul rfl rfl) ?_
        refine pl_val (.int .i64 (w64 (s67.1 * 2))) (y_assign rfl) ?_
        refine c_nil ?_
        cases hs
        have hO := hO.fr1
        have hO := hO.fr1
        exact ⟨_, fr_ovl 57 ⟨rfl, rfl, rfl, rfl, rfl, trivial⟩, hC, hO, hv95, hb1⟩
       ·skip
        refine c_condF (congrArg Value.bool hc94) ?_
        refine wp_skip ?_
        refine c_region ?_
        refine pl_val (.int .i64 s67.1) (y_move rfl) ?_
        refine pl_val (.int .i64 (w64 (s67.1 * 2))) (y_mul rfl rfl) ?_
        refine pl_val (.int .i64 (w64 (s67.1 * 2))) (y_assign rfl) ?_
        refine c_nil ?_
        cases hs
        have hO := hO.fr1
        have hO := hO.fr1
        exact ⟨_, fr_ovl 57 ⟨rfl, rfl, rfl, rfl, rfl, trivial⟩, hC, hO, hv90, hb1⟩
    ·skip
     refine c_condF (congrArg Value.bool hc75) ?_
     refine wp_exit ?_
     cases hs
     have hO := hO.fr1
     have hO := hO.fr1
     exact ⟨rfl, _, fr_ovl 57 trivial, hC, hO, hv73, hb1⟩
   ·skip
    have hO := hO.fr1
    have hO := hO.fr1
    exact ⟨_, fr_ovl 57 ⟨rfl, rfl, rfl, rfl, rfl, trivial⟩, hC, hO, hv20, hb1⟩
   ·cases o71 with
    | nx _ => exact True.intro
    | rt r_ =>
     have hs := after_rt hs
     intro a1 w1 hK
     cases hs
     exact hK
    | br s67 =>
     have hs := after_br hs
     rintro a1 w68 ⟨σ, rfl, hC, hO, hv74, hb1⟩
     cases hs
     exact ⟨_, fr_ovl 57 trivial, hC, hv74⟩

def k_impl_compareLists (M : Nat → Prop) (w0 : World) (r : Int) (a : Act) (w : World) : Prop :=
  ∃ (σ : Nat → Value) , a = fr 48 (ovl σ [(4, (.int .i64 r))]) ∧ Chg [] w0 w
def s_impl_compareLists (s_ : List Int) (t : List Int) : Option (Int) :=
  (iter (S := Int) (R := Int) (fun s25 =>
  (bif ((decide (s25 < (s_.length : Int))) && (decide (s25 < (t.length : Int)))) then (idx s_ s25).bind fun x42 =>
  (idx t s25).bind fun x44 =>
  (bif (x42 != x44) then (idx s_ s25).bind fun x48 =>
  (idx t s25).bind fun x50 =>
  (bif (decide (x48 < x50)) then some (.rt (-1)) else some (.rt 1)) else some (.nx (w64 (s25 + 1)))) else some (.br s25))) FU 0).bind fun o29 => after o29 (fun r_ => some r_) (fun s25 =>
  (bif (decide ((s_.length : Int) < (t.length : Int))) then some (-1) else (bif (decide ((t.length : Int) < (s_.length : Int))) then some 1 else some 0)))
set_option maxHeartbeats 4000000 in
theorem c_impl_compareLists {M : Nat → Prop} {w : World} {pa0 : Option Addr} {pn0 pc0 : Nat} {pa1 : Option Addr} {pn1 pc1 : Nat} (s_ : List Int) (t : List Int) (h0 : (RT.rs (RT.int .i64)).val M w (.slice pa0 pn0 pc0) s_ ([])) (h1 : (RT.rs (RT.int .i64)).val M w (.slice pa1 pn1 pc1) t ([])) (hM : ∀ g, w.heap.size ≤ g → M g) {r : Int} (hs : s_impl_compareLists s_ t = some r) :
    Gives Try.prog 96 [(.slice pa0 pn0 pc0), (.slice pa1 pn1 pc1)] w (fun v w' => v = (.int .i64 r) ∧ Chg [] w w') := by
 refine calls_fr Try.func96 rfl Try.ntmps96 (Nat.le_of_ble_eq_true rfl) ?_
 have hO := Own.start (N := Nw w []) hM Nw.fut
 have hC := Chg.refl [] w
 unfold s_impl_compareLists at hs
 refine wp_mono (Q := KPost (k_impl_compareLists M w r)) ?_ (fun e a w1 h => ?_)
 rotate_left
 ·cases e
  case ret =>
   obtain ⟨σ, rfl, hrest⟩ := h
   exact ret1x Try.results96 (res_tmp rfl) ⟨rfl, hrest⟩
  all_goals exact (h : False).elim
 refine c_seq (c_region ?_)
 refine pl_val (.int .i64 0) (y_assign rfl) ?_
 refine c_nil ?_
 refine c_seq ?_
 refine c_seq (c_region ?_)
 refine pl_val (.int .i64 0) (y_assign rfl) ?_
 refine c_nil ?_
 obtain ⟨o29, hl30, hs⟩ := bind_some hs
 refine wp_block ?_
 refine wp_iter (id := 0) (I := fun s25 a w26 => ∃ (σ : Nat → Value), a = fr 48 (ovl σ [(0, (.slice pa0 pn0 pc0)), (1, (.slice pa1 pn1 pc1)), (5, (.int .i64 s25))]) ∧ Chg [] w w26 ∧ Own (Nw w []) M w26 ([]) ∧ (RT.rs (RT.int .i64)).val M w26 (.slice pa0 pn0 pc0) s_ ([]) ∧ (RT.rs (RT.int .i64)).val M w26 (.slice pa1 pn1 pc1) t ([])) (J := fun s25 a w26 => ∃ (σ : Nat → Value), a = fr 48 (ovl σ [(0, (.slice pa0 pn0 pc0)), (1, (.slice pa1 pn1 pc1))]) ∧ Chg [] w w26 ∧ Own (Nw w []) M w26 ([]) ∧ (RT.rs (RT.int .i64)).val M w26 (.slice pa0 pn0 pc0) s_ ([]) ∧ (RT.rs (RT.int .i64)).val M w26 (.slice pa1 pn1 pc1) t ([])) (K := (k_impl_compareLists M w)) ?_ FU 0 o29 _ _ ?_ hl30 ?_
 ·rintro s25 o29 a w26 ⟨σ, rfl, hC, hO, h0, h1⟩ hs
  refine c_seq ?_
  refine c_seq ?_
  refine c_mid (I := fun a w32 => ∃ (σ : Nat → Value), a = fr 48 (ovl σ [(0, (.slice pa0 pn0 pc0)), (1, (.slice pa1 pn1 pc1)), (5, (.int .i64 s25)), (15, (.bool ((decide (s25 < (s_.length : Int))) && (decide (s25 < (t.length : Int))))))]) ∧ Chg [] w26 w32) ?_ ?_
  ·have hMid := Chg.refl [] w26
   refine c_region ?_
   refine pl_val (.int .i64 s25) (y_move rfl) ?_
   refine pl_val (.slice pa0 pn0 pc0) (y_move rfl) ?_
   refine pl_val (.int .i64 (s_.length : Int)) (y_len' Sl25 (rs_len h0) rfl) ?_
   refine pl_val (.bool (decide (s25 < (s_.length : Int)))) (y_lss rfl rfl) ?_
   refine pl_val (.bool (decide (s25 < (s_.length : Int)))) (y_move rfl) ?_
   rcases Bool.eq_false_or_eq_true ((decide (s25 < (s_.length : Int)))) with hc34 | hc34
   ·skip
    refine pl_yes (.int .i64 s25) (tg := 10) (by kernel_rfl) (congrArg Value.bool hc34) (y_move rfl) ?_
    refine pl_yes (.slice pa1 pn1 pc1) (tg := 10) (by kernel_rfl) (congrArg Value.bool hc34) (y_move rfl) ?_
    refine pl_yes (.int .i64 (t.length : Int)) (tg := 10) (by kernel_rfl) (congrArg Value.bool hc34) (y_len' Sl25 (rs_len h1) rfl) ?_
    refine pl_yes (.bool (decide (s25 < (t.length : Int)))) (tg := 10) (by kernel_rfl) (congrArg Value.bool hc34) (y_lss rfl rfl) ?_
    refine pl_val (.bool ((decide (s25 < (s_.length : Int))) && (decide (s25 < (t.length : Int))))) (y_pick_t (congrArg Value.bool hc34) (congrArg Value.bool (by rw [hc34]; rfl))) ?_
    refine c_nil ?_
    exact ⟨_, fr_ovl 48 ⟨rfl, rfl, rfl, rfl, trivial⟩, hMid⟩
   ·skip
    refine pl_not (tg := 10) (by kernel_rfl) (congrArg Value.bool hc34) ?_
    refine pl_not (tg := 10) (by kernel_rfl) (congrArg Value.bool hc34) ?_
    refine pl_not (tg := 10) (by kernel_rfl) (congrArg Value.bool hc34) ?_
    refine pl_not (tg := 10) (by kernel_rfl) (congrArg Value.bool hc34) ?_
    refine pl_val (.bool ((decide (s25 < (s_.length : Int))) && (decide (s25 < (t.length : Int))))) (y_pick_f (congrArg Value.bool hc34) (congrArg Value.bool (by rw [hc34]; rfl))) ?_
    refine c_nil ?_
    exact ⟨_, fr_ovl 48 ⟨rfl, rfl, rfl, rfl, trivial⟩, hMid⟩
  ·rintro a1 w32 ⟨σ, rfl, hCs31⟩
   have h0 := h0.ext hCs31
   have h1 := h1.ext hCs31
   have hC := hC.ext hCs31
   have hO := hO.ext hCs31
   rcases bif_some hs with ⟨hc35, hs⟩ | ⟨hc35, hs⟩
   ·skip
    refine c_condT (congrArg Value.bool hc35) ?_
    refine wp_skip ?_
    refine c_seq ?_
    refine wp_block ?_
    refine c_seq ?_
    refine x_start [] Mx rfl ?_
    have hCw41 := Chg.drew w32
    generalize World.drew w32 = w41 at hCw41 ⊢
    have h0 := h0.ext hCw41
    have h1 := h1.ext hCw41
    have hC := hC.ext hCw41
    have hO := hO.ext hCw41
    have hS := Chg.refl [] w41
    refine x_p 0 (.slice pa0 pn0 pc0) rfl (by kernel_rfl)  (fun _ => y_move rfl) (fun _ => hS) ?_
    refine x_p 1 (.int .i64 s25) rfl (by kernel_rfl)  (fun _ => y_move rfl) (fun _ => hS) ?_
    obtain ⟨x42, hx42, hs⟩ := bind_some hs
    obtain ⟨b43, o43, hp43, ha43⟩ := rs_idx Sl25 Sz3 h0 hx42
    refine x_p 2 (.pointer (some ⟨b43, o43, none⟩)) rfl (by kernel_rfl)  (fun _ => hp43 _ _ _ _ _ _ _ _ _ rfl rfl) (fun _ => hS) ?_
    refine x_l 3 (.int .i64 x42) rfl (by kernel_rfl)  (fun w' hw' => y_load rfl ((at_load_int Ag3 Sz3 ha43) w' hw')) hS ?_
    refine x_p 4 (.slice pa1 pn1 pc1) rfl (by kernel_rfl)  (fun _ => y_move rfl) (fun _ => hS) ?_
    refine x_p 5 (.int .i64 s25) rfl (by kernel_rfl)  (fun _ => y_move rfl) (fun _ => hS) ?_
    obtain ⟨x44, hx44, hs⟩ := bind_some hs
    obtain ⟨b45, o45, hp45, ha45⟩ := rs_idx Sl25 Sz3 h1 hx44
    refine x_p 6 (.pointer (some ⟨b45, o45, none⟩)) rfl (by kernel_rfl)  (fun _ => hp45 _ _ _ _ _ _ _ _ _ rfl rfl) (fun _ => hS) ?_
    refine x_l 7 (.int .i64 x44) rfl (by kernel_rfl)  (fun w' hw' => y_load rfl ((at_load_int Ag3 Sz3 ha45) w' hw')) hS ?_
    refine x_p 8 (.bool (x42 != x44)) rfl (by kernel_rfl)  (fun _ => y_neq rfl rfl) (fun _ => hS) ?_
    refine x_end (by kernel_rfl) ?_
    clear hS
    rcases bif_some hs with ⟨hc46, hs⟩ | ⟨hc46, hs⟩
    ·skip
     refine c_condT (congrArg Value.bool hc46) ?_
     refine c_seq ?_
     refine c_seq ?_
     refine x_start [] Mx rfl ?_
     have hCw47 := Chg.drew w41
     generalize World.drew w41 = w47 at hCw47 ⊢
     have h0 := h0.ext hCw47
     have h1 := h1.ext hCw47
     have hC := hC.ext hCw47
     have hO := hO.ext hCw47
     have hS := Chg.refl [] w47
     refine x_p 0 (.slice pa0 pn0 pc0) rfl (by kernel_rfl)  (fun _ => y_move rfl) (fun _ => hS) ?_
     refine x_p 1 (.int .i64 s25) rfl (by kernel_rfl)  (fun _ => y_move rfl) (fun _ => hS) ?_
     obtain ⟨x48, hx48, hs⟩ := bind_some hs
     obtain ⟨b49, o49, hp49, ha49⟩ := rs_idx Sl25 Sz3 h0 hx48
     refine x_p 2 (.pointer (some ⟨b49, o49, none⟩)) rfl (by kernel_rfl)  (fun _ => hp49 _ _ _ _ _ _ _ _ _ rfl rfl) (fun _ => hS) ?_
     refine x_l 3 (.int .i64 x48) rfl (by kernel_rfl)  (fun w' hw' => y_load rfl ((at_load_int Ag3 Sz3 ha49) w' hw')) hS ?_
     refine x_p 4 (.slice pa1 pn1 pc1) rfl (by kernel_rfl)  (fun _ => y_move rfl) (fun _ => hS) ?_
     refine x_p 5 (.int .i64 s25) rfl (by kernel_rfl)  (fun _ => y_move rfl) (fun _ => hS) ?_
     obtain ⟨x50, hx50, hs⟩ := bind_some hs
     obtain ⟨b51, o51, hp51, ha51⟩ := rs_idx Sl25 Sz3 h1 hx50
     refine x_p 6 (.pointer (some ⟨b51, o51, none⟩)) rfl (by kernel_rfl)  (fun _ => hp51 _ _ _ _ _ _ _ _ _ rfl rfl) (fun _ => hS) ?_
     refine x_l 7 (.int .i64 x50) rfl (by kernel_rfl)  (fun w' hw' => y_load rfl ((at_load_int Ag3 Sz3 ha51) w' hw')) hS ?_
     refine x_p 8 (.bool (decide (x48 < x50))) rfl (by kernel_rfl)  (fun _ => y_lss rfl rfl) (fun _ => hS) ?_
     refine x_end (by kernel_rfl) ?_
     clear hS
     rcases bif_some hs with ⟨hc52, hs⟩ | ⟨hc52, hs⟩
     ·skip
      refine c_condT (congrArg Value.bool hc52) ?_
      refine c_seq (c_region ?_)
      refine pl_val (.int .i64 (-1)) (y_assign rfl) ?_
      refine c_nil ?_
      refine wp_ret ?_
      cases hs
      exact ⟨_, fr_ovl 48 ⟨rfl, trivial⟩, hC⟩
     ·skip
      refine c_condF (congrArg Value.bool hc52) ?_
      refine wp_skip ?_
      refine c_seq (c_region ?_)
      refine pl_val (.int .i64 1) (y_assign rfl) ?_
      refine c_nil ?_
      refine wp_ret ?_
      cases hs
      exact ⟨_, fr_ovl 48 ⟨rfl, trivial⟩, hC⟩
    ·skip
     refine c_condF (congrArg Value.bool hc46) ?_
     refine wp_skip ?_
     refine c_region ?_
     refine pl_val (.int .i64 s25) (y_move rfl) ?_
     refine pl_val (.int .i64 (w64 (s25 + 1))) (y_add rfl rfl) ?_
     refine pl_val (.int .i64 (w64 (s25 + 1))) (y_assign rfl) ?_
     refine c_nil ?_
     cases hs
     exact ⟨_, fr_ovl 48 ⟨rfl, rfl, rfl, trivial⟩, hC, hO, h0, h1⟩
   ·skip
    refine c_condF (congrArg Value.bool hc35) ?_
    refine wp_exit ?_
    cases hs
    exact ⟨rfl, _, fr_ovl 48 ⟨rfl, rfl, trivial⟩, hC, hO, h0, h1⟩
 ·skip
  exact ⟨_, fr_ovl 48 ⟨rfl, rfl, rfl, trivial⟩, hC, hO, h0, h1⟩
 ·cases o29 with
  | nx _ => exact True.intro
  | rt r_ =>
   have hs := after_rt hs
   intro a1 w1 hK
   cases hs
   exact hK
  | br s25 =>
   have hs := after_br hs
   rintro a1 w26 ⟨σ, rfl, hC, hO, h0, h1⟩
   refine c_seq ?_
   refine wp_block ?_
   refine c_seq (c_region ?_)
   refine pl_val (.slice pa0 pn0 pc0) (y_move rfl) ?_
   refine pl_val (.int .i64 (s_.length : Int)) (y_len' Sl25 (rs_len h0) rfl) ?_
   refine pl_val (.slice pa1 pn1 pc1) (y_move rfl) ?_
   refine pl_val (.int .i64 (t.length : Int)) (y_len' Sl25 (rs_len h1) rfl) ?_
   refine pl_val (.bool (decide ((s_.length : Int) < (t.length : Int)))) (y_lss rfl rfl) ?_
   refine pl_val (.bool (decide ((s_.length : Int) < (t.length : Int)))) (y_assign rfl) ?_
   refine c_nil ?_
   rcases bif_some hs with ⟨hc53, hs⟩ | ⟨hc53, hs⟩
   ·skip
    refine c_condT (congrArg Value.bool hc53) ?_
    refine c_seq (c_region ?_)
    refine pl_val (.int .i64 (-1)) (y_assign rfl) ?_
    refine c_nil ?_
    refine wp_ret ?_
    cases hs
    exact ⟨_, fr_ovl 48 ⟨rfl, trivial⟩, hC⟩
   ·skip
    refine c_condF (congrArg Value.bool hc53) ?_
    refine c_seq (c_region ?_)
    refine pl_val (.slice pa0 pn0 pc0) (y_move rfl) ?_
    refine pl_val (.int .i64 (s_.length : Int)) (y_len' Sl25 (rs_len h0) rfl) ?_
    refine pl_val (.slice pa1 pn1 pc1) (y_move rfl) ?_
    refine pl_val (.int .i64 (t.length : Int)) (y_len' Sl25 (rs_len h1) rfl) ?_
    refine pl_val (.bool (decide ((t.length : Int) < (s_.length : Int)))) (y_gtr rfl rfl) ?_
    refine pl_val (.bool (decide ((t.length : Int) < (s_.length : Int)))) (y_assign rfl) ?_
    refine c_nil ?_
    rcases bif_some hs with ⟨hc54, hs⟩ | ⟨hc54, hs⟩
    ·skip
     refine c_condT (congrArg Value.bool hc54) ?_
     refine c_seq (c_region ?_)
     refine pl_val (.int .i64 1) (y_assign rfl) ?_
     refine c_nil ?_
     refine wp_ret ?_
     cases hs
     exact ⟨_, fr_ovl 48 ⟨rfl, trivial⟩, hC⟩
    ·skip
     refine c_condF (congrArg Value.bool hc54) ?_
     refine wp_skip ?_
     refine c_seq (c_region ?_)
     refine pl_val (.int .i64 0) (y_assign rfl) ?_
     refine c_nil ?_
     refine wp_ret ?_
     cases hs
     exact ⟨_, fr_ovl 48 ⟨rfl, trivial⟩, hC⟩

theorem Bd96 : Bodied Try.prog 96 := bodied Try.func96 (by kernel_rfl) rfl

def k_impl_compareTerms (M : Nat → Prop) (w0 : World) (r : Int) (a : Act) (w : World) : Prop :=
  ∃ (σ : Nat → Value) , a = fr 20 (ovl σ [(4, (.int .i64 r))]) ∧ Chg [] w0 w
def s_impl_compareTerms (s_ : List Int) (t : List Int) : Option (Int) :=
  (bif (decide ((s_.length : Int) < (t.length : Int))) then some (-1) else (bif (decide ((t.length : Int) < (s_.length : Int))) then some 1 else (s_impl_compareLists s_ t).bind fun r6 =>
  some r6))
set_option maxHeartbeats 4000000 in
theorem c_impl_compareTerms {M : Nat → Prop} {w : World} {pa0 : Option Addr} {pn0 pc0 : Nat} {pa1 : Option Addr} {pn1 pc1 : Nat} (s_ : List Int) (t : List Int) (h0 : (RT.rs (RT.int .i64)).val M w (.slice pa0 pn0 pc0) s_ ([])) (h1 : (RT.rs (RT.int .i64)).val M w (.slice pa1 pn1 pc1) t ([])) (hM : ∀ g, w.heap.size ≤ g → M g) {r : Int} (hs : s_impl_compareTerms s_ t = some r) :
    Gives Try.prog 78 [(.slice pa0 pn0 pc0), (.slice pa1 pn1 pc1)] w (fun v w' => v = (.int .i64 r) ∧ Chg [] w w') := by
 refine calls_fr Try.func78 rfl Try.ntmps78 (Nat.le_of_ble_eq_true rfl) ?_
 have hO := Own.start (N := Nw w []) hM Nw.fut
 have hC := Chg.refl [] w
 unfold s_impl_compareTerms at hs
 refine wp_mono (Q := KPost (k_impl_compareTerms M w r)) ?_ (fun e a w1 h => ?_)
 rotate_left
 ·cases e
  case ret =>
   obtain ⟨σ, rfl, hrest⟩ := h
   exact ret1x Try.results78 (res_tmp rfl) ⟨rfl, hrest⟩
  all_goals exact (h : False).elim
 refine c_seq (c_region ?_)
 refine pl_val (.int .i64 0) (y_assign rfl) ?_
 refine c_nil ?_
 refine c_seq ?_
 refine wp_block ?_
 refine c_seq (c_region ?_)
 refine pl_val (.slice pa0 pn0 pc0) (y_move rfl) ?_
 refine pl_val (.int .i64 (s_.length : Int)) (y_len' Sl25 (rs_len h0) rfl) ?_
 refine pl_val (.slice pa1 pn1 pc1) (y_move rfl) ?_
 refine pl_val (.int .i64 (t.length : Int)) (y_len' Sl25 (rs_len h1) rfl) ?_
 refine pl_val (.bool (decide ((s_.length : Int) < (t.length : Int)))) (y_lss rfl rfl) ?_
 refine pl_val (.bool (decide ((s_.length : Int) < (t.length : Int)))) (y_assign rfl) ?_
 refine c_nil ?_
 rcases bif_some hs with ⟨hc3, hs⟩ | ⟨hc3, hs⟩
 ·skip
  refine c_condT (congrArg Value.bool hc3) ?_
  refine c_seq (c_region ?_)
  refine pl_val (.int .i64 (-1)) (y_assign rfl) ?_
  refine c_nil ?_
  refine wp_ret ?_
  cases hs
  exact ⟨_, fr_ovl 20 ⟨rfl, trivial⟩, hC⟩
 ·skip
  refine c_condF (congrArg Value.bool hc3) ?_
  refine c_seq (c_region ?_)
  refine pl_val (.slice pa0 pn0 pc0) (y_move rfl) ?_
  refine pl_val (.int .i64 (s_.length : Int)) (y_len' Sl25 (rs_len h0) rfl) ?_
  refine pl_val (.slice pa1 pn1 pc1) (y_move rfl) ?_
  refine pl_val (.int .i64 (t.length : Int)) (y_len' Sl25 (rs_len h1) rfl) ?_
  refine pl_val (.bool (decide ((t.length : Int) < (s_.length : Int)))) (y_gtr rfl rfl) ?_
  refine pl_val (.bool (decide ((t.length : Int) < (s_.length : Int)))) (y_assign rfl) ?_
  refine c_nil ?_
  rcases bif_some hs with ⟨hc4, hs⟩ | ⟨hc4, hs⟩
  ·skip
   refine c_condT (congrArg Value.bool hc4) ?_
   refine c_seq (c_region ?_)
   refine pl_val (.int .i64 1) (y_assign rfl) ?_
   refine c_nil ?_
   refine wp_ret ?_
   cases hs
   exact ⟨_, fr_ovl 20 ⟨rfl, trivial⟩, hC⟩
  ·skip
   refine c_condF (congrArg Value.bool hc4) ?_
   refine wp_skip ?_
   refine c_seq (c_region ?_)
   refine pl_val (.slice pa0 pn0 pc0) (y_move rfl) ?_
   refine pl_val (.slice pa1 pn1 pc1) (y_move rfl) ?_
   obtain ⟨r6, hr6, hs⟩ := bind_some hs
   refine pl_call Bd96 rfl (c_impl_compareLists (M := M) s_ t h0 h1 hO.fut hr6) ?_
   rintro _ w5 ⟨rfl, hC5⟩
   have h0 := h0.ext hC5
   have h1 := h1.ext hC5
   have hC := hC.ext hC5
   have hO := hO.ext hC5
   refine pl_val (.int .i64 r6) (y_assign rfl) ?_
   refine c_nil ?_
   refine wp_ret ?_
   cases hs
   exact ⟨_, fr_ovl 20 ⟨rfl, trivial⟩, hC⟩

theorem Bd74 : Bodied Try.prog 74 := bodied Try.func74 (by kernel_rfl) rfl

theorem Bd68 : Bodied Try.prog 68 := bodied Try.func68 (by kernel_rfl) rfl

theorem Bd75 : Bodied Try.prog 75 := bodied Try.func75 (by kernel_rfl) rfl

theorem Bd76 : Bodied Try.prog 76 := bodied Try.func76 (by kernel_rfl) rfl

theorem Zv4 : ∀ w, (zeroValue 4).run Try.prog w = .ok (Value.bool false) w := fun _ => by kernel_rfl

theorem Ag100 : AggT Try.prog 100 false := fun _ => by kernel_rfl

theorem Sz100 : SzT Try.prog 100 1 := ⟨_, rfl, rfl⟩

theorem Bd78 : Bodied Try.prog 78 := bodied Try.func78 (by kernel_rfl) rfl

def k_impl_sortRows_1__impl_compareTerms (M : Nat → Prop) (w0 : World) (r : Bool) (a : Act) (w : World) : Prop :=
  ∃ (σ : Nat → Value) , a = fr 18 (ovl σ [(6, (.bool r))]) ∧ Chg [] w0 w
def s_impl_sortRows_1__impl_compareTerms (tab1 : List (List Int)) (i : Int) (j : Int) : Option (Bool) :=
  (idx tab1 i).bind fun x5 =>
  (idx tab1 j).bind fun x9 =>
  (s_impl_compareTerms x5 x9).bind fun r14 =>
  some (decide (r14 < 0))
set_option maxHeartbeats 4000000 in
theorem c_impl_sortRows_1__impl_compareTerms {M : Nat → Prop} {w : World} {gv0 : Nat} {pa1 : Option Addr} {pn1 pc1 : Nat} {gv1 : Nat} (tab1 : List (List Int)) (i : Int) (j : Int) (hbgv0 : BoxV w gv0 100 [(.func (.func 78) #[] #[])]) (h1 : (RT.rs (RT.rs (RT.int .i64))).val M w (.slice pa1 pn1 pc1) tab1 ([])) (hbgv1 : BoxV w gv1 49 [(.slice pa1 pn1 pc1)]) (hM : ∀ g, w.heap.size ≤ g → M g) {r : Bool} (hs : s_impl_sortRows_1__impl_compareTerms tab1 i j = some r) :
    Gives Try.prog 95 [(.int .i64 i), (.int .i64 j), (.pointer (some ⟨gv0, 0, none⟩)), (.pointer (some ⟨gv1, 0, none⟩))] w (fun v w' => v = (.bool r) ∧ Chg [] w w') := by
 refine calls_fr Try.func95 rfl Try.ntmps95 (Nat.le_of_ble_eq_true rfl) ?_
 have hO := Own.start (N := Nw w []) hM Nw.fut
 have hC := Chg.refl [] w
 unfold s_impl_sortRows_1__impl_compareTerms at hs
 refine wp_mono (Q := KPost (k_impl_sortRows_1__impl_compareTerms M w r)) ?_ (fun e a w1 h => ?_)
 rotate_left
 ·cases e
  case ret =>
   obtain ⟨σ, rfl, hrest⟩ := h
   exact ret1x Try.results95 (res_tmp rfl) ⟨rfl, hrest⟩
  all_goals exact (h : False).elim
 refine c_seq (c_region ?_)
 refine pl_val (.bool false) (y_assign rfl) ?_
 refine c_nil ?_
 refine c_seq ?_
 refine x_start [] Mx rfl ?_
 have hCw4 := Chg.drew w
 generalize World.drew w = w4 at hCw4 ⊢
 have hbgv0 := hbgv0.chg hCw4 (fun h => nomatch h)
 have h1 := h1.ext hCw4
 have hbgv1 := hbgv1.chg hCw4 (fun h => nomatch h)
 have hC := hC.ext hCw4
 have hO := hO.ext hCw4
 have hS := Chg.refl [] w4
 refine x_l 0 (.func (.func 78) #[] #[]) rfl (by kernel_rfl)  (fun w' hw' => y_load rfl ((box_load Ag100 Sz100 hbgv0 [] [(.func (.func 78) #[] #[])] [] rfl rfl (fun _ => rfl)) w' hw')) hS ?_
 refine x_l 1 (.slice pa1 pn1 pc1) rfl (by kernel_rfl)  (fun w' hw' => y_load rfl ((box_load Ag49 Sz49 hbgv1 [] [(.slice pa1 pn1 pc1)] [] rfl rfl (fun _ => rfl)) w' hw')) hS ?_
 refine x_p 2 (.int .i64 i) rfl (by kernel_rfl)  (fun _ => y_move rfl) (fun _ => hS) ?_
 obtain ⟨x5, hx5, hs⟩ := bind_some hs
 obtain ⟨b6, o6, hp6, ha6⟩ := rs_idx Sl49 Sz25 h1 hx5
 refine x_p 3 (.pointer (some ⟨b6, o6, none⟩)) rfl (by kernel_rfl)  (fun _ => hp6 _ _ _ _ _ _ _ _ _ rfl rfl) (fun _ => hS) ?_
 obtain ⟨v7, hl7, hv7⟩ := at_load Ag25 Sz25 (fun _ => rfl) ha6
 obtain ⟨a7, n7, c7, rfl⟩ := rs_sl hv7
 refine x_l 4 (.slice a7 n7 c7) rfl (by kernel_rfl)  (fun w' hw' => y_load rfl (hl7 w' hw')) hS ?_
 refine x_l 5 (.slice pa1 pn1 pc1) rfl (by kernel_rfl)  (fun w' hw' => y_load rfl ((box_load Ag49 Sz49 hbgv1 [] [(.slice pa1 pn1 pc1)] [] rfl rfl (fun _ => rfl)) w' hw')) hS ?_
 refine x_p 6 (.int .i64 j) rfl (by kernel_rfl)  (fun _ => y_move rfl) (fun _ => hS) ?_
 obtain ⟨x9, hx9, hs⟩ := bind_some hs
 obtain ⟨b10, o10, hp10, ha10⟩ := rs_idx Sl49 Sz25 h1 hx9
 refine x_p 7 (.pointer (some ⟨b10, o10, none⟩)) rfl (by kernel_rfl)  (fun _ => hp10 _ _ _ _ _ _ _ _ _ rfl rfl) (fun _ => hS) ?_
 obtain ⟨v11, hl11, hv11⟩ := at_load Ag25 Sz25 (fun _ => rfl) ha10
 obtain ⟨a11, n11, c11, rfl⟩ := rs_sl hv11
 refine x_l 8 (.slice a11 n11 c11) rfl (by kernel_rfl)  (fun w' hw' => y_load rfl (hl11 w' hw')) hS ?_
 refine x_one (i := 9) (by kernel_rfl) ?_
 obtain ⟨r14, hr14, hs⟩ := bind_some hs
 refine xk_callv (b := false) rfl  (h := rfl) Bd78 rfl (c_impl_compareTerms (M := M) x5 x9 hv7 hv11 hO.fut hr14) rfl (by rintro _ _ _ ⟨rfl, hC13⟩; exact hS.ext hC13) ?_
 rintro _ w13 ⟨rfl, hC13⟩
 have hbgv0 := hbgv0.chg hC13 (fun h => nomatch h)
 have h1 := h1.ext hC13
 have hbgv1 := hbgv1.chg hC13 (fun h => nomatch h)
 have hv7 := hv7.ext hC13
 have hv11 := hv11.ext hC13
 have hC := hC.ext hC13
 have hO := hO.ext hC13
 have hS := hS.ext hC13
 refine x_p 10 (.bool (decide (r14 < 0))) rfl (by kernel_rfl)  (fun _ => y_lss rfl rfl) (fun _ => hS) ?_
 refine x_p 11 (.bool (decide (r14 < 0))) rfl (by kernel_rfl)  (fun _ => y_assign rfl) (fun _ => hS) ?_
 refine x_end (by kernel_rfl) ?_
 clear hS
 refine wp_ret ?_
 cases hs
 exact ⟨_, fr_ovl 18 ⟨rfl, trivial⟩, hC⟩

theorem Fx99 : ∀ args W, (callFunc 99 args).run Try.prog W = (((fun args : Array Value => Extern.ReflectliteValue.unpack (args.getD 0 (.tuple #[]))) args).run Try.prog W).andThen fun v w' => .ok (.value v) w' := fun args W => run_callFunc_extern Try.func99 (by kernel_rfl) (by kernel_rfl) (by kernel_rfl) (e := (fun args : Array Value => Extern.ReflectliteValue.unpack (args.getD 0 (.tuple #[])))) (by kernel_rfl) args W

theorem Ti49 : ∃ i, Try.prog.info? 49 = some i ∧ i.desc = .slice 25 := ⟨(Try.prog.info? 49).get (by kernel_rfl), by kernel_rfl, by kernel_rfl⟩

theorem Sz116 : SzT Try.prog 116 3 := ⟨_, rfl, rfl⟩

theorem Fx100 : ∀ args W, (callFunc 100 args).run Try.prog W = (((Extern.ReflectliteSwapper.swapper "internal/reflectlite" (Extern.ReflectliteValue.valueError "Swapper")) args).run Try.prog W).andThen fun v w' => .ok (.value v) w' := fun args W => run_callFunc_extern Try.func100 (by kernel_rfl) (by kernel_rfl) (by kernel_rfl) (e := (Extern.ReflectliteSwapper.swapper "internal/reflectlite" (Extern.ReflectliteValue.valueError "Swapper"))) (by kernel_rfl) args W

theorem Ke25 : ∀ w, (Extern.Rtype.kind 25).run Try.prog w = .ok 23 w := fun _ => by kernel_rfl

theorem Ag116 : AggT Try.prog 116 true := fun _ => by kernel_rfl

theorem Fx102 : ∀ args W, (callFunc 102 args).run Try.prog W = (((Extern.ReflectliteValue.method (Extern.ReflectliteValue.valueError "reflectlite.Value.Len" 0) Extern.ReflectliteValue.len) args).run Try.prog W).andThen fun v w' => .ok (.value v) w' := fun args W => run_callFunc_extern Try.func102 (by kernel_rfl) (by kernel_rfl) (by kernel_rfl) (e := (Extern.ReflectliteValue.method (Extern.ReflectliteValue.valueError "reflectlite.Value.Len" 0) Extern.ReflectliteValue.len)) (by kernel_rfl) args W

theorem Pk49 : Try.prog.packed 49 = false := by kernel_rfl

theorem Bd101 : Bodied Try.prog 101 := bodied Try.func101 (by kernel_rfl) rfl

def k_sort_SliceStable (M : Nat → Prop) (w0 : World) {α_ : Type} (I_ : World → List α_ → Prop) (G_ : List Nat) (r : (List α_)) (a : Act) (w : World) : Prop :=
  ∃ (σ : Nat → Value) , a = fr 16 (ovl σ []) ∧ Chg (G_ ++ ([])) w0 w ∧ I_ w r
def s_sort_SliceStable {α_ : Type} (ls_ : α_ → α_ → Option Bool) (d_ : List α_) (n_ : Nat) : Option ((List α_)) :=
  (s_sort_stable_func ls_ d_ (n_ : Int)).bind fun r7 =>
  some r7
set_option maxHeartbeats 4000000 in
theorem c_sort_SliceStable {M : Nat → Prop} {w : World} {a_ : Option Addr} {c_ : Nat} {ie_ : TypeInfo} {α_ : Type} {n0_ : Nat} {I_ : World → List α_ → Prop} {G_ : List Nat} {g_ sf_ : Nat} {lb_ : Array Value} (ls_ : α_ → α_ → Option Bool) (d_ : List α_) (n_ : Nat) (hN_ : n0_ ≤ w.heap.size) (hie_ : Try.prog.info? 25 = some ie_) (hf_ : Try.prog.funcs.findIdx? (·.name == "internal/reflectlite" ++ ".Swapper$" ++ toString (Go.Lib.swapperK n_ ie_ 23)) = some sf_) (hE_ : Env Try.prog n0_ I_ G_ ls_ g_ lb_ sf_ (if Go.Lib.swapperK n_ ie_ 23 ≤ 2 then #[] else #[.slice a_ n_ c_, typeHandle Try.prog 25])) (hI_ : I_ w d_) (hI : Own (Nw w (G_ ++ ([]))) M w (G_ ++ ([]))) (hM : ∀ g, w.heap.size ≤ g → M g) {r : (List α_)} (hs : s_sort_SliceStable ls_ d_ n_ = some r) :
    Gives Try.prog 94 [(.iface 49 (.slice a_ n_ c_)), (.func (.func g_) #[] lb_)] w (fun v w' => v = (.tuple #[]) ∧ Chg (G_ ++ ([])) w w' ∧ I_ w' r) := by
 refine calls_fr Try.func94 rfl Try.ntmps94 (Nat.le_of_ble_eq_true rfl) ?_
 have hO := hI
 have hC := Chg.refl (G_ ++ ([])) w
 unfold s_sort_SliceStable at hs
 refine wp_mono (Q := KPostN (k_sort_SliceStable M w I_ G_ r)) ?_ (fun e a w1 h => ?_)
 rotate_left
 ·cases e
  case ret =>
   obtain ⟨σ, rfl, hrest⟩ := h
   exact ret0x Try.results94  ⟨rfl, hrest⟩
  case normal =>
   obtain ⟨σ, rfl, hrest⟩ := h
   exact ret0n Try.results94  ⟨rfl, hrest⟩
  all_goals exact (h : False).elim
 refine c_seq (c_region ?_)
 refine pl_val (.iface 49 (.slice a_ n_ c_)) (y_move rfl) ?_
 obtain ⟨i1, hi1, hd1⟩ := Ti49
 obtain ⟨w1, g1, ew1, eg1, hC1, hb1⟩ := new_block w [(.slice a_ n_ c_)] 49
 refine pl_val (w' := w1) (.agg #[(typeHandle Try.prog 49), (.pointer (some ⟨g1, 0, none⟩)), (.int .u64 151)]) (y_callg rfl rfl (by rw [Fx99]; show Result.andThen (Sem.run Try.prog (Extern.ReflectliteValue.unpack (.iface 49 (.slice a_ n_ c_))) _) _ = _; rw [Go.Lib.run_valueOf_slice 49 25 i1 hi1 hd1, ew1, eg1]; rfl)) ?_
 have hI_ := hE_.ext hI_ hC1 (fun _ h => nomatch h)
 have hC := hC.ext hC1
 have hO := hO.new1 hC1 eg1 hb1.lt
 obtain ⟨w2, g2, ew2, eg2, hC2, hb2⟩ := new_block w1 [(.pointer none), (.pointer none), (.int .u64 0)] 116
 refine pl_val (w' := w2) (.pointer (some ⟨g2, 0, none⟩)) (y_alloc (by rw [ew2, eg2]; kernel_rfl)) ?_
 have hI_ := hE_.ext hI_ hC2 (fun _ h => nomatch h)
 have hb1 := hb1.chg hC2 (fun h => nomatch h)
 have hC := hC.ext hC2
 have hO := hO.new1 hC2 eg2 hb2.lt
 obtain ⟨w3, hst3, hC3, hb3⟩ := box_store (P := Try.prog) hb2 [] [(.pointer none), (.pointer none), (.int .u64 0)] [] [(typeHandle Try.prog 49), (.pointer (some ⟨g1, 0, none⟩)), (.int .u64 151)] rfl rfl (by intro u hu; simp only [List.mem_cons, List.not_mem_nil, or_false] at hu; rcases hu with rfl | rfl | rfl <;> rfl)
 refine pl_skip (w' := w3) (ys_store rfl rfl (hst3 _ _ rfl Sz116)) ?_
 have hI_ := hE_.ext hI_ hC3 (fun q hq => Nat.le_trans hN_ ((hO.inN q ((fun _ h => h) q hq)).resolve_left (fun e => hO.apart q ((fun _ h => h) q hq) (mem_r (mem_l (nil_mem q e))))))
 have hb1 := hb1.chg hC3 (fun hg => hO.apart _ ((fun _ h => h) _ hg) (mem_l (List.mem_singleton.2 rfl)))
 have hC := hC.step hC3 (fun g hg => hO.inN g ((fun _ h => h) g hg))
 have hO := hO.ext hC3
 have hb3 : BoxV w3 g2 116 [(typeHandle Try.prog 49), (.pointer (some ⟨g1, 0, none⟩)), (.int .u64 151)] := hb3
 refine c_nil ?_
 refine c_seq (c_region ?_)
 refine pl_val (.iface 49 (.slice a_ n_ c_)) (y_move rfl) ?_
 obtain ⟨i4, hi4, hd4⟩ := Ti49
 refine pl_val (.func (.func sf_) #[] (if Go.Lib.swapperK n_ ie_ 23 ≤ 2 then #[] else #[.slice a_ n_ c_, typeHandle Try.prog 25])) ((y_callg rfl rfl (by rw [Fx100]; show Result.andThen (Sem.run Try.prog (Extern.ReflectliteSwapper.swapper "internal/reflectlite" (Extern.ReflectliteValue.valueError "Swapper") #[(.iface 49 (.slice a_ n_ c_))]) _) _ = _; rw [Go.Lib.run_swapper_slice 49 25 i4 ie_ hi4 hd4 hie_ 23 Ke25 a_ n_ c_ sf_ hf_]; rfl))) ?_
 refine pl_val (.func (.func sf_) #[] (if Go.Lib.swapperK n_ ie_ 23 ≤ 2 then #[] else #[.slice a_ n_ c_, typeHandle Try.prog 25])) (y_assign rfl) ?_
 refine c_nil ?_
 refine c_region ?_
 refine pl_val (.func (.func g_) #[] lb_) (y_move rfl) ?_
 refine pl_val (.func (.func sf_) #[] (if Go.Lib.swapperK n_ ie_ 23 ≤ 2 then #[] else #[.slice a_ n_ c_, typeHandle Try.prog 25])) (y_move rfl) ?_
 refine pl_val (.agg #[(.func (.func g_) #[] lb_), (.func (.func sf_) #[] (if Go.Lib.swapperK n_ ie_ 23 ≤ 2 then #[] else #[.slice a_ n_ c_, typeHandle Try.prog 25]))]) (y_build rfl (by kernel_rfl)) ?_
 refine pl_val (.agg #[(typeHandle Try.prog 49), (.pointer (some ⟨g1, 0, none⟩)), (.int .u64 151)]) (y_load rfl ((box_load Ag116 Sz116 hb3 [] [(typeHandle Try.prog 49), (.pointer (some ⟨g1, 0, none⟩)), (.int .u64 151)] [] rfl rfl (fun h => nomatch h)) _ (Chg.refl _ _))) ?_
 obtain ⟨i5, hi5, hd5⟩ := Ti49
 refine pl_val (.int .i64 (n_ : Int)) ((y_callg rfl rfl (by rw [Fx102]; show Result.andThen (Sem.run Try.prog (Extern.ReflectliteValue.method (Extern.ReflectliteValue.valueError "reflectlite.Value.Len" 0) Extern.ReflectliteValue.len #[(.agg #[(typeHandle Try.prog 49), (.pointer (some ⟨g1, 0, none⟩)), (.int .u64 151)])]) _) _ = _; rw [Go.Lib.run_valueLen_slice 49 25 i5 hi5 hd5 Pk49 _ _ _ _ _ (box_cell hb1)]; rfl))) ?_
 have hO := hO.fr2
 have hI6 := Own.lend (F := (G_ ++ ([]))) (R := ([g2]) ++ (([g1]) ++ ([]))) (Own.perm hO (by simp))
 obtain ⟨r7, hr7, hs⟩ := bind_some hs
 refine pl_call Bd101 rfl (c_sort_stable_func (M := M) ls_ d_ (n_ : Int) (Nat.le_trans hN_ hC.size) hE_ hI_ hI6 hO.fut hr7) ?_
 rintro _ w6 ⟨rfl, hC6, hv6⟩
 have hb1 := hb1.chg hC6 (fun hg => hO.apart _ (nil_mem _ hg) (mem_r (mem_l (List.mem_singleton.2 rfl))))
 have hb3 := hb3.chg hC6 (fun hg => hO.apart _ (nil_mem _ hg) (mem_l (List.mem_singleton.2 rfl)))
 have hC := hC.step hC6 (fun g hg => hO.inN g (nil_mem g hg))
 have hO := hO.ext hC6
 refine c_nil ?_
 cases hs
 exact ⟨_, fr_ovl 16 trivial, hC, hv6⟩

theorem Ei25 : ∃ ie, Try.prog.info? 25 = some ie ∧ ie.size = 1 ∧ ie.hasPointers = true ∧ (ie.bytes == 8) = false := ⟨(Try.prog.info? 25).get (by kernel_rfl), by kernel_rfl, by kernel_rfl, by kernel_rfl, by kernel_rfl⟩

theorem Fs2 : ∀ W, (callFunc 105 #[.int .i64 0, .int .i64 0]).run Try.prog W = .ok (.value (.tuple #[])) W := fun W => (run_callFunc_extern Try.func105 (by kernel_rfl) (by kernel_rfl) (by kernel_rfl) (e := (Extern.find Try.f105).get (by kernel_rfl)) (by kernel_rfl) _ W).trans (by kernel_rfl)

theorem Fx112 : ∀ args W, (callFunc 112 args).run Try.prog W = (((Extern.ReflectliteSwapper.swap false) args).run Try.prog W).andThen fun v w' => .ok (.value v) w' := fun args W => run_callFunc_extern Try.func112 (by kernel_rfl) (by kernel_rfl) (by kernel_rfl) (e := (Extern.ReflectliteSwapper.swap false)) (by kernel_rfl) args W

theorem Sn1 : Try.prog.funcs.findIdx? (·.name == "internal/reflectlite" ++ ".Swapper$" ++ toString 1) = some 104 := by kernel_rfl

theorem Sn2 : Try.prog.funcs.findIdx? (·.name == "internal/reflectlite" ++ ".Swapper$" ++ toString 2) = some 105 := by kernel_rfl

theorem Sn9 : Try.prog.funcs.findIdx? (·.name == "internal/reflectlite" ++ ".Swapper$" ++ toString 9) = some 112 := by kernel_rfl

theorem Bd95 : Bodied Try.prog 95 := bodied Try.func95 (by kernel_rfl) rfl

theorem Bd94 : Bodied Try.prog 94 := bodied Try.func94 (by kernel_rfl) rfl

def k_impl_sortRows__impl_compareTerms (M : Nat → Prop) (w0 : World) (qa0 : Option Addr) (qn0 qc0 : Nat) (qf0 : List Nat) (r : (List (List Int))) (a : Act) (w : World) : Prop :=
  ∃ (σ : Nat → Value) (rfi0 : List Nat), a = fr 8 (ovl σ []) ∧ Chg (qf0 ++ ([])) w0 w ∧ (RT.os 25 (RT.os 3 (RT.int .i64))).val M w (.slice qa0 qn0 qc0) r rfi0 ∧ Own (Nw w0 (qf0 ++ ([]))) (fun _ => True) w (rfi0 ++ ([]))
def s_impl_sortRows__impl_compareTerms (rows : List (List Int)) : Option ((List (List Int))) :=
  (s_sort_SliceStable (fun x_ y_ => (s_impl_compareTerms x_ y_).bind fun r_ => some (decide (r_ < 0))) rows (rows.length)).bind fun r5 =>
  some r5
set_option maxHeartbeats 4000000 in
theorem c_impl_sortRows__impl_compareTerms {M : Nat → Prop} {w : World} {pa0 : Option Addr} {pn0 pc0 : Nat} {pf0 : List Nat} (rows : List (List Int)) (h0 : (RT.os 25 (RT.os 3 (RT.int .i64))).val M w (.slice pa0 pn0 pc0) rows pf0) (hI : Own (Nw w (pf0 ++ ([]))) M w (pf0 ++ ([]))) (hM : ∀ g, w.heap.size ≤ g → M g) {r : (List (List Int))} (hs : s_impl_sortRows__impl_compareTerms rows = some r) :
    Gives Try.prog 77 [(.slice pa0 pn0 pc0), (.func (.func 78) #[] #[])] w (fun v w' => ∃ (rfi0 : List Nat), v = (.tuple #[]) ∧ Chg (pf0 ++ ([])) w w' ∧ (RT.os 25 (RT.os 3 (RT.int .i64))).val M w' (.slice pa0 pn0 pc0) r rfi0 ∧ Own (Nw w (pf0 ++ ([]))) (fun _ => True) w' (rfi0 ++ ([]))) := by
 refine calls_fr Try.func77 rfl Try.ntmps77 (Nat.le_of_ble_eq_true rfl) ?_
 have hO := hI
 have hC := Chg.refl (pf0 ++ ([])) w
 unfold s_impl_sortRows__impl_compareTerms at hs
 refine wp_mono (Q := KPostN (k_impl_sortRows__impl_compareTerms M w pa0 pn0 pc0 pf0 r)) ?_ (fun e a w1 h => ?_)
 rotate_left
 ·cases e
  case ret =>
   obtain ⟨σ, rfi0, rfl, hrest⟩ := h
   exact ret0x Try.results77  ⟨rfi0, rfl, hrest⟩
  case normal =>
   obtain ⟨σ, rfi0, rfl, hrest⟩ := h
   exact ret0n Try.results77  ⟨rfi0, rfl, hrest⟩
  all_goals exact (h : False).elim
 refine c_seq (c_region ?_)
 obtain ⟨w2, g2, ew2, eg2, hC2, hb2⟩ := new_block w [(.slice pa0 pn0 pc0)] 49
 refine pl_val (w' := w2) (.pointer (some ⟨g2, 0, none⟩)) (y_box rfl (by rw [ew2, eg2]; kernel_rfl)) ?_
 have h0 := h0.ext hC2
 have hC := hC.ext hC2
 have hO := hO.new1 hC2 eg2 hb2.lt
 obtain ⟨w3, g3, ew3, eg3, hC3, hb3⟩ := new_block w2 [(.func (.func 78) #[] #[])] 100
 refine pl_val (w' := w3) (.pointer (some ⟨g3, 0, none⟩)) (y_box rfl (by rw [ew3, eg3]; kernel_rfl)) ?_
 have h0 := h0.ext hC3
 have hb2 := hb2.chg hC3 (fun h => nomatch h)
 have hC := hC.ext hC3
 have hO := hO.new1 hC3 eg3 hb3.lt
 refine c_nil ?_
 refine c_region ?_
 refine pl_val (.slice pa0 pn0 pc0) (y_load rfl ((box_load Ag49 Sz49 hb2 [] [(.slice pa0 pn0 pc0)] [] rfl rfl (fun _ => rfl)) _ (Chg.refl _ _))) ?_
 refine pl_val (.iface 49 (.slice pa0 pn0 pc0)) (y_iface Try.underlying49 rfl) ?_
 refine pl_val (.func (.func 95) #[] #[(.pointer (some ⟨g3, 0, none⟩)), (.pointer (some ⟨g2, 0, none⟩))]) (y_func rfl rfl) ?_
 have hO := hO.fr2
 obtain ⟨ie4, hie4, hz4, hp4, hb4⟩ := Ei25
 have hl4 := os_n h0
 obtain ⟨sf4, hf4, hE4⟩ := sort_env (P := Try.prog) (ke := 23) (M := M) (gO := g3) (gR := g2) (tO := 100) (tR := 49) (fv := (.func (.func 78) #[] #[])) (ls := (fun x_ y_ => (s_impl_compareTerms x_ y_).bind fun r_ => some (decide (r_ < 0)))) (g := 95) (lb := #[(.pointer (some ⟨g3, 0, none⟩)), (.pointer (some ⟨g2, 0, none⟩))]) rfl hie4 hz4 Ag25 hp4 hb4 rfl Sn1 Sn2 Sn9 Fs2 Fx112 Bd95 hO.inM (fun hg => hO.apart _ hg (mem_l (List.mem_singleton.2 rfl))) (fun hg => hO.apart _ hg (mem_r (mem_l (List.mem_singleton.2 rfl)))) (fun h hm ho hr hf hl => c_impl_sortRows_1__impl_compareTerms (M := Less M _) _ _ _ ho (((Frz.os (Frz.os Frz.int))).val h Less.sub Less.not) hr (less_fut hf h.fpl) (show s_impl_sortRows_1__impl_compareTerms _ _ _ = some _ from hl)) h0 (n0 := (w3).heap.size) hO.lt hb3.lt hb2.lt hO.fut
 have hJ4 : SortI (RT.os 3 (RT.int .i64)) 25 M pa0 pn0 pc0 pf0 g3 g2 100 49 (.func (.func 78) #[] #[]) w3 rows := ⟨⟨_, h0, List.Perm.refl _⟩, hb3, hb2, hO.fut⟩
 have hI4 := Own.lend (F := (pf0 ++ ([]))) (R := ([g3]) ++ (([g2]) ++ ([]))) (Own.perm hO (by simp))
 obtain ⟨r5, hr5, hs⟩ := bind_some hs
 refine pl_call Bd94 rfl (c_sort_SliceStable (M := M) (fun x_ y_ => (s_impl_compareTerms x_ y_).bind fun r_ => some (decide (r_ < 0))) rows pn0 (Nat.le_refl _) hie4 hf4 hE4 hJ4 hI4 hO.fut (by rw [hl4]; exact hr5)) ?_
 rintro _ w4 ⟨rfl, hC4, ⟨⟨f4, hv4, hp4⟩, _, _, _⟩⟩
 have hb2 := hb2.chg hC4 (fun hg => hO.apart _ (nil_mem _ hg) (mem_r (mem_l (List.mem_singleton.2 rfl))))
 have hb3 := hb3.chg hC4 (fun hg => hO.apart _ (nil_mem _ hg) (mem_l (List.mem_singleton.2 rfl)))
 have hC := hC.step hC4 (fun g hg => hO.inN g (nil_mem g hg))
 have hO := hO.grow hC4 (fun q hq => .inl (hp4.mem_iff.1 hq)) (os_nodup hv4) hv4.fpl
 refine c_nil ?_
 cases hs
 have hO := hO.fr1
 have hO := hO.drop
 have hO := hO.fr1
 have hO := hO.drop
 exact ⟨_, f4, fr_ovl 8 trivial, hC, hv4, hO.top⟩

theorem Bd77 : Bodied Try.prog 77 := bodied Try.func77 (by kernel_rfl) rfl

theorem Rw43 : RowT Try.prog 43 51 2 [(.int .i64 0), (.slice none 0 0)] := ⟨Try.underlying43, ⟨_, _, rfl, rfl, rfl, rfl, by decide⟩, rfl, by decide⟩

def k_impl_pairRelations (M : Nat → Prop) (w0 : World) (r : (List (Int × (List (List Int)))) × Bool) (a : Act) (w : World) : Prop :=
  ∃ (σ : Nat → Value) (ra0 : Option Addr) (rn0 rc0 : Nat) (rf0 : List Nat), a = fr 120 (ovl σ [(4, (.slice ra0 rn0 rc0)), (5, (.bool r.2))]) ∧ Chg [] w0 w ∧ (RT.os 51 (RT.pr (RT.int .i64) (RT.os 25 (RT.os 3 (RT.int .i64))))).val M w (.slice ra0 rn0 rc0) r.1 rf0 ∧ Own (Nw w0 []) (fun _ => True) w (rf0 ++ ([]))
def s_impl_pairRelations (n : Int) (ops : List (Int × (List Int))) : Option ((List (Int × (List (List Int)))) × Bool) :=
  (mks (w64 (n * n)) (false : Bool)).bind fun y3 =>
  (s_impl_closePairs__take2 n ops y3).bind fun r6 =>
  (s_impl_marked r6).bind fun r9 =>
  (idx ([r9]) 0).bind fun x15 =>
  (s_impl_keyOf x15).bind fun r20 =>
  (iter (S := (List (List Int)) × Int × (List (ByteArray × Bool))) (R := (List (Int × (List (List Int)))) × Bool) (fun s724 =>
  (bif (decide (s724.2.1 < (s724.1.length : Int))) then (forC (S := (List (List Int)) × (List (ByteArray × Bool))) (R := (List (Int × (List (List Int)))) × Bool) (fun k846 s844 =>
  (idx s844.1 s724.2.1).bind fun x856 =>
  (s_impl_hasNot x856 k846).bind fun r861 =>
  (bif (!r861) then some (.nx (s844.1, s844.2)) else (idx s844.1 s724.2.1).bind fun x863 =>
  (s_impl_marks x863 (w64 (n * n))).bind fun r868 =>
  (idx r868 k846).bind fun x870 =>
  (s_impl_closePairs__take2 n ops (List.set r868 (Int.toNat k846) true)).bind fun r874 =>
  (s_impl_marked r874).bind fun r877 =>
  (s_impl_keyOf r877).bind fun r880 =>
  (bif (!((mget s844.2 r880).getD false)) then (app s844.1 ([r877])).bind fun y904 =>
  some (y904, mput s844.2 r880 true) else some (s844.1, s844.2)).bind fun s893 =>
  (bif (decide (200 < (s893.1.length : Int))) then some (.rt ([], false)) else some (.nx (s893.1, s893.2))))) 0 (w64 (n * n)) (s724.1, s724.2.2)).bind fun o848 => after o848 (fun r_ => some (.rt r_)) (fun s844 =>
  some (.nx (s844.1, w64 (s724.2.1 + 1), s844.2))) else some (.br (s724.1, s724.2.1, s724.2.2)))) FU ([r9], 0, mput ([]) r20 true)).bind fun o728 => after o728 (fun r_ => some r_) (fun s724 =>
  (s_impl_sortRows__impl_compareTerms s724.1).bind fun r908 =>
  (forR (S := (List (Int × (List (List Int))))) (R := (List (Int × (List (List Int)))) × Bool) (fun _ x976 s973 =>
  (forR (S := (List (List Int))) (R := (List (Int × (List (List Int)))) × Bool) (fun _ x1019 s1016 =>
  (nz n).bind fun u1028 =>
  (nz n).bind fun u1029 =>
  (app s1016 ([[w64 (Int.tdiv x1019 n), Int.tmod x1019 n]])).bind fun y1035 =>
  some (.nx y1035)) 0 x976 ([])).bind fun o1020 => after o1020 (fun r_ => some (.rt r_)) (fun s1016 =>
  (app s973 ([(2, s1016)])).bind fun y1041 =>
  some (.nx y1041))) 0 r908 ([])).bind fun o977 => after o977 (fun r_ => some r_) (fun s973 =>
  some (s973, true)))
set_option maxHeartbeats 4000000 in
theorem c_impl_pairRelations {M : Nat → Prop} {w : World} {pa0 : Option Addr} {pn0 pc0 : Nat} (n : Int) (ops : List (Int × (List Int))) (h0 : (RT.rs (RT.pr (RT.int .i64) (RT.rs (RT.int .i64)))).val M w (.slice pa0 pn0 pc0) ops ([])) (hM : ∀ g, w.heap.size ≤ g → M g) {r : (List (Int × (List (List Int)))) × Bool} (hs : s_impl_pairRelations n ops = some r) :
    Gives Try.prog 60 [(.int .i64 n), (.slice pa0 pn0 pc0)] w (fun v w' => ∃ (ra0 : Option Addr) (rn0 rc0 : Nat) (rf0 : List Nat), v = (.tuple #[(.slice ra0 rn0 rc0), (.bool r.2)]) ∧ Chg [] w w' ∧ (RT.os 51 (RT.pr (RT.int .i64) (RT.os 25 (RT.os 3 (RT.int .i64))))).val M w' (.slice ra0 rn0 rc0) r.1 rf0 ∧ Own (Nw w []) (fun _ => True) w' (rf0 ++ ([]))) := by
 refine calls_fr Try.func60 rfl Try.ntmps60 (Nat.le_of_ble_eq_true rfl) ?_
 have hO := Own.start (N := Nw w []) hM Nw.fut
 have hC := Chg.refl [] w
 unfold s_impl_pairRelations at hs
 refine wp_mono (Q := KPost (k_impl_pairRelations M w r)) ?_ (fun e a w1 h => ?_)
 rotate_left
 ·cases e
  case ret =>
   obtain ⟨σ, ra0, rn0, rc0, rf0, rfl, hrest⟩ := h
   exact ret2x Try.results60 (res_tmp rfl) (res_tmp rfl) ⟨ra0, rn0, rc0, rf0, rfl, hrest⟩
  all_goals exact (h : False).elim
 refine c_seq (c_region ?_)
 refine pl_val (.slice none 0 0) (y_assign rfl) ?_
 refine pl_val (.bool false) (y_assign rfl) ?_
 refine c_nil ?_
 refine c_seq (c_region ?_)
 refine pl_val (.int .i64 n) (y_move rfl) ?_
 refine pl_val (.slice pa0 pn0 pc0) (y_move rfl) ?_
 refine pl_val (.int .i64 n) (y_move rfl) ?_
 refine pl_val (.int .i64 n) (y_move rfl) ?_
 refine pl_val (.int .i64 (w64 (n * n))) (y_mul rfl rfl) ?_
 obtain ⟨y3, hy3, hs⟩ := bind_some hs
 obtain ⟨a2, n2, c2, w2, f2, hm2, hC2, hfr2, hv2⟩ := mk_os (M := M) (w := w) (r := RT.bool) Rw86 hy3 (fun _ _ => ⟨rfl, rfl⟩)
 refine pl_val (w' := w2) (.slice a2 n2 c2) (y_make rfl rfl hm2) ?_
 have h0 := h0.ext hC2
 have hC := hC.ext hC2
 have hO := hO.new hC2 hfr2 (os_nodup hv2) hv2.fpl
 have hL5 := hO
 have hI5 := Own.lend (F := (f2 ++ ([]))) (R := []) (Own.perm (hL5) (by simp))
 obtain ⟨r6, hr6, hs⟩ := bind_some hs
 refine pl_call Bd74 rfl (c_impl_closePairs__take2 (M := M) n ops y3 h0 hv2 hI5 hI5.fut hr6) ?_
 rintro _ w5 ⟨a5x0, n5x0, c5x0, f5x0, rfl, hC5, hv5x0, hOc5⟩
 have hO := hO.perm (R := (f2 ++ ([])) ++ ([])) (by simp)
 have h0 := h0.mut hC5 (fun g hg => hO.inM g ((fun _ h => h) g hg)) (fun _ _ h => nomatch h)
 have hC := hC.step hC5 (fun g hg => hO.inN g ((fun _ h => h) g hg))
 have hO := Own.join hO hC5 hOc5
 have hO := hO.perm (R := f5x0 ++ ([])) (by simp)
 obtain ⟨r9, hr9, hs⟩ := bind_some hs
 refine pl_call Bd65 rfl (c_impl_marked (M := (Less M f5x0)) r6 (((Frz.os Frz.bool)).val hv5x0 Less.sub Less.not) hO.less.fut hr9) ?_
 rintro _ w8 ⟨a8x0, n8x0, c8x0, f8x0, rfl, hC8, hv8x0, hOc8⟩
 have h0 := h0.ext hC8
 have hv5x0 := hv5x0.ext hC8
 have hC := hC.ext hC8
 have hO := Own.join0 hO hC8 hOc8
 have hO := hO.perm (R := f8x0 ++ (f5x0 ++ ([]))) (by simp)
 have hv8x0 := hv8x0.free (M' := M) (Free.os Free.int)
 obtain ⟨w11, g11, ew11, eg11, hC11, hb11⟩ := new_block w8 [(.slice a8x0 n8x0 c8x0)] 25
 refine pl_val (w' := w11) (.slice (some ⟨g11, 0, none⟩) 1 1) (y_bslice rfl (by rw [ew11, eg11]; kernel_rfl)) ?_
 have h0 := h0.ext hC11
 have hv5x0 := hv5x0.ext hC11
 have hv8x0 := hv8x0.ext hC11
 have hC := hC.ext hC11
 have hO := hO.new1 hC11 eg11 hb11.lt
 have hO := hO.perm (R := (g11 :: ((f8x0) ++ ([]))) ++ (f5x0 ++ ([]))) (by simp)
 have hnd11 := hO.nd
 have hv11 := os_of_box (r := (RT.os 3 (RT.int .i64))) (M := M) (css := [[(.slice a8x0 n8x0 c8x0)]]) (fps := [(f8x0 : List Nat)]) (xs := ([r9] : List (List Int))) hb11 ⟨(os_unval hv8x0), trivial⟩ (Nat.le_of_ble_eq_true rfl) hnd11
 have hv11 : (RT.os 25 (RT.os 3 (RT.int .i64))).val M w11 (.slice (some ⟨g11, 0, none⟩) 1 1) [r9] (g11 :: ((f8x0) ++ ([]))) := hv11
 refine pl_val (.slice (some ⟨g11, 0, none⟩) 1 1) (y_assign rfl) ?_
 refine c_nil ?_
 refine c_seq (c_region ?_)
 obtain ⟨w13, b13, ew13, eb13, hC13, hv13⟩ := mo_make (enc := Value.bool) (M := M) w11
 refine pl_val (w' := w13) (.map (some b13)) (by rw [ew13, eb13]; exact y_mmap) ?_
 have h0 := h0.ext hC13
 have hv5x0 := hv5x0.ext hC13
 have hv11 := hv11.ext hC13
 have hC := hC.ext hC13
 have hO := hO.new (X' := [b13]) hC13 (fun q hq => by rw [List.mem_singleton.1 hq, eb13]; exact Nat.le_refl _) (List.nodup_cons.2 ⟨(fun h => nomatch h), List.nodup_nil⟩) hv13.fpl
 refine pl_val (.slice (some ⟨g11, 0, none⟩) 1 1) (y_move rfl) ?_
 obtain ⟨x15, hx15, hs⟩ := bind_some hs
 obtain ⟨g16, f16, hg16, hk16, hp16, ha16, hf16⟩ := os_idx Sl49 Sz25 hv11 hx15
 have hb16 := own_row (Frz.os Frz.int) ha16 hf16
 refine pl_val (.pointer (some ⟨g16, 0 + Int.toNat 0 * 1, none⟩)) (hp16 _ _ _ _ _ _ _ _ _ rfl rfl) ?_
 obtain ⟨v17, hl17, hrow17, hv17⟩ := at_load1 Ag25 Sz25 rfl rfl hb16
 obtain ⟨a17, n17, c17, rfl⟩ := rs_sl hv17
 refine pl_val (.slice a17 n17 c17) (y_load rfl (hl17 _ (Chg.refl _ _))) ?_
 have hO := hO.fr1
 obtain ⟨r20, hr20, hs⟩ := bind_some hs
 refine pl_call Bd68 rfl (c_impl_keyOf (M := (Less M (g11 :: ((f8x0) ++ ([]))))) x15 hv17 hO.less.fut hr20) ?_
 rintro _ w19 ⟨rfl, hC19⟩
 have h0 := h0.ext hC19
 have hv5x0 := hv5x0.ext hC19
 have hv11 := hv11.ext hC19
 have hv13 := hv13.ext hC19
 have hv17 := hv17.ext hC19
 have hrow17 := hrow17.chg hC19 (fun h => nomatch h)
 have hC := hC.ext hC19
 have hO := hO.ext hC19
 have hO := hO.fr1
 obtain ⟨w21, hst21, hC21, hv21⟩ := mo_put (P := Try.prog) (t := 88) (key := r20) (x := true) Try.underlying88 Try.underlying9 hv13
 refine pl_skip (w' := w21) (ys_ins rfl rfl rfl hst21) ?_
 have h0 := h0.mut hC21 (fun g hg => hO.inM g ((fun _ h => h) g hg)) (fun _ _ h => nomatch h)
 have hv5x0 := hv5x0.mut hC21 (fun g hg => hO.inM g ((fun _ h => h) g hg)) (fun g hg e => hO.apart g ((fun _ h => h) g hg) (mem_r (mem_l (e))))
 have hv11 := hv11.mut hC21 (fun g hg => hO.inM g ((fun _ h => h) g hg)) (fun g hg e => hO.apart g ((fun _ h => h) g hg) (mem_l (e)))
 have hv17 := hv17.mut hC21 (fun g hg => ⟨hO.inM g ((fun _ h => h) g hg), fun e => hO.apart g ((fun _ h => h) g hg) (mem_l (e))⟩) (fun _ _ h => nomatch h)
 have hC := hC.step hC21 (fun g hg => hO.inN g ((fun _ h => h) g hg))
 have hO := hO.ext hC21
 refine pl_val (.map (some b13)) (y_move rfl) ?_
 refine pl_val (.map (some b13)) (y_assign rfl) ?_
 refine c_nil ?_
 refine c_seq ?_
 refine c_seq (c_region ?_)
 refine pl_val (.int .i64 0) (y_assign rfl) ?_
 refine c_nil ?_
 have hO := hO.fr2
 have hO := hO.drop
 obtain ⟨o728, hl729, hs⟩ := bind_some hs
 refine wp_block ?_
 refine wp_iter (id := 0) (I := fun s724 a w725 => ∃ (σ : Nat → Value) (a730 : Option Addr) (n730 : Nat) (c730 : Nat) (f730 : List Nat) (f732 : List Nat), a = fr 120 (ovl σ [(0, (.int .i64 n)), (1, (.slice pa0 pn0 pc0)), (6, (.slice a730 n730 c730)), (7, (.map (some b13))), (8, (.int .i64 s724.2.1))]) ∧ Chg [] w w725 ∧ Own (Nw w []) M w725 (f730 ++ (f732 ++ [])) ∧ (RT.rs (RT.pr (RT.int .i64) (RT.rs (RT.int .i64)))).val M w725 (.slice pa0 pn0 pc0) ops ([]) ∧ (RT.mo Value.bool).val M w725 (.map (some b13)) s724.2.2 f732 ∧ (RT.os 25 (RT.os 3 (RT.int .i64))).val M w725 (.slice a730 n730 c730) s724.1 f730) (J := fun s724 a w725 => ∃ (σ : Nat → Value) (a733 : Option Addr) (n733 : Nat) (c733 : Nat) (f733 : List Nat) (f735 : List Nat), a = fr 120 (ovl σ [(0, (.int .i64 n)), (6, (.slice a733 n733 c733))]) ∧ Chg [] w w725 ∧ Own (Nw w []) M w725 (f733 ++ (f735 ++ [])) ∧ (RT.rs (RT.pr (RT.int .i64) (RT.rs (RT.int .i64)))).val M w725 (.slice pa0 pn0 pc0) ops ([]) ∧ (RT.mo Value.bool).val M w725 (.map (some b13)) s724.2.2 f735 ∧ (RT.os 25 (RT.os 3 (RT.int .i64))).val M w725 (.slice a733 n733 c733) s724.1 f733) (K := (k_impl_pairRelations M w)) ?_ FU ([r9], 0, mput ([]) r20 true) o728 _ _ ?_ hl729 ?_
 ·rintro s724 o728 a w725 ⟨σ, a730, n730, c730, f730, f732, rfl, hC, hO, h0, hv732, hv730⟩ hs
  refine c_seq ?_
  refine c_seq (c_region ?_)
  refine pl_val (.int .i64 s724.2.1) (y_move rfl) ?_
  refine pl_val (.slice a730 n730 c730) (y_move rfl) ?_
  refine pl_val (.int .i64 (s724.1.length : Int)) (y_len' Sl49 (os_len hv730) rfl) ?_
  refine pl_val (.bool (decide (s724.2.1 < (s724.1.length : Int)))) (y_lss rfl rfl) ?_
  refine c_nil ?_
  rcases bif_some hs with ⟨hc736, hs⟩ | ⟨hc736, hs⟩
  ·skip
   refine c_condT (congrArg Value.bool hc736) ?_
   refine wp_skip ?_
   refine c_seq ?_
   refine wp_block ?_
   refine c_seq (c_region ?_)
   refine pl_val (.int .i64 0) (y_assign rfl) ?_
   refine c_nil ?_
   obtain ⟨o848, hl849, hs⟩ := bind_some hs
   refine wp_block ?_
   refine wp_forC (id := 2) (w64 (n * n)) (I := fun k846 s844 a w845 => ∃ (σ : Nat → Value) (a850 : Option Addr) (n850 : Nat) (c850 : Nat) (f850 : List Nat) (f852 : List Nat), a = fr 120 (ovl σ [(0, (.int .i64 n)), (1, (.slice pa0 pn0 pc0)), (6, (.slice a850 n850 c850)), (7, (.map (some b13))), (8, (.int .i64 s724.2.1)), (9, (.int .i64 k846))]) ∧ Chg [] w w845 ∧ Own (Nw w []) M w845 (f850 ++ (f852 ++ [])) ∧ (RT.rs (RT.pr (RT.int .i64) (RT.rs (RT.int .i64)))).val M w845 (.slice pa0 pn0 pc0) ops ([]) ∧ (RT.mo Value.bool).val M w845 (.map (some b13)) s844.2 f852 ∧ (RT.os 25 (RT.os 3 (RT.int .i64))).val M w845 (.slice a850 n850 c850) s844.1 f850) (J := fun s844 a w845 => ∃ (σ : Nat → Value) (a853 : Option Addr) (n853 : Nat) (c853 : Nat) (f853 : List Nat) (f855 : List Nat), a = fr 120 (ovl σ [(0, (.int .i64 n)), (1, (.slice pa0 pn0 pc0)), (6, (.slice a853 n853 c853)), (7, (.map (some b13))), (8, (.int .i64 s724.2.1))]) ∧ Chg [] w w845 ∧ Own (Nw w []) M w845 (f853 ++ (f855 ++ [])) ∧ (RT.rs (RT.pr (RT.int .i64) (RT.rs (RT.int .i64)))).val M w845 (.slice pa0 pn0 pc0) ops ([]) ∧ (RT.mo Value.bool).val M w845 (.map (some b13)) s844.2 f855 ∧ (RT.os 25 (RT.os 3 (RT.int .i64))).val M w845 (.slice a853 n853 c853) s844.1 f853) (K := (k_impl_pairRelations M w)) ?_ ?_ 0 (s724.1, s724.2.2) o848 _ _ ?_ hl849 ?_
   ·rintro k846 s844 a w845 ⟨σ, a850, n850, c850, f850, f852, rfl, hC, hO, h0, hv852, hv850⟩ hlt
    refine c_seq ?_
    refine c_seq (c_region ?_)
    refine pl_val (.int .i64 k846) (y_move rfl) ?_
    refine pl_val (.int .i64 n) (y_move rfl) ?_
    refine pl_val (.int .i64 n) (y_move rfl) ?_
    refine pl_val (.int .i64 (w64 (n * n))) (y_mul rfl rfl) ?_
    refine pl_val (.bool (decide (k846 < (w64 (n * n))))) (y_lss rfl rfl) ?_
    refine c_nil ?_
    refine c_condF (congrArg Value.bool (decide_eq_false hlt)) ?_
    refine wp_exit ?_
    have hO := hO.fr1
    have hO := hO.fr1
    exact ⟨rfl, _, a850, n850, c850, f850, f852, fr_ovl 120 ⟨rfl, rfl, rfl, rfl, rfl, trivial⟩, hC, hO, h0, hv852, hv850⟩
   ·rintro k846 s844 o848 a w845 ⟨σ, a850, n850, c850, f850, f852, rfl, hC, hO, h0, hv852, hv850⟩ hlt hw hs
    refine c_seq ?_
    refine c_seq (c_region ?_)
    refine pl_val (.int .i64 k846) (y_move rfl) ?_
    refine pl_val (.int .i64 n) (y_move rfl) ?_
    refine pl_val (.int .i64 n) (y_move rfl) ?_
    refine pl_val (.int .i64 (w64 (n * n))) (y_mul rfl rfl) ?_
    refine pl_val (.bool (decide (k846 < (w64 (n * n))))) (y_lss rfl rfl) ?_
    refine c_nil ?_
    refine c_condT (congrArg Value.bool (decide_eq_true hlt)) ?_
    refine wp_skip ?_
    refine c_seq ?_
    refine wp_block ?_
    refine c_seq ?_
    refine c_seq (c_region ?_)
    refine pl_val (.slice a850 n850 c850) (y_move rfl) ?_
    refine pl_val (.int .i64 s724.2.1) (y_move rfl) ?_
    obtain ⟨x856, hx856, hs⟩ := bind_some hs
    obtain ⟨g857, f857, hg857, hk857, hp857, ha857, hf857⟩ := os_idx Sl49 Sz25 hv850 hx856
    have hb857 := own_row (Frz.os Frz.int) ha857 hf857
    refine pl_val (.pointer (some ⟨g857, 0 + Int.toNat s724.2.1 * 1, none⟩)) (hp857 _ _ _ _ _ _ _ _ _ rfl rfl) ?_
    obtain ⟨v858, hl858, hrow858, hv858⟩ := at_load1 Ag25 Sz25 rfl rfl hb857
    obtain ⟨a858, n858, c858, rfl⟩ := rs_sl hv858
    refine pl_val (.slice a858 n858 c858) (y_load rfl (hl858 _ (Chg.refl _ _))) ?_
    refine pl_val (.int .i64 k846) (y_move rfl) ?_
    obtain ⟨r861, hr861, hs⟩ := bind_some hs
    refine pl_call Bd75 rfl (c_impl_hasNot (M := (Less M f850)) x856 k846 hv858 hO.less.fut hr861) ?_
    rintro _ w860 ⟨rfl, hC860⟩
    have h0 := h0.ext hC860
    have hv852 := hv852.ext hC860
    have hv850 := hv850.ext hC860
    have hv858 := hv858.ext hC860
    have hrow858 := hrow858.chg hC860 (fun h => nomatch h)
    have hC := hC.ext hC860
    have hO := hO.ext hC860
    refine pl_val (.bool (!r861)) (y_not rfl) ?_
    refine c_nil ?_
    rcases bif_some hs with ⟨hc862, hs⟩ | ⟨hc862, hs⟩
    ·skip
     refine c_condT (congrArg Value.bool hc862) ?_
     refine wp_exit ?_
     refine c_region ?_
     refine pl_val (.int .i64 k846) (y_move rfl) ?_
     refine pl_val (.int .i64 (w64 (k846 + 1))) (y_add rfl rfl) ?_
     refine pl_val (.int .i64 (w64 (k846 + 1))) (y_assign rfl) ?_
     refine c_nil ?_
     cases hs
     have hO := hO.fr1
     have hO := hO.fr1
     exact ⟨_, a850, n850, c850, f850, f852, fr_ovl 120 ⟨rfl, rfl, rfl, rfl, rfl, congrArg (Value.int .i64) hw, trivial⟩, hC, hO, h0, hv852, hv850⟩
    ·skip
     refine c_condF (congrArg Value.bool hc862) ?_
     refine wp_skip ?_
     refine c_seq (c_region ?_)
     refine pl_val (.slice a850 n850 c850) (y_move rfl) ?_
     refine pl_val (.int .i64 s724.2.1) (y_move rfl) ?_
     obtain ⟨x863, hx863, hs⟩ := bind_some hs
     obtain ⟨g864, f864, hg864, hk864, hp864, ha864, hf864⟩ := os_idx Sl49 Sz25 hv850 hx863
     have hb864 := own_row (Frz.os Frz.int) ha864 hf864
     refine pl_val (.pointer (some ⟨g864, 0 + Int.toNat s724.2.1 * 1, none⟩)) (hp864 _ _ _ _ _ _ _ _ _ rfl rfl) ?_
     obtain ⟨v865, hl865, hrow865, hv865⟩ := at_load1 Ag25 Sz25 rfl rfl hb864
     obtain ⟨a865, n865, c865, rfl⟩ := rs_sl hv865
     refine pl_val (.slice a865 n865 c865) (y_load rfl (hl865 _ (Chg.refl _ _))) ?_
     refine pl_val (.int .i64 n) (y_move rfl) ?_
     refine pl_val (.int .i64 n) (y_move rfl) ?_
     refine pl_val (.int .i64 (w64 (n * n))) (y_mul rfl rfl) ?_
     obtain ⟨r868, hr868, hs⟩ := bind_some hs
     refine pl_call Bd76 rfl (c_impl_marks (M := (Less M f850)) x863 (w64 (n * n)) hv865 hO.less.fut hr868) ?_
     rintro _ w867 ⟨a867x0, n867x0, c867x0, f867x0, rfl, hC867, hv867x0, hOc867⟩
     have h0 := h0.ext hC867
     have hv852 := hv852.ext hC867
     have hv850 := hv850.ext hC867
     have hv865 := hv865.ext hC867
     have hrow865 := hrow865.chg hC867 (fun h => nomatch h)
     have hC := hC.ext hC867
     have hO := Own.join0 hO hC867 hOc867
     have hO := hO.perm (R := f867x0 ++ (f850 ++ (f852 ++ ([])))) (by simp)
     have hv867x0 := hv867x0.free (M' := M) (Free.os Free.bool)
     refine pl_val (.slice a867x0 n867x0 c867x0) (y_assign rfl) ?_
     refine c_nil ?_
     refine c_seq (c_region ?_)
     refine pl_val (.slice a867x0 n867x0 c867x0) (y_move rfl) ?_
     refine pl_val (.int .i64 k846) (y_move rfl) ?_
     obtain ⟨x870, hx870, hs⟩ := bind_some hs
     obtain ⟨g871, f871, hg871, hk871, hp871, ha871, hf871⟩ := os_idx Sl86 Sz4 hv867x0 hx870
     refine pl_val (.pointer (some ⟨g871, 0 + Int.toNat k846 * 1, none⟩)) (hp871 _ _ _ _ _ _ _ _ _ rfl rfl) ?_
     obtain ⟨w872, f872, hst872, hC872, hf872, hv872⟩ := os_store (P := Try.prog) (c' := [(.bool true)]) hg871 hv867x0 hk871 (fun g hg => hO.inM g (os_block hv867x0 g (by simpa using hg))) ⟨rfl, rfl⟩ List.nodup_nil (fun _ h => nomatch h) (fun _ h => .inl h)
     have hG872 : ∀ q ∈ [g871], q ∈ f867x0 := fun q hq => os_block hv867x0 q (by rw [hg871]; exact hq)
     refine pl_skip (w' := w872) (ys_store rfl rfl (hst872 _ _ rfl Sz4)) ?_
     have h0 := h0.mut hC872 (fun g hg => hO.inM g (hG872 g hg)) (fun _ _ h => nomatch h)
     have hv852 := hv852.mut hC872 (fun g hg => hO.inM g (hG872 g hg)) (fun g hg e => hO.apart g (hG872 g hg) (mem_r (mem_l (e))))
     have hv850 := hv850.mut hC872 (fun g hg => hO.inM g (hG872 g hg)) (fun g hg e => hO.apart g (hG872 g hg) (mem_l (e)))
     have hC := hC.step hC872 (fun g hg => hO.inN g (hG872 g hg))
     have hO := hO.grow hC872 (fun q hq => .inl ((hf872 q hq).resolve_right (fun h => nomatch h))) (os_nodup hv872) hv872.fpl
     refine c_nil ?_
     refine c_seq (c_region ?_)
     refine pl_val (.int .i64 n) (y_move rfl) ?_
     refine pl_val (.slice pa0 pn0 pc0) (y_move rfl) ?_
     refine pl_val (.slice a867x0 n867x0 c867x0) (y_move rfl) ?_
     have hL873 := hO
     have hI873 := Own.lend (F := (f872 ++ ([]))) (R := f850 ++ (f852 ++ ([]))) (Own.perm (hL873) (by simp))
     obtain ⟨r874, hr874, hs⟩ := bind_some hs
     refine pl_call Bd74 rfl (c_impl_closePairs__take2 (M := M) n ops (List.set r868 (Int.toNat k846) true) h0 hv872 hI873 hI873.fut hr874) ?_
     rintro _ w873 ⟨a873x0, n873x0, c873x0, f873x0, rfl, hC873, hv873x0, hOc873⟩
     have hO := hO.perm (R := (f872 ++ ([])) ++ (f850 ++ (f852 ++ ([])))) (by simp)
     have h0 := h0.mut hC873 (fun g hg => hO.inM g ((fun _ h => h) g hg)) (fun _ _ h => nomatch h)
     have hv852 := hv852.mut hC873 (fun g hg => hO.inM g ((fun _ h => h) g hg)) (fun g hg e => hO.apart g ((fun _ h => h) g hg) (mem_r (mem_l (e))))
     have hv850 := hv850.mut hC873 (fun g hg => hO.inM g ((fun _ h => h) g hg)) (fun g hg e => hO.apart g ((fun _ h => h) g hg) (mem_l (e)))
     have hC := hC.step hC873 (fun g hg => hO.inN g ((fun _ h => h) g hg))
     have hO := Own.join hO hC873 hOc873
     have hO := hO.perm (R := f873x0 ++ (f850 ++ (f852 ++ ([])))) (by simp)
     obtain ⟨r877, hr877, hs⟩ := bind_some hs
     refine pl_call Bd65 rfl (c_impl_marked (M := (Less M f873x0)) r874 (((Frz.os Frz.bool)).val hv873x0 Less.sub Less.not) hO.less.fut hr877) ?_
     rintro _ w876 ⟨a876x0, n876x0, c876x0, f876x0, rfl, hC876, hv876x0, hOc876⟩
     have h0 := h0.ext hC876
     have hv852 := hv852.ext hC876
     have hv850 := hv850.ext hC876
     have hv873x0 := hv873x0.ext hC876
     have hC := hC.ext hC876
     have hO := Own.join0 hO hC876 hOc876
     have hO := hO.perm (R := f876x0 ++ (f873x0 ++ (f850 ++ (f852 ++ ([]))))) (by simp)
     have hv876x0 := hv876x0.free (M' := M) (Free.os Free.int)
     refine pl_val (.slice a876x0 n876x0 c876x0) (y_assign rfl) ?_
     refine c_nil ?_
     refine c_seq ?_
     refine c_seq (c_region ?_)
     refine pl_val (.slice a876x0 n876x0 c876x0) (y_move rfl) ?_
     obtain ⟨r880, hr880, hs⟩ := bind_some hs
     refine pl_call Bd68 rfl (c_impl_keyOf (M := (Less M f876x0)) r877 (((Frz.os Frz.int)).val hv876x0 Less.sub Less.not) hO.less.fut hr880) ?_
     rintro _ w879 ⟨rfl, hC879⟩
     have h0 := h0.ext hC879
     have hv852 := hv852.ext hC879
     have hv850 := hv850.ext hC879
     have hv873x0 := hv873x0.ext hC879
     have hv876x0 := hv876x0.ext hC879
     have hC := hC.ext hC879
     have hO := hO.ext hC879
     refine pl_val (.string r880) (y_assign rfl) ?_
     refine c_nil ?_
     refine c_seq (c_region ?_)
     refine pl_val (.map (some b13)) (y_move rfl) ?_
     refine pl_val (.string r880) (y_move rfl) ?_
     refine pl_val (.bool ((mget s844.2 r880).getD false)) (y_look (enc := Value.bool) Try.underlying88 Try.underlying9 Zv4 (mo_at hv852) rfl rfl) ?_
     refine pl_val (.bool (!((mget s844.2 r880).getD false))) (y_not rfl) ?_
     refine c_nil ?_
     obtain ⟨s893, hm895, hs⟩ := bind_some hs
     refine c_mid (I := fun a w894 => ∃ (σ : Nat → Value) (a896 : Option Addr) (n896 : Nat) (c896 : Nat) (f896 : List Nat) (f898 : List Nat), a = fr 120 (ovl σ [(0, (.int .i64 n)), (1, (.slice pa0 pn0 pc0)), (6, (.slice a896 n896 c896)), (7, (.map (some b13))), (8, (.int .i64 s724.2.1)), (9, (.int .i64 k846))]) ∧ Chg [] w w894 ∧ Own (Nw w []) M w894 (f896 ++ (f898 ++ [])) ∧ (RT.rs (RT.pr (RT.int .i64) (RT.rs (RT.int .i64)))).val M w894 (.slice pa0 pn0 pc0) ops ([]) ∧ (RT.mo Value.bool).val M w894 (.map (some b13)) s893.2 f898 ∧ (RT.os 25 (RT.os 3 (RT.int .i64))).val M w894 (.slice a896 n896 c896) s893.1 f896) ?_ ?_
     ·replace hs := hm895
      rcases bif_some hs with ⟨hc899, hs⟩ | ⟨hc899, hs⟩
      ·skip
       refine c_condT (congrArg Value.bool hc899) ?_
       refine c_seq (c_region ?_)
       refine pl_val (.map (some b13)) (y_move rfl) ?_
       refine pl_val (.string r880) (y_move rfl) ?_
       have hO := hO.fr3
       obtain ⟨w900, hst900, hC900, hv900⟩ := mo_put (P := Try.prog) (t := 88) (key := r880) (x := true) Try.underlying88 Try.underlying9 hv852
       refine pl_skip (w' := w900) (ys_put rfl rfl rfl hst900) ?_
       have h0 := h0.mut hC900 (fun g hg => hO.inM g ((fun _ h => h) g hg)) (fun _ _ h => nomatch h)
       have hv850 := hv850.mut hC900 (fun g hg => hO.inM g ((fun _ h => h) g hg)) (fun g hg e => hO.apart g ((fun _ h => h) g hg) (mem_r (mem_r (mem_l (e)))))
       have hv873x0 := hv873x0.mut hC900 (fun g hg => hO.inM g ((fun _ h => h) g hg)) (fun g hg e => hO.apart g ((fun _ h => h) g hg) (mem_r (mem_l (e))))
       have hv876x0 := hv876x0.mut hC900 (fun g hg => hO.inM g ((fun _ h => h) g hg)) (fun g hg e => hO.apart g ((fun _ h => h) g hg) (mem_l (e)))
       have hC := hC.step hC900 (fun g hg => hO.inN g ((fun _ h => h) g hg))
       have hO := hO.ext hC900
       refine c_nil ?_
       refine c_region ?_
       refine pl_val (.slice a850 n850 c850) (y_move rfl) ?_
       refine pl_val (.slice a876x0 n876x0 c876x0) (y_move rfl) ?_
       obtain ⟨w901, g901, ew901, eg901, hC901, hb901⟩ := new_block w900 [(.slice a876x0 n876x0 c876x0)] 25
       refine pl_val (w' := w901) (.slice (some ⟨g901, 0, none⟩) 1 1) (y_bslice rfl (by rw [ew901, eg901]; kernel_rfl)) ?_
       have h0 := h0.ext hC901
       have hv900 := hv900.ext hC901
       have hv850 := hv850.ext hC901
       have hv873x0 := hv873x0.ext hC901
       have hv876x0 := hv876x0.ext hC901
       have hC := hC.ext hC901
       have hO := hO.fr1
       have hO := hO.new1 hC901 eg901 hb901.lt
       have hO := hO.perm (R := (g901 :: ((f876x0) ++ ([]))) ++ (f852 ++ (f873x0 ++ (f850 ++ ([]))))) (by simp)
       have hnd901 := hO.nd
       have hv901 := os_of_box (r := (RT.os 3 (RT.int .i64))) (M := M) (css := [[(.slice a876x0 n876x0 c876x0)]]) (fps := [(f876x0 : List Nat)]) (xs := ([r877] : List (List Int))) hb901 ⟨(os_unval hv876x0), trivial⟩ (Nat.le_of_ble_eq_true rfl) hnd901
       have hv901 : (RT.os 25 (RT.os 3 (RT.int .i64))).val M w901 (.slice (some ⟨g901, 0, none⟩) 1 1) [r877] (g901 :: ((f876x0) ++ ([]))) := hv901
       obtain ⟨y904, hy904, hs⟩ := bind_some hs
       have hO := hO.fr3
       obtain ⟨a903, n903, c903, w903, f903, hr903, hC903, hf903, hv903⟩ := app_os Rw49 hy904 hv850 hv901 hO.inM (fun g hg hq => hO.apart g hq (mem_l hg))
       have hG903 := os_block hv850
       refine pl_val (w' := w903) (.slice a903 n903 c903) (y_append rfl rfl (hr903 _)) ?_
       have hO := hO.fr1
       have hO := hO.fr1
       have h0 := h0.mut hC903 (fun g hg => hO.inM g (hG903 g hg)) (fun _ _ h => nomatch h)
       have hv900 := hv900.mut hC903 (fun g hg => hO.inM g (hG903 g hg)) (fun g hg e => hO.apart g (hG903 g hg) (mem_r (mem_l (e))))
       have hv873x0 := hv873x0.mut hC903 (fun g hg => hO.inM g (hG903 g hg)) (fun g hg e => hO.apart g (hG903 g hg) (mem_r (mem_r (mem_l (e)))))
       have hC := hC.step hC903 (fun g hg => hO.inN g (hG903 g hg))
       have hO := hO.eat hC903 hf903 (os_nodup hv903) hv903.fpl
       refine pl_val (.slice a903 n903 c903) (y_assign rfl) ?_
       refine c_nil ?_
       cases hs
       have hO := hO.fr2
       have hO := hO.drop
       have hO := hO.fr1
       have hO := hO.fr1
       exact ⟨_, a903, n903, c903, f903, f852, fr_ovl 120 ⟨rfl, rfl, rfl, rfl, rfl, rfl, trivial⟩, hC, hO, h0, hv900, hv903⟩
      ·skip
       refine c_condF (congrArg Value.bool hc899) ?_
       refine wp_skip ?_
       cases hs
       have hO := hO.drop
       have hO := hO.drop
       have hO := hO.fr1
       have hO := hO.fr1
       exact ⟨_, a850, n850, c850, f850, f852, fr_ovl 120 ⟨rfl, rfl, rfl, rfl, rfl, rfl, trivial⟩, hC, hO, h0, hv852, hv850⟩
     ·rintro a1 w894 ⟨σ, a896, n896, c896, f896, f898, rfl, hC, hO, h0, hv898, hv896⟩
      refine c_seq (c_region ?_)
      refine pl_val (.slice a896 n896 c896) (y_move rfl) ?_
      refine pl_val (.int .i64 (s893.1.length : Int)) (y_len' Sl49 (os_len hv896) rfl) ?_
      refine pl_val (.bool (decide (200 < (s893.1.length : Int)))) (y_gtr rfl rfl) ?_
      refine c_nil ?_
      rcases bif_some hs with ⟨hc906, hs⟩ | ⟨hc906, hs⟩
      ·skip
       refine c_condT (congrArg Value.bool hc906) ?_
       refine c_seq (c_region ?_)
       refine pl_val (.slice none 0 0) (y_assign rfl) ?_
       refine pl_val (.bool false) (y_assign rfl) ?_
       refine c_nil ?_
       refine wp_ret ?_
       cases hs
       have hO := hO.drop
       have hO := hO.drop
       have hO := hO.nil
       exact ⟨_, none, 0, 0, [], fr_ovl 120 ⟨rfl, rfl, trivial⟩, hC, os_nil, hO.top⟩
      ·skip
       refine c_condF (congrArg Value.bool hc906) ?_
       refine wp_skip ?_
       refine c_region ?_
       refine pl_val (.int .i64 k846) (y_move rfl) ?_
       refine pl_val (.int .i64 (w64 (k846 + 1))) (y_add rfl rfl) ?_
       refine pl_val (.int .i64 (w64 (k846 + 1))) (y_assign rfl) ?_
       refine c_nil ?_
       cases hs
       have hO := hO.fr1
       have hO := hO.fr1
       exact ⟨_, a896, n896, c896, f896, f898, fr_ovl 120 ⟨rfl, rfl, rfl, rfl, rfl, congrArg (Value.int .i64) hw, trivial⟩, hC, hO, h0, hv898, hv896⟩
   ·skip
    have hO := hO.fr1
    have hO := hO.fr1
    exact ⟨_, a730, n730, c730, f730, f732, fr_ovl 120 ⟨rfl, rfl, rfl, rfl, rfl, rfl, trivial⟩, hC, hO, h0, hv732, hv730⟩
   ·cases o848 with
    | nx _ => exact True.intro
    | rt r_ =>
     have hs := after_rt hs
     intro a1 w1 hK
     cases hs
     exact hK
    | br s844 =>
     have hs := after_br hs
     rintro a1 w845 ⟨σ, a853, n853, c853, f853, f855, rfl, hC, hO, h0, hv855, hv853⟩
     refine c_region ?_
     refine pl_val (.int .i64 s724.2.1) (y_move rfl) ?_
     refine pl_val (.int .i64 (w64 (s724.2.1 + 1))) (y_add rfl rfl) ?_
     refine pl_val (.int .i64 (w64 (s724.2.1 + 1))) (y_assign rfl) ?_
     refine c_nil ?_
     cases hs
     have hO := hO.fr1
     have hO := hO.fr1
     exact ⟨_, a853, n853, c853, f853, f855, fr_ovl 120 ⟨rfl, rfl, rfl, rfl, rfl, trivial⟩, hC, hO, h0, hv855, hv853⟩
  ·skip
   refine c_condF (congrArg Value.bool hc736) ?_
   refine wp_exit ?_
   cases hs
   have hO := hO.fr1
   have hO := hO.fr1
   exact ⟨rfl, _, a730, n730, c730, f730, f732, fr_ovl 120 ⟨rfl, rfl, trivial⟩, hC, hO, h0, hv732, hv730⟩
 ·skip
  have hO := hO.fr1
  exact ⟨_, (some ⟨g11, 0, none⟩), 1, 1, (g11 :: ((f8x0) ++ ([]))), [b13], fr_ovl 120 ⟨rfl, rfl, rfl, rfl, rfl, trivial⟩, hC, hO, h0, hv21, hv11⟩
 ·cases o728 with
  | nx _ => exact True.intro
  | rt r_ =>
   have hs := after_rt hs
   intro a1 w1 hK
   cases hs
   exact hK
  | br s724 =>
   have hs := after_br hs
   rintro a1 w725 ⟨σ, a733, n733, c733, f733, f735, rfl, hC, hO, h0, hv735, hv733⟩
   refine c_seq (c_region ?_)
   refine pl_val (.slice a733 n733 c733) (y_move rfl) ?_
   have hL907 := hO
   have hI907 := Own.lend (F := (f733 ++ ([]))) (R := f735 ++ ([])) (Own.perm (hL907) (by simp))
   obtain ⟨r908, hr908, hs⟩ := bind_some hs
   refine pl_call Bd77 rfl (c_impl_sortRows__impl_compareTerms (M := M) s724.1 hv733 hI907 hI907.fut hr908) ?_
   rintro _ w907 ⟨fi907x0, rfl, hC907, hvi907x0, hOc907⟩
   have hO := hO.perm (R := (f733 ++ ([])) ++ (f735 ++ ([]))) (by simp)
   have h0 := h0.mut hC907 (fun g hg => hO.inM g ((fun _ h => h) g hg)) (fun _ _ h => nomatch h)
   have hv735 := hv735.mut hC907 (fun g hg => hO.inM g ((fun _ h => h) g hg)) (fun g hg e => hO.apart g ((fun _ h => h) g hg) (mem_l (e)))
   have hC := hC.step hC907 (fun g hg => hO.inN g ((fun _ h => h) g hg))
   have hO := Own.join hO hC907 hOc907
   have hO := hO.perm (R := fi907x0 ++ (f735 ++ ([]))) (by simp)
   refine c_nil ?_
   refine c_seq (c_region ?_)
   obtain ⟨w909, g909, ew909, eg909, hC909, hb909⟩ := new_block w907 [] 51
   refine pl_val (w' := w909) (.slice (some ⟨g909, 0, none⟩) 0 0) (y_bslice rfl (by rw [ew909, eg909]; kernel_rfl)) ?_
   have hv735 := hv735.ext hC909
   have hvi907x0 := hvi907x0.ext hC909
   have hC := hC.ext hC909
   have hO := hO.new1 hC909 eg909 hb909.lt
   have hv909 := os_of_box (r := (RT.pr (RT.int .i64) (RT.os 25 (RT.os 3 (RT.int .i64))))) (M := M) (css := []) (fps := []) (xs := ([] : List (Int × (List (List Int))))) hb909 trivial (Nat.zero_le _) (List.nodup_cons.2 ⟨(fun h => nomatch h), List.nodup_nil⟩)
   have hv909 : (RT.os 51 (RT.pr (RT.int .i64) (RT.os 25 (RT.os 3 (RT.int .i64))))).val M w909 (.slice (some ⟨g909, 0, none⟩) 0 0) [] [g909] := hv909
   refine pl_val (.slice (some ⟨g909, 0, none⟩) 0 0) (y_assign rfl) ?_
   refine c_nil ?_
   refine c_seq ?_
   refine c_seq (c_region ?_)
   refine pl_val (.slice a733 n733 c733) (y_move rfl) ?_
   refine pl_val (.int .i64 (r908.length : Int)) (y_len' Sl49 (os_len hvi907x0) rfl) ?_
   refine pl_val (.int .i64 0) (y_move rfl) ?_
   refine c_nil ?_
   have hO := hO.fr2
   have hO := hO.drop
   obtain ⟨o977, hl978, hs⟩ := bind_some hs
   refine wp_block ?_
   refine wp_forR (id := 4) (I := fun i_ xs_ s973 a w974 => ∃ k975 : Nat, i_ = (k975 : Int) ∧ List.drop k975 r908 = xs_ ∧ (∃ (σ : Nat → Value) (a979 : Option Addr) (n979 : Nat) (c979 : Nat) (f979 : List Nat), a = fr 120 (ovl σ [(0, (.int .i64 n)), (13, (.slice a979 n979 c979)), (88, (.slice a733 n733 c733)), (89, (.int .i64 (r908.length : Int))), (90, (.int .i64 (k975 : Int)))]) ∧ Chg [] w w974 ∧ Own (Nw w []) M w974 (f979 ++ (fi907x0 ++ [])) ∧ (RT.os 25 (RT.os 3 (RT.int .i64))).val M w974 (.slice a733 n733 c733) r908 fi907x0 ∧ (RT.os 51 (RT.pr (RT.int .i64) (RT.os 25 (RT.os 3 (RT.int .i64))))).val M w974 (.slice a979 n979 c979) s973 f979)) (J := fun s973 a w974 => ∃ (σ : Nat → Value) (a981 : Option Addr) (n981 : Nat) (c981 : Nat) (f981 : List Nat), a = fr 120 (ovl σ [(13, (.slice a981 n981 c981))]) ∧ Chg [] w w974 ∧ Own (Nw w []) M w974 (f981 ++ (fi907x0 ++ [])) ∧ (RT.os 25 (RT.os 3 (RT.int .i64))).val M w974 (.slice a733 n733 c733) r908 fi907x0 ∧ (RT.os 51 (RT.pr (RT.int .i64) (RT.os 25 (RT.os 3 (RT.int .i64))))).val M w974 (.slice a981 n981 c981) s973 f981) (K := (k_impl_pairRelations M w)) ?_ ?_ r908 0 ([]) o977 _ _ ?_ hl978 ?_
   ·rintro _ s973 a w974 ⟨k975, rfl, hd, σ, a979, n979, c979, f979, rfl, hC, hO, hvi907x0, hv979⟩
    have hlt := drop_nil_ge hd
    refine c_seq (c_region ?_)
    refine pl_val (.bool (decide ((k975 : Int) < (r908.length : Int)))) (y_lss rfl rfl) ?_
    refine c_nil ?_
    refine c_seq ?_
    refine c_condF (congrArg Value.bool (decide_eq_false hlt)) ?_
    refine wp_exit ?_
    have hO := hO.fr1
    have hO := hO.fr1
    exact ⟨rfl, _, a979, n979, c979, f979, fr_ovl 120 ⟨rfl, trivial⟩, hC, hO, hvi907x0, hv979⟩
   ·rintro _ x976 xs_ s973 o977 a w974 ⟨k975, rfl, hd, σ, a979, n979, c979, f979, rfl, hC, hO, hvi907x0, hv979⟩ hs
    have hlt := drop_cons_lt hd
    have hxk975 := drop_cons_idx hd
    refine c_seq (c_region ?_)
    refine pl_val (.bool (decide ((k975 : Int) < (r908.length : Int)))) (y_lss rfl rfl) ?_
    refine c_nil ?_
    refine c_seq ?_
    refine c_condT (congrArg Value.bool (decide_eq_true hlt)) ?_
    refine wp_skip ?_
    refine c_seq ?_
    refine wp_block ?_
    refine c_seq (c_region ?_)
    obtain ⟨g983, f983, hg983, hk983, hp983, ha983, hf983⟩ := os_idx Sl49 Sz25 hvi907x0 hxk975
    have hb983 := own_row (Frz.os Frz.int) ha983 hf983
    refine pl_val (.pointer (some ⟨g983, 0 + Int.toNat (k975 : Int) * 1, none⟩)) (hp983 _ _ _ _ _ _ _ _ _ rfl rfl) ?_
    obtain ⟨v984, hl984, hrow984, hv984⟩ := at_load1 Ag25 Sz25 rfl rfl hb983
    obtain ⟨a984, n984, c984, rfl⟩ := rs_sl hv984
    refine pl_val (.slice a984 n984 c984) (y_load rfl (hl984 _ (Chg.refl _ _))) ?_
    refine pl_val (.slice a984 n984 c984) (y_assign rfl) ?_
    refine c_nil ?_
    refine c_seq (c_region ?_)
    refine pl_val (.agg #[(.int .i64 2), (.slice none 0 0)]) (y_build rfl (by kernel_rfl)) ?_
    obtain ⟨w986, g986, ew986, eg986, hC986, hb986⟩ := new_block w974 [(.int .i64 0), (.slice none 0 0)] 51
    refine pl_val (w' := w986) (.pointer (some ⟨g986, 0, none⟩)) (y_alloc (by rw [ew986, eg986]; kernel_rfl)) ?_
    have hvi907x0 := hvi907x0.ext hC986
    have hv979 := hv979.ext hC986
    have hv984 := hv984.ext hC986
    have hrow984 := hrow984.chg hC986 (fun h => nomatch h)
    have hC := hC.ext hC986
    have hO := hO.new1 hC986 eg986 hb986.lt
    obtain ⟨w987, hst987, hC987, hb987⟩ := box_store (P := Try.prog) hb986 [] [(.int .i64 0), (.slice none 0 0)] [] [(.int .i64 2), (.slice none 0 0)] rfl rfl (by intro u hu; simp only [List.mem_cons, List.not_mem_nil, or_false] at hu; rcases hu with rfl | rfl <;> rfl)
    refine pl_skip (w' := w987) (ys_store rfl rfl (hst987 _ _ rfl Sz51)) ?_
    have hvi907x0 := hvi907x0.mut hC987 (fun g hg => hO.inM g ((fun _ h => h) g hg)) (fun g hg e => hO.apart g ((fun _ h => h) g hg) (mem_r (mem_l (e))))
    have hv979 := hv979.mut hC987 (fun g hg => hO.inM g ((fun _ h => h) g hg)) (fun g hg e => hO.apart g ((fun _ h => h) g hg) (mem_l (e)))
    have hv984 := hv984.mut hC987 (fun g hg => ⟨hO.inM g ((fun _ h => h) g hg), fun e => hO.apart g ((fun _ h => h) g hg) (mem_r (mem_l (e)))⟩) (fun _ _ h => nomatch h)
    have hC := hC.step hC987 (fun g hg => hO.inN g ((fun _ h => h) g hg))
    have hO := hO.ext hC987
    have hb987 : BoxV w987 g986 51 [(.int .i64 2), (.slice none 0 0)] := hb987
    refine c_nil ?_
    refine c_seq ?_
    refine c_seq (c_region ?_)
    refine pl_val (.slice a984 n984 c984) (y_move rfl) ?_
    refine pl_val (.int .i64 (x976.length : Int)) (y_len' Sl25 (rs_len hv984) rfl) ?_
    refine pl_val (.int .i64 0) (y_move rfl) ?_
    refine c_nil ?_
    obtain ⟨o1020, hl1021, hs⟩ := bind_some hs
    refine wp_block ?_
    refine wp_forR (id := 6) (I := fun i_ xs_ s1016 a w1017 => ∃ k1018 : Nat, i_ = (k1018 : Int) ∧ List.drop k1018 x976 = xs_ ∧ (∃ (σ : Nat → Value) (a1022 : Option Addr) (n1022 : Nat) (c1022 : Nat) (f1022 : List Nat), a = fr 120 (ovl σ [(0, (.int .i64 n)), (13, (.slice a979 n979 c979)), (16, (.pointer (some ⟨g986, 0, none⟩))), (88, (.slice a733 n733 c733)), (89, (.int .i64 (r908.length : Int))), (90, (.int .i64 (k975 : Int))), (95, (.slice a984 n984 c984)), (96, (.int .i64 (x976.length : Int))), (97, (.int .i64 (k1018 : Int)))]) ∧ Chg [] w w1017 ∧ Own (Nw w []) M w1017 (f1022 ++ (([g986]) ++ (f979 ++ (fi907x0 ++ [])))) ∧ (RT.os 25 (RT.os 3 (RT.int .i64))).val M w1017 (.slice a733 n733 c733) r908 fi907x0 ∧ (RT.os 51 (RT.pr (RT.int .i64) (RT.os 25 (RT.os 3 (RT.int .i64))))).val M w1017 (.slice a979 n979 c979) s973 f979 ∧ (RT.rs (RT.int .i64)).val (Less M fi907x0) w1017 (.slice a984 n984 c984) x976 ([]) ∧ BoxV w1017 g986 51 [(.int .i64 2), (.slice a1022 n1022 c1022)] ∧ (RT.os 25 (RT.os 3 (RT.int .i64))).val M w1017 (.slice a1022 n1022 c1022) s1016 f1022)) (J := fun s1016 a w1017 => ∃ (σ : Nat → Value) (a1024 : Option Addr) (n1024 : Nat) (c1024 : Nat) (f1024 : List Nat), a = fr 120 (ovl σ [(0, (.int .i64 n)), (13, (.slice a979 n979 c979)), (16, (.pointer (some ⟨g986, 0, none⟩))), (88, (.slice a733 n733 c733)), (89, (.int .i64 (r908.length : Int))), (90, (.int .i64 (k975 : Int)))]) ∧ Chg [] w w1017 ∧ Own (Nw w []) M w1017 (f1024 ++ (([g986]) ++ (f979 ++ (fi907x0 ++ [])))) ∧ (RT.os 25 (RT.os 3 (RT.int .i64))).val M w1017 (.slice a733 n733 c733) r908 fi907x0 ∧ (RT.os 51 (RT.pr (RT.int .i64) (RT.os 25 (RT.os 3 (RT.int .i64))))).val M w1017 (.slice a979 n979 c979) s973 f979 ∧ (RT.rs (RT.int .i64)).val (Less M fi907x0) w1017 (.slice a984 n984 c984) x976 ([]) ∧ BoxV w1017 g986 51 [(.int .i64 2), (.slice a1024 n1024 c1024)] ∧ (RT.os 25 (RT.os 3 (RT.int .i64))).val M w1017 (.slice a1024 n1024 c1024) s1016 f1024) (K := (k_impl_pairRelations M w)) ?_ ?_ x976 0 ([]) o1020 _ _ ?_ hl1021 ?_
    ·rintro _ s1016 a w1017 ⟨k1018, rfl, hd, σ, a1022, n1022, c1022, f1022, rfl, hC, hO, hvi907x0, hv979, hv984, hb987, hv1022⟩
     have hlt := drop_nil_ge hd
     refine c_seq (c_region ?_)
     refine pl_val (.bool (decide ((k1018 : Int) < (x976.length : Int)))) (y_lss rfl rfl) ?_
     refine c_nil ?_
     refine c_seq ?_
     refine c_condF (congrArg Value.bool (decide_eq_false hlt)) ?_
     refine wp_exit ?_
     have hO := hO.fr3
     have hO := hO.fr3
     have hO := hO.fr3
     have hO := hO.fr3
     exact ⟨rfl, _, a1022, n1022, c1022, f1022, fr_ovl 120 ⟨rfl, rfl, rfl, rfl, rfl, rfl, trivial⟩, hC, hO, hvi907x0, hv979, hv984, hb987, hv1022⟩
    ·rintro _ x1019 xs_ s1016 o1020 a w1017 ⟨k1018, rfl, hd, σ, a1022, n1022, c1022, f1022, rfl, hC, hO, hvi907x0, hv979, hv984, hb987, hv1022⟩ hs
     have hlt := drop_cons_lt hd
     have hxk1018 := drop_cons_idx hd
     refine c_seq (c_region ?_)
     refine pl_val (.bool (decide ((k1018 : Int) < (x976.length : Int)))) (y_lss rfl rfl) ?_
     refine c_nil ?_
     refine c_seq ?_
     refine c_condT (congrArg Value.bool (decide_eq_true hlt)) ?_
     refine wp_skip ?_
     refine c_seq ?_
     refine wp_block ?_
     refine c_seq (c_region ?_)
     obtain ⟨b1026, o1026, hp1026, ha1026⟩ := rs_idx Sl25 Sz3 hv984 hxk1018
     refine pl_val (.pointer (some ⟨b1026, o1026, none⟩)) (hp1026 _ _ _ _ _ _ _ _ _ rfl rfl) ?_
     refine pl_val (.int .i64 x1019) (y_load rfl ((at_load_int Ag3 Sz3 ha1026) _ (Chg.refl _ _))) ?_
     refine pl_val (.int .i64 x1019) (y_assign rfl) ?_
     refine c_nil ?_
     refine x_start [10, 12] Mx rfl ?_
     have hCw1027 := Chg.drew w1017
     generalize World.drew w1017 = w1027 at hCw1027 ⊢
     have hvi907x0 := hvi907x0.ext hCw1027
     have hv979 := hv979.ext hCw1027
     have hv984 := hv984.ext hCw1027
     have hb987 := hb987.chg hCw1027 (fun h => nomatch h)
     have hv1022 := hv1022.ext hCw1027
     have hC := hC.ext hCw1027
     have hO := hO.ext hCw1027
     have hS := Chg.refl [] w1027
     refine x_p 0 (.pointer (some ⟨g986, 1, none⟩)) rfl (by kernel_rfl)  (fun _ => y_faddr rfl Fa51x1) (fun _ => hS) ?_
     refine x_l 1 (.slice a1022 n1022 c1022) rfl (by kernel_rfl)  (fun w' hw' => y_load rfl ((box_load Ag49 Sz49 hb987 [(.int .i64 2)] [(.slice a1022 n1022 c1022)] [] rfl rfl (fun _ => rfl)) w' hw')) hS ?_
     refine x_p 2 (.int .i64 x1019) rfl (by kernel_rfl)  (fun _ => y_move rfl) (fun _ => hS) ?_
     refine x_p 3 (.int .i64 n) rfl (by kernel_rfl)  (fun _ => y_move rfl) (fun _ => hS) ?_
     obtain ⟨u1028, hu1028, hs⟩ := bind_some hs
     refine x_p 4 (.int .i64 (w64 (Int.tdiv x1019 n))) rfl (by kernel_rfl)  (fun _ => y_quo rfl rfl (nz_ne hu1028)) (fun _ => hS) ?_
     refine x_p 5 (.int .i64 x1019) rfl (by kernel_rfl)  (fun _ => y_move rfl) (fun _ => hS) ?_
     refine x_p 6 (.int .i64 n) rfl (by kernel_rfl)  (fun _ => y_move rfl) (fun _ => hS) ?_
     obtain ⟨u1029, hu1029, hs⟩ := bind_some hs
     refine x_p 7 (.int .i64 (Int.tmod x1019 n)) rfl (by kernel_rfl)  (fun _ => y_rem rfl rfl (nz_ne hu1029)) (fun _ => hS) ?_
     refine x_one (i := 8) (by kernel_rfl) ?_
     obtain ⟨w1030, g1030, ew1030, eg1030, hC1030, hb1030⟩ := new_block w1027 [(.int .i64 (w64 (Int.tdiv x1019 n))), (.int .i64 (Int.tmod x1019 n))] 3
     refine xk_val (w' := w1030) (b := false) (.slice (some ⟨g1030, 0, none⟩) 2 2) rfl  (y_bslice rfl (by rw [ew1030, eg1030]; kernel_rfl)) rfl (fun _ => hS.ext hC1030) ?_
     have hvi907x0 := hvi907x0.ext hC1030
     have hv979 := hv979.ext hC1030
     have hv984 := hv984.ext hC1030
     have hb987 := hb987.chg hC1030 (fun h => nomatch h)
     have hv1022 := hv1022.ext hC1030
     have hC := hC.ext hC1030
     have hO := hO.new1 hC1030 eg1030 hb1030.lt
     have hv1030 := os_of_box (r := (RT.int .i64)) (M := M) (css := [[(.int .i64 (w64 (Int.tdiv x1019 n)))], [(.int .i64 (Int.tmod x1019 n))]]) (fps := [([] : List Nat), ([] : List Nat)]) (xs := ([w64 (Int.tdiv x1019 n), Int.tmod x1019 n] : List Int)) hb1030 ⟨⟨rfl, rfl⟩, ⟨⟨rfl, rfl⟩, trivial⟩⟩ (Nat.le_of_ble_eq_true rfl) (List.nodup_cons.2 ⟨(fun h => nomatch h), List.nodup_nil⟩)
     have hv1030 : (RT.os 3 (RT.int .i64)).val M w1030 (.slice (some ⟨g1030, 0, none⟩) 2 2) [w64 (Int.tdiv x1019 n), Int.tmod x1019 n] [g1030] := hv1030
     have hS := hS.ext hC1030
     refine x_one (i := 9) (by kernel_rfl) ?_
     obtain ⟨w1032, g1032, ew1032, eg1032, hC1032, hb1032⟩ := new_block w1030 [(.slice (some ⟨g1030, 0, none⟩) 2 2)] 25
     refine xk_val (w' := w1032) (b := false) (.slice (some ⟨g1032, 0, none⟩) 1 1) rfl  (y_bslice rfl (by rw [ew1032, eg1032]; kernel_rfl)) rfl (fun _ => hS.ext hC1032) ?_
     have hvi907x0 := hvi907x0.ext hC1032
     have hv979 := hv979.ext hC1032
     have hv984 := hv984.ext hC1032
     have hb987 := hb987.chg hC1032 (fun h => nomatch h)
     have hv1022 := hv1022.ext hC1032
     have hv1030 := hv1030.ext hC1032
     have hC := hC.ext hC1032
     have hO := hO.new1 hC1032 eg1032 hb1032.lt
     have hO := hO.perm (R := (g1032 :: ((([g1030])) ++ ([]))) ++ (f1022 ++ (([g986]) ++ (f979 ++ (fi907x0 ++ ([])))))) (by simp)
     have hnd1032 := hO.nd
     have hv1032 := os_of_box (r := (RT.os 3 (RT.int .i64))) (M := M) (css := [[(.slice (some ⟨g1030, 0, none⟩) 2 2)]]) (fps := [([g1030] : List Nat)]) (xs := ([[w64 (Int.tdiv x1019 n), Int.tmod x1019 n]] : List (List Int))) hb1032 ⟨(os_unval hv1030), trivial⟩ (Nat.le_of_ble_eq_true rfl) hnd1032
     have hv1032 : (RT.os 25 (RT.os 3 (RT.int .i64))).val M w1032 (.slice (some ⟨g1032, 0, none⟩) 1 1) [[w64 (Int.tdiv x1019 n), Int.tmod x1019 n]] (g1032 :: ((([g1030])) ++ ([]))) := hv1032
     have hS := hS.ext hC1032
     refine x_one (i := 10) (by kernel_rfl) ?_
     obtain ⟨y1035, hy1035, hs⟩ := bind_some hs
     have hO := hO.fr1
     obtain ⟨a1034, n1034, c1034, w1034, f1034, hr1034, hC1034, hf1034, hv1034⟩ := app_os Rw49 hy1035 hv1022 hv1032 hO.inM (fun g hg hq => hO.apart g hq (mem_l hg))
     have hG1034 := os_block hv1022
     refine xk_val (w' := w1034) (b := true) (.slice a1034 n1034 c1034) rfl  (y_append rfl rfl (hr1034 _)) rfl (fun h => nomatch h) ?_
     have hO := hO.fr1
     have hO := hO.fr1
     have hvi907x0 := hvi907x0.mut hC1034 (fun g hg => hO.inM g (hG1034 g hg)) (fun g hg e => hO.apart g (hG1034 g hg) (mem_r (mem_r (mem_r (mem_l (e))))))
     have hv979 := hv979.mut hC1034 (fun g hg => hO.inM g (hG1034 g hg)) (fun g hg e => hO.apart g (hG1034 g hg) (mem_r (mem_r (mem_l (e)))))
     have hv984 := hv984.mut hC1034 (fun g hg => ⟨hO.inM g (hG1034 g hg), fun e => hO.apart g (hG1034 g hg) (mem_r (mem_r (mem_r (mem_l (e)))))⟩) (fun _ _ h => nomatch h)
     have hb987 := hb987.chg hC1034 (fun hg => hO.apart _ (hG1034 _ hg) (mem_r (mem_l (List.mem_singleton.2 rfl))))
     have hC := hC.step hC1034 (fun g hg => hO.inN g (hG1034 g hg))
     have hO := hO.eat hC1034 hf1034 (os_nodup hv1034) hv1034.fpl
     refine x_p 11 (.pointer (some ⟨g986, 1, none⟩)) rfl (by kernel_rfl)  (fun _ => y_faddr rfl Fa51x1) (fun h => nomatch h) ?_
     refine x_one (i := 12) (by kernel_rfl) ?_
     obtain ⟨w1037, hst1037, hC1037, hb1037⟩ := box_store (P := Try.prog) hb987 [(.int .i64 2)] [(.slice a1022 n1022 c1022)] [] [(.slice a1034 n1034 c1034)] rfl rfl (by intro u hu; simp only [List.mem_cons, List.not_mem_nil, or_false] at hu; rcases hu with rfl <;> rfl)
     refine xk_skip (w' := w1037) (b := true) rfl (ys_store rfl rfl (hst1037 _ _ rfl Sz49)) rfl (fun h => nomatch h) ?_
     have hO := hO.fr1
     have hvi907x0 := hvi907x0.mut hC1037 (fun g hg => hO.inM g ((fun _ h => h) g hg)) (fun g hg e => hO.apart g ((fun _ h => h) g hg) (mem_r (mem_r (mem_l (e)))))
     have hv979 := hv979.mut hC1037 (fun g hg => hO.inM g ((fun _ h => h) g hg)) (fun g hg e => hO.apart g ((fun _ h => h) g hg) (mem_r (mem_l (e))))
     have hv984 := hv984.mut hC1037 (fun g hg => ⟨hO.inM g ((fun _ h => h) g hg), fun e => hO.apart g ((fun _ h => h) g hg) (mem_r (mem_r (mem_l (e))))⟩) (fun _ _ h => nomatch h)
     have hv1034 := hv1034.mut hC1037 (fun g hg => hO.inM g ((fun _ h => h) g hg)) (fun g hg e => hO.apart g ((fun _ h => h) g hg) (mem_l (e)))
     have hC := hC.step hC1037 (fun g hg => hO.inN g ((fun _ h => h) g hg))
     have hO := hO.ext hC1037
     have hb1037 : BoxV w1037 g986 51 [(.int .i64 2), (.slice a1034 n1034 c1034)] := hb1037
     refine x_end (by kernel_rfl) ?_
     clear hS
     refine c_region ?_
     refine pl_val (.int .i64 (w64 ((k1018 : Int) + 1))) (y_add rfl rfl) ?_
     refine pl_val (.int .i64 (w64 ((k1018 : Int) + 1))) (y_move rfl) ?_
     refine c_nil ?_
     cases hs
     have hO := hO.fr3
     have hO := hO.fr3
     have hO := hO.fr2
     have hO := hO.fr3
     exact ⟨_, rfl, drop_cons_next hd, _, a1034, n1034, c1034, f1034, fr_ovl 120 ⟨rfl, rfl, rfl, rfl, rfl, rfl, rfl, rfl, congrArg (Value.int .i64) (w64_succ hlt (Int.natCast_nonneg _) (rs_max hv984)), trivial⟩, hC, hO, hvi907x0, hv979, hv984, hb1037, hv1034⟩
    ·skip
     have hO := hO.fr2
     have hO := hO.fr2
     have hO := hO.fr2
     have hO := hO.nil
     exact ⟨0, rfl, rfl, _, none, 0, 0, [], fr_ovl 120 ⟨rfl, rfl, rfl, rfl, rfl, rfl, rfl, rfl, rfl, trivial⟩, hC, hO, hvi907x0, hv979, hv984, hb987, os_nil⟩
    ·cases o1020 with
     | nx _ => exact True.intro
     | rt r_ =>
      have hs := after_rt hs
      intro a1 w1 hK
      cases hs
      exact hK
     | br s1016 =>
      have hs := after_br hs
      rintro a1 w1017 ⟨σ, a1024, n1024, c1024, f1024, rfl, hC, hO, hvi907x0, hv979, hv984, hb987, hv1024⟩
      refine c_region ?_
      refine pl_val (.slice a979 n979 c979) (y_move rfl) ?_
      refine pl_val (.agg #[(.int .i64 2), (.slice a1024 n1024 c1024)]) (y_load rfl ((box_load Ag51 Sz51 hb987 [] [(.int .i64 2), (.slice a1024 n1024 c1024)] [] rfl rfl (fun h => nomatch h)) _ (Chg.refl _ _))) ?_
      obtain ⟨w1038, g1038, ew1038, eg1038, hC1038, hb1038⟩ := new_block w1017 [(.int .i64 2), (.slice a1024 n1024 c1024)] 51
      refine pl_val (w' := w1038) (.slice (some ⟨g1038, 0, none⟩) 1 1) (y_bslice rfl (by rw [ew1038, eg1038]; kernel_rfl)) ?_
      have hvi907x0 := hvi907x0.ext hC1038
      have hv979 := hv979.ext hC1038
      have hv984 := hv984.ext hC1038
      have hb987 := hb987.chg hC1038 (fun h => nomatch h)
      have hv1024 := hv1024.ext hC1038
      have hC := hC.ext hC1038
      have hO := hO.new1 hC1038 eg1038 hb1038.lt
      have hO := hO.perm (R := (g1038 :: ((f1024) ++ ([]))) ++ (([g986]) ++ (f979 ++ (fi907x0 ++ ([]))))) (by simp)
      have hnd1038 := hO.nd
      have hv1038 := os_of_box (r := (RT.pr (RT.int .i64) (RT.os 25 (RT.os 3 (RT.int .i64))))) (M := M) (css := [[(.int .i64 2), (.slice a1024 n1024 c1024)]]) (fps := [(f1024 : List Nat)]) (xs := ([(2, s1016)] : List (Int × (List (List Int))))) hb1038 ⟨⟨_, _, _, _, rfl, rfl, ⟨rfl, rfl⟩, (os_unval hv1024)⟩, trivial⟩ (Nat.le_of_ble_eq_true rfl) hnd1038
      have hv1038 : (RT.os 51 (RT.pr (RT.int .i64) (RT.os 25 (RT.os 3 (RT.int .i64))))).val M w1038 (.slice (some ⟨g1038, 0, none⟩) 1 1) [(2, s1016)] (g1038 :: ((f1024) ++ ([]))) := hv1038
      obtain ⟨y1041, hy1041, hs⟩ := bind_some hs
      have hO := hO.fr2
      obtain ⟨a1040, n1040, c1040, w1040, f1040, hr1040, hC1040, hf1040, hv1040⟩ := app_os Rw43 hy1041 hv979 hv1038 hO.inM (fun g hg hq => hO.apart g hq (mem_l hg))
      have hG1040 := os_block hv979
      refine pl_val (w' := w1040) (.slice a1040 n1040 c1040) (y_append rfl rfl (hr1040 _)) ?_
      have hO := hO.fr1
      have hO := hO.fr1
      have hvi907x0 := hvi907x0.mut hC1040 (fun g hg => hO.inM g (hG1040 g hg)) (fun g hg e => hO.apart g (hG1040 g hg) (mem_r (mem_r (mem_l (e)))))
      have hv984 := hv984.mut hC1040 (fun g hg => ⟨hO.inM g (hG1040 g hg), fun e => hO.apart g (hG1040 g hg) (mem_r (mem_r (mem_l (e))))⟩) (fun _ _ h => nomatch h)
      have hb987 := hb987.chg hC1040 (fun hg => hO.apart _ (hG1040 _ hg) (mem_r (mem_l (List.mem_singleton.2 rfl))))
      have hC := hC.step hC1040 (fun g hg => hO.inN g (hG1040 g hg))
      have hO := hO.eat hC1040 hf1040 (os_nodup hv1040) hv1040.fpl
      refine pl_val (.slice a1040 n1040 c1040) (y_assign rfl) ?_
      refine c_nil ?_
      refine c_region ?_
      refine pl_val (.int .i64 (w64 ((k975 : Int) + 1))) (y_add rfl rfl) ?_
      refine pl_val (.int .i64 (w64 ((k975 : Int) + 1))) (y_move rfl) ?_
      refine c_nil ?_
      cases hs
      have hO := hO.fr1
      have hO := hO.drop
      have hO := hO.fr1
      have hO := hO.fr1
      exact ⟨_, rfl, drop_cons_next hd, _, a1040, n1040, c1040, f1040, fr_ovl 120 ⟨rfl, rfl, rfl, rfl, congrArg (Value.int .i64) (w64_succ hlt (Int.natCast_nonneg _) (os_max hvi907x0)), trivial⟩, hC, hO, hvi907x0, hv1040⟩
   ·skip
    have hO := hO.fr1
    have hO := hO.fr1
    exact ⟨0, rfl, rfl, _, (some ⟨g909, 0, none⟩), 0, 0, ([g909]), fr_ovl 120 ⟨rfl, rfl, rfl, rfl, rfl, trivial⟩, hC, hO, hvi907x0, hv909⟩
   ·cases o977 with
    | nx _ => exact True.intro
    | rt r_ =>
     have hs := after_rt hs
     intro a1 w1 hK
     cases hs
     exact hK
    | br s973 =>
     have hs := after_br hs
     rintro a1 w974 ⟨σ, a981, n981, c981, f981, rfl, hC, hO, hvi907x0, hv981⟩
     refine c_seq (c_region ?_)
     refine pl_val (.slice a981 n981 c981) (y_move rfl) ?_
     refine pl_val (.slice a981 n981 c981) (y_assign rfl) ?_
     refine pl_val (.bool true) (y_assign rfl) ?_
     refine c_nil ?_
     refine wp_ret ?_
     cases hs
     have hO := hO.fr1
     have hO := hO.drop
     exact ⟨_, a981, n981, c981, f981, fr_ovl 120 ⟨rfl, rfl, trivial⟩, hC, hv981, hO.top⟩

theorem Bd59 : Bodied Try.prog 59 := bodied Try.func59 (by kernel_rfl) rfl

theorem Bd60 : Bodied Try.prog 60 := bodied Try.func60 (by kernel_rfl) rfl

def k_impl_allPairRelations (M : Nat → Prop) (w0 : World) (r : (List (Int × (List (List Int)))) × Bool) (a : Act) (w : World) : Prop :=
  ∃ (σ : Nat → Value) (ra0 : Option Addr) (rn0 rc0 : Nat) (rf0 : List Nat), a = fr 19 (ovl σ [(2, (.slice ra0 rn0 rc0)), (3, (.bool r.2))]) ∧ Chg [] w0 w ∧ (RT.os 51 (RT.pr (RT.int .i64) (RT.os 25 (RT.os 3 (RT.int .i64))))).val M w (.slice ra0 rn0 rc0) r.1 rf0 ∧ Own (Nw w0 []) (fun _ => True) w (rf0 ++ ([]))
def s_impl_allPairRelations (a_ : Int × (List (Int × (List Int)))) : Option ((List (Int × (List (List Int)))) × Bool) :=
  ((s_impl_IsAlgebra (a_.1, a_.2)).bind fun r7 =>
  (bif (!r7) then some true else some (decide (4 < a_.1)))).bind fun s3 =>
  (bif s3 then some ([], false) else (s_impl_pairRelations a_.1 a_.2).bind fun r11 =>
  some (r11.1, r11.2))
set_option maxHeartbeats 4000000 in
theorem c_impl_allPairRelations {M : Nat → Prop} {w : World} {pa0 : Option Addr} {pn0 pc0 : Nat} (a_ : Int × (List (Int × (List Int)))) (h0 : (RT.rs (RT.pr (RT.int .i64) (RT.rs (RT.int .i64)))).val M w (.slice pa0 pn0 pc0) a_.2 ([])) (hM : ∀ g, w.heap.size ≤ g → M g) {r : (List (Int × (List (List Int)))) × Bool} (hs : s_impl_allPairRelations a_ = some r) :
    Gives Try.prog 39 [(.agg #[(.int .i64 a_.1), (.slice pa0 pn0 pc0)])] w (fun v w' => ∃ (ra0 : Option Addr) (rn0 rc0 : Nat) (rf0 : List Nat), v = (.tuple #[(.slice ra0 rn0 rc0), (.bool r.2)]) ∧ Chg [] w w' ∧ (RT.os 51 (RT.pr (RT.int .i64) (RT.os 25 (RT.os 3 (RT.int .i64))))).val M w' (.slice ra0 rn0 rc0) r.1 rf0 ∧ Own (Nw w []) (fun _ => True) w' (rf0 ++ ([]))) := by
 refine calls_fr Try.func39 rfl Try.ntmps39 (Nat.le_of_ble_eq_true rfl) ?_
 have hO := Own.start (N := Nw w []) hM Nw.fut
 have hC := Chg.refl [] w
 unfold s_impl_allPairRelations at hs
 refine wp_mono (Q := KPost (k_impl_allPairRelations M w r)) ?_ (fun e a w1 h => ?_)
 rotate_left
 ·cases e
  case ret =>
   obtain ⟨σ, ra0, rn0, rc0, rf0, rfl, hrest⟩ := h
   exact ret2x Try.results39 (res_tmp rfl) (res_tmp rfl) ⟨ra0, rn0, rc0, rf0, rfl, hrest⟩
  all_goals exact (h : False).elim
 refine c_seq (c_region ?_)
 obtain ⟨w2, g2, ew2, eg2, hC2, hb2⟩ := new_block w [(.int .i64 a_.1), (.slice pa0 pn0 pc0)] 34
 refine pl_val (w' := w2) (.pointer (some ⟨g2, 0, none⟩)) (y_box rfl (by rw [ew2, eg2]; kernel_rfl)) ?_
 have h0 := h0.ext hC2
 have hC := hC.ext hC2
 have hO := hO.new1 hC2 eg2 hb2.lt
 refine pl_val (.slice none 0 0) (y_assign rfl) ?_
 refine pl_val (.bool false) (y_assign rfl) ?_
 refine c_nil ?_
 refine c_seq ?_
 refine c_seq ?_
 obtain ⟨s3, hm5, hs⟩ := bind_some hs
 refine c_mid (I := fun a w4 => ∃ (σ : Nat → Value), a = fr 19 (ovl σ [(1, (.pointer (some ⟨g2, 0, none⟩))), (2, (.slice none 0 0)), (3, (.bool false)), (11, (.bool s3))]) ∧ Chg [] w2 w4) ?_ ?_
 ·replace hs := hm5
  have hMid := Chg.refl [] w2
  refine c_region ?_
  refine pl_val (.agg #[(.int .i64 a_.1), (.slice pa0 pn0 pc0)]) (y_load rfl ((box_load Ag34 Sz34 hb2 [] [(.int .i64 a_.1), (.slice pa0 pn0 pc0)] [] rfl rfl (fun h => nomatch h)) _ (Chg.refl _ _))) ?_
  obtain ⟨r7, hr7, hs⟩ := bind_some hs
  refine pl_call Bd59 rfl (c_impl_IsAlgebra (M := M) (a_.1, a_.2) h0 hO.fut hr7) ?_
  rintro _ w6 ⟨rfl, hC6⟩
  have h0 := h0.ext hC6
  have hb2 := hb2.chg hC6 (fun h => nomatch h)
  have hMid := hMid.ext hC6
  have hC := hC.ext hC6
  have hO := hO.ext hC6
  refine pl_val (.bool (!r7)) (y_not rfl) ?_
  refine pl_val (.bool (!r7)) (y_move rfl) ?_
  rcases bif_some hs with ⟨hc8, hs⟩ | ⟨hc8, hs⟩
  ·skip
   refine pl_not (tg := 7) (by kernel_rfl) (congrArg Value.bool hc8) ?_
   refine pl_not (tg := 7) (by kernel_rfl) (congrArg Value.bool hc8) ?_
   refine pl_not (tg := 7) (by kernel_rfl) (congrArg Value.bool hc8) ?_
   refine pl_val (.bool true) (y_pick_t (congrArg Value.bool hc8) rfl) ?_
   refine c_nil ?_
   cases hs
   exact ⟨_, fr_ovl 19 ⟨rfl, rfl, rfl, rfl, trivial⟩, hMid⟩
  ·skip
   refine pl_yes (.pointer (some ⟨g2, 0, none⟩)) (tg := 7) (by kernel_rfl) (congrArg Value.bool hc8) (y_faddr rfl Fa34x0) ?_
   refine pl_yes (.int .i64 a_.1) (tg := 7) (by kernel_rfl) (congrArg Value.bool hc8) (y_load rfl ((box_load Ag3 Sz3 hb2 [] [(.int .i64 a_.1)] [(.slice pa0 pn0 pc0)] rfl rfl (fun _ => rfl)) _ (Chg.refl _ _))) ?_
   refine pl_yes (.bool (decide (4 < a_.1))) (tg := 7) (by kernel_rfl) (congrArg Value.bool hc8) (y_gtr rfl rfl) ?_
   refine pl_val (.bool (decide (4 < a_.1))) (y_pick_f (congrArg Value.bool hc8) rfl) ?_
   refine c_nil ?_
   cases hs
   exact ⟨_, fr_ovl 19 ⟨rfl, rfl, rfl, rfl, trivial⟩, hMid⟩
 ·rintro a1 w4 ⟨σ, rfl, hCs3⟩
  have h0 := h0.ext hCs3
  have hb2 := hb2.chg hCs3 (fun h => nomatch h)
  have hC := hC.ext hCs3
  have hO := hO.ext hCs3
  rcases bif_some hs with ⟨hc9, hs⟩ | ⟨hc9, hs⟩
  ·skip
   refine c_condT (congrArg Value.bool hc9) ?_
   refine c_seq (c_region ?_)
   refine pl_val (.slice none 0 0) (y_assign rfl) ?_
   refine pl_val (.bool false) (y_assign rfl) ?_
   refine c_nil ?_
   refine wp_ret ?_
   cases hs
   have hO := hO.drop
   have hO := hO.nil
   exact ⟨_, none, 0, 0, [], fr_ovl 19 ⟨rfl, rfl, trivial⟩, hC, os_nil, hO.top⟩
  ·skip
   refine c_condF (congrArg Value.bool hc9) ?_
   refine wp_skip ?_
   refine c_seq (c_region ?_)
   refine pl_val (.pointer (some ⟨g2, 0, none⟩)) (y_faddr rfl Fa34x0) ?_
   refine pl_val (.int .i64 a_.1) (y_load rfl ((box_load Ag3 Sz3 hb2 [] [(.int .i64 a_.1)] [(.slice pa0 pn0 pc0)] rfl rfl (fun _ => rfl)) _ (Chg.refl _ _))) ?_
   refine pl_val (.pointer (some ⟨g2, 1, none⟩)) (y_faddr rfl Fa34x1) ?_
   refine pl_val (.slice pa0 pn0 pc0) (y_load rfl ((box_load Ag32 Sz32 hb2 [(.int .i64 a_.1)] [(.slice pa0 pn0 pc0)] [] rfl rfl (fun _ => rfl)) _ (Chg.refl _ _))) ?_
   obtain ⟨r11, hr11, hs⟩ := bind_some hs
   refine pl_call Bd60 rfl (c_impl_pairRelations (M := M) a_.1 a_.2 h0 hO.fut hr11) ?_
   rintro _ w10 ⟨a10x0, n10x0, c10x0, f10x0, rfl, hC10, hv10x0, hOc10⟩
   have h0 := h0.ext hC10
   have hb2 := hb2.chg hC10 (fun h => nomatch h)
   have hC := hC.ext hC10
   have hO := Own.join0 hO hC10 hOc10
   have hO := hO.perm (R := f10x0 ++ (([g2]) ++ ([]))) (by simp)
   refine pl_val (.slice a10x0 n10x0 c10x0) (y_extract rfl (by kernel_rfl)) ?_
   refine pl_val (.bool r11.2) (y_extract rfl (by kernel_rfl)) ?_
   refine pl_val (.slice a10x0 n10x0 c10x0) (y_assign rfl) ?_
   refine pl_val (.bool r11.2) (y_assign rfl) ?_
   refine c_nil ?_
   refine wp_ret ?_
   cases hs
   have hO := hO.fr1
   have hO := hO.drop
   exact ⟨_, a10x0, n10x0, c10x0, f10x0, fr_ovl 19 ⟨rfl, rfl, trivial⟩, hC, hv10x0, hO.top⟩

def k_impl_isInnerIso (M : Nat → Prop) (w0 : World) (r : Bool) (a : Act) (w : World) : Prop :=
  ∃ (σ : Nat → Value) , a = fr 46 (ovl σ [(2, (.bool r))]) ∧ Chg [] w0 w
def s_impl_isInnerIso (r_ : Int × (List (List Int))) : Option (Bool) :=
  (forC (S := Unit) (R := Bool) (fun k46 s44 =>
  (idx r_.2 k46).bind fun x50 =>
  (slc r_.2 0 k46).bind fun y55 =>
  (forR (S := Unit) (R := Bool) (fun _ x75 s72 =>
  (idx x50 0).bind fun x82 =>
  (idx x75 0).bind fun x84 =>
  (bif (x82 == x84) then some (.rt false) else (idx x50 1).bind fun x87 =>
  (idx x75 1).bind fun x89 =>
  (bif (x87 == x89) then some (.rt false) else some (.nx ())))) 0 y55 ()).bind fun o76 => after o76 (fun r_ => some (.rt r_)) (fun s72 =>
  some (.nx ()))) 0 (r_.2.length : Int) ()).bind fun o48 => after o48 (fun r_ => some r_) (fun s44 =>
  some (decide (0 < (r_.2.length : Int))))
set_option maxHeartbeats 4000000 in
theorem c_impl_isInnerIso {M : Nat → Prop} {w : World} {pa0 : Option Addr} {pn0 pc0 : Nat} (r_ : Int × (List (List Int))) (h0 : (RT.rs (RT.rs (RT.int .i64))).val M w (.slice pa0 pn0 pc0) r_.2 ([])) (hM : ∀ g, w.heap.size ≤ g → M g) {r : Bool} (hs : s_impl_isInnerIso r_ = some r) :
    Gives Try.prog 46 [(.agg #[(.int .i64 r_.1), (.slice pa0 pn0 pc0)])] w (fun v w' => v = (.bool r) ∧ Chg [] w w') := by
 refine calls_fr Try.func46 rfl Try.ntmps46 (Nat.le_of_ble_eq_true rfl) ?_
 have hO := Own.start (N := Nw w []) hM Nw.fut
 have hC := Chg.refl [] w
 unfold s_impl_isInnerIso at hs
 refine wp_mono (Q := KPost (k_impl_isInnerIso M w r)) ?_ (fun e a w1 h => ?_)
 rotate_left
 ·cases e
  case ret =>
   obtain ⟨σ, rfl, hrest⟩ := h
   exact ret1x Try.results46 (res_tmp rfl) ⟨rfl, hrest⟩
  all_goals exact (h : False).elim
 refine c_seq (c_region ?_)
 obtain ⟨w2, g2, ew2, eg2, hC2, hb2⟩ := new_block w [(.int .i64 r_.1), (.slice pa0 pn0 pc0)] 51
 refine pl_val (w' := w2) (.pointer (some ⟨g2, 0, none⟩)) (y_box rfl (by rw [ew2, eg2]; kernel_rfl)) ?_
 have h0 := h0.ext hC2
 have hC := hC.ext hC2
 have hO := hO.new1 hC2 eg2 hb2.lt
 refine pl_val (.bool false) (y_assign rfl) ?_
 refine c_nil ?_
 refine c_seq ?_
 refine c_seq (c_region ?_)
 refine pl_val (.pointer (some ⟨g2, 1, none⟩)) (y_faddr rfl Fa51x1) ?_
 refine pl_val (.slice pa0 pn0 pc0) (y_load rfl ((box_load Ag49 Sz49 hb2 [(.int .i64 r_.1)] [(.slice pa0 pn0 pc0)] [] rfl rfl (fun _ => rfl)) _ (Chg.refl _ _))) ?_
 refine pl_val (.int .i64 (r_.2.length : Int)) (y_len' Sl49 (rs_len h0) rfl) ?_
 refine pl_val (.int .i64 0) (y_move rfl) ?_
 refine c_nil ?_
 obtain ⟨o48, hl49, hs⟩ := bind_some hs
 refine wp_block ?_
 refine wp_forC (id := 0) (r_.2.length : Int) (I := fun k46 s44 a w45 => ∃ (σ : Nat → Value), a = fr 46 (ovl σ [(1, (.pointer (some ⟨g2, 0, none⟩))), (8, (.slice pa0 pn0 pc0)), (9, (.int .i64 (r_.2.length : Int))), (10, (.int .i64 k46))]) ∧ Chg [] w w45 ∧ Own (Nw w []) M w45 (([g2]) ++ []) ∧ (RT.rs (RT.rs (RT.int .i64))).val M w45 (.slice pa0 pn0 pc0) r_.2 ([]) ∧ BoxV w45 g2 51 [(.int .i64 r_.1), (.slice pa0 pn0 pc0)]) (J := fun s44 a w45 => ∃ (σ : Nat → Value), a = fr 46 (ovl σ [(1, (.pointer (some ⟨g2, 0, none⟩)))]) ∧ Chg [] w w45 ∧ Own (Nw w []) M w45 (([g2]) ++ []) ∧ (RT.rs (RT.rs (RT.int .i64))).val M w45 (.slice pa0 pn0 pc0) r_.2 ([]) ∧ BoxV w45 g2 51 [(.int .i64 r_.1), (.slice pa0 pn0 pc0)]) (K := (k_impl_isInnerIso M w)) ?_ ?_ 0 () o48 _ _ ?_ hl49 ?_
 ·rintro k46 s44 a w45 ⟨σ, rfl, hC, hO, h0, hb2⟩ hlt
  refine c_seq (c_region ?_)
  refine pl_val (.bool (decide (k46 < (r_.2.length : Int)))) (y_lss rfl rfl) ?_
  refine c_nil ?_
  refine c_seq ?_
  refine c_condF (congrArg Value.bool (decide_eq_false hlt)) ?_
  refine wp_exit ?_
  exact ⟨rfl, _, fr_ovl 46 ⟨rfl, trivial⟩, hC, hO, h0, hb2⟩
 ·rintro k46 s44 o48 a w45 ⟨σ, rfl, hC, hO, h0, hb2⟩ hlt hw hs
  refine c_seq (c_region ?_)
  refine pl_val (.bool (decide (k46 < (r_.2.length : Int)))) (y_lss rfl rfl) ?_
  refine c_nil ?_
  refine c_seq ?_
  refine c_condT (congrArg Value.bool (decide_eq_true hlt)) ?_
  refine wp_skip ?_
  refine c_seq ?_
  refine wp_block ?_
  refine c_seq (c_region ?_)
  refine pl_val (.int .i64 k46) (y_move rfl) ?_
  obtain ⟨x50, hx50, hs⟩ := bind_some hs
  obtain ⟨b51, o51, hp51, ha51⟩ := rs_idx Sl49 Sz25 h0 hx50
  refine pl_val (.pointer (some ⟨b51, o51, none⟩)) (hp51 _ _ _ _ _ _ _ _ _ rfl rfl) ?_
  obtain ⟨v52, hl52, hv52⟩ := at_load Ag25 Sz25 (fun _ => rfl) ha51
  obtain ⟨a52, n52, c52, rfl⟩ := rs_sl hv52
  refine pl_val (.slice a52 n52 c52) (y_load rfl (hl52 _ (Chg.refl _ _))) ?_
  refine pl_val (.int .i64 k46) (y_assign rfl) ?_
  refine pl_val (.slice a52 n52 c52) (y_assign rfl) ?_
  refine c_nil ?_
  refine c_seq (c_region ?_)
  refine pl_val (.pointer (some ⟨g2, 1, none⟩)) (y_faddr rfl Fa51x1) ?_
  refine pl_val (.slice pa0 pn0 pc0) (y_load rfl ((box_load Ag49 Sz49 hb2 [(.int .i64 r_.1)] [(.slice pa0 pn0 pc0)] [] rfl rfl (fun _ => rfl)) _ (Chg.refl _ _))) ?_
  refine pl_val (.int .i64 k46) (y_move rfl) ?_
  obtain ⟨y55, hy55, hs⟩ := bind_some hs
  obtain ⟨a54, n54, c54, hv54, hr54, hq54, hz54⟩ := rs_part Try.underlying49 Sz25 h0 hy55
  refine pl_val (.slice a54 n54 c54) (y_slice rfl rfl rfl (hq54 rfl _)) ?_
  refine pl_val (.int .i64 (y55.length : Int)) (y_len' Sl49 (rs_len hv54) rfl) ?_
  refine pl_val (.int .i64 0) (y_move rfl) ?_
  refine c_nil ?_
  obtain ⟨o76, hl77, hs⟩ := bind_some hs
  refine wp_block ?_
  refine wp_forR (id := 2) (I := fun i_ xs_ s72 a w73 => ∃ k74 : Nat, i_ = (k74 : Int) ∧ List.drop k74 y55 = xs_ ∧ (∃ (σ : Nat → Value), a = fr 46 (ovl σ [(1, (.pointer (some ⟨g2, 0, none⟩))), (4, (.slice a52 n52 c52)), (8, (.slice pa0 pn0 pc0)), (9, (.int .i64 (r_.2.length : Int))), (10, (.int .i64 k46)), (18, (.slice a54 n54 c54)), (19, (.int .i64 (y55.length : Int))), (20, (.int .i64 (k74 : Int)))]) ∧ Chg [] w w73 ∧ Own (Nw w []) M w73 (([g2]) ++ []) ∧ (RT.rs (RT.rs (RT.int .i64))).val M w73 (.slice pa0 pn0 pc0) r_.2 ([]) ∧ BoxV w73 g2 51 [(.int .i64 r_.1), (.slice pa0 pn0 pc0)] ∧ (RT.rs (RT.int .i64)).val M w73 (.slice a52 n52 c52) x50 ([]) ∧ (RT.rs (RT.rs (RT.int .i64))).val M w73 (.slice a54 n54 c54) y55 ([]))) (J := fun s72 a w73 => ∃ (σ : Nat → Value), a = fr 46 (ovl σ [(1, (.pointer (some ⟨g2, 0, none⟩))), (8, (.slice pa0 pn0 pc0)), (9, (.int .i64 (r_.2.length : Int))), (10, (.int .i64 k46))]) ∧ Chg [] w w73 ∧ Own (Nw w []) M w73 (([g2]) ++ []) ∧ (RT.rs (RT.rs (RT.int .i64))).val M w73 (.slice pa0 pn0 pc0) r_.2 ([]) ∧ BoxV w73 g2 51 [(.int .i64 r_.1), (.slice pa0 pn0 pc0)] ∧ (RT.rs (RT.int .i64)).val M w73 (.slice a52 n52 c52) x50 ([]) ∧ (RT.rs (RT.rs (RT.int .i64))).val M w73 (.slice a54 n54 c54) y55 ([])) (K := (k_impl_isInnerIso M w)) ?_ ?_ y55 0 () o76 _ _ ?_ hl77 ?_
  ·rintro _ s72 a w73 ⟨k74, rfl, hd, σ, rfl, hC, hO, h0, hb2, hv52, hv54⟩
   have hlt := drop_nil_ge hd
   refine c_seq (c_region ?_)
   refine pl_val (.bool (decide ((k74 : Int) < (y55.length : Int)))) (y_lss rfl rfl) ?_
   refine c_nil ?_
   refine c_seq ?_
   refine c_condF (congrArg Value.bool (decide_eq_false hlt)) ?_
   refine wp_exit ?_
   exact ⟨rfl, _, fr_ovl 46 ⟨rfl, rfl, rfl, rfl, trivial⟩, hC, hO, h0, hb2, hv52, hv54⟩
  ·rintro _ x75 xs_ s72 o76 a w73 ⟨k74, rfl, hd, σ, rfl, hC, hO, h0, hb2, hv52, hv54⟩ hs
   have hlt := drop_cons_lt hd
   have hxk74 := drop_cons_idx hd
   refine c_seq (c_region ?_)
   refine pl_val (.bool (decide ((k74 : Int) < (y55.length : Int)))) (y_lss rfl rfl) ?_
   refine c_nil ?_
   refine c_seq ?_
   refine c_condT (congrArg Value.bool (decide_eq_true hlt)) ?_
   refine wp_skip ?_
   refine c_seq ?_
   refine wp_block ?_
   refine c_seq (c_region ?_)
   obtain ⟨b78, o78, hp78, ha78⟩ := rs_idx Sl49 Sz25 hv54 hxk74
   refine pl_val (.pointer (some ⟨b78, o78, none⟩)) (hp78 _ _ _ _ _ _ _ _ _ rfl rfl) ?_
   obtain ⟨v79, hl79, hv79⟩ := at_load Ag25 Sz25 (fun _ => rfl) ha78
   obtain ⟨a79, n79, c79, rfl⟩ := rs_sl hv79
   refine pl_val (.slice a79 n79 c79) (y_load rfl (hl79 _ (Chg.refl _ _))) ?_
   refine pl_val (.slice a79 n79 c79) (y_assign rfl) ?_
   refine c_nil ?_
   refine c_seq ?_
   refine x_start [] Mx rfl ?_
   have hCw81 := Chg.drew w73
   generalize World.drew w73 = w81 at hCw81 ⊢
   have h0 := h0.ext hCw81
   have hb2 := hb2.chg hCw81 (fun h => nomatch h)
   have hv52 := hv52.ext hCw81
   have hv54 := hv54.ext hCw81
   have hv79 := hv79.ext hCw81
   have hC := hC.ext hCw81
   have hO := hO.ext hCw81
   have hS := Chg.refl [] w81
   refine x_p 0 (.slice a52 n52 c52) rfl (by kernel_rfl)  (fun _ => y_move rfl) (fun _ => hS) ?_
   obtain ⟨x82, hx82, hs⟩ := bind_some hs
   obtain ⟨b83, o83, hp83, ha83⟩ := rs_idx Sl25 Sz3 hv52 hx82
   refine x_p 1 (.pointer (some ⟨b83, o83, none⟩)) rfl (by kernel_rfl)  (fun _ => hp83 _ _ _ _ _ _ _ _ _ rfl rfl) (fun _ => hS) ?_
   refine x_l 2 (.int .i64 x82) rfl (by kernel_rfl)  (fun w' hw' => y_load rfl ((at_load_int Ag3 Sz3 ha83) w' hw')) hS ?_
   refine x_p 3 (.slice a79 n79 c79) rfl (by kernel_rfl)  (fun _ => y_move rfl) (fun _ => hS) ?_
   obtain ⟨x84, hx84, hs⟩ := bind_some hs
   obtain ⟨b85, o85, hp85, ha85⟩ := rs_idx Sl25 Sz3 hv79 hx84
   refine x_p 4 (.pointer (some ⟨b85, o85, none⟩)) rfl (by kernel_rfl)  (fun _ => hp85 _ _ _ _ _ _ _ _ _ rfl rfl) (fun _ => hS) ?_
   refine x_l 5 (.int .i64 x84) rfl (by kernel_rfl)  (fun w' hw' => y_load rfl ((at_load_int Ag3 Sz3 ha85) w' hw')) hS ?_
   refine x_p 6 (.bool (x82 == x84)) rfl (by kernel_rfl)  (fun _ => y_eql rfl rfl) (fun _ => hS) ?_
   refine x_p 7 (.bool (x82 == x84)) rfl (by kernel_rfl)  (fun _ => y_move rfl) (fun _ => hS) ?_
   rcases bif_some hs with ⟨hc86, hs⟩ | ⟨hc86, hs⟩
   ·skip
    refine x_pn 8 rfl (by kernel_rfl) (tg := 31) (by kernel_rfl) (congrArg Value.bool hc86) (fun _ => hS) ?_
    refine x_pn 9 rfl (by kernel_rfl) (tg := 31) (by kernel_rfl) (congrArg Value.bool hc86) (fun _ => hS) ?_
    refine x_pn 10 rfl (by kernel_rfl) (tg := 31) (by kernel_rfl) (congrArg Value.bool hc86) (fun _ => hS) ?_
    refine x_pn 11 rfl (by kernel_rfl) (tg := 31) (by kernel_rfl) (congrArg Value.bool hc86) (fun _ => hS) ?_
    refine x_pn 12 rfl (by kernel_rfl) (tg := 31) (by kernel_rfl) (congrArg Value.bool hc86) (fun _ => hS) ?_
    refine x_pn 13 rfl (by kernel_rfl) (tg := 31) (by kernel_rfl) (congrArg Value.bool hc86) (fun _ => hS) ?_
    refine x_pn 14 rfl (by kernel_rfl) (tg := 31) (by kernel_rfl) (congrArg Value.bool hc86) (fun _ => hS) ?_
    refine x_p 15 (.bool true) rfl (by kernel_rfl)  (fun _ => y_pick_t (congrArg Value.bool hc86) rfl) (fun _ => hS) ?_
    refine x_end (by kernel_rfl) ?_
    clear hS
    refine c_condT (by rfl) ?_
    refine c_seq (c_region ?_)
    refine pl_val (.bool false) (y_assign rfl) ?_
    refine c_nil ?_
    refine wp_ret ?_
    cases hs
    exact ⟨_, fr_ovl 46 ⟨rfl, trivial⟩, hC⟩
   ·skip
    refine x_py 8 (.slice a52 n52 c52) rfl (by kernel_rfl) (tg := 31) (by kernel_rfl) (congrArg Value.bool hc86) (fun _ => y_move rfl) (fun _ => hS) ?_
    obtain ⟨x87, hx87, hs⟩ := bind_some hs
    obtain ⟨b88, o88, hp88, ha88⟩ := rs_idx Sl25 Sz3 hv52 hx87
    refine x_py 9 (.pointer (some ⟨b88, o88, none⟩)) rfl (by kernel_rfl) (tg := 31) (by kernel_rfl) (congrArg Value.bool hc86) (fun _ => hp88 _ _ _ _ _ _ _ _ _ rfl rfl) (fun _ => hS) ?_
    refine x_ly 10 (.int .i64 x87) rfl (by kernel_rfl) (tg := 31) (by kernel_rfl) (congrArg Value.bool hc86) (fun w' hw' => y_load rfl ((at_load_int Ag3 Sz3 ha88) w' hw')) hS ?_
    refine x_py 11 (.slice a79 n79 c79) rfl (by kernel_rfl) (tg := 31) (by kernel_rfl) (congrArg Value.bool hc86) (fun _ => y_move rfl) (fun _ => hS) ?_
    obtain ⟨x89, hx89, hs⟩ := bind_some hs
    obtain ⟨b90, o90, hp90, ha90⟩ := rs_idx Sl25 Sz3 hv79 hx89
    refine x_py 12 (.pointer (some ⟨b90, o90, none⟩)) rfl (by kernel_rfl) (tg := 31) (by kernel_rfl) (congrArg Value.bool hc86) (fun _ => hp90 _ _ _ _ _ _ _ _ _ rfl rfl) (fun _ => hS) ?_
    refine x_ly 13 (.int .i64 x89) rfl (by kernel_rfl) (tg := 31) (by kernel_rfl) (congrArg Value.bool hc86) (fun w' hw' => y_load rfl ((at_load_int Ag3 Sz3 ha90) w' hw')) hS ?_
    refine x_py 14 (.bool (x87 == x89)) rfl (by kernel_rfl) (tg := 31) (by kernel_rfl) (congrArg Value.bool hc86) (fun _ => y_eql rfl rfl) (fun _ => hS) ?_
    refine x_p 15 (.bool (x87 == x89)) rfl (by kernel_rfl)  (fun _ => y_pick_f (congrArg Value.bool hc86) rfl) (fun _ => hS) ?_
    refine x_end (by kernel_rfl) ?_
    clear hS
    rcases bif_some hs with ⟨hc91, hs⟩ | ⟨hc91, hs⟩
    ·skip
     refine c_condT (congrArg Value.bool hc91) ?_
     refine c_seq (c_region ?_)
     refine pl_val (.bool false) (y_assign rfl) ?_
     refine c_nil ?_
     refine wp_ret ?_
     cases hs
     exact ⟨_, fr_ovl 46 ⟨rfl, trivial⟩, hC⟩
    ·skip
     refine c_condF (congrArg Value.bool hc91) ?_
     refine wp_skip ?_
     refine c_region ?_
     refine pl_val (.int .i64 (w64 ((k74 : Int) + 1))) (y_add rfl rfl) ?_
     refine pl_val (.int .i64 (w64 ((k74 : Int) + 1))) (y_move rfl) ?_
     refine c_nil ?_
     cases hs
     exact ⟨_, rfl, drop_cons_next hd, _, fr_ovl 46 ⟨rfl, rfl, rfl, rfl, rfl, rfl, rfl, congrArg (Value.int .i64) (w64_succ hlt (Int.natCast_nonneg _) (rs_max hv54)), trivial⟩, hC, hO, h0, hb2, hv52, hv54⟩
  ·skip
   exact ⟨0, rfl, rfl, _, fr_ovl 46 ⟨rfl, rfl, rfl, rfl, rfl, rfl, rfl, rfl, trivial⟩, hC, hO, h0, hb2, hv52, hv54⟩
  ·cases o76 with
   | nx _ => exact True.intro
   | rt r_ =>
    have hs := after_rt hs
    intro a1 w1 hK
    cases hs
    exact hK
   | br s72 =>
    have hs := after_br hs
    rintro a1 w73 ⟨σ, rfl, hC, hO, h0, hb2, hv52, hv54⟩
    refine c_region ?_
    refine pl_val (.int .i64 (w64 (k46 + 1))) (y_add rfl rfl) ?_
    refine pl_val (.int .i64 (w64 (k46 + 1))) (y_move rfl) ?_
    refine c_nil ?_
    cases hs
    exact ⟨_, fr_ovl 46 ⟨rfl, rfl, rfl, congrArg (Value.int .i64) hw, trivial⟩, hC, hO, h0, hb2⟩
 ·skip
  exact ⟨_, fr_ovl 46 ⟨rfl, rfl, rfl, rfl, trivial⟩, hC, hO, h0, hb2⟩
 ·cases o48 with
  | nx _ => exact True.intro
  | rt r_ =>
   have hs := after_rt hs
   intro a1 w1 hK
   cases hs
   exact hK
  | br s44 =>
   have hs := after_br hs
   rintro a1 w45 ⟨σ, rfl, hC, hO, h0, hb2⟩
   refine c_seq (c_region ?_)
   refine pl_val (.pointer (some ⟨g2, 1, none⟩)) (y_faddr rfl Fa51x1) ?_
   refine pl_val (.slice pa0 pn0 pc0) (y_load rfl ((box_load Ag49 Sz49 hb2 [(.int .i64 r_.1)] [(.slice pa0 pn0 pc0)] [] rfl rfl (fun _ => rfl)) _ (Chg.refl _ _))) ?_
   refine pl_val (.int .i64 (r_.2.length : Int)) (y_len' Sl49 (rs_len h0) rfl) ?_
   refine pl_val (.bool (decide (0 < (r_.2.length : Int)))) (y_gtr rfl rfl) ?_
   refine pl_val (.bool (decide (0 < (r_.2.length : Int)))) (y_assign rfl) ?_
   refine c_nil ?_
   refine wp_ret ?_
   cases hs
   exact ⟨_, fr_ovl 46 ⟨rfl, trivial⟩, hC⟩

def k_impl_isWhole (M : Nat → Prop) (w0 : World) (r : Bool) (a : Act) (w : World) : Prop :=
  ∃ (σ : Nat → Value) , a = fr 42 (ovl σ [(4, (.bool r))]) ∧ Chg [] w0 w
def s_impl_isWhole (n : Int) (r_ : Int × (List (List Int))) : Option (Bool) :=
  (mks n (false : Bool)).bind fun y5 =>
  (forR (S := (List Bool) × (List Bool)) (R := Bool) (fun _ x62 s59 =>
  (idx x62 0).bind fun x73 =>
  (idx x62 1).bind fun x75 =>
  (idx s59.1 x73).bind fun x77 =>
  (idx s59.2 x75).bind fun x80 =>
  some (.nx (List.set s59.1 (Int.toNat x73) true, List.set s59.2 (Int.toNat x75) true))) 0 r_.2 (y5, y5)).bind fun o63 => after o63 (fun r_ => some r_) (fun s59 =>
  (s_impl_marked s59.1).bind fun r85 =>
  (s_impl_marked s59.2).bind fun r88 =>
  some ((r_.2.length : Int) == (w64 ((r85.length : Int) * (r88.length : Int)))))
set_option maxHeartbeats 4000000 in
theorem c_impl_isWhole {M : Nat → Prop} {w : World} {pa0 : Option Addr} {pn0 pc0 : Nat} (n : Int) (r_ : Int × (List (List Int))) (h0 : (RT.rs (RT.rs (RT.int .i64))).val M w (.slice pa0 pn0 pc0) r_.2 ([])) (hM : ∀ g, w.heap.size ≤ g → M g) {r : Bool} (hs : s_impl_isWhole n r_ = some r) :
    Gives Try.prog 47 [(.int .i64 n), (.agg #[(.int .i64 r_.1), (.slice pa0 pn0 pc0)])] w (fun v w' => v = (.bool r) ∧ Chg [] w w') := by
 refine calls_fr Try.func47 rfl Try.ntmps47 (Nat.le_of_ble_eq_true rfl) ?_
 have hO := Own.start (N := Nw w []) hM Nw.fut
 have hC := Chg.refl [] w
 unfold s_impl_isWhole at hs
 refine wp_mono (Q := KPost (k_impl_isWhole M w r)) ?_ (fun e a w1 h => ?_)
 rotate_left
 ·cases e
  case ret =>
   obtain ⟨σ, rfl, hrest⟩ := h
   exact ret1x Try.results47 (res_tmp rfl) ⟨rfl, hrest⟩
  all_goals exact (h : False).elim
 refine c_seq (c_region ?_)
 obtain ⟨w2, g2, ew2, eg2, hC2, hb2⟩ := new_block w [(.int .i64 r_.1), (.slice pa0 pn0 pc0)] 51
 refine pl_val (w' := w2) (.pointer (some ⟨g2, 0, none⟩)) (y_box rfl (by rw [ew2, eg2]; kernel_rfl)) ?_
 have h0 := h0.ext hC2
 have hC := hC.ext hC2
 have hO := hO.new1 hC2 eg2 hb2.lt
 refine pl_val (.bool false) (y_assign rfl) ?_
 refine c_nil ?_
 refine c_seq ?_
 obtain ⟨y5, hy5, hs⟩ := bind_some hs
 refine c_mid (I := fun a w7 => ∃ (σ : Nat → Value) (a4 : Option Addr) (a7 : Option Addr) (c4 : Nat) (c7 : Nat) (f4 : List Nat) (f7 : List Nat) (n4 : Nat) (n7 : Nat), a = fr 42 (ovl σ [(3, (.pointer (some ⟨g2, 0, none⟩))), (4, (.bool false)), (5, (.slice a4 n4 c4)), (6, (.slice a7 n7 c7))]) ∧ Chg [] w w7 ∧ Own (Nw w []) M w7 (f7 ++ (f4 ++ (([g2]) ++ []))) ∧ (RT.rs (RT.rs (RT.int .i64))).val M w7 (.slice pa0 pn0 pc0) r_.2 ([]) ∧ BoxV w7 g2 51 [(.int .i64 r_.1), (.slice pa0 pn0 pc0)] ∧ (RT.os 4 RT.bool).val M w7 (.slice a4 n4 c4) y5 f4 ∧ (RT.os 4 RT.bool).val M w7 (.slice a7 n7 c7) y5 f7) ?_ ?_
 ·skip
  refine x_start [] Mx rfl ?_
  have hCw16 := Chg.drew w2
  generalize World.drew w2 = w16 at hCw16 ⊢
  have h0 := h0.ext hCw16
  have hb2 := hb2.chg hCw16 (fun h => nomatch h)
  have hC := hC.ext hCw16
  have hO := hO.ext hCw16
  have hS := Chg.refl [] w16
  refine x_p 0 (.int .i64 n) rfl (by kernel_rfl)  (fun _ => y_move rfl) (fun _ => hS) ?_
  refine x_p 2 (.int .i64 n) rfl (by kernel_rfl)  (fun _ => y_move rfl) (fun _ => hS) ?_
  refine x_two (i := 1) (j := 3) (by kernel_rfl) ?_ ?_
  ·skip
   obtain ⟨a17, n17, c17, w17, f17, hm17, hC17, hfr17, hv17⟩ := mk_os (M := M) (w := w16) (r := RT.bool) Rw86 hy5 (fun _ _ => ⟨rfl, rfl⟩)
   refine xk_val (w' := w17) (b := false) (.slice a17 n17 c17) rfl  (y_make rfl rfl hm17) rfl (fun _ => hS.ext hC17) ?_
   have h0 := h0.ext hC17
   have hb2 := hb2.chg hC17 (fun h => nomatch h)
   have hC := hC.ext hC17
   have hO := hO.new hC17 hfr17 (os_nodup hv17) hv17.fpl
   have hS := hS.ext hC17
   refine x_p 4 (.slice a17 n17 c17) rfl (by kernel_rfl)  (fun _ => y_assign rfl) (fun _ => hS) ?_
   refine x_one (i := 3) (by kernel_rfl) ?_
   obtain ⟨a20, n20, c20, w20, f20, hm20, hC20, hfr20, hv20⟩ := mk_os (M := M) (w := w17) (r := RT.bool) Rw86 hy5 (fun _ _ => ⟨rfl, rfl⟩)
   refine xk_val (w' := w20) (b := false) (.slice a20 n20 c20) rfl  (y_make rfl rfl hm20) rfl (fun _ => hS.ext hC20) ?_
   have h0 := h0.ext hC20
   have hb2 := hb2.chg hC20 (fun h => nomatch h)
   have hv17 := hv17.ext hC20
   have hC := hC.ext hC20
   have hO := hO.new hC20 hfr20 (os_nodup hv20) hv20.fpl
   have hS := hS.ext hC20
   refine x_p 5 (.slice a20 n20 c20) rfl (by kernel_rfl)  (fun _ => y_assign rfl) (fun _ => hS) ?_
   refine x_end (by kernel_rfl) ?_
   clear hS
   have hO := hO.fr2
   have hO := hO.fr2
   have hO := hO.fr2
   exact ⟨_, a17, a20, c17, c20, f17, f20, n17, n20, fr_ovl 42 ⟨rfl, rfl, rfl, rfl, trivial⟩, hC, hO, h0, hb2, hv17, hv20⟩
  ·skip
   obtain ⟨a23, n23, c23, w23, f23, hm23, hC23, hfr23, hv23⟩ := mk_os (M := M) (w := w16) (r := RT.bool) Rw86 hy5 (fun _ _ => ⟨rfl, rfl⟩)
   refine xk_val (w' := w23) (b := false) (.slice a23 n23 c23) rfl  (y_make rfl rfl hm23) rfl (fun _ => hS.ext hC23) ?_
   have h0 := h0.ext hC23
   have hb2 := hb2.chg hC23 (fun h => nomatch h)
   have hC := hC.ext hC23
   have hO := hO.new hC23 hfr23 (os_nodup hv23) hv23.fpl
   have hS := hS.ext hC23
   refine x_one (i := 1) (by kernel_rfl) ?_
   obtain ⟨a26, n26, c26, w26, f26, hm26, hC26, hfr26, hv26⟩ := mk_os (M := M) (w := w23) (r := RT.bool) Rw86 hy5 (fun _ _ => ⟨rfl, rfl⟩)
   refine xk_val (w' := w26) (b := false) (.slice a26 n26 c26) rfl  (y_make rfl rfl hm26) rfl (fun _ => hS.ext hC26) ?_
   have h0 := h0.ext hC26
   have hb2 := hb2.chg hC26 (fun h => nomatch h)
   have hv23 := hv23.ext hC26
   have hC := hC.ext hC26
   have hO := hO.new hC26 hfr26 (os_nodup hv26) hv26.fpl
   have hS := hS.ext hC26
   refine x_p 4 (.slice a26 n26 c26) rfl (by kernel_rfl)  (fun _ => y_assign rfl) (fun _ => hS) ?_
   refine x_p 5 (.slice a23 n23 c23) rfl (by kernel_rfl)  (fun _ => y_assign rfl) (fun _ => hS) ?_
   refine x_end (by kernel_rfl) ?_
   clear hS
   have hO := hO.fr2
   have hO := hO.fr1
   have hO := hO.fr2
   exact ⟨_, a26, a23, c26, c23, f26, f23, n26, n23, fr_ovl 42 ⟨rfl, rfl, rfl, rfl, trivial⟩, hC, hO, h0, hb2, hv26, hv23⟩
 ·rintro a1 w7 ⟨σ, a4, a7, c4, c7, f4, f7, n4, n7, rfl, hC, hO, h0, hb2, hv4, hv7⟩
  refine c_seq ?_
  refine c_seq (c_region ?_)
  refine pl_val (.pointer (some ⟨g2, 1, none⟩)) (y_faddr rfl Fa51x1) ?_
  refine pl_val (.slice pa0 pn0 pc0) (y_load rfl ((box_load Ag49 Sz49 hb2 [(.int .i64 r_.1)] [(.slice pa0 pn0 pc0)] [] rfl rfl (fun _ => rfl)) _ (Chg.refl _ _))) ?_
  refine pl_val (.int .i64 (r_.2.length : Int)) (y_len' Sl49 (rs_len h0) rfl) ?_
  refine pl_val (.int .i64 0) (y_move rfl) ?_
  refine c_nil ?_
  obtain ⟨o63, hl64, hs⟩ := bind_some hs
  refine wp_block ?_
  refine wp_forR (id := 0) (I := fun i_ xs_ s59 a w60 => ∃ k61 : Nat, i_ = (k61 : Int) ∧ List.drop k61 r_.2 = xs_ ∧ (∃ (σ : Nat → Value) (f65 : List Nat) (f66 : List Nat), a = fr 42 (ovl σ [(3, (.pointer (some ⟨g2, 0, none⟩))), (5, (.slice a4 n4 c4)), (6, (.slice a7 n7 c7)), (14, (.slice pa0 pn0 pc0)), (15, (.int .i64 (r_.2.length : Int))), (16, (.int .i64 (k61 : Int)))]) ∧ Chg [] w w60 ∧ Own (Nw w []) M w60 (f66 ++ (f65 ++ (([g2]) ++ []))) ∧ (RT.rs (RT.rs (RT.int .i64))).val M w60 (.slice pa0 pn0 pc0) r_.2 ([]) ∧ BoxV w60 g2 51 [(.int .i64 r_.1), (.slice pa0 pn0 pc0)] ∧ (RT.os 4 RT.bool).val M w60 (.slice a4 n4 c4) s59.1 f65 ∧ (RT.os 4 RT.bool).val M w60 (.slice a7 n7 c7) s59.2 f66)) (J := fun s59 a w60 => ∃ (σ : Nat → Value) (f67 : List Nat) (f68 : List Nat), a = fr 42 (ovl σ [(3, (.pointer (some ⟨g2, 0, none⟩))), (5, (.slice a4 n4 c4)), (6, (.slice a7 n7 c7))]) ∧ Chg [] w w60 ∧ Own (Nw w []) M w60 (f68 ++ (f67 ++ (([g2]) ++ []))) ∧ (RT.rs (RT.rs (RT.int .i64))).val M w60 (.slice pa0 pn0 pc0) r_.2 ([]) ∧ BoxV w60 g2 51 [(.int .i64 r_.1), (.slice pa0 pn0 pc0)] ∧ (RT.os 4 RT.bool).val M w60 (.slice a4 n4 c4) s59.1 f67 ∧ (RT.os 4 RT.bool).val M w60 (.slice a7 n7 c7) s59.2 f68) (K := (k_impl_isWhole M w)) ?_ ?_ r_.2 0 (y5, y5) o63 _ _ ?_ hl64 ?_
  ·rintro _ s59 a w60 ⟨k61, rfl, hd, σ, f65, f66, rfl, hC, hO, h0, hb2, hv65, hv66⟩
   have hlt := drop_nil_ge hd
   refine c_seq (c_region ?_)
   refine pl_val (.bool (decide ((k61 : Int) < (r_.2.length : Int)))) (y_lss rfl rfl) ?_
   refine c_nil ?_
   refine c_seq ?_
   refine c_condF (congrArg Value.bool (decide_eq_false hlt)) ?_
   refine wp_exit ?_
   have hO := hO.fr2
   have hO := hO.fr2
   have hO := hO.fr2
   exact ⟨rfl, _, f65, f66, fr_ovl 42 ⟨rfl, rfl, rfl, trivial⟩, hC, hO, h0, hb2, hv65, hv66⟩
  ·rintro _ x62 xs_ s59 o63 a w60 ⟨k61, rfl, hd, σ, f65, f66, rfl, hC, hO, h0, hb2, hv65, hv66⟩ hs
   have hlt := drop_cons_lt hd
   have hxk61 := drop_cons_idx hd
   refine c_seq (c_region ?_)
   refine pl_val (.bool (decide ((k61 : Int) < (r_.2.length : Int)))) (y_lss rfl rfl) ?_
   refine c_nil ?_
   refine c_seq ?_
   refine c_condT (congrArg Value.bool (decide_eq_true hlt)) ?_
   refine wp_skip ?_
   refine c_seq ?_
   refine wp_block ?_
   refine c_seq (c_region ?_)
   obtain ⟨b69, o69, hp69, ha69⟩ := rs_idx Sl49 Sz25 h0 hxk61
   refine pl_val (.pointer (some ⟨b69, o69, none⟩)) (hp69 _ _ _ _ _ _ _ _ _ rfl rfl) ?_
   obtain ⟨v70, hl70, hv70⟩ := at_load Ag25 Sz25 (fun _ => rfl) ha69
   obtain ⟨a70, n70, c70, rfl⟩ := rs_sl hv70
   refine pl_val (.slice a70 n70 c70) (y_load rfl (hl70 _ (Chg.refl _ _))) ?_
   refine pl_val (.slice a70 n70 c70) (y_assign rfl) ?_
   refine c_nil ?_
   refine x_start [9, 11] Mx rfl ?_
   have hCw72 := Chg.drew w60
   generalize World.drew w60 = w72 at hCw72 ⊢
   have h0 := h0.ext hCw72
   have hb2 := hb2.chg hCw72 (fun h => nomatch h)
   have hv65 := hv65.ext hCw72
   have hv66 := hv66.ext hCw72
   have hv70 := hv70.ext hCw72
   have hC := hC.ext hCw72
   have hO := hO.ext hCw72
   have hS := Chg.refl [] w72
   refine x_p 0 (.slice a4 n4 c4) rfl (by kernel_rfl)  (fun _ => y_move rfl) (fun _ => hS) ?_
   refine x_p 1 (.slice a70 n70 c70) rfl (by kernel_rfl)  (fun _ => y_move rfl) (fun _ => hS) ?_
   obtain ⟨x73, hx73, hs⟩ := bind_some hs
   obtain ⟨b74, o74, hp74, ha74⟩ := rs_idx Sl25 Sz3 hv70 hx73
   refine x_p 2 (.pointer (some ⟨b74, o74, none⟩)) rfl (by kernel_rfl)  (fun _ => hp74 _ _ _ _ _ _ _ _ _ rfl rfl) (fun _ => hS) ?_
   refine x_l 3 (.int .i64 x73) rfl (by kernel_rfl)  (fun w' hw' => y_load rfl ((at_load_int Ag3 Sz3 ha74) w' hw')) hS ?_
   refine x_p 4 (.slice a7 n7 c7) rfl (by kernel_rfl)  (fun _ => y_move rfl) (fun _ => hS) ?_
   refine x_p 5 (.slice a70 n70 c70) rfl (by kernel_rfl)  (fun _ => y_move rfl) (fun _ => hS) ?_
   obtain ⟨x75, hx75, hs⟩ := bind_some hs
   obtain ⟨b76, o76, hp76, ha76⟩ := rs_idx Sl25 Sz3 hv70 hx75
   refine x_p 6 (.pointer (some ⟨b76, o76, none⟩)) rfl (by kernel_rfl)  (fun _ => hp76 _ _ _ _ _ _ _ _ _ rfl rfl) (fun _ => hS) ?_
   refine x_l 7 (.int .i64 x75) rfl (by kernel_rfl)  (fun w' hw' => y_load rfl ((at_load_int Ag3 Sz3 ha76) w' hw')) hS ?_
   obtain ⟨x77, hx77, hs⟩ := bind_some hs
   obtain ⟨g78, f78, hg78, hk78, hp78, ha78, hf78⟩ := os_idx Sl86 Sz4 hv65 hx77
   refine x_p 8 (.pointer (some ⟨g78, 0 + Int.toNat x73 * 1, none⟩)) rfl (by kernel_rfl)  (fun _ => hp78 _ _ _ _ _ _ _ _ _ rfl rfl) (fun _ => hS) ?_
   refine x_one (i := 9) (by kernel_rfl) ?_
   have hO := hO.fr1
   obtain ⟨w79, f79, hst79, hC79, hf79, hv79⟩ := os_store (P := Try.prog) (c' := [(.bool true)]) hg78 hv65 hk78 (fun g hg => hO.inM g (os_block hv65 g (by simpa using hg))) ⟨rfl, rfl⟩ List.nodup_nil (fun _ h => nomatch h) (fun _ h => .inl h)
   have hG79 : ∀ q ∈ [g78], q ∈ f65 := fun q hq => os_block hv65 q (by rw [hg78]; exact hq)
   refine xk_skip (w' := w79) (b := true) rfl (ys_store rfl rfl (hst79 _ _ rfl Sz4)) rfl (fun h => nomatch h) ?_
   have h0 := h0.mut hC79 (fun g hg => hO.inM g (hG79 g hg)) (fun _ _ h => nomatch h)
   have hb2 := hb2.chg hC79 (fun hg => hO.apart _ (hG79 _ hg) (mem_r (mem_l (List.mem_singleton.2 rfl))))
   have hv66 := hv66.mut hC79 (fun g hg => hO.inM g (hG79 g hg)) (fun g hg e => hO.apart g (hG79 g hg) (mem_l (e)))
   have hv70 := hv70.mut hC79 (fun g hg => hO.inM g (hG79 g hg)) (fun _ _ h => nomatch h)
   have hC := hC.step hC79 (fun g hg => hO.inN g (hG79 g hg))
   have hO := hO.grow hC79 (fun q hq => .inl ((hf79 q hq).resolve_right (fun h => nomatch h))) (os_nodup hv79) hv79.fpl
   obtain ⟨x80, hx80, hs⟩ := bind_some hs
   obtain ⟨g81, f81, hg81, hk81, hp81, ha81, hf81⟩ := os_idx Sl86 Sz4 hv66 hx80
   refine x_p 10 (.pointer (some ⟨g81, 0 + Int.toNat x75 * 1, none⟩)) rfl (by kernel_rfl)  (fun _ => hp81 _ _ _ _ _ _ _ _ _ rfl rfl) (fun h => nomatch h) ?_
   refine x_one (i := 11) (by kernel_rfl) ?_
   have hO := hO.fr1
   obtain ⟨w82, f82, hst82, hC82, hf82, hv82⟩ := os_store (P := Try.prog) (c' := [(.bool true)]) hg81 hv66 hk81 (fun g hg => hO.inM g (os_block hv66 g (by simpa using hg))) ⟨rfl, rfl⟩ List.nodup_nil (fun _ h => nomatch h) (fun _ h => .inl h)
   have hG82 : ∀ q ∈ [g81], q ∈ f66 := fun q hq => os_block hv66 q (by rw [hg81]; exact hq)
   refine xk_skip (w' := w82) (b := true) rfl (ys_store rfl rfl (hst82 _ _ rfl Sz4)) rfl (fun h => nomatch h) ?_
   have h0 := h0.mut hC82 (fun g hg => hO.inM g (hG82 g hg)) (fun _ _ h => nomatch h)
   have hb2 := hb2.chg hC82 (fun hg => hO.apart _ (hG82 _ hg) (mem_r (mem_l (List.mem_singleton.2 rfl))))
   have hv79 := hv79.mut hC82 (fun g hg => hO.inM g (hG82 g hg)) (fun g hg e => hO.apart g (hG82 g hg) (mem_l (e)))
   have hv70 := hv70.mut hC82 (fun g hg => hO.inM g (hG82 g hg)) (fun _ _ h => nomatch h)
   have hC := hC.step hC82 (fun g hg => hO.inN g (hG82 g hg))
   have hO := hO.grow hC82 (fun q hq => .inl ((hf82 q hq).resolve_right (fun h => nomatch h))) (os_nodup hv82) hv82.fpl
   refine x_end (by kernel_rfl) ?_
   clear hS
   refine c_region ?_
   refine pl_val (.int .i64 (w64 ((k61 : Int) + 1))) (y_add rfl rfl) ?_
   refine pl_val (.int .i64 (w64 ((k61 : Int) + 1))) (y_move rfl) ?_
   refine c_nil ?_
   cases hs
   have hO := hO.fr2
   have hO := hO.fr2
   have hO := hO.fr2
   exact ⟨_, rfl, drop_cons_next hd, _, f79, f82, fr_ovl 42 ⟨rfl, rfl, rfl, rfl, rfl, congrArg (Value.int .i64) (w64_succ hlt (Int.natCast_nonneg _) (rs_max h0)), trivial⟩, hC, hO, h0, hb2, hv79, hv82⟩
  ·skip
   have hO := hO.fr2
   have hO := hO.fr2
   have hO := hO.fr2
   exact ⟨0, rfl, rfl, _, f4, f7, fr_ovl 42 ⟨rfl, rfl, rfl, rfl, rfl, rfl, trivial⟩, hC, hO, h0, hb2, hv4, hv7⟩
  ·cases o63 with
   | nx _ => exact True.intro
   | rt r_ =>
    have hs := after_rt hs
    intro a1 w1 hK
    cases hs
    exact hK
   | br s59 =>
    have hs := after_br hs
    rintro a1 w60 ⟨σ, f67, f68, rfl, hC, hO, h0, hb2, hv67, hv68⟩
    refine c_seq ?_
    refine x_start [] Mx rfl ?_
    have hCw83 := Chg.drew w60
    generalize World.drew w60 = w83 at hCw83 ⊢
    have h0 := h0.ext hCw83
    have hb2 := hb2.chg hCw83 (fun h => nomatch h)
    have hv67 := hv67.ext hCw83
    have hv68 := hv68.ext hCw83
    have hC := hC.ext hCw83
    have hO := hO.ext hCw83
    have hS := Chg.refl [] w83
    refine x_p 0 (.pointer (some ⟨g2, 1, none⟩)) rfl (by kernel_rfl)  (fun _ => y_faddr rfl Fa51x1) (fun _ => hS) ?_
    refine x_l 1 (.slice pa0 pn0 pc0) rfl (by kernel_rfl)  (fun w' hw' => y_load rfl ((box_load Ag49 Sz49 hb2 [(.int .i64 r_.1)] [(.slice pa0 pn0 pc0)] [] rfl rfl (fun _ => rfl)) w' hw')) hS ?_
    refine x_p 2 (.int .i64 (r_.2.length : Int)) rfl (by kernel_rfl)  (fun _ => y_len' Sl49 (rs_len h0) rfl) (fun _ => hS) ?_
    refine x_p 3 (.slice a4 n4 c4) rfl (by kernel_rfl)  (fun _ => y_move rfl) (fun _ => hS) ?_
    refine x_p 6 (.slice a7 n7 c7) rfl (by kernel_rfl)  (fun _ => y_move rfl) (fun _ => hS) ?_
    refine x_one (i := 4) (by kernel_rfl) ?_
    have hO := hO.fr1
    obtain ⟨r85, hr85, hs⟩ := bind_some hs
    refine xk_call (b := false) rfl  Bd65 rfl (c_impl_marked (M := (Less M f67)) s59.1 (((Frz.os Frz.bool)).val hv67 Less.sub Less.not) hO.less.fut hr85) rfl (by rintro _ _ _ ⟨a84x0, n84x0, c84x0, f84x0, rfl, hC84, hv84x0, hOc84⟩; exact hS.ext hC84) ?_
    rintro _ w84 ⟨a84x0, n84x0, c84x0, f84x0, rfl, hC84, hv84x0, hOc84⟩
    have h0 := h0.ext hC84
    have hb2 := hb2.chg hC84 (fun h => nomatch h)
    have hv67 := hv67.ext hC84
    have hv68 := hv68.ext hC84
    have hC := hC.ext hC84
    have hO := Own.join0 hO hC84 hOc84
    have hO := hO.perm (R := f84x0 ++ (f67 ++ (f68 ++ (([g2]) ++ ([]))))) (by simp)
    have hv84x0 := hv84x0.free (M' := M) (Free.os Free.int)
    have hS := hS.ext hC84
    refine x_p 5 (.int .i64 (r85.length : Int)) rfl (by kernel_rfl)  (fun _ => y_len' Sl25 (os_len hv84x0) rfl) (fun _ => hS) ?_
    refine x_one (i := 7) (by kernel_rfl) ?_
    have hO := hO.fr2
    obtain ⟨r88, hr88, hs⟩ := bind_some hs
    refine xk_call (b := false) rfl  Bd65 rfl (c_impl_marked (M := (Less M f68)) s59.2 (((Frz.os Frz.bool)).val hv68 Less.sub Less.not) hO.less.fut hr88) rfl (by rintro _ _ _ ⟨a87x0, n87x0, c87x0, f87x0, rfl, hC87, hv87x0, hOc87⟩; exact hS.ext hC87) ?_
    rintro _ w87 ⟨a87x0, n87x0, c87x0, f87x0, rfl, hC87, hv87x0, hOc87⟩
    have h0 := h0.ext hC87
    have hb2 := hb2.chg hC87 (fun h => nomatch h)
    have hv67 := hv67.ext hC87
    have hv68 := hv68.ext hC87
    have hv84x0 := hv84x0.ext hC87
    have hC := hC.ext hC87
    have hO := Own.join0 hO hC87 hOc87
    have hO := hO.perm (R := f87x0 ++ (f68 ++ (f84x0 ++ (f67 ++ (([g2]) ++ ([])))))) (by simp)
    have hv87x0 := hv87x0.free (M' := M) (Free.os Free.int)
    have hS := hS.ext hC87
    refine x_p 8 (.int .i64 (r88.length : Int)) rfl (by kernel_rfl)  (fun _ => y_len' Sl25 (os_len hv87x0) rfl) (fun _ => hS) ?_
    refine x_p 9 (.int .i64 (w64 ((r85.length : Int) * (r88.length : Int)))) rfl (by kernel_rfl)  (fun _ => y_mul rfl rfl) (fun _ => hS) ?_
    refine x_p 10 (.bool ((r_.2.length : Int) == (w64 ((r85.length : Int) * (r88.length : Int))))) rfl (by kernel_rfl)  (fun _ => y_eql rfl rfl) (fun _ => hS) ?_
    refine x_p 11 (.bool ((r_.2.length : Int) == (w64 ((r85.length : Int) * (r88.length : Int))))) rfl (by kernel_rfl)  (fun _ => y_assign rfl) (fun _ => hS) ?_
    refine x_end (by kernel_rfl) ?_
    clear hS
    refine wp_ret ?_
    cases hs
    exact ⟨_, fr_ovl 42 ⟨rfl, trivial⟩, hC⟩

theorem Bd39 : Bodied Try.prog 39 := bodied Try.func39 (by kernel_rfl) rfl

theorem Sl43 : SlT Try.prog 43 51 := Try.underlying43

theorem Bd46 : Bodied Try.prog 46 := bodied Try.func46 (by kernel_rfl) rfl

theorem Bd47 : Bodied Try.prog 47 := bodied Try.func47 (by kernel_rfl) rfl

end Go.Proofs
