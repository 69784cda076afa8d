/- What functions of the program compute, as plain functions, and that a call gives just that. Conditions: those named in each theorem. -/
import Derived.Test.YtchgbcjecdnclaaF2
set_option linter.unusedVariables false
namespace Go.Proofs
open Go.G Go.RowKit
set_option maxRecDepth 100000

def k_sort_symMerge_func (M : Nat → Prop) (w0 : World) {α_ : Type} (I_ : World → List α_ → Prop) (G_ : List Nat) (r : (List α_)) (a : Act) (w : World) : Prop :=
  ∃ (σ : Nat → Value) , a = fr 177 (ovl σ []) ∧ Chg (G_ ++ ([])) w0 w ∧ I_ w r
def s_sort_symMerge_func {α_ : Type} : Nat → (α_ → α_ → Option Bool) → (List α_) → (Int) → (Int) → (Int) → Option ((List α_))
  | 0, _, _, _, _, _ => none
  | fu_ + 1, ls_, d_, a_, m, b =>
  (bif ((w64 (m - a_)) == 1) then (iter (S := Int × Int) (R := (List α_)) (fun s7 =>
  (bif (decide (s7.1 < s7.2)) then (lsx ls_ d_ (w64 (ishr .u64 (IntKind.u64.wrap (w64 (s7.1 + s7.2))) 1)) a_).bind fun r15 =>
  (bif r15 then some (.nx (w64 ((w64 (ishr .u64 (IntKind.u64.wrap (w64 (s7.1 + s7.2))) 1)) + 1), s7.2)) else some (.nx (s7.1, w64 (ishr .u64 (IntKind.u64.wrap (w64 (s7.1 + s7.2))) 1)))) else some (.br (s7.1, s7.2)))) FU (m, b)).bind fun o11 => after o11 (fun r_ => some r_) (fun s7 =>
  (forC (S := (List α_)) (R := (List α_)) (fun k24 s22 =>
  (swx s22 k24 (w64 (k24 + 1))).bind fun y31 =>
  some (.nx y31)) a_ (w64 (s7.1 - 1)) d_).bind fun o26 => after o26 (fun r_ => some r_) (fun s22 =>
  some s22)) else (bif ((w64 (b - m)) == 1) then (iter (S := Int × Int) (R := (List α_)) (fun s37 =>
  (bif (decide (s37.1 < s37.2)) then (lsx ls_ d_ m (w64 (ishr .u64 (IntKind.u64.wrap (w64 (s37.1 + s37.2))) 1))).bind fun r45 =>
  (bif (!r45) then some (.nx (w64 ((w64 (ishr .u64 (IntKind.u64.wrap (w64 (s37.1 + s37.2))) 1)) + 1), s37.2)) else some (.nx (s37.1, w64 (ishr .u64 (IntKind.u64.wrap (w64 (s37.1 + s37.2))) 1)))) else some (.br (s37.1, s37.2)))) FU (a_, m)).bind fun o41 => after o41 (fun r_ => some r_) (fun s37 =>
  (iter (S := Int × (List α_)) (R := (List α_)) (fun s54 =>
  (bif (decide (s37.1 < s54.1)) then (swx s54.2 s54.1 (w64 (s54.1 - 1))).bind fun y64 =>
  some (.nx (w64 (s54.1 - 1), y64)) else some (.br (s54.1, s54.2)))) FU (m, d_)).bind fun o58 => after o58 (fun r_ => some r_) (fun s54 =>
  some s54.2)) else (bif (decide ((w64 (ishr .u64 (IntKind.u64.wrap (w64 (a_ + b))) 1)) < m)) then some (w64 ((w64 ((w64 (ishr .u64 (IntKind.u64.wrap (w64 (a_ + b))) 1)) + m)) - b), w64 (ishr .u64 (IntKind.u64.wrap (w64 (a_ + b))) 1)) else some (a_, m)).bind fun s65 =>
  (iter (S := Int × Int) (R := (List α_)) (fun s73 =>
  (bif (decide (s73.1 < s73.2)) then (lsx ls_ d_ (w64 ((w64 ((w64 ((w64 (ishr .u64 (IntKind.u64.wrap (w64 (a_ + b))) 1)) + m)) - 1)) - (w64 (ishr .u64 (IntKind.u64.wrap (w64 (s73.1 + s73.2))) 1)))) (w64 (ishr .u64 (IntKind.u64.wrap (w64 (s73.1 + s73.2))) 1))).bind fun r81 =>
  (bif (!r81) then some (.nx (w64 ((w64 (ishr .u64 (IntKind.u64.wrap (w64 (s73.1 + s73.2))) 1)) + 1), s73.2)) else some (.nx (s73.1, w64 (ishr .u64 (IntKind.u64.wrap (w64 (s73.1 + s73.2))) 1)))) else some (.br (s73.1, s73.2)))) FU (s65.1, s65.2)).bind fun o77 => after o77 (fun r_ => some r_) (fun s73 =>
  (bif ((decide (s73.1 < m)) && (decide (m < (w64 ((w64 ((w64 (ishr .u64 (IntKind.u64.wrap (w64 (a_ + b))) 1)) + m)) - s73.1))))) then (s_sort_rotate_func ls_ d_ s73.1 m (w64 ((w64 ((w64 (ishr .u64 (IntKind.u64.wrap (w64 (a_ + b))) 1)) + m)) - s73.1))).bind fun r97 =>
  some r97 else some d_).bind fun s91 =>
  (bif ((decide (a_ < s73.1)) && (decide (s73.1 < (w64 (ishr .u64 (IntKind.u64.wrap (w64 (a_ + b))) 1))))) then (s_sort_symMerge_func fu_ ls_ s91 a_ s73.1 (w64 (ishr .u64 (IntKind.u64.wrap (w64 (a_ + b))) 1))).bind fun r112 =>
  some r112 else some s91).bind fun s106 =>
  (bif ((decide ((w64 (ishr .u64 (IntKind.u64.wrap (w64 (a_ + b))) 1)) < (w64 ((w64 ((w64 (ishr .u64 (IntKind.u64.wrap (w64 (a_ + b))) 1)) + m)) - s73.1)))) && (decide ((w64 ((w64 ((w64 (ishr .u64 (IntKind.u64.wrap (w64 (a_ + b))) 1)) + m)) - s73.1)) < b))) then (s_sort_symMerge_func fu_ ls_ s106 (w64 (ishr .u64 (IntKind.u64.wrap (w64 (a_ + b))) 1)) (w64 ((w64 ((w64 (ishr .u64 (IntKind.u64.wrap (w64 (a_ + b))) 1)) + m)) - s73.1)) b).bind fun r119 =>
  some r119 else some s106))))
set_option maxHeartbeats 4000000 in
theorem c_sort_symMerge_func : ∀ (fu_ : Nat) {M : Nat → Prop} {w : World} {α_ : Type} {n0_ : Nat} {I_ : World → List α_ → Prop} {G_ : List Nat} {g_ sf_ : Nat} {lb_ sb_ : Array Value} (ls_ : α_ → α_ → Option Bool) (d_ : List α_) (a_ : Int) (m : Int) (b : Int) (hN_ : n0_ ≤ w.heap.size) (hE_ : Env Try.prog n0_ I_ G_ ls_ g_ lb_ sf_ sb_) (hI_ : I_ w d_) (hI : Own (Nw w (G_ ++ ([]))) M w (G_ ++ ([]))) (hM : ∀ g, w.heap.size ≤ g → M g) {r : (List α_)} (hs : s_sort_symMerge_func fu_ ls_ d_ a_ m b = some r), Gives Try.prog 151 [(.agg #[(.func (.func g_) #[] lb_), (.func (.func sf_) #[] sb_)]), (.int .i64 a_), (.int .i64 m), (.int .i64 b)] w (fun v w' => v = (.tuple #[]) ∧ Chg (G_ ++ ([])) w w' ∧ I_ w' r) := by
 intro fu_
 induction fu_ with
 | zero => intro M w α_ n0_ I_ G_ g_ sf_ lb_ sb_ ls_ d_ a_ m b hN_ hE_ hI_ hI hM r hs; exact (nomatch hs)
 | succ fu_ c_ih =>
 intro M w α_ n0_ I_ G_ g_ sf_ lb_ sb_ ls_ d_ a_ m b hN_ hE_ hI_ hI hM r hs
 refine calls_fr Try.func151 rfl Try.ntmps151 (Nat.le_of_ble_eq_true rfl) ?_
 have hO := hI
 have hC := Chg.refl (G_ ++ ([])) w
 rw [s_sort_symMerge_func] at hs
 refine wp_mono (Q := KPostN (k_sort_symMerge_func M w I_ G_ r)) ?_ (fun e a w1 h => ?_)
 rotate_left
 ·cases e
  case ret =>
   obtain ⟨σ, rfl, hrest⟩ := h
   exact ret0x Try.results151  ⟨rfl, hrest⟩
  case normal =>
   obtain ⟨σ, rfl, hrest⟩ := h
   exact ret0n Try.results151  ⟨rfl, hrest⟩
  all_goals exact (h : False).elim
 refine c_seq (c_region ?_)
 obtain ⟨w1, g1, ew1, eg1, hC1, hb1⟩ := new_block w [(.func (.func g_) #[] lb_), (.func (.func sf_) #[] sb_)] 125
 refine pl_val (w' := w1) (.pointer (some ⟨g1, 0, none⟩)) (y_box rfl (by rw [ew1, eg1]; kernel_rfl)) ?_
 have hI_ := hE_.ext hI_ hC1 (fun _ h => nomatch h)
 have hC := hC.ext hC1
 have hO := hO.new1 hC1 eg1 hb1.lt
 refine c_nil ?_
 refine c_seq ?_
 refine c_seq (c_region ?_)
 refine pl_val (.int .i64 m) (y_move rfl) ?_
 refine pl_val (.int .i64 a_) (y_move rfl) ?_
 refine pl_val (.int .i64 (w64 (m - a_))) (y_sub rfl rfl) ?_
 refine pl_val (.bool ((w64 (m - a_)) == 1)) (y_eql rfl rfl) ?_
 refine c_nil ?_
 rcases bif_some hs with ⟨hc2, hs⟩ | ⟨hc2, hs⟩
 ·skip
  refine c_condT (congrArg Value.bool hc2) ?_
  refine c_seq (c_region ?_)
  refine pl_val (.int .i64 m) (y_move rfl) ?_
  refine pl_val (.int .i64 m) (y_assign rfl) ?_
  refine c_nil ?_
  refine c_seq (c_region ?_)
  refine pl_val (.int .i64 b) (y_move rfl) ?_
  refine pl_val (.int .i64 b) (y_assign rfl) ?_
  refine c_nil ?_
  refine c_seq ?_
  obtain ⟨o11, hl12, hs⟩ := bind_some hs
  refine wp_block ?_
  refine wp_iter (id := 0) (I := fun s7 a w8 => ∃ (σ : Nat → Value), a = fr 177 (ovl σ [(1, (.int .i64 a_)), (2, (.int .i64 m)), (3, (.int .i64 b)), (4, (.pointer (some ⟨g1, 0, none⟩))), (8, (.int .i64 s7.1)), (9, (.int .i64 s7.2))]) ∧ Chg (G_ ++ ([])) w w8 ∧ Own (Nw w (G_ ++ ([]))) M w8 (([g1]) ++ (G_ ++ [])) ∧ I_ w8 d_ ∧ BoxV w8 g1 125 [(.func (.func g_) #[] lb_), (.func (.func sf_) #[] sb_)]) (J := fun s7 a w8 => ∃ (σ : Nat → Value), a = fr 177 (ovl σ [(1, (.int .i64 a_)), (2, (.int .i64 m)), (3, (.int .i64 b)), (4, (.pointer (some ⟨g1, 0, none⟩))), (8, (.int .i64 s7.1))]) ∧ Chg (G_ ++ ([])) w w8 ∧ Own (Nw w (G_ ++ ([]))) M w8 (([g1]) ++ (G_ ++ [])) ∧ I_ w8 d_ ∧ BoxV w8 g1 125 [(.func (.func g_) #[] lb_), (.func (.func sf_) #[] sb_)]) (K := (k_sort_symMerge_func M w I_ G_)) ?_ FU (m, b) o11 _ _ ?_ hl12 ?_
  ·rintro s7 o11 a w8 ⟨σ, rfl, hC, hO, hI_, hb1⟩ hs
   refine c_seq ?_
   refine c_seq (c_region ?_)
   refine pl_val (.int .i64 s7.1) (y_move rfl) ?_
   refine pl_val (.int .i64 s7.2) (y_move rfl) ?_
   refine pl_val (.bool (decide (s7.1 < s7.2))) (y_lss rfl rfl) ?_
   refine c_nil ?_
   rcases bif_some hs with ⟨hc13, hs⟩ | ⟨hc13, hs⟩
   ·skip
    refine c_condT (congrArg Value.bool hc13) ?_
    refine wp_skip ?_
    refine wp_block ?_
    refine c_seq (c_region ?_)
    refine pl_val (.int .i64 s7.1) (y_move rfl) ?_
    refine pl_val (.int .i64 s7.2) (y_move rfl) ?_
    refine pl_val (.int .i64 (w64 (s7.1 + s7.2))) (y_add rfl rfl) ?_
    refine pl_val (.int .u64 (IntKind.u64.wrap (w64 (s7.1 + s7.2)))) (y_conv_int Try.underlying3 Try.underlying113 rfl) ?_
    refine pl_val (.int .u64 (ishr .u64 (IntKind.u64.wrap (w64 (s7.1 + s7.2))) 1)) (y_shr rfl rfl (by decide)) ?_
    refine pl_val (.int .i64 (w64 (ishr .u64 (IntKind.u64.wrap (w64 (s7.1 + s7.2))) 1))) (y_conv_int Try.underlying113 Try.underlying3 rfl) ?_
    refine pl_val (.int .i64 (w64 (ishr .u64 (IntKind.u64.wrap (w64 (s7.1 + s7.2))) 1))) (y_assign rfl) ?_
    refine c_nil ?_
    refine c_seq (c_region ?_)
    refine pl_val (.pointer (some ⟨g1, 0, none⟩)) (y_faddr rfl Fa125x0) ?_
    refine pl_val (.func (.func g_) #[] lb_) (y_load rfl ((box_load Ag115 Sz115 hb1 [] [(.func (.func g_) #[] lb_)] [(.func (.func sf_) #[] sb_)] rfl rfl (fun _ => rfl)) _ (Chg.refl _ _))) ?_
    refine pl_val (.int .i64 (w64 (ishr .u64 (IntKind.u64.wrap (w64 (s7.1 + s7.2))) 1))) (y_move rfl) ?_
    refine pl_val (.int .i64 a_) (y_move rfl) ?_
    obtain ⟨r15, hr15, hs⟩ := bind_some hs
    refine pl_callb rfl hE_.bod rfl (hE_.less hI_ hr15) ?_
    rintro _ w14 ⟨rfl, hC14⟩
    have hI_ := hE_.ext hI_ hC14 (fun _ h => nomatch h)
    have hb1 := hb1.chg hC14 (fun h => nomatch h)
    have hC := hC.ext hC14
    have hO := hO.ext hC14
    refine c_nil ?_
    rcases bif_some hs with ⟨hc16, hs⟩ | ⟨hc16, hs⟩
    ·skip
     refine c_condT (congrArg Value.bool hc16) ?_
     refine c_region ?_
     refine pl_val (.int .i64 (w64 (ishr .u64 (IntKind.u64.wrap (w64 (s7.1 + s7.2))) 1))) (y_move rfl) ?_
     refine pl_val (.int .i64 (w64 ((w64 (ishr .u64 (IntKind.u64.wrap (w64 (s7.1 + s7.2))) 1)) + 1))) (y_add rfl rfl) ?_
     refine pl_val (.int .i64 (w64 ((w64 (ishr .u64 (IntKind.u64.wrap (w64 (s7.1 + s7.2))) 1)) + 1))) (y_assign rfl) ?_
     refine c_nil ?_
     cases hs
     have hO := hO.fr1
     have hO := hO.fr1
     exact ⟨_, fr_ovl 177 ⟨rfl, rfl, rfl, rfl, rfl, rfl, trivial⟩, hC, hO, hI_, hb1⟩
    ·skip
     refine c_condF (congrArg Value.bool hc16) ?_
     refine c_region ?_
     refine pl_val (.int .i64 (w64 (ishr .u64 (IntKind.u64.wrap (w64 (s7.1 + s7.2))) 1))) (y_move rfl) ?_
     refine pl_val (.int .i64 (w64 (ishr .u64 (IntKind.u64.wrap (w64 (s7.1 + s7.2))) 1))) (y_assign rfl) ?_
     refine c_nil ?_
     cases hs
     have hO := hO.fr1
     have hO := hO.fr1
     exact ⟨_, fr_ovl 177 ⟨rfl, rfl, rfl, rfl, rfl, rfl, trivial⟩, hC, hO, hI_, hb1⟩
   ·skip
    refine c_condF (congrArg Value.bool hc13) ?_
    refine wp_exit ?_
    cases hs
    have hO := hO.fr1
    have hO := hO.fr1
    exact ⟨rfl, _, fr_ovl 177 ⟨rfl, rfl, rfl, rfl, rfl, trivial⟩, hC, hO, hI_, hb1⟩
  ·skip
   have hO := hO.fr1
   have hO := hO.fr1
   exact ⟨_, fr_ovl 177 ⟨rfl, rfl, rfl, rfl, rfl, rfl, trivial⟩, hC, hO, hI_, hb1⟩
  ·cases o11 with
   | nx _ => exact True.intro
   | rt r_ =>
    have hs := after_rt hs
    intro a1 w1 hK
    cases hs
    exact hK
   | br s7 =>
    have hs := after_br hs
    rintro a1 w8 ⟨σ, rfl, hC, hO, hI_, hb1⟩
    refine c_seq ?_
    refine c_seq (c_region ?_)
    refine pl_val (.int .i64 a_) (y_move rfl) ?_
    refine pl_val (.int .i64 a_) (y_assign rfl) ?_
    refine c_nil ?_
    obtain ⟨o26, hl27, hs⟩ := bind_some hs
    refine wp_block ?_
    refine wp_forC (id := 2) (w64 (s7.1 - 1)) (I := fun k24 s22 a w23 => ∃ (σ : Nat → Value), a = fr 177 (ovl σ [(1, (.int .i64 a_)), (2, (.int .i64 m)), (3, (.int .i64 b)), (4, (.pointer (some ⟨g1, 0, none⟩))), (8, (.int .i64 s7.1)), (11, (.int .i64 k24))]) ∧ Chg (G_ ++ ([])) w w23 ∧ Own (Nw w (G_ ++ ([]))) M w23 (([g1]) ++ (G_ ++ [])) ∧ I_ w23 s22 ∧ BoxV w23 g1 125 [(.func (.func g_) #[] lb_), (.func (.func sf_) #[] sb_)]) (J := fun s22 a w23 => ∃ (σ : Nat → Value), a = fr 177 (ovl σ [(1, (.int .i64 a_)), (2, (.int .i64 m)), (3, (.int .i64 b)), (4, (.pointer (some ⟨g1, 0, none⟩)))]) ∧ Chg (G_ ++ ([])) w w23 ∧ Own (Nw w (G_ ++ ([]))) M w23 (([g1]) ++ (G_ ++ [])) ∧ I_ w23 s22 ∧ BoxV w23 g1 125 [(.func (.func g_) #[] lb_), (.func (.func sf_) #[] sb_)]) (K := (k_sort_symMerge_func M w I_ G_)) ?_ ?_ a_ d_ o26 _ _ ?_ hl27 ?_
    ·rintro k24 s22 a w23 ⟨σ, rfl, hC, hO, hv28, hb1⟩ hlt
     refine c_seq ?_
     refine c_seq (c_region ?_)
     refine pl_val (.int .i64 k24) (y_move rfl) ?_
     refine pl_val (.int .i64 s7.1) (y_move rfl) ?_
     refine pl_val (.int .i64 (w64 (s7.1 - 1))) (y_sub rfl rfl) ?_
     refine pl_val (.bool (decide (k24 < (w64 (s7.1 - 1))))) (y_lss rfl rfl) ?_
     refine c_nil ?_
     refine c_condF (congrArg Value.bool (decide_eq_false hlt)) ?_
     refine wp_exit ?_
     have hO := hO.fr1
     have hO := hO.fr1
     exact ⟨rfl, _, fr_ovl 177 ⟨rfl, rfl, rfl, rfl, trivial⟩, hC, hO, hv28, hb1⟩
    ·rintro k24 s22 o26 a w23 ⟨σ, rfl, hC, hO, hv28, hb1⟩ hlt hw hs
     refine c_seq ?_
     refine c_seq (c_region ?_)
     refine pl_val (.int .i64 k24) (y_move rfl) ?_
     refine pl_val (.int .i64 s7.1) (y_move rfl) ?_
     refine pl_val (.int .i64 (w64 (s7.1 - 1))) (y_sub rfl rfl) ?_
     refine pl_val (.bool (decide (k24 < (w64 (s7.1 - 1))))) (y_lss rfl rfl) ?_
     refine c_nil ?_
     refine c_condT (congrArg Value.bool (decide_eq_true hlt)) ?_
     refine wp_skip ?_
     refine c_seq ?_
     refine wp_block ?_
     refine c_region ?_
     refine pl_val (.pointer (some ⟨g1, 1, none⟩)) (y_faddr rfl Fa125x1) ?_
     refine pl_val (.func (.func sf_) #[] sb_) (y_load rfl ((box_load Ag121 Sz121 hb1 [(.func (.func g_) #[] lb_)] [(.func (.func sf_) #[] sb_)] [] rfl rfl (fun _ => rfl)) _ (Chg.refl _ _))) ?_
     refine pl_val (.int .i64 k24) (y_move rfl) ?_
     refine pl_val (.int .i64 k24) (y_move rfl) ?_
     refine pl_val (.int .i64 (w64 (k24 + 1))) (y_add rfl rfl) ?_
     obtain ⟨y31, hy31, hs⟩ := bind_some hs
     obtain ⟨w30, hx30, hC30, hv30⟩ := hE_.swap hv28 hy31
     refine pl_val (w' := w30) (.tuple #[]) (y_callx rfl rfl hx30) ?_
     have hO := hO.fr1
     have hb1 := hb1.chg hC30 (fun hg => hO.apart _ ((fun _ h => h) _ hg) (mem_l (List.mem_singleton.2 rfl)))
     have hC := hC.step hC30 (fun g hg => hO.inN g ((fun _ h => h) g hg))
     have hO := hO.ext hC30
     refine c_nil ?_
     refine c_region ?_
     refine pl_val (.int .i64 k24) (y_move rfl) ?_
     refine pl_val (.int .i64 (w64 (k24 + 1))) (y_add rfl rfl) ?_
     refine pl_val (.int .i64 (w64 (k24 + 1))) (y_assign rfl) ?_
     refine c_nil ?_
     cases hs
     have hO := hO.fr1
     exact ⟨_, fr_ovl 177 ⟨rfl, rfl, rfl, rfl, rfl, congrArg (Value.int .i64) hw, trivial⟩, hC, hO, hv30, hb1⟩
    ·skip
     have hO := hO.fr1
     have hO := hO.fr1
     exact ⟨_, fr_ovl 177 ⟨rfl, rfl, rfl, rfl, rfl, rfl, trivial⟩, hC, hO, hI_, hb1⟩
    ·cases o26 with
     | nx _ => exact True.intro
     | rt r_ =>
      have hs := after_rt hs
      intro a1 w1 hK
      cases hs
      exact hK
     | br s22 =>
      have hs := after_br hs
      rintro a1 w23 ⟨σ, rfl, hC, hO, hv29, hb1⟩
      refine wp_ret ?_
      cases hs
      exact ⟨_, fr_ovl 177 trivial, hC, hv29⟩
 ·skip
  refine c_condF (congrArg Value.bool hc2) ?_
  refine wp_skip ?_
  refine c_seq ?_
  refine c_seq (c_region ?_)
  refine pl_val (.int .i64 b) (y_move rfl) ?_
  refine pl_val (.int .i64 m) (y_move rfl) ?_
  refine pl_val (.int .i64 (w64 (b - m))) (y_sub rfl rfl) ?_
  refine pl_val (.bool ((w64 (b - m)) == 1)) (y_eql rfl rfl) ?_
  refine c_nil ?_
  rcases bif_some hs with ⟨hc32, hs⟩ | ⟨hc32, hs⟩
  ·skip
   refine c_condT (congrArg Value.bool hc32) ?_
   refine c_seq (c_region ?_)
   refine pl_val (.int .i64 a_) (y_move rfl) ?_
   refine pl_val (.int .i64 a_) (y_assign rfl) ?_
   refine c_nil ?_
   refine c_seq (c_region ?_)
   refine pl_val (.int .i64 m) (y_move rfl) ?_
   refine pl_val (.int .i64 m) (y_assign rfl) ?_
   refine c_nil ?_
   refine c_seq ?_
   obtain ⟨o41, hl42, hs⟩ := bind_some hs
   refine wp_block ?_
   refine wp_iter (id := 4) (I := fun s37 a w38 => ∃ (σ : Nat → Value), a = fr 177 (ovl σ [(1, (.int .i64 a_)), (2, (.int .i64 m)), (3, (.int .i64 b)), (4, (.pointer (some ⟨g1, 0, none⟩))), (12, (.int .i64 s37.1)), (13, (.int .i64 s37.2))]) ∧ Chg (G_ ++ ([])) w w38 ∧ Own (Nw w (G_ ++ ([]))) M w38 (([g1]) ++ (G_ ++ [])) ∧ I_ w38 d_ ∧ BoxV w38 g1 125 [(.func (.func g_) #[] lb_), (.func (.func sf_) #[] sb_)]) (J := fun s37 a w38 => ∃ (σ : Nat → Value), a = fr 177 (ovl σ [(1, (.int .i64 a_)), (2, (.int .i64 m)), (3, (.int .i64 b)), (4, (.pointer (some ⟨g1, 0, none⟩))), (12, (.int .i64 s37.1))]) ∧ Chg (G_ ++ ([])) w w38 ∧ Own (Nw w (G_ ++ ([]))) M w38 (([g1]) ++ (G_ ++ [])) ∧ I_ w38 d_ ∧ BoxV w38 g1 125 [(.func (.func g_) #[] lb_), (.func (.func sf_) #[] sb_)]) (K := (k_sort_symMerge_func M w I_ G_)) ?_ FU (a_, m) o41 _ _ ?_ hl42 ?_
   ·rintro s37 o41 a w38 ⟨σ, rfl, hC, hO, hI_, hb1⟩ hs
    refine c_seq ?_
    refine c_seq (c_region ?_)
    refine pl_val (.int .i64 s37.1) (y_move rfl) ?_
    refine pl_val (.int .i64 s37.2) (y_move rfl) ?_
    refine pl_val (.bool (decide (s37.1 < s37.2))) (y_lss rfl rfl) ?_
    refine c_nil ?_
    rcases bif_some hs with ⟨hc43, hs⟩ | ⟨hc43, hs⟩
    ·skip
     refine c_condT (congrArg Value.bool hc43) ?_
     refine wp_skip ?_
     refine wp_block ?_
     refine c_seq (c_region ?_)
     refine pl_val (.int .i64 s37.1) (y_move rfl) ?_
     refine pl_val (.int .i64 s37.2) (y_move rfl) ?_
     refine pl_val (.int .i64 (w64 (s37.1 + s37.2))) (y_add rfl rfl) ?_
     refine pl_val (.int .u64 (IntKind.u64.wrap (w64 (s37.1 + s37.2)))) (y_conv_int Try.underlying3 Try.underlying113 rfl) ?_
     refine pl_val (.int .u64 (ishr .u64 (IntKind.u64.wrap (w64 (s37.1 + s37.2))) 1)) (y_shr rfl rfl (by decide)) ?_
     refine pl_val (.int .i64 (w64 (ishr .u64 (IntKind.u64.wrap (w64 (s37.1 + s37.2))) 1))) (y_conv_int Try.underlying113 Try.underlying3 rfl) ?_
     refine pl_val (.int .i64 (w64 (ishr .u64 (IntKind.u64.wrap (w64 (s37.1 + s37.2))) 1))) (y_assign rfl) ?_
     refine c_nil ?_
     refine c_seq (c_region ?_)
     refine pl_val (.pointer (some ⟨g1, 0, none⟩)) (y_faddr rfl Fa125x0) ?_
     refine pl_val (.func (.func g_) #[] lb_) (y_load rfl ((box_load Ag115 Sz115 hb1 [] [(.func (.func g_) #[] lb_)] [(.func (.func sf_) #[] sb_)] rfl rfl (fun _ => rfl)) _ (Chg.refl _ _))) ?_
     refine pl_val (.int .i64 m) (y_move rfl) ?_
     refine pl_val (.int .i64 (w64 (ishr .u64 (IntKind.u64.wrap (w64 (s37.1 + s37.2))) 1))) (y_move rfl) ?_
     obtain ⟨r45, hr45, hs⟩ := bind_some hs
     refine pl_callb rfl hE_.bod rfl (hE_.less hI_ hr45) ?_
     rintro _ w44 ⟨rfl, hC44⟩
     have hI_ := hE_.ext hI_ hC44 (fun _ h => nomatch h)
     have hb1 := hb1.chg hC44 (fun h => nomatch h)
     have hC := hC.ext hC44
     have hO := hO.ext hC44
     refine pl_val (.bool (!r45)) (y_not rfl) ?_
     refine c_nil ?_
     rcases bif_some hs with ⟨hc46, hs⟩ | ⟨hc46, hs⟩
     ·skip
      refine c_condT (congrArg Value.bool hc46) ?_
      refine c_region ?_
      refine pl_val (.int .i64 (w64 (ishr .u64 (IntKind.u64.wrap (w64 (s37.1 + s37.2))) 1))) (y_move rfl) ?_
      refine pl_val (.int .i64 (w64 ((w64 (ishr .u64 (IntKind.u64.wrap (w64 (s37.1 + s37.2))) 1)) + 1))) (y_add rfl rfl) ?_
      refine pl_val (.int .i64 (w64 ((w64 (ishr .u64 (IntKind.u64.wrap (w64 (s37.1 + s37.2))) 1)) + 1))) (y_assign rfl) ?_
      refine c_nil ?_
      cases hs
      have hO := hO.fr1
      have hO := hO.fr1
      exact ⟨_, fr_ovl 177 ⟨rfl, rfl, rfl, rfl, rfl, rfl, trivial⟩, hC, hO, hI_, hb1⟩
     ·skip
      refine c_condF (congrArg Value.bool hc46) ?_
      refine c_region ?_
      refine pl_val (.int .i64 (w64 (ishr .u64 (IntKind.u64.wrap (w64 (s37.1 + s37.2))) 1))) (y_move rfl) ?_
      refine pl_val (.int .i64 (w64 (ishr .u64 (IntKind.u64.wrap (w64 (s37.1 + s37.2))) 1))) (y_assign rfl) ?_
      refine c_nil ?_
      cases hs
      have hO := hO.fr1
      have hO := hO.fr1
      exact ⟨_, fr_ovl 177 ⟨rfl, rfl, rfl, rfl, rfl, rfl, trivial⟩, hC, hO, hI_, hb1⟩
    ·skip
     refine c_condF (congrArg Value.bool hc43) ?_
     refine wp_exit ?_
     cases hs
     have hO := hO.fr1
     have hO := hO.fr1
     exact ⟨rfl, _, fr_ovl 177 ⟨rfl, rfl, rfl, rfl, rfl, trivial⟩, hC, hO, hI_, hb1⟩
   ·skip
    have hO := hO.fr1
    have hO := hO.fr1
    exact ⟨_, fr_ovl 177 ⟨rfl, rfl, rfl, rfl, rfl, rfl, trivial⟩, hC, hO, hI_, hb1⟩
   ·cases o41 with
    | nx _ => exact True.intro
    | rt r_ =>
     have hs := after_rt hs
     intro a1 w1 hK
     cases hs
     exact hK
    | br s37 =>
     have hs := after_br hs
     rintro a1 w38 ⟨σ, rfl, hC, hO, hI_, hb1⟩
     refine c_seq ?_
     refine c_seq (c_region ?_)
     refine pl_val (.int .i64 m) (y_move rfl) ?_
     refine pl_val (.int .i64 m) (y_assign rfl) ?_
     refine c_nil ?_
     obtain ⟨o58, hl59, hs⟩ := bind_some hs
     refine wp_block ?_
     refine wp_iter (id := 6) (I := fun s54 a w55 => ∃ (σ : Nat → Value), a = fr 177 (ovl σ [(1, (.int .i64 a_)), (2, (.int .i64 m)), (3, (.int .i64 b)), (4, (.pointer (some ⟨g1, 0, none⟩))), (12, (.int .i64 s37.1)), (15, (.int .i64 s54.1))]) ∧ Chg (G_ ++ ([])) w w55 ∧ Own (Nw w (G_ ++ ([]))) M w55 (([g1]) ++ (G_ ++ [])) ∧ I_ w55 s54.2 ∧ BoxV w55 g1 125 [(.func (.func g_) #[] lb_), (.func (.func sf_) #[] sb_)]) (J := fun s54 a w55 => ∃ (σ : Nat → Value), a = fr 177 (ovl σ [(1, (.int .i64 a_)), (2, (.int .i64 m)), (3, (.int .i64 b)), (4, (.pointer (some ⟨g1, 0, none⟩)))]) ∧ Chg (G_ ++ ([])) w w55 ∧ Own (Nw w (G_ ++ ([]))) M w55 (([g1]) ++ (G_ ++ [])) ∧ I_ w55 s54.2 ∧ BoxV w55 g1 125 [(.func (.func g_) #[] lb_), (.func (.func sf_) #[] sb_)]) (K := (k_sort_symMerge_func M w I_ G_)) ?_ FU (m, d_) o58 _ _ ?_ hl59 ?_
     ·rintro s54 o58 a w55 ⟨σ, rfl, hC, hO, hv60, hb1⟩ hs
      refine c_seq ?_
      refine c_seq (c_region ?_)
      refine pl_val (.int .i64 s54.1) (y_move rfl) ?_
      refine pl_val (.int .i64 s37.1) (y_move rfl) ?_
      refine pl_val (.bool (decide (s37.1 < s54.1))) (y_gtr rfl rfl) ?_
      refine c_nil ?_
      rcases bif_some hs with ⟨hc62, hs⟩ | ⟨hc62, hs⟩
      ·skip
       refine c_condT (congrArg Value.bool hc62) ?_
       refine wp_skip ?_
       refine c_seq ?_
       refine wp_block ?_
       refine c_region ?_
       refine pl_val (.pointer (some ⟨g1, 1, none⟩)) (y_faddr rfl Fa125x1) ?_
       refine pl_val (.func (.func sf_) #[] sb_) (y_load rfl ((box_load Ag121 Sz121 hb1 [(.func (.func g_) #[] lb_)] [(.func (.func sf_) #[] sb_)] [] rfl rfl (fun _ => rfl)) _ (Chg.refl _ _))) ?_
       refine pl_val (.int .i64 s54.1) (y_move rfl) ?_
       refine pl_val (.int .i64 s54.1) (y_move rfl) ?_
       refine pl_val (.int .i64 (w64 (s54.1 - 1))) (y_sub rfl rfl) ?_
       obtain ⟨y64, hy64, hs⟩ := bind_some hs
       obtain ⟨w63, hx63, hC63, hv63⟩ := hE_.swap hv60 hy64
       refine pl_val (w' := w63) (.tuple #[]) (y_callx rfl rfl hx63) ?_
       have hO := hO.fr1
       have hb1 := hb1.chg hC63 (fun hg => hO.apart _ ((fun _ h => h) _ hg) (mem_l (List.mem_singleton.2 rfl)))
       have hC := hC.step hC63 (fun g hg => hO.inN g ((fun _ h => h) g hg))
       have hO := hO.ext hC63
       refine c_nil ?_
       refine c_region ?_
       refine pl_val (.int .i64 s54.1) (y_move rfl) ?_
       refine pl_val (.int .i64 (w64 (s54.1 - 1))) (y_sub rfl rfl) ?_
       refine pl_val (.int .i64 (w64 (s54.1 - 1))) (y_assign rfl) ?_
       refine c_nil ?_
       cases hs
       have hO := hO.fr1
       exact ⟨_, fr_ovl 177 ⟨rfl, rfl, rfl, rfl, rfl, rfl, trivial⟩, hC, hO, hv63, hb1⟩
      ·skip
       refine c_condF (congrArg Value.bool hc62) ?_
       refine wp_exit ?_
       cases hs
       have hO := hO.fr1
       have hO := hO.fr1
       exact ⟨rfl, _, fr_ovl 177 ⟨rfl, rfl, rfl, rfl, trivial⟩, hC, hO, hv60, hb1⟩
     ·skip
      have hO := hO.fr1
      have hO := hO.fr1
      exact ⟨_, fr_ovl 177 ⟨rfl, rfl, rfl, rfl, rfl, rfl, trivial⟩, hC, hO, hI_, hb1⟩
     ·cases o58 with
      | nx _ => exact True.intro
      | rt r_ =>
       have hs := after_rt hs
       intro a1 w1 hK
       cases hs
       exact hK
      | br s54 =>
       have hs := after_br hs
       rintro a1 w55 ⟨σ, rfl, hC, hO, hv61, hb1⟩
       refine wp_ret ?_
       cases hs
       exact ⟨_, fr_ovl 177 trivial, hC, hv61⟩
  ·skip
   refine c_condF (congrArg Value.bool hc32) ?_
   refine wp_skip ?_
   refine c_seq (c_region ?_)
   refine pl_val (.int .i64 a_) (y_move rfl) ?_
   refine pl_val (.int .i64 b) (y_move rfl) ?_
   refine pl_val (.int .i64 (w64 (a_ + b))) (y_add rfl rfl) ?_
   refine pl_val (.int .u64 (IntKind.u64.wrap (w64 (a_ + b)))) (y_conv_int Try.underlying3 Try.underlying113 rfl) ?_
   refine pl_val (.int .u64 (ishr .u64 (IntKind.u64.wrap (w64 (a_ + b))) 1)) (y_shr rfl rfl (by decide)) ?_
   refine pl_val (.int .i64 (w64 (ishr .u64 (IntKind.u64.wrap (w64 (a_ + b))) 1))) (y_conv_int Try.underlying113 Try.underlying3 rfl) ?_
   refine pl_val (.int .i64 (w64 (ishr .u64 (IntKind.u64.wrap (w64 (a_ + b))) 1))) (y_assign rfl) ?_
   refine c_nil ?_
   refine c_seq (c_region ?_)
   refine pl_val (.int .i64 (w64 (ishr .u64 (IntKind.u64.wrap (w64 (a_ + b))) 1))) (y_move rfl) ?_
   refine pl_val (.int .i64 m) (y_move rfl) ?_
   refine pl_val (.int .i64 (w64 ((w64 (ishr .u64 (IntKind.u64.wrap (w64 (a_ + b))) 1)) + m))) (y_add rfl rfl) ?_
   refine pl_val (.int .i64 (w64 ((w64 (ishr .u64 (IntKind.u64.wrap (w64 (a_ + b))) 1)) + m))) (y_assign rfl) ?_
   refine c_nil ?_
   refine c_seq (c_region ?_)
   refine pl_val (.int .i64 0) (y_assign rfl) ?_
   refine pl_val (.int .i64 0) (y_assign rfl) ?_
   refine c_nil ?_
   refine c_seq ?_
   refine c_seq (c_region ?_)
   refine pl_val (.int .i64 m) (y_move rfl) ?_
   refine pl_val (.int .i64 (w64 (ishr .u64 (IntKind.u64.wrap (w64 (a_ + b))) 1))) (y_move rfl) ?_
   refine pl_val (.bool (decide ((w64 (ishr .u64 (IntKind.u64.wrap (w64 (a_ + b))) 1)) < m))) (y_gtr rfl rfl) ?_
   refine c_nil ?_
   obtain ⟨s65, hm67, hs⟩ := bind_some hs
   refine c_mid (I := fun a w66 => ∃ (σ : Nat → Value), a = fr 177 (ovl σ [(1, (.int .i64 a_)), (2, (.int .i64 m)), (3, (.int .i64 b)), (4, (.pointer (some ⟨g1, 0, none⟩))), (16, (.int .i64 (w64 (ishr .u64 (IntKind.u64.wrap (w64 (a_ + b))) 1)))), (17, (.int .i64 (w64 ((w64 (ishr .u64 (IntKind.u64.wrap (w64 (a_ + b))) 1)) + m)))), (18, (.int .i64 s65.1)), (19, (.int .i64 s65.2))]) ∧ Chg (G_ ++ ([])) w w66 ∧ Own (Nw w (G_ ++ ([]))) M w66 (([g1]) ++ (G_ ++ [])) ∧ I_ w66 d_ ∧ BoxV w66 g1 125 [(.func (.func g_) #[] lb_), (.func (.func sf_) #[] sb_)]) ?_ ?_
   ·replace hs := hm67
    rcases bif_some hs with ⟨hc68, hs⟩ | ⟨hc68, hs⟩
    ·skip
     refine c_condT (congrArg Value.bool hc68) ?_
     refine c_seq (c_region ?_)
     refine pl_val (.int .i64 (w64 ((w64 (ishr .u64 (IntKind.u64.wrap (w64 (a_ + b))) 1)) + m))) (y_move rfl) ?_
     refine pl_val (.int .i64 b) (y_move rfl) ?_
     refine pl_val (.int .i64 (w64 ((w64 ((w64 (ishr .u64 (IntKind.u64.wrap (w64 (a_ + b))) 1)) + m)) - b))) (y_sub rfl rfl) ?_
     refine pl_val (.int .i64 (w64 ((w64 ((w64 (ishr .u64 (IntKind.u64.wrap (w64 (a_ + b))) 1)) + m)) - b))) (y_assign rfl) ?_
     refine c_nil ?_
     refine c_region ?_
     refine pl_val (.int .i64 (w64 (ishr .u64 (IntKind.u64.wrap (w64 (a_ + b))) 1))) (y_move rfl) ?_
     refine pl_val (.int .i64 (w64 (ishr .u64 (IntKind.u64.wrap (w64 (a_ + b))) 1))) (y_assign rfl) ?_
     refine c_nil ?_
     cases hs
     have hO := hO.fr1
     have hO := hO.fr1
     exact ⟨_, fr_ovl 177 ⟨rfl, rfl, rfl, rfl, rfl, rfl, rfl, rfl, trivial⟩, hC, hO, hI_, hb1⟩
    ·skip
     refine c_condF (congrArg Value.bool hc68) ?_
     refine c_seq (c_region ?_)
     refine pl_val (.int .i64 a_) (y_move rfl) ?_
     refine pl_val (.int .i64 a_) (y_assign rfl) ?_
     refine c_nil ?_
     refine c_region ?_
     refine pl_val (.int .i64 m) (y_move rfl) ?_
     refine pl_val (.int .i64 m) (y_assign rfl) ?_
     refine c_nil ?_
     cases hs
     have hO := hO.fr1
     have hO := hO.fr1
     exact ⟨_, fr_ovl 177 ⟨rfl, rfl, rfl, rfl, rfl, rfl, rfl, rfl, trivial⟩, hC, hO, hI_, hb1⟩
   ·rintro a1 w66 ⟨σ, rfl, hC, hO, hI_, hb1⟩
    refine c_seq (c_region ?_)
    refine pl_val (.int .i64 (w64 ((w64 (ishr .u64 (IntKind.u64.wrap (w64 (a_ + b))) 1)) + m))) (y_move rfl) ?_
    refine pl_val (.int .i64 (w64 ((w64 ((w64 (ishr .u64 (IntKind.u64.wrap (w64 (a_ + b))) 1)) + m)) - 1))) (y_sub rfl rfl) ?_
    refine pl_val (.int .i64 (w64 ((w64 ((w64 (ishr .u64 (IntKind.u64.wrap (w64 (a_ + b))) 1)) + m)) - 1))) (y_assign rfl) ?_
    refine c_nil ?_
    refine c_seq ?_
    obtain ⟨o77, hl78, hs⟩ := bind_some hs
    refine wp_block ?_
    refine wp_iter (id := 8) (I := fun s73 a w74 => ∃ (σ : Nat → Value), a = fr 177 (ovl σ [(1, (.int .i64 a_)), (2, (.int .i64 m)), (3, (.int .i64 b)), (4, (.pointer (some ⟨g1, 0, none⟩))), (16, (.int .i64 (w64 (ishr .u64 (IntKind.u64.wrap (w64 (a_ + b))) 1)))), (17, (.int .i64 (w64 ((w64 (ishr .u64 (IntKind.u64.wrap (w64 (a_ + b))) 1)) + m)))), (18, (.int .i64 s73.1)), (19, (.int .i64 s73.2)), (20, (.int .i64 (w64 ((w64 ((w64 (ishr .u64 (IntKind.u64.wrap (w64 (a_ + b))) 1)) + m)) - 1))))]) ∧ Chg (G_ ++ ([])) w w74 ∧ Own (Nw w (G_ ++ ([]))) M w74 (([g1]) ++ (G_ ++ [])) ∧ I_ w74 d_ ∧ BoxV w74 g1 125 [(.func (.func g_) #[] lb_), (.func (.func sf_) #[] sb_)]) (J := fun s73 a w74 => ∃ (σ : Nat → Value), a = fr 177 (ovl σ [(1, (.int .i64 a_)), (2, (.int .i64 m)), (3, (.int .i64 b)), (4, (.pointer (some ⟨g1, 0, none⟩))), (16, (.int .i64 (w64 (ishr .u64 (IntKind.u64.wrap (w64 (a_ + b))) 1)))), (17, (.int .i64 (w64 ((w64 (ishr .u64 (IntKind.u64.wrap (w64 (a_ + b))) 1)) + m)))), (18, (.int .i64 s73.1))]) ∧ Chg (G_ ++ ([])) w w74 ∧ Own (Nw w (G_ ++ ([]))) M w74 (([g1]) ++ (G_ ++ [])) ∧ I_ w74 d_ ∧ BoxV w74 g1 125 [(.func (.func g_) #[] lb_), (.func (.func sf_) #[] sb_)]) (K := (k_sort_symMerge_func M w I_ G_)) ?_ FU (s65.1, s65.2) o77 _ _ ?_ hl78 ?_
    ·rintro s73 o77 a w74 ⟨σ, rfl, hC, hO, hI_, hb1⟩ hs
     refine c_seq ?_
     refine c_seq (c_region ?_)
     refine pl_val (.int .i64 s73.1) (y_move rfl) ?_
     refine pl_val (.int .i64 s73.2) (y_move rfl) ?_
     refine pl_val (.bool (decide (s73.1 < s73.2))) (y_lss rfl rfl) ?_
     refine c_nil ?_
     rcases bif_some hs with ⟨hc79, hs⟩ | ⟨hc79, hs⟩
     ·skip
      refine c_condT (congrArg Value.bool hc79) ?_
      refine wp_skip ?_
      refine wp_block ?_
      refine c_seq (c_region ?_)
      refine pl_val (.int .i64 s73.1) (y_move rfl) ?_
      refine pl_val (.int .i64 s73.2) (y_move rfl) ?_
      refine pl_val (.int .i64 (w64 (s73.1 + s73.2))) (y_add rfl rfl) ?_
      refine pl_val (.int .u64 (IntKind.u64.wrap (w64 (s73.1 + s73.2)))) (y_conv_int Try.underlying3 Try.underlying113 rfl) ?_
      refine pl_val (.int .u64 (ishr .u64 (IntKind.u64.wrap (w64 (s73.1 + s73.2))) 1)) (y_shr rfl rfl (by decide)) ?_
      refine pl_val (.int .i64 (w64 (ishr .u64 (IntKind.u64.wrap (w64 (s73.1 + s73.2))) 1))) (y_conv_int Try.underlying113 Try.underlying3 rfl) ?_
      refine pl_val (.int .i64 (w64 (ishr .u64 (IntKind.u64.wrap (w64 (s73.1 + s73.2))) 1))) (y_assign rfl) ?_
      refine c_nil ?_
      refine c_seq (c_region ?_)
      refine pl_val (.pointer (some ⟨g1, 0, none⟩)) (y_faddr rfl Fa125x0) ?_
      refine pl_val (.func (.func g_) #[] lb_) (y_load rfl ((box_load Ag115 Sz115 hb1 [] [(.func (.func g_) #[] lb_)] [(.func (.func sf_) #[] sb_)] rfl rfl (fun _ => rfl)) _ (Chg.refl _ _))) ?_
      refine pl_val (.int .i64 (w64 ((w64 ((w64 (ishr .u64 (IntKind.u64.wrap (w64 (a_ + b))) 1)) + m)) - 1))) (y_move rfl) ?_
      refine pl_val (.int .i64 (w64 (ishr .u64 (IntKind.u64.wrap (w64 (s73.1 + s73.2))) 1))) (y_move rfl) ?_
      refine pl_val (.int .i64 (w64 ((w64 ((w64 ((w64 (ishr .u64 (IntKind.u64.wrap (w64 (a_ + b))) 1)) + m)) - 1)) - (w64 (ishr .u64 (IntKind.u64.wrap (w64 (s73.1 + s73.2))) 1))))) (y_sub rfl rfl) ?_
      refine pl_val (.int .i64 (w64 (ishr .u64 (IntKind.u64.wrap (w64 (s73.1 + s73.2))) 1))) (y_move rfl) ?_
      obtain ⟨r81, hr81, hs⟩ := bind_some hs
      refine pl_callb rfl hE_.bod rfl (hE_.less hI_ hr81) ?_
      rintro _ w80 ⟨rfl, hC80⟩
      have hI_ := hE_.ext hI_ hC80 (fun _ h => nomatch h)
      have hb1 := hb1.chg hC80 (fun h => nomatch h)
      have hC := hC.ext hC80
      have hO := hO.ext hC80
      refine pl_val (.bool (!r81)) (y_not rfl) ?_
      refine c_nil ?_
      rcases bif_some hs with ⟨hc82, hs⟩ | ⟨hc82, hs⟩
      ·skip
       refine c_condT (congrArg Value.bool hc82) ?_
       refine c_region ?_
       refine pl_val (.int .i64 (w64 (ishr .u64 (IntKind.u64.wrap (w64 (s73.1 + s73.2))) 1))) (y_move rfl) ?_
       refine pl_val (.int .i64 (w64 ((w64 (ishr .u64 (IntKind.u64.wrap (w64 (s73.1 + s73.2))) 1)) + 1))) (y_add rfl rfl) ?_
       refine pl_val (.int .i64 (w64 ((w64 (ishr .u64 (IntKind.u64.wrap (w64 (s73.1 + s73.2))) 1)) + 1))) (y_assign rfl) ?_
       refine c_nil ?_
       cases hs
       have hO := hO.fr1
       have hO := hO.fr1
       exact ⟨_, fr_ovl 177 ⟨rfl, rfl, rfl, rfl, rfl, rfl, rfl, rfl, rfl, trivial⟩, hC, hO, hI_, hb1⟩
      ·skip
       refine c_condF (congrArg Value.bool hc82) ?_
       refine c_region ?_
       refine pl_val (.int .i64 (w64 (ishr .u64 (IntKind.u64.wrap (w64 (s73.1 + s73.2))) 1))) (y_move rfl) ?_
       refine pl_val (.int .i64 (w64 (ishr .u64 (IntKind.u64.wrap (w64 (s73.1 + s73.2))) 1))) (y_assign rfl) ?_
       refine c_nil ?_
       cases hs
       have hO := hO.fr1
       have hO := hO.fr1
       exact ⟨_, fr_ovl 177 ⟨rfl, rfl, rfl, rfl, rfl, rfl, rfl, rfl, rfl, trivial⟩, hC, hO, hI_, hb1⟩
     ·skip
      refine c_condF (congrArg Value.bool hc79) ?_
      refine wp_exit ?_
      cases hs
      have hO := hO.fr1
      have hO := hO.fr1
      exact ⟨rfl, _, fr_ovl 177 ⟨rfl, rfl, rfl, rfl, rfl, rfl, rfl, trivial⟩, hC, hO, hI_, hb1⟩
    ·skip
     have hO := hO.fr1
     have hO := hO.fr1
     exact ⟨_, fr_ovl 177 ⟨rfl, rfl, rfl, rfl, rfl, rfl, rfl, rfl, rfl, trivial⟩, hC, hO, hI_, hb1⟩
    ·cases o77 with
     | nx _ => exact True.intro
     | rt r_ =>
      have hs := after_rt hs
      intro a1 w1 hK
      cases hs
      exact hK
     | br s73 =>
      have hs := after_br hs
      rintro a1 w74 ⟨σ, rfl, hC, hO, hI_, hb1⟩
      refine c_seq (c_region ?_)
      refine pl_val (.int .i64 (w64 ((w64 (ishr .u64 (IntKind.u64.wrap (w64 (a_ + b))) 1)) + m))) (y_move rfl) ?_
      refine pl_val (.int .i64 s73.1) (y_move rfl) ?_
      refine pl_val (.int .i64 (w64 ((w64 ((w64 (ishr .u64 (IntKind.u64.wrap (w64 (a_ + b))) 1)) + m)) - s73.1))) (y_sub rfl rfl) ?_
      refine pl_val (.int .i64 (w64 ((w64 ((w64 (ishr .u64 (IntKind.u64.wrap (w64 (a_ + b))) 1)) + m)) - s73.1))) (y_assign rfl) ?_
      refine c_nil ?_
      refine c_seq ?_
      refine c_seq ?_
      refine c_mid (I := fun a w84 => ∃ (σ : Nat → Value), a = fr 177 (ovl σ [(1, (.int .i64 a_)), (2, (.int .i64 m)), (3, (.int .i64 b)), (4, (.pointer (some ⟨g1, 0, none⟩))), (16, (.int .i64 (w64 (ishr .u64 (IntKind.u64.wrap (w64 (a_ + b))) 1)))), (18, (.int .i64 s73.1)), (22, (.int .i64 (w64 ((w64 ((w64 (ishr .u64 (IntKind.u64.wrap (w64 (a_ + b))) 1)) + m)) - s73.1)))), (145, (.bool ((decide (s73.1 < m)) && (decide (m < (w64 ((w64 ((w64 (ishr .u64 (IntKind.u64.wrap (w64 (a_ + b))) 1)) + m)) - s73.1)))))))]) ∧ Chg [] w74 w84) ?_ ?_
      ·have hMid := Chg.refl [] w74
       refine c_region ?_
       refine pl_val (.int .i64 s73.1) (y_move rfl) ?_
       refine pl_val (.int .i64 m) (y_move rfl) ?_
       refine pl_val (.bool (decide (s73.1 < m))) (y_lss rfl rfl) ?_
       refine pl_val (.bool (decide (s73.1 < m))) (y_move rfl) ?_
       rcases Bool.eq_false_or_eq_true ((decide (s73.1 < m))) with hc86 | hc86
       ·skip
        refine pl_yes (.int .i64 m) (tg := 141) (by kernel_rfl) (congrArg Value.bool hc86) (y_move rfl) ?_
        refine pl_yes (.int .i64 (w64 ((w64 ((w64 (ishr .u64 (IntKind.u64.wrap (w64 (a_ + b))) 1)) + m)) - s73.1))) (tg := 141) (by kernel_rfl) (congrArg Value.bool hc86) (y_move rfl) ?_
        refine pl_yes (.bool (decide (m < (w64 ((w64 ((w64 (ishr .u64 (IntKind.u64.wrap (w64 (a_ + b))) 1)) + m)) - s73.1))))) (tg := 141) (by kernel_rfl) (congrArg Value.bool hc86) (y_lss rfl rfl) ?_
        refine pl_val (.bool ((decide (s73.1 < m)) && (decide (m < (w64 ((w64 ((w64 (ishr .u64 (IntKind.u64.wrap (w64 (a_ + b))) 1)) + m)) - s73.1)))))) (y_pick_t (congrArg Value.bool hc86) (congrArg Value.bool (by rw [hc86]; rfl))) ?_
        refine c_nil ?_
        exact ⟨_, fr_ovl 177 ⟨rfl, rfl, rfl, rfl, rfl, rfl, rfl, rfl, trivial⟩, hMid⟩
       ·skip
        refine pl_not (tg := 141) (by kernel_rfl) (congrArg Value.bool hc86) ?_
        refine pl_not (tg := 141) (by kernel_rfl) (congrArg Value.bool hc86) ?_
        refine pl_not (tg := 141) (by kernel_rfl) (congrArg Value.bool hc86) ?_
        refine pl_val (.bool ((decide (s73.1 < m)) && (decide (m < (w64 ((w64 ((w64 (ishr .u64 (IntKind.u64.wrap (w64 (a_ + b))) 1)) + m)) - s73.1)))))) (y_pick_f (congrArg Value.bool hc86) (congrArg Value.bool (by rw [hc86]; rfl))) ?_
        refine c_nil ?_
        exact ⟨_, fr_ovl 177 ⟨rfl, rfl, rfl, rfl, rfl, rfl, rfl, rfl, trivial⟩, hMid⟩
      ·rintro a1 w84 ⟨σ, rfl, hCs83⟩
       have hI_ := hE_.ext hI_ hCs83 (fun _ h => nomatch h)
       have hb1 := hb1.chg hCs83 (fun h => nomatch h)
       have hC := hC.ext hCs83
       have hO := hO.ext hCs83
       obtain ⟨s91, hm93, hs⟩ := bind_some hs
       refine c_mid (I := fun a w92 => ∃ (σ : Nat → Value), a = fr 177 (ovl σ [(1, (.int .i64 a_)), (3, (.int .i64 b)), (4, (.pointer (some ⟨g1, 0, none⟩))), (16, (.int .i64 (w64 (ishr .u64 (IntKind.u64.wrap (w64 (a_ + b))) 1)))), (18, (.int .i64 s73.1)), (22, (.int .i64 (w64 ((w64 ((w64 (ishr .u64 (IntKind.u64.wrap (w64 (a_ + b))) 1)) + m)) - s73.1))))]) ∧ Chg (G_ ++ ([])) w w92 ∧ Own (Nw w (G_ ++ ([]))) M w92 (([g1]) ++ (G_ ++ [])) ∧ I_ w92 s91 ∧ BoxV w92 g1 125 [(.func (.func g_) #[] lb_), (.func (.func sf_) #[] sb_)]) ?_ ?_
       ·replace hs := hm93
        rcases bif_some hs with ⟨hc95, hs⟩ | ⟨hc95, hs⟩
        ·skip
         refine c_condT (congrArg Value.bool hc95) ?_
         refine c_region ?_
         refine pl_val (.agg #[(.func (.func g_) #[] lb_), (.func (.func sf_) #[] sb_)]) (y_load rfl ((box_load Ag125 Sz125 hb1 [] [(.func (.func g_) #[] lb_), (.func (.func sf_) #[] sb_)] [] rfl rfl (fun h => nomatch h)) _ (Chg.refl _ _))) ?_
         refine pl_val (.int .i64 s73.1) (y_move rfl) ?_
         refine pl_val (.int .i64 m) (y_move rfl) ?_
         refine pl_val (.int .i64 (w64 ((w64 ((w64 (ishr .u64 (IntKind.u64.wrap (w64 (a_ + b))) 1)) + m)) - s73.1))) (y_move rfl) ?_
         have hO := hO.fr1
         have hI96 := Own.lend (F := (G_ ++ ([]))) (R := ([g1]) ++ ([])) (Own.perm hO (by simp))
         obtain ⟨r97, hr97, hs⟩ := bind_some hs
         refine pl_call Bd152 rfl (c_sort_rotate_func (M := M) ls_ d_ s73.1 m (w64 ((w64 ((w64 (ishr .u64 (IntKind.u64.wrap (w64 (a_ + b))) 1)) + m)) - s73.1)) (Nat.le_trans hN_ hC.size) hE_ hI_ hI96 hO.fut hr97) ?_
         rintro _ w96 ⟨rfl, hC96, hv96⟩
         have hb1 := hb1.chg hC96 (fun hg => hO.apart _ (nil_mem _ hg) (mem_l (List.mem_singleton.2 rfl)))
         have hC := hC.step hC96 (fun g hg => hO.inN g (nil_mem g hg))
         have hO := hO.ext hC96
         refine c_nil ?_
         cases hs
         have hO := hO.fr1
         exact ⟨_, fr_ovl 177 ⟨rfl, rfl, rfl, rfl, rfl, rfl, trivial⟩, hC, hO, hv96, hb1⟩
        ·skip
         refine c_condF (congrArg Value.bool hc95) ?_
         refine wp_skip ?_
         cases hs
         have hO := hO.fr1
         have hO := hO.fr1
         exact ⟨_, fr_ovl 177 ⟨rfl, rfl, rfl, rfl, rfl, rfl, trivial⟩, hC, hO, hI_, hb1⟩
       ·rintro a1 w92 ⟨σ, rfl, hC, hO, hv94, hb1⟩
        refine c_seq ?_
        refine c_seq ?_
        refine c_mid (I := fun a w99 => ∃ (σ : Nat → Value), a = fr 177 (ovl σ [(1, (.int .i64 a_)), (3, (.int .i64 b)), (4, (.pointer (some ⟨g1, 0, none⟩))), (16, (.int .i64 (w64 (ishr .u64 (IntKind.u64.wrap (w64 (a_ + b))) 1)))), (18, (.int .i64 s73.1)), (22, (.int .i64 (w64 ((w64 ((w64 (ishr .u64 (IntKind.u64.wrap (w64 (a_ + b))) 1)) + m)) - s73.1)))), (158, (.bool ((decide (a_ < s73.1)) && (decide (s73.1 < (w64 (ishr .u64 (IntKind.u64.wrap (w64 (a_ + b))) 1)))))))]) ∧ Chg [] w92 w99) ?_ ?_
        ·have hMid := Chg.refl [] w92
         refine c_region ?_
         refine pl_val (.int .i64 a_) (y_move rfl) ?_
         refine pl_val (.int .i64 s73.1) (y_move rfl) ?_
         refine pl_val (.bool (decide (a_ < s73.1))) (y_lss rfl rfl) ?_
         refine pl_val (.bool (decide (a_ < s73.1))) (y_move rfl) ?_
         rcases Bool.eq_false_or_eq_true ((decide (a_ < s73.1))) with hc101 | hc101
         ·skip
          refine pl_yes (.int .i64 s73.1) (tg := 154) (by kernel_rfl) (congrArg Value.bool hc101) (y_move rfl) ?_
          refine pl_yes (.int .i64 (w64 (ishr .u64 (IntKind.u64.wrap (w64 (a_ + b))) 1))) (tg := 154) (by kernel_rfl) (congrArg Value.bool hc101) (y_move rfl) ?_
          refine pl_yes (.bool (decide (s73.1 < (w64 (ishr .u64 (IntKind.u64.wrap (w64 (a_ + b))) 1))))) (tg := 154) (by kernel_rfl) (congrArg Value.bool hc101) (y_lss rfl rfl) ?_
          refine pl_val (.bool ((decide (a_ < s73.1)) && (decide (s73.1 < (w64 (ishr .u64 (IntKind.u64.wrap (w64 (a_ + b))) 1)))))) (y_pick_t (congrArg Value.bool hc101) (congrArg Value.bool (by rw [hc101]; rfl))) ?_
          refine c_nil ?_
          exact ⟨_, fr_ovl 177 ⟨rfl, rfl, rfl, rfl, rfl, rfl, rfl, trivial⟩, hMid⟩
         ·skip
          refine pl_not (tg := 154) (by kernel_rfl) (congrArg Value.bool hc101) ?_
          refine pl_not (tg := 154) (by kernel_rfl) (congrArg Value.bool hc101) ?_
          refine pl_not (tg := 154) (by kernel_rfl) (congrArg Value.bool hc101) ?_
          refine pl_val (.bool ((decide (a_ < s73.1)) && (decide (s73.1 < (w64 (ishr .u64 (IntKind.u64.wrap (w64 (a_ + b))) 1)))))) (y_pick_f (congrArg Value.bool hc101) (congrArg Value.bool (by rw [hc101]; rfl))) ?_
          refine c_nil ?_
          exact ⟨_, fr_ovl 177 ⟨rfl, rfl, rfl, rfl, rfl, rfl, rfl, trivial⟩, hMid⟩
        ·rintro a1 w99 ⟨σ, rfl, hCs98⟩
         have hv94 := hE_.ext hv94 hCs98 (fun _ h => nomatch h)
         have hb1 := hb1.chg hCs98 (fun h => nomatch h)
         have hC := hC.ext hCs98
         have hO := hO.ext hCs98
         obtain ⟨s106, hm108, hs⟩ := bind_some hs
         refine c_mid (I := fun a w107 => ∃ (σ : Nat → Value), a = fr 177 (ovl σ [(3, (.int .i64 b)), (4, (.pointer (some ⟨g1, 0, none⟩))), (16, (.int .i64 (w64 (ishr .u64 (IntKind.u64.wrap (w64 (a_ + b))) 1)))), (22, (.int .i64 (w64 ((w64 ((w64 (ishr .u64 (IntKind.u64.wrap (w64 (a_ + b))) 1)) + m)) - s73.1))))]) ∧ Chg (G_ ++ ([])) w w107 ∧ Own (Nw w (G_ ++ ([]))) M w107 (([g1]) ++ (G_ ++ [])) ∧ I_ w107 s106 ∧ BoxV w107 g1 125 [(.func (.func g_) #[] lb_), (.func (.func sf_) #[] sb_)]) ?_ ?_
         ·replace hs := hm108
          rcases bif_some hs with ⟨hc110, hs⟩ | ⟨hc110, hs⟩
          ·skip
           refine c_condT (congrArg Value.bool hc110) ?_
           refine c_region ?_
           refine pl_val (.agg #[(.func (.func g_) #[] lb_), (.func (.func sf_) #[] sb_)]) (y_load rfl ((box_load Ag125 Sz125 hb1 [] [(.func (.func g_) #[] lb_), (.func (.func sf_) #[] sb_)] [] rfl rfl (fun h => nomatch h)) _ (Chg.refl _ _))) ?_
           refine pl_val (.int .i64 a_) (y_move rfl) ?_
           refine pl_val (.int .i64 s73.1) (y_move rfl) ?_
           refine pl_val (.int .i64 (w64 (ishr .u64 (IntKind.u64.wrap (w64 (a_ + b))) 1))) (y_move rfl) ?_
           have hO := hO.fr1
           have hI111 := Own.lend (F := (G_ ++ ([]))) (R := ([g1]) ++ ([])) (Own.perm hO (by simp))
           obtain ⟨r112, hr112, hs⟩ := bind_some hs
           refine pl_call Bd151 rfl (c_ih (M := M) ls_ s91 a_ s73.1 (w64 (ishr .u64 (IntKind.u64.wrap (w64 (a_ + b))) 1)) (Nat.le_trans hN_ hC.size) hE_ hv94 hI111 hO.fut hr112) ?_
           rintro _ w111 ⟨rfl, hC111, hv111⟩
           have hb1 := hb1.chg hC111 (fun hg => hO.apart _ (nil_mem _ hg) (mem_l (List.mem_singleton.2 rfl)))
           have hC := hC.step hC111 (fun g hg => hO.inN g (nil_mem g hg))
           have hO := hO.ext hC111
           refine c_nil ?_
           cases hs
           have hO := hO.fr1
           exact ⟨_, fr_ovl 177 ⟨rfl, rfl, rfl, rfl, trivial⟩, hC, hO, hv111, hb1⟩
          ·skip
           refine c_condF (congrArg Value.bool hc110) ?_
           refine wp_skip ?_
           cases hs
           have hO := hO.fr1
           have hO := hO.fr1
           exact ⟨_, fr_ovl 177 ⟨rfl, rfl, rfl, rfl, trivial⟩, hC, hO, hv94, hb1⟩
         ·rintro a1 w107 ⟨σ, rfl, hC, hO, hv109, hb1⟩
          refine c_seq ?_
          refine c_mid (I := fun a w114 => ∃ (σ : Nat → Value), a = fr 177 (ovl σ [(3, (.int .i64 b)), (4, (.pointer (some ⟨g1, 0, none⟩))), (16, (.int .i64 (w64 (ishr .u64 (IntKind.u64.wrap (w64 (a_ + b))) 1)))), (22, (.int .i64 (w64 ((w64 ((w64 (ishr .u64 (IntKind.u64.wrap (w64 (a_ + b))) 1)) + m)) - s73.1)))), (171, (.bool ((decide ((w64 (ishr .u64 (IntKind.u64.wrap (w64 (a_ + b))) 1)) < (w64 ((w64 ((w64 (ishr .u64 (IntKind.u64.wrap (w64 (a_ + b))) 1)) + m)) - s73.1)))) && (decide ((w64 ((w64 ((w64 (ishr .u64 (IntKind.u64.wrap (w64 (a_ + b))) 1)) + m)) - s73.1)) < b)))))]) ∧ Chg [] w107 w114) ?_ ?_
          ·have hMid := Chg.refl [] w107
           refine c_region ?_
           refine pl_val (.int .i64 (w64 (ishr .u64 (IntKind.u64.wrap (w64 (a_ + b))) 1))) (y_move rfl) ?_
           refine pl_val (.int .i64 (w64 ((w64 ((w64 (ishr .u64 (IntKind.u64.wrap (w64 (a_ + b))) 1)) + m)) - s73.1))) (y_move rfl) ?_
           refine pl_val (.bool (decide ((w64 (ishr .u64 (IntKind.u64.wrap (w64 (a_ + b))) 1)) < (w64 ((w64 ((w64 (ishr .u64 (IntKind.u64.wrap (w64 (a_ + b))) 1)) + m)) - s73.1))))) (y_lss rfl rfl) ?_
           refine pl_val (.bool (decide ((w64 (ishr .u64 (IntKind.u64.wrap (w64 (a_ + b))) 1)) < (w64 ((w64 ((w64 (ishr .u64 (IntKind.u64.wrap (w64 (a_ + b))) 1)) + m)) - s73.1))))) (y_move rfl) ?_
           rcases Bool.eq_false_or_eq_true ((decide ((w64 (ishr .u64 (IntKind.u64.wrap (w64 (a_ + b))) 1)) < (w64 ((w64 ((w64 (ishr .u64 (IntKind.u64.wrap (w64 (a_ + b))) 1)) + m)) - s73.1))))) with hc116 | hc116
           ·skip
            refine pl_yes (.int .i64 (w64 ((w64 ((w64 (ishr .u64 (IntKind.u64.wrap (w64 (a_ + b))) 1)) + m)) - s73.1))) (tg := 167) (by kernel_rfl) (congrArg Value.bool hc116) (y_move rfl) ?_
            refine pl_yes (.int .i64 b) (tg := 167) (by kernel_rfl) (congrArg Value.bool hc116) (y_move rfl) ?_
            refine pl_yes (.bool (decide ((w64 ((w64 ((w64 (ishr .u64 (IntKind.u64.wrap (w64 (a_ + b))) 1)) + m)) - s73.1)) < b))) (tg := 167) (by kernel_rfl) (congrArg Value.bool hc116) (y_lss rfl rfl) ?_
            refine pl_val (.bool ((decide ((w64 (ishr .u64 (IntKind.u64.wrap (w64 (a_ + b))) 1)) < (w64 ((w64 ((w64 (ishr .u64 (IntKind.u64.wrap (w64 (a_ + b))) 1)) + m)) - s73.1)))) && (decide ((w64 ((w64 ((w64 (ishr .u64 (IntKind.u64.wrap (w64 (a_ + b))) 1)) + m)) - s73.1)) < b)))) (y_pick_t (congrArg Value.bool hc116) (congrArg Value.bool (by rw [hc116]; rfl))) ?_
            refine c_nil ?_
            exact ⟨_, fr_ovl 177 ⟨rfl, rfl, rfl, rfl, rfl, trivial⟩, hMid⟩
           ·skip
            refine pl_not (tg := 167) (by kernel_rfl) (congrArg Value.bool hc116) ?_
            refine pl_not (tg := 167) (by kernel_rfl) (congrArg Value.bool hc116) ?_
            refine pl_not (tg := 167) (by kernel_rfl) (congrArg Value.bool hc116) ?_
            refine pl_val (.bool ((decide ((w64 (ishr .u64 (IntKind.u64.wrap (w64 (a_ + b))) 1)) < (w64 ((w64 ((w64 (ishr .u64 (IntKind.u64.wrap (w64 (a_ + b))) 1)) + m)) - s73.1)))) && (decide ((w64 ((w64 ((w64 (ishr .u64 (IntKind.u64.wrap (w64 (a_ + b))) 1)) + m)) - s73.1)) < b)))) (y_pick_f (congrArg Value.bool hc116) (congrArg Value.bool (by rw [hc116]; rfl))) ?_
            refine c_nil ?_
            exact ⟨_, fr_ovl 177 ⟨rfl, rfl, rfl, rfl, rfl, trivial⟩, hMid⟩
          ·rintro a1 w114 ⟨σ, rfl, hCs113⟩
           have hv109 := hE_.ext hv109 hCs113 (fun _ h => nomatch h)
           have hb1 := hb1.chg hCs113 (fun h => nomatch h)
           have hC := hC.ext hCs113
           have hO := hO.ext hCs113
           rcases bif_some hs with ⟨hc117, hs⟩ | ⟨hc117, hs⟩
           ·skip
            refine c_condT (congrArg Value.bool hc117) ?_
            refine c_region ?_
            refine pl_val (.agg #[(.func (.func g_) #[] lb_), (.func (.func sf_) #[] sb_)]) (y_load rfl ((box_load Ag125 Sz125 hb1 [] [(.func (.func g_) #[] lb_), (.func (.func sf_) #[] sb_)] [] rfl rfl (fun h => nomatch h)) _ (Chg.refl _ _))) ?_
            refine pl_val (.int .i64 (w64 (ishr .u64 (IntKind.u64.wrap (w64 (a_ + b))) 1))) (y_move rfl) ?_
            refine pl_val (.int .i64 (w64 ((w64 ((w64 (ishr .u64 (IntKind.u64.wrap (w64 (a_ + b))) 1)) + m)) - s73.1))) (y_move rfl) ?_
            refine pl_val (.int .i64 b) (y_move rfl) ?_
            have hO := hO.fr1
            have hI118 := Own.lend (F := (G_ ++ ([]))) (R := ([g1]) ++ ([])) (Own.perm hO (by simp))
            obtain ⟨r119, hr119, hs⟩ := bind_some hs
            refine pl_call Bd151 rfl (c_ih (M := M) ls_ s106 (w64 (ishr .u64 (IntKind.u64.wrap (w64 (a_ + b))) 1)) (w64 ((w64 ((w64 (ishr .u64 (IntKind.u64.wrap (w64 (a_ + b))) 1)) + m)) - s73.1)) b (Nat.le_trans hN_ hC.size) hE_ hv109 hI118 hO.fut hr119) ?_
            rintro _ w118 ⟨rfl, hC118, hv118⟩
            have hb1 := hb1.chg hC118 (fun hg => hO.apart _ (nil_mem _ hg) (mem_l (List.mem_singleton.2 rfl)))
            have hC := hC.step hC118 (fun g hg => hO.inN g (nil_mem g hg))
            have hO := hO.ext hC118
            refine c_nil ?_
            cases hs
            exact ⟨_, fr_ovl 177 trivial, hC, hv118⟩
           ·skip
            refine c_condF (congrArg Value.bool hc117) ?_
            refine wp_skip ?_
            cases hs
            exact ⟨_, fr_ovl 177 trivial, hC, hv109⟩

theorem Bd150 : Bodied Try.prog 150 := bodied Try.func150 (by kernel_rfl) rfl

def k_sort_stable_func (M : Nat → Prop) (w0 : World) {α_ : Type} (I_ : World → List α_ → Prop) (G_ : List Nat) (r : (List α_)) (a : Act) (w : World) : Prop :=
  ∃ (σ : Nat → Value) , a = fr 57 (ovl σ []) ∧ Chg (G_ ++ ([])) w0 w ∧ I_ w r
def s_sort_stable_func {α_ : Type} (ls_ : α_ → α_ → Option Bool) (d_ : List α_) (n : Int) : Option ((List α_)) :=
  (iter (S := Int × Int × (List α_)) (R := (List α_)) (fun s9 =>
  (bif (decide (s9.2.1 ≤ n)) then (s_sort_insertionSort_func ls_ s9.2.2 s9.1 s9.2.1).bind fun r19 =>
  some (.nx (s9.2.1, w64 (s9.2.1 + 20), r19)) else some (.br (s9.1, s9.2.1, s9.2.2)))) FU (0, 20, d_)).bind fun o13 => after o13 (fun r_ => some r_) (fun s9 =>
  (s_sort_insertionSort_func ls_ s9.2.2 s9.1 n).bind fun r21 =>
  (iter (S := Int × Int × Int × (List α_)) (R := (List α_)) (fun s67 =>
  (bif (decide (s67.1 < n)) then (iter (S := Int × Int × (List α_)) (R := (List α_)) (fun s83 =>
  (bif (decide (s83.2.1 ≤ n)) then (s_sort_symMerge_func FU ls_ s83.2.2 s83.1 (w64 (s83.1 + s67.1)) s83.2.1).bind fun r93 =>
  some (.nx (s83.2.1, w64 (s83.2.1 + (w64 (2 * s67.1))), r93)) else some (.br (s83.1, s83.2.1, s83.2.2)))) FU (0, w64 (2 * s67.1), s67.2.2.2)).bind fun o87 => after o87 (fun r_ => some (.rt r_)) (fun s83 =>
  (bif (decide ((w64 (s83.1 + s67.1)) < n)) then (s_sort_symMerge_func FU ls_ s83.2.2 s83.1 (w64 (s83.1 + s67.1)) n).bind fun r96 =>
  some (.nx (w64 (s67.1 * 2), s83.1, s83.2.1, r96)) else some (.nx (w64 (s67.1 * 2), s83.1, s83.2.1, s83.2.2)))) else some (.br (s67.1, s67.2.1, s67.2.2.1, s67.2.2.2)))) FU (20, s9.1, s9.2.1, r21)).bind fun o71 => after o71 (fun r_ => some r_) (fun s67 =>
  some s67.2.2.2))
set_option maxHeartbeats 4000000 in
theorem c_sort_stable_func {M : Nat → Prop} {w : World} {α_ : Type} {n0_ : Nat} {I_ : World → List α_ → Prop} {G_ : List Nat} {g_ sf_ : Nat} {lb_ sb_ : Array Value} (ls_ : α_ → α_ → Option Bool) (d_ : List α_) (n : Int) (hN_ : n0_ ≤ w.heap.size) (hE_ : Env Try.prog n0_ I_ G_ ls_ g_ lb_ sf_ sb_) (hI_ : I_ w d_) (hI : Own (Nw w (G_ ++ ([]))) M w (G_ ++ ([]))) (hM : ∀ g, w.heap.size ≤ g → M g) {r : (List α_)} (hs : s_sort_stable_func ls_ d_ n = some r) :
    Gives Try.prog 139 [(.agg #[(.func (.func g_) #[] lb_), (.func (.func sf_) #[] sb_)]), (.int .i64 n)] w (fun v w' => v = (.tuple #[]) ∧ Chg (G_ ++ ([])) w w' ∧ I_ w' r) := by
 refine calls_fr Try.func139 rfl Try.ntmps139 (Nat.le_of_ble_eq_true rfl) ?_
 have hO := hI
 have hC := Chg.refl (G_ ++ ([])) w
 unfold s_sort_stable_func at hs
 refine wp_mono (Q := KPostN (k_sort_stable_func M w I_ G_ r)) ?_ (fun e a w1 h => ?_)
 rotate_left
 ·cases e
  case ret =>
   obtain ⟨σ, rfl, hrest⟩ := h
   exact ret0x Try.results139  ⟨rfl, hrest⟩
  case normal =>
   obtain ⟨σ, rfl, hrest⟩ := h
   exact ret0n Try.results139  ⟨rfl, hrest⟩
  all_goals exact (h : False).elim
 refine c_seq (c_region ?_)
 obtain ⟨w1, g1, ew1, eg1, hC1, hb1⟩ := new_block w [(.func (.func g_) #[] lb_), (.func (.func sf_) #[] sb_)] 125
 refine pl_val (w' := w1) (.pointer (some ⟨g1, 0, none⟩)) (y_box rfl (by rw [ew1, eg1]; kernel_rfl)) ?_
 have hI_ := hE_.ext hI_ hC1 (fun _ h => nomatch h)
 have hC := hC.ext hC1
 have hO := hO.new1 hC1 eg1 hb1.lt
 refine c_nil ?_
 refine c_seq (c_region ?_)
 refine pl_val (.int .i64 20) (y_assign rfl) ?_
 refine c_nil ?_
 refine c_seq (c_region ?_)
 refine pl_val (.int .i64 20) (y_move rfl) ?_
 refine pl_val (.int .i64 0) (y_assign rfl) ?_
 refine pl_val (.int .i64 20) (y_assign rfl) ?_
 refine c_nil ?_
 refine c_seq ?_
 obtain ⟨o13, hl14, hs⟩ := bind_some hs
 refine wp_block ?_
 refine wp_iter (id := 0) (I := fun s9 a w10 => ∃ (σ : Nat → Value), a = fr 57 (ovl σ [(1, (.int .i64 n)), (2, (.pointer (some ⟨g1, 0, none⟩))), (4, (.int .i64 20)), (5, (.int .i64 s9.1)), (6, (.int .i64 s9.2.1))]) ∧ Chg (G_ ++ ([])) w w10 ∧ Own (Nw w (G_ ++ ([]))) M w10 (([g1]) ++ (G_ ++ [])) ∧ I_ w10 s9.2.2 ∧ BoxV w10 g1 125 [(.func (.func g_) #[] lb_), (.func (.func sf_) #[] sb_)]) (J := fun s9 a w10 => ∃ (σ : Nat → Value), a = fr 57 (ovl σ [(1, (.int .i64 n)), (2, (.pointer (some ⟨g1, 0, none⟩))), (4, (.int .i64 20)), (5, (.int .i64 s9.1)), (6, (.int .i64 s9.2.1))]) ∧ Chg (G_ ++ ([])) w w10 ∧ Own (Nw w (G_ ++ ([]))) M w10 (([g1]) ++ (G_ ++ [])) ∧ I_ w10 s9.2.2 ∧ BoxV w10 g1 125 [(.func (.func g_) #[] lb_), (.func (.func sf_) #[] sb_)]) (K := (k_sort_stable_func M w I_ G_)) ?_ FU (0, 20, d_) o13 _ _ ?_ hl14 ?_
 ·rintro s9 o13 a w10 ⟨σ, rfl, hC, hO, hv15, hb1⟩ hs
  refine c_seq ?_
  refine c_seq (c_region ?_)
  refine pl_val (.int .i64 s9.2.1) (y_move rfl) ?_
  refine pl_val (.int .i64 n) (y_move rfl) ?_
  refine pl_val (.bool (decide (s9.2.1 ≤ n))) (y_leq rfl rfl) ?_
  refine c_nil ?_
  rcases bif_some hs with ⟨hc17, hs⟩ | ⟨hc17, hs⟩
  ·skip
   refine c_condT (congrArg Value.bool hc17) ?_
   refine wp_skip ?_
   refine wp_block ?_
   refine c_seq (c_region ?_)
   refine pl_val (.agg #[(.func (.func g_) #[] lb_), (.func (.func sf_) #[] sb_)]) (y_load rfl ((box_load Ag125 Sz125 hb1 [] [(.func (.func g_) #[] lb_), (.func (.func sf_) #[] sb_)] [] rfl rfl (fun h => nomatch h)) _ (Chg.refl _ _))) ?_
   refine pl_val (.int .i64 s9.1) (y_move rfl) ?_
   refine pl_val (.int .i64 s9.2.1) (y_move rfl) ?_
   have hO := hO.fr1
   have hI18 := Own.lend (F := (G_ ++ ([]))) (R := ([g1]) ++ ([])) (Own.perm hO (by simp))
   obtain ⟨r19, hr19, hs⟩ := bind_some hs
   refine pl_call Bd150 rfl (c_sort_insertionSort_func (M := M) ls_ s9.2.2 s9.1 s9.2.1 (Nat.le_trans hN_ hC.size) hE_ hv15 hI18 hO.fut hr19) ?_
   rintro _ w18 ⟨rfl, hC18, hv18⟩
   have hb1 := hb1.chg hC18 (fun hg => hO.apart _ (nil_mem _ hg) (mem_l (List.mem_singleton.2 rfl)))
   have hC := hC.step hC18 (fun g hg => hO.inN g (nil_mem g hg))
   have hO := hO.ext hC18
   refine c_nil ?_
   refine c_seq (c_region ?_)
   refine pl_val (.int .i64 s9.2.1) (y_move rfl) ?_
   refine pl_val (.int .i64 s9.2.1) (y_assign rfl) ?_
   refine c_nil ?_
   refine c_region ?_
   refine pl_val (.int .i64 s9.2.1) (y_move rfl) ?_
   refine pl_val (.int .i64 20) (y_move rfl) ?_
   refine pl_val (.int .i64 (w64 (s9.2.1 + 20))) (y_add rfl rfl) ?_
   refine pl_val (.int .i64 (w64 (s9.2.1 + 20))) (y_assign rfl) ?_
   refine c_nil ?_
   cases hs
   have hO := hO.fr1
   exact ⟨_, fr_ovl 57 ⟨rfl, rfl, rfl, rfl, rfl, trivial⟩, hC, hO, hv18, hb1⟩
  ·skip
   refine c_condF (congrArg Value.bool hc17) ?_
   refine wp_exit ?_
   cases hs
   have hO := hO.fr1
   have hO := hO.fr1
   exact ⟨rfl, _, fr_ovl 57 ⟨rfl, rfl, rfl, rfl, rfl, trivial⟩, hC, hO, hv15, hb1⟩
 ·skip
  have hO := hO.fr1
  have hO := hO.fr1
  exact ⟨_, fr_ovl 57 ⟨rfl, rfl, rfl, rfl, rfl, trivial⟩, hC, hO, hI_, hb1⟩
 ·cases o13 with
  | nx _ => exact True.intro
  | rt r_ =>
   have hs := after_rt hs
   intro a1 w1 hK
   cases hs
   exact hK
  | br s9 =>
   have hs := after_br hs
   rintro a1 w10 ⟨σ, rfl, hC, hO, hv16, hb1⟩
   refine c_seq (c_region ?_)
   refine pl_val (.agg #[(.func (.func g_) #[] lb_), (.func (.func sf_) #[] sb_)]) (y_load rfl ((box_load Ag125 Sz125 hb1 [] [(.func (.func g_) #[] lb_), (.func (.func sf_) #[] sb_)] [] rfl rfl (fun h => nomatch h)) _ (Chg.refl _ _))) ?_
   refine pl_val (.int .i64 s9.1) (y_move rfl) ?_
   refine pl_val (.int .i64 n) (y_move rfl) ?_
   have hO := hO.fr1
   have hI20 := Own.lend (F := (G_ ++ ([]))) (R := ([g1]) ++ ([])) (Own.perm hO (by simp))
   obtain ⟨r21, hr21, hs⟩ := bind_some hs
   refine pl_call Bd150 rfl (c_sort_insertionSort_func (M := M) ls_ s9.2.2 s9.1 n (Nat.le_trans hN_ hC.size) hE_ hv16 hI20 hO.fut hr21) ?_
   rintro _ w20 ⟨rfl, hC20, hv20⟩
   have hb1 := hb1.chg hC20 (fun hg => hO.apart _ (nil_mem _ hg) (mem_l (List.mem_singleton.2 rfl)))
   have hC := hC.step hC20 (fun g hg => hO.inN g (nil_mem g hg))
   have hO := hO.ext hC20
   refine c_nil ?_
   obtain ⟨o71, hl72, hs⟩ := bind_some hs
   refine wp_block ?_
   refine wp_iter (id := 2) (I := fun s67 a w68 => ∃ (σ : Nat → Value), a = fr 57 (ovl σ [(1, (.int .i64 n)), (2, (.pointer (some ⟨g1, 0, none⟩))), (4, (.int .i64 s67.1)), (5, (.int .i64 s67.2.1)), (6, (.int .i64 s67.2.2.1))]) ∧ Chg (G_ ++ ([])) w w68 ∧ Own (Nw w (G_ ++ ([]))) M w68 (G_ ++ (([g1]) ++ [])) ∧ I_ w68 s67.2.2.2 ∧ BoxV w68 g1 125 [(.func (.func g_) #[] lb_), (.func (.func sf_) #[] sb_)]) (J := fun s67 a w68 => ∃ (σ : Nat → Value), a = fr 57 (ovl σ []) ∧ Chg (G_ ++ ([])) w w68 ∧ Own (Nw w (G_ ++ ([]))) M w68 (G_ ++ (([g1]) ++ [])) ∧ I_ w68 s67.2.2.2 ∧ BoxV w68 g1 125 [(.func (.func g_) #[] lb_), (.func (.func sf_) #[] sb_)]) (K := (k_sort_stable_func M w I_ G_)) ?_ FU (20, s9.1, s9.2.1, r21) o71 _ _ ?_ hl72 ?_
   ·rintro s67 o71 a w68 ⟨σ, rfl, hC, hO, hv73, hb1⟩ hs
    refine c_seq ?_
    refine c_seq (c_region ?_)
    refine pl_val (.int .i64 s67.1) (y_move rfl) ?_
    refine pl_val (.int .i64 n) (y_move rfl) ?_
    refine pl_val (.bool (decide (s67.1 < n))) (y_lss rfl rfl) ?_
    refine c_nil ?_
    rcases bif_some hs with ⟨hc75, hs⟩ | ⟨hc75, hs⟩
    ·skip
     refine c_condT (congrArg Value.bool hc75) ?_
     refine wp_skip ?_
     refine wp_block ?_
     refine c_seq (c_region ?_)
     refine pl_val (.int .i64 s67.1) (y_move rfl) ?_
     refine pl_val (.int .i64 (w64 (2 * s67.1))) (y_mul rfl rfl) ?_
     refine pl_val (.int .i64 0) (y_assign rfl) ?_
     refine pl_val (.int .i64 (w64 (2 * s67.1))) (y_assign rfl) ?_
     refine c_nil ?_
     refine c_seq ?_
     obtain ⟨o87, hl88, hs⟩ := bind_some hs
     refine wp_block ?_
     refine wp_iter (id := 4) (I := fun s83 a w84 => ∃ (σ : Nat → Value), a = fr 57 (ovl σ [(1, (.int .i64 n)), (2, (.pointer (some ⟨g1, 0, none⟩))), (4, (.int .i64 s67.1)), (5, (.int .i64 s83.1)), (6, (.int .i64 s83.2.1))]) ∧ Chg (G_ ++ ([])) w w84 ∧ Own (Nw w (G_ ++ ([]))) M w84 (G_ ++ (([g1]) ++ [])) ∧ I_ w84 s83.2.2 ∧ BoxV w84 g1 125 [(.func (.func g_) #[] lb_), (.func (.func sf_) #[] sb_)]) (J := fun s83 a w84 => ∃ (σ : Nat → Value), a = fr 57 (ovl σ [(1, (.int .i64 n)), (2, (.pointer (some ⟨g1, 0, none⟩))), (4, (.int .i64 s67.1)), (5, (.int .i64 s83.1)), (6, (.int .i64 s83.2.1))]) ∧ Chg (G_ ++ ([])) w w84 ∧ Own (Nw w (G_ ++ ([]))) M w84 (G_ ++ (([g1]) ++ [])) ∧ I_ w84 s83.2.2 ∧ BoxV w84 g1 125 [(.func (.func g_) #[] lb_), (.func (.func sf_) #[] sb_)]) (K := (k_sort_stable_func M w I_ G_)) ?_ FU (0, w64 (2 * s67.1), s67.2.2.2) o87 _ _ ?_ hl88 ?_
     ·rintro s83 o87 a w84 ⟨σ, rfl, hC, hO, hv89, hb1⟩ hs
      refine c_seq ?_
      refine c_seq (c_region ?_)
      refine pl_val (.int .i64 s83.2.1) (y_move rfl) ?_
      refine pl_val (.int .i64 n) (y_move rfl) ?_
      refine pl_val (.bool (decide (s83.2.1 ≤ n))) (y_leq rfl rfl) ?_
      refine c_nil ?_
      rcases bif_some hs with ⟨hc91, hs⟩ | ⟨hc91, hs⟩
      ·skip
       refine c_condT (congrArg Value.bool hc91) ?_
       refine wp_skip ?_
       refine wp_block ?_
       refine c_seq (c_region ?_)
       refine pl_val (.agg #[(.func (.func g_) #[] lb_), (.func (.func sf_) #[] sb_)]) (y_load rfl ((box_load Ag125 Sz125 hb1 [] [(.func (.func g_) #[] lb_), (.func (.func sf_) #[] sb_)] [] rfl rfl (fun h => nomatch h)) _ (Chg.refl _ _))) ?_
       refine pl_val (.int .i64 s83.1) (y_move rfl) ?_
       refine pl_val (.int .i64 s83.1) (y_move rfl) ?_
       refine pl_val (.int .i64 s67.1) (y_move rfl) ?_
       refine pl_val (.int .i64 (w64 (s83.1 + s67.1))) (y_add rfl rfl) ?_
       refine pl_val (.int .i64 s83.2.1) (y_move rfl) ?_
       have hI92 := Own.lend (F := (G_ ++ ([]))) (R := ([g1]) ++ ([])) (Own.perm hO (by simp))
       obtain ⟨r93, hr93, hs⟩ := bind_some hs
       refine pl_call Bd151 rfl (c_sort_symMerge_func (M := M) FU ls_ s83.2.2 s83.1 (w64 (s83.1 + s67.1)) s83.2.1 (Nat.le_trans hN_ hC.size) hE_ hv89 hI92 hO.fut hr93) ?_
       rintro _ w92 ⟨rfl, hC92, hv92⟩
       have hb1 := hb1.chg hC92 (fun hg => hO.apart _ (nil_mem _ hg) (mem_l (List.mem_singleton.2 rfl)))
       have hC := hC.step hC92 (fun g hg => hO.inN g (nil_mem g hg))
       have hO := hO.ext hC92
       refine c_nil ?_
       refine c_seq (c_region ?_)
       refine pl_val (.int .i64 s83.2.1) (y_move rfl) ?_
       refine pl_val (.int .i64 s83.2.1) (y_assign rfl) ?_
       refine c_nil ?_
       refine c_region ?_
       refine pl_val (.int .i64 s83.2.1) (y_move rfl) ?_
       refine pl_val (.int .i64 s67.1) (y_move rfl) ?_
       refine pl_val (.int .i64 (w64 (2 * s67.1))) (y_mul rfl rfl) ?_
       refine pl_val (.int .i64 (w64 (s83.2.1 + (w64 (2 * s67.1))))) (y_add rfl rfl) ?_
       refine pl_val (.int .i64 (w64 (s83.2.1 + (w64 (2 * s67.1))))) (y_assign rfl) ?_
       refine c_nil ?_
       cases hs
       have hO := hO.fr1
       have hO := hO.fr1
       exact ⟨_, fr_ovl 57 ⟨rfl, rfl, rfl, rfl, rfl, trivial⟩, hC, hO, hv92, hb1⟩
      ·skip
       refine c_condF (congrArg Value.bool hc91) ?_
       refine wp_exit ?_
       cases hs
       have hO := hO.fr1
       have hO := hO.fr1
       exact ⟨rfl, _, fr_ovl 57 ⟨rfl, rfl, rfl, rfl, rfl, trivial⟩, hC, hO, hv89, hb1⟩
     ·skip
      have hO := hO.fr1
      have hO := hO.fr1
      exact ⟨_, fr_ovl 57 ⟨rfl, rfl, rfl, rfl, rfl, trivial⟩, hC, hO, hv73, hb1⟩
     ·cases o87 with
      | nx _ => exact True.intro
      | rt r_ =>
       have hs := after_rt hs
       intro a1 w1 hK
       cases hs
       exact hK
      | br s83 =>
       have hs := after_br hs
       rintro a1 w84 ⟨σ, rfl, hC, hO, hv90, hb1⟩
       refine c_seq ?_
       refine c_seq (c_region ?_)
       refine pl_val (.int .i64 s83.1) (y_move rfl) ?_
       refine pl_val (.int .i64 s67.1) (y_move rfl) ?_
       refine pl_val (.int .i64 (w64 (s83.1 + s67.1))) (y_add rfl rfl) ?_
       refine pl_val (.int .i64 (w64 (s83.1 + s67.1))) (y_assign rfl) ?_
       refine c_nil ?_
       refine c_seq (c_region ?_)
       refine pl_val (.int .i64 (w64 (s83.1 + s67.1))) (y_move rfl) ?_
       refine pl_val (.int .i64 n) (y_move rfl) ?_
       refine pl_val (.bool (decide ((w64 (s83.1 + s67.1)) < n))) (y_lss rfl rfl) ?_
       refine c_nil ?_
       rcases bif_some hs with ⟨hc94, hs⟩ | ⟨hc94, hs⟩
       ·skip
        refine c_condT (congrArg Value.bool hc94) ?_
        refine c_region ?_
        refine pl_val (.agg #[(.func (.func g_) #[] lb_), (.func (.func sf_) #[] sb_)]) (y_load rfl ((box_load Ag125 Sz125 hb1 [] [(.func (.func g_) #[] lb_), (.func (.func sf_) #[] sb_)] [] rfl rfl (fun h => nomatch h)) _ (Chg.refl _ _))) ?_
        refine pl_val (.int .i64 s83.1) (y_move rfl) ?_
        refine pl_val (.int .i64 (w64 (s83.1 + s67.1))) (y_move rfl) ?_
        refine pl_val (.int .i64 n) (y_move rfl) ?_
        have hI95 := Own.lend (F := (G_ ++ ([]))) (R := ([g1]) ++ ([])) (Own.perm hO (by simp))
        obtain ⟨r96, hr96, hs⟩ := bind_some hs
        refine pl_call Bd151 rfl (c_sort_symMerge_func (M := M) FU ls_ s83.2.2 s83.1 (w64 (s83.1 + s67.1)) n (Nat.le_trans hN_ hC.size) hE_ hv90 hI95 hO.fut hr96) ?_
        rintro _ w95 ⟨rfl, hC95, hv95⟩
        have hb1 := hb1.chg hC95 (fun hg => hO.apart _ (nil_mem _ hg) (mem_l (List.mem_singleton.2 rfl)))
        have hC := hC.step hC95 (fun g hg => hO.inN g (nil_mem g hg))
        have hO := hO.ext hC95
        refine c_nil ?_
        refine c_region ?_
        refine pl_val (.int .i64 s67.1) (y_move rfl) ?_
        refine pl_val (.int .i64 (w64 (s67.1 * 2))) (y_mul rfl rfl) ?_
        refine pl_val (.int .i64 (w64 (s67.1 * 2))) (y_assign rfl) ?_
        refine c_nil ?_
        cases hs
        have hO := hO.fr1
        have hO := hO.fr1
        exact ⟨_, fr_ovl 57 ⟨rfl, rfl, rfl, rfl, rfl, trivial⟩, hC, hO, hv95, hb1⟩
       ·skip
        refine c_condF (congrArg Value.bool hc94) ?_
        refine wp_skip ?_
        refine c_region ?_
        refine pl_val (.int .i64 s67.1) (y_move rfl) ?_
        refine pl_val (.int .i64 (w64 (s67.1 * 2))) (y_mul rfl rfl) ?_
        refine pl_val (.int .i64 (w64 (s67.1 * 2))) (y_assign rfl) ?_
        refine c_nil ?_
        cases hs
        have hO := hO.fr1
        have hO := hO.fr1
        exact ⟨_, fr_ovl 57 ⟨rfl, rfl, rfl, rfl, rfl, trivial⟩, hC, hO, hv90, hb1⟩
    ·skip
     refine c_condF (congrArg Value.bool hc75) ?_
     refine wp_exit ?_
     cases hs
     have hO := hO.fr1
     have hO := hO.fr1
     exact ⟨rfl, _, fr_ovl 57 trivial, hC, hO, hv73, hb1⟩
   ·skip
    have hO := hO.fr1
    have hO := hO.fr1
    exact ⟨_, fr_ovl 57 ⟨rfl, rfl, rfl, rfl, rfl, trivial⟩, hC, hO, hv20, hb1⟩
   ·cases o71 with
    | nx _ => exact True.intro
    | rt r_ =>
     have hs := after_rt hs
     intro a1 w1 hK
     cases hs
     exact hK
    | br s67 =>
     have hs := after_br hs
     rintro a1 w68 ⟨σ, rfl, hC, hO, hv74, hb1⟩
     cases hs
     exact ⟨_, fr_ovl 57 trivial, hC, hv74⟩

def k_impl_blockCount (M : Nat → Prop) (w0 : World) (r : Int) (a : Act) (w : World) : Prop :=
  ∃ (σ : Nat → Value) , a = fr 20 (ovl σ [(2, (.int .i64 r))]) ∧ Chg [] w0 w
def s_impl_blockCount (p : List Int) : Option (Int) :=
  (forC (S := Int) (R := Int) (fun k7 s5 =>
  (idx p k7).bind fun x11 =>
  (bif (x11 == k7) then some (.nx (w64 (s5 + 1))) else some (.nx s5))) 0 (p.length : Int) 0).bind fun o9 => after o9 (fun r_ => some r_) (fun s5 =>
  some s5)
set_option maxHeartbeats 4000000 in
theorem c_impl_blockCount {M : Nat → Prop} {w : World} {pa0 : Option Addr} {pn0 pc0 : Nat} (p : List Int) (h0 : (RT.rs (RT.int .i64)).val M w (.slice pa0 pn0 pc0) p ([])) (hM : ∀ g, w.heap.size ≤ g → M g) {r : Int} (hs : s_impl_blockCount p = some r) :
    Gives Try.prog 99 [(.slice pa0 pn0 pc0)] w (fun v w' => v = (.int .i64 r) ∧ Chg [] w w') := by
 refine calls_fr Try.func99 rfl Try.ntmps99 (Nat.le_of_ble_eq_true rfl) ?_
 have hO := Own.start (N := Nw w []) hM Nw.fut
 have hC := Chg.refl [] w
 unfold s_impl_blockCount at hs
 refine wp_mono (Q := KPost (k_impl_blockCount M w r)) ?_ (fun e a w1 h => ?_)
 rotate_left
 ·cases e
  case ret =>
   obtain ⟨σ, rfl, hrest⟩ := h
   exact ret1x Try.results99 (res_tmp rfl) ⟨rfl, hrest⟩
  all_goals exact (h : False).elim
 refine c_seq (c_region ?_)
 refine pl_val (.int .i64 0) (y_assign rfl) ?_
 refine c_nil ?_
 refine c_seq (c_region ?_)
 refine pl_val (.int .i64 0) (y_assign rfl) ?_
 refine c_nil ?_
 refine c_seq ?_
 refine c_seq (c_region ?_)
 refine pl_val (.slice pa0 pn0 pc0) (y_move rfl) ?_
 refine pl_val (.int .i64 (p.length : Int)) (y_len' Sl22 (rs_len h0) rfl) ?_
 refine pl_val (.int .i64 0) (y_move rfl) ?_
 refine c_nil ?_
 obtain ⟨o9, hl10, hs⟩ := bind_some hs
 refine wp_block ?_
 refine wp_forC (id := 0) (p.length : Int) (I := fun k7 s5 a w6 => ∃ (σ : Nat → Value), a = fr 20 (ovl σ [(3, (.int .i64 s5)), (6, (.slice pa0 pn0 pc0)), (7, (.int .i64 (p.length : Int))), (8, (.int .i64 k7))]) ∧ Chg [] w w6 ∧ Own (Nw w []) M w6 ([]) ∧ (RT.rs (RT.int .i64)).val M w6 (.slice pa0 pn0 pc0) p ([])) (J := fun s5 a w6 => ∃ (σ : Nat → Value), a = fr 20 (ovl σ [(3, (.int .i64 s5))]) ∧ Chg [] w w6 ∧ Own (Nw w []) M w6 ([]) ∧ (RT.rs (RT.int .i64)).val M w6 (.slice pa0 pn0 pc0) p ([])) (K := (k_impl_blockCount M w)) ?_ ?_ 0 0 o9 _ _ ?_ hl10 ?_
 ·rintro k7 s5 a w6 ⟨σ, rfl, hC, hO, h0⟩ hlt
  refine c_seq (c_region ?_)
  refine pl_val (.bool (decide (k7 < (p.length : Int)))) (y_lss rfl rfl) ?_
  refine c_nil ?_
  refine c_seq ?_
  refine c_condF (congrArg Value.bool (decide_eq_false hlt)) ?_
  refine wp_exit ?_
  exact ⟨rfl, _, fr_ovl 20 ⟨rfl, trivial⟩, hC, hO, h0⟩
 ·rintro k7 s5 o9 a w6 ⟨σ, rfl, hC, hO, h0⟩ hlt hw hs
  refine c_seq (c_region ?_)
  refine pl_val (.bool (decide (k7 < (p.length : Int)))) (y_lss rfl rfl) ?_
  refine c_nil ?_
  refine c_seq ?_
  refine c_condT (congrArg Value.bool (decide_eq_true hlt)) ?_
  refine wp_skip ?_
  refine c_seq ?_
  refine wp_block ?_
  refine c_seq (c_region ?_)
  refine pl_val (.int .i64 k7) (y_move rfl) ?_
  obtain ⟨x11, hx11, hs⟩ := bind_some hs
  obtain ⟨b12, o12, hp12, ha12⟩ := rs_idx Sl22 Sz3 h0 hx11
  refine pl_val (.pointer (some ⟨b12, o12, none⟩)) (hp12 _ _ _ _ _ _ _ _ _ rfl rfl) ?_
  refine pl_val (.int .i64 x11) (y_load rfl ((at_load_int Ag3 Sz3 ha12) _ (Chg.refl _ _))) ?_
  refine pl_val (.int .i64 k7) (y_assign rfl) ?_
  refine pl_val (.int .i64 x11) (y_assign rfl) ?_
  refine c_nil ?_
  refine c_seq (c_region ?_)
  refine pl_val (.int .i64 x11) (y_move rfl) ?_
  refine pl_val (.int .i64 k7) (y_move rfl) ?_
  refine pl_val (.bool (x11 == k7)) (y_eql rfl rfl) ?_
  refine c_nil ?_
  rcases bif_some hs with ⟨hc13, hs⟩ | ⟨hc13, hs⟩
  ·skip
   refine c_condT (congrArg Value.bool hc13) ?_
   refine c_region ?_
   refine pl_val (.int .i64 s5) (y_move rfl) ?_
   refine pl_val (.int .i64 (w64 (s5 + 1))) (y_add rfl rfl) ?_
   refine pl_val (.int .i64 (w64 (s5 + 1))) (y_assign rfl) ?_
   refine c_nil ?_
   refine c_region ?_
   refine pl_val (.int .i64 (w64 (k7 + 1))) (y_add rfl rfl) ?_
   refine pl_val (.int .i64 (w64 (k7 + 1))) (y_move rfl) ?_
   refine c_nil ?_
   cases hs
   exact ⟨_, fr_ovl 20 ⟨rfl, rfl, rfl, congrArg (Value.int .i64) hw, trivial⟩, hC, hO, h0⟩
  ·skip
   refine c_condF (congrArg Value.bool hc13) ?_
   refine wp_skip ?_
   refine c_region ?_
   refine pl_val (.int .i64 (w64 (k7 + 1))) (y_add rfl rfl) ?_
   refine pl_val (.int .i64 (w64 (k7 + 1))) (y_move rfl) ?_
   refine c_nil ?_
   cases hs
   exact ⟨_, fr_ovl 20 ⟨rfl, rfl, rfl, congrArg (Value.int .i64) hw, trivial⟩, hC, hO, h0⟩
 ·skip
  exact ⟨_, fr_ovl 20 ⟨rfl, rfl, rfl, rfl, trivial⟩, hC, hO, h0⟩
 ·cases o9 with
  | nx _ => exact True.intro
  | rt r_ =>
   have hs := after_rt hs
   intro a1 w1 hK
   cases hs
   exact hK
  | br s5 =>
   have hs := after_br hs
   rintro a1 w6 ⟨σ, rfl, hC, hO, h0⟩
   refine c_seq (c_region ?_)
   refine pl_val (.int .i64 s5) (y_move rfl) ?_
   refine pl_val (.int .i64 s5) (y_assign rfl) ?_
   refine c_nil ?_
   refine wp_ret ?_
   cases hs
   exact ⟨_, fr_ovl 20 ⟨rfl, trivial⟩, hC⟩

def k_impl_compareLists (M : Nat → Prop) (w0 : World) (r : Int) (a : Act) (w : World) : Prop :=
  ∃ (σ : Nat → Value) , a = fr 48 (ovl σ [(4, (.int .i64 r))]) ∧ Chg [] w0 w
def s_impl_compareLists (s_ : List Int) (t : List Int) : Option (Int) :=
  (iter (S := Int) (R := Int) (fun s25 =>
  (bif ((decide (s25 < (s_.length : Int))) && (decide (s25 < (t.length : Int)))) then (idx s_ s25).bind fun x42 =>
  (idx t s25).bind fun x44 =>
  (bif (x42 != x44) then (idx s_ s25).bind fun x48 =>
  (idx t s25).bind fun x50 =>
  (bif (decide (x48 < x50)) then some (.rt (-1)) else some (.rt 1)) else some (.nx (w64 (s25 + 1)))) else some (.br s25))) FU 0).bind fun o29 => after o29 (fun r_ => some r_) (fun s25 =>
  (bif (decide ((s_.length : Int) < (t.length : Int))) then some (-1) else (bif (decide ((t.length : Int) < (s_.length : Int))) then some 1 else some 0)))
set_option maxHeartbeats 4000000 in
theorem c_impl_compareLists {M : Nat → Prop} {w : World} {pa0 : Option Addr} {pn0 pc0 : Nat} {pa1 : Option Addr} {pn1 pc1 : Nat} (s_ : List Int) (t : List Int) (h0 : (RT.rs (RT.int .i64)).val M w (.slice pa0 pn0 pc0) s_ ([])) (h1 : (RT.rs (RT.int .i64)).val M w (.slice pa1 pn1 pc1) t ([])) (hM : ∀ g, w.heap.size ≤ g → M g) {r : Int} (hs : s_impl_compareLists s_ t = some r) :
    Gives Try.prog 132 [(.slice pa0 pn0 pc0), (.slice pa1 pn1 pc1)] w (fun v w' => v = (.int .i64 r) ∧ Chg [] w w') := by
 refine calls_fr Try.func132 rfl Try.ntmps132 (Nat.le_of_ble_eq_true rfl) ?_
 have hO := Own.start (N := Nw w []) hM Nw.fut
 have hC := Chg.refl [] w
 unfold s_impl_compareLists at hs
 refine wp_mono (Q := KPost (k_impl_compareLists M w r)) ?_ (fun e a w1 h => ?_)
 rotate_left
 ·cases e
  case ret =>
   obtain ⟨σ, rfl, hrest⟩ := h
   exact ret1x Try.results132 (res_tmp rfl) ⟨rfl, hrest⟩
  all_goals exact (h : False).elim
 refine c_seq (c_region ?_)
 refine pl_val (.int .i64 0) (y_assign rfl) ?_
 refine c_nil ?_
 refine c_seq ?_
 refine c_seq (c_region ?_)
 refine pl_val (.int .i64 0) (y_assign rfl) ?_
 refine c_nil ?_
 obtain ⟨o29, hl30, hs⟩ := bind_some hs
 refine wp_block ?_
 refine wp_iter (id := 0) (I := fun s25 a w26 => ∃ (σ : Nat → Value), a = fr 48 (ovl σ [(0, (.slice pa0 pn0 pc0)), (1, (.slice pa1 pn1 pc1)), (5, (.int .i64 s25))]) ∧ Chg [] w w26 ∧ Own (Nw w []) M w26 ([]) ∧ (RT.rs (RT.int .i64)).val M w26 (.slice pa0 pn0 pc0) s_ ([]) ∧ (RT.rs (RT.int .i64)).val M w26 (.slice pa1 pn1 pc1) t ([])) (J := fun s25 a w26 => ∃ (σ : Nat → Value), a = fr 48 (ovl σ [(0, (.slice pa0 pn0 pc0)), (1, (.slice pa1 pn1 pc1))]) ∧ Chg [] w w26 ∧ Own (Nw w []) M w26 ([]) ∧ (RT.rs (RT.int .i64)).val M w26 (.slice pa0 pn0 pc0) s_ ([]) ∧ (RT.rs (RT.int .i64)).val M w26 (.slice pa1 pn1 pc1) t ([])) (K := (k_impl_compareLists M w)) ?_ FU 0 o29 _ _ ?_ hl30 ?_
 ·rintro s25 o29 a w26 ⟨σ, rfl, hC, hO, h0, h1⟩ hs
  refine c_seq ?_
  refine c_seq ?_
  refine c_mid (I := fun a w32 => ∃ (σ : Nat → Value), a = fr 48 (ovl σ [(0, (.slice pa0 pn0 pc0)), (1, (.slice pa1 pn1 pc1)), (5, (.int .i64 s25)), (15, (.bool ((decide (s25 < (s_.length : Int))) && (decide (s25 < (t.length : Int))))))]) ∧ Chg [] w26 w32) ?_ ?_
  ·have hMid := Chg.refl [] w26
   refine c_region ?_
   refine pl_val (.int .i64 s25) (y_move rfl) ?_
   refine pl_val (.slice pa0 pn0 pc0) (y_move rfl) ?_
   refine pl_val (.int .i64 (s_.length : Int)) (y_len' Sl22 (rs_len h0) rfl) ?_
   refine pl_val (.bool (decide (s25 < (s_.length : Int)))) (y_lss rfl rfl) ?_
   refine pl_val (.bool (decide (s25 < (s_.length : Int)))) (y_move rfl) ?_
   rcases Bool.eq_false_or_eq_true ((decide (s25 < (s_.length : Int)))) with hc34 | hc34
   ·skip
    refine pl_yes (.int .i64 s25) (tg := 10) (by kernel_rfl) (congrArg Value.bool hc34) (y_move rfl) ?_
    refine pl_yes (.slice pa1 pn1 pc1) (tg := 10) (by kernel_rfl) (congrArg Value.bool hc34) (y_move rfl) ?_
    refine pl_yes (.int .i64 (t.length : Int)) (tg := 10) (by kernel_rfl) (congrArg Value.bool hc34) (y_len' Sl22 (rs_len h1) rfl) ?_
    refine pl_yes (.bool (decide (s25 < (t.length : Int)))) (tg := 10) (by kernel_rfl) (congrArg Value.bool hc34) (y_lss rfl rfl) ?_
    refine pl_val (.bool ((decide (s25 < (s_.length : Int))) && (decide (s25 < (t.length : Int))))) (y_pick_t (congrArg Value.bool hc34) (congrArg Value.bool (by rw [hc34]; rfl))) ?_
    refine c_nil ?_
    exact ⟨_, fr_ovl 48 ⟨rfl, rfl, rfl, rfl, trivial⟩, hMid⟩
   ·skip
    refine pl_not (tg := 10) (by kernel_rfl) (congrArg Value.bool hc34) ?_
    refine pl_not (tg := 10) (by kernel_rfl) (congrArg Value.bool hc34) ?_
    refine pl_not (tg := 10) (by kernel_rfl) (congrArg Value.bool hc34) ?_
    refine pl_not (tg := 10) (by kernel_rfl) (congrArg Value.bool hc34) ?_
    refine pl_val (.bool ((decide (s25 < (s_.length : Int))) && (decide (s25 < (t.length : Int))))) (y_pick_f (congrArg Value.bool hc34) (congrArg Value.bool (by rw [hc34]; rfl))) ?_
    refine c_nil ?_
    exact ⟨_, fr_ovl 48 ⟨rfl, rfl, rfl, rfl, trivial⟩, hMid⟩
  ·rintro a1 w32 ⟨σ, rfl, hCs31⟩
   have h0 := h0.ext hCs31
   have h1 := h1.ext hCs31
   have hC := hC.ext hCs31
   have hO := hO.ext hCs31
   rcases bif_some hs with ⟨hc35, hs⟩ | ⟨hc35, hs⟩
   ·skip
    refine c_condT (congrArg Value.bool hc35) ?_
    refine wp_skip ?_
    refine c_seq ?_
    refine wp_block ?_
    refine c_seq ?_
    refine x_start [] Mx rfl ?_
    have hCw41 := Chg.drew w32
    generalize World.drew w32 = w41 at hCw41 ⊢
    have h0 := h0.ext hCw41
    have h1 := h1.ext hCw41
    have hC := hC.ext hCw41
    have hO := hO.ext hCw41
    have hS := Chg.refl [] w41
    refine x_p 0 (.slice pa0 pn0 pc0) rfl (by kernel_rfl)  (fun _ => y_move rfl) (fun _ => hS) ?_
    refine x_p 1 (.int .i64 s25) rfl (by kernel_rfl)  (fun _ => y_move rfl) (fun _ => hS) ?_
    obtain ⟨x42, hx42, hs⟩ := bind_some hs
    obtain ⟨b43, o43, hp43, ha43⟩ := rs_idx Sl22 Sz3 h0 hx42
    refine x_p 2 (.pointer (some ⟨b43, o43, none⟩)) rfl (by kernel_rfl)  (fun _ => hp43 _ _ _ _ _ _ _ _ _ rfl rfl) (fun _ => hS) ?_
    refine x_l 3 (.int .i64 x42) rfl (by kernel_rfl)  (fun w' hw' => y_load rfl ((at_load_int Ag3 Sz3 ha43) w' hw')) hS ?_
    refine x_p 4 (.slice pa1 pn1 pc1) rfl (by kernel_rfl)  (fun _ => y_move rfl) (fun _ => hS) ?_
    refine x_p 5 (.int .i64 s25) rfl (by kernel_rfl)  (fun _ => y_move rfl) (fun _ => hS) ?_
    obtain ⟨x44, hx44, hs⟩ := bind_some hs
    obtain ⟨b45, o45, hp45, ha45⟩ := rs_idx Sl22 Sz3 h1 hx44
    refine x_p 6 (.pointer (some ⟨b45, o45, none⟩)) rfl (by kernel_rfl)  (fun _ => hp45 _ _ _ _ _ _ _ _ _ rfl rfl) (fun _ => hS) ?_
    refine x_l 7 (.int .i64 x44) rfl (by kernel_rfl)  (fun w' hw' => y_load rfl ((at_load_int Ag3 Sz3 ha45) w' hw')) hS ?_
    refine x_p 8 (.bool (x42 != x44)) rfl (by kernel_rfl)  (fun _ => y_neq rfl rfl) (fun _ => hS) ?_
    refine x_end (by kernel_rfl) ?_
    clear hS
    rcases bif_some hs with ⟨hc46, hs⟩ | ⟨hc46, hs⟩
    ·skip
     refine c_condT (congrArg Value.bool hc46) ?_
     refine c_seq ?_
     refine c_seq ?_
     refine x_start [] Mx rfl ?_
     have hCw47 := Chg.drew w41
     generalize World.drew w41 = w47 at hCw47 ⊢
     have h0 := h0.ext hCw47
     have h1 := h1.ext hCw47
     have hC := hC.ext hCw47
     have hO := hO.ext hCw47
     have hS := Chg.refl [] w47
     refine x_p 0 (.slice pa0 pn0 pc0) rfl (by kernel_rfl)  (fun _ => y_move rfl) (fun _ => hS) ?_
     refine x_p 1 (.int .i64 s25) rfl (by kernel_rfl)  (fun _ => y_move rfl) (fun _ => hS) ?_
     obtain ⟨x48, hx48, hs⟩ := bind_some hs
     obtain ⟨b49, o49, hp49, ha49⟩ := rs_idx Sl22 Sz3 h0 hx48
     refine x_p 2 (.pointer (some ⟨b49, o49, none⟩)) rfl (by kernel_rfl)  (fun _ => hp49 _ _ _ _ _ _ _ _ _ rfl rfl) (fun _ => hS) ?_
     refine x_l 3 (.int .i64 x48) rfl (by kernel_rfl)  (fun w' hw' => y_load rfl ((at_load_int Ag3 Sz3 ha49) w' hw')) hS ?_
     refine x_p 4 (.slice pa1 pn1 pc1) rfl (by kernel_rfl)  (fun _ => y_move rfl) (fun _ => hS) ?_
     refine x_p 5 (.int .i64 s25) rfl (by kernel_rfl)  (fun _ => y_move rfl) (fun _ => hS) ?_
     obtain ⟨x50, hx50, hs⟩ := bind_some hs
     obtain ⟨b51, o51, hp51, ha51⟩ := rs_idx Sl22 Sz3 h1 hx50
     refine x_p 6 (.pointer (some ⟨b51, o51, none⟩)) rfl (by kernel_rfl)  (fun _ => hp51 _ _ _ _ _ _ _ _ _ rfl rfl) (fun _ => hS) ?_
     refine x_l 7 (.int .i64 x50) rfl (by kernel_rfl)  (fun w' hw' => y_load rfl ((at_load_int Ag3 Sz3 ha51) w' hw')) hS ?_
     refine x_p 8 (.bool (decide (x48 < x50))) rfl (by kernel_rfl)  (fun _ => y_lss rfl rfl) (fun _ => hS) ?_
     refine x_end (by kernel_rfl) ?_
     clear hS
     rcases bif_some hs with ⟨hc52, hs⟩ | ⟨hc52, hs⟩
     ·skip
      refine c_condT (congrArg Value.bool hc52) ?_
      refine c_seq (c_region ?_)
      refine pl_val (.int .i64 (-1)) (y_assign rfl) ?_
      refine c_nil ?_
      refine wp_ret ?_
      cases hs
      exact ⟨_, fr_ovl 48 ⟨rfl, trivial⟩, hC⟩
     ·skip
      refine c_condF (congrArg Value.bool hc52) ?_
      refine wp_skip ?_
      refine c_seq (c_region ?_)
      refine pl_val (.int .i64 1) (y_assign rfl) ?_
      refine c_nil ?_
      refine wp_ret ?_
      cases hs
      exact ⟨_, fr_ovl 48 ⟨rfl, trivial⟩, hC⟩
    ·skip
     refine c_condF (congrArg Value.bool hc46) ?_
     refine wp_skip ?_
     refine c_region ?_
     refine pl_val (.int .i64 s25) (y_move rfl) ?_
     refine pl_val (.int .i64 (w64 (s25 + 1))) (y_add rfl rfl) ?_
     refine pl_val (.int .i64 (w64 (s25 + 1))) (y_assign rfl) ?_
     refine c_nil ?_
     cases hs
     exact ⟨_, fr_ovl 48 ⟨rfl, rfl, rfl, trivial⟩, hC, hO, h0, h1⟩
   ·skip
    refine c_condF (congrArg Value.bool hc35) ?_
    refine wp_exit ?_
    cases hs
    exact ⟨rfl, _, fr_ovl 48 ⟨rfl, rfl, trivial⟩, hC, hO, h0, h1⟩
 ·skip
  exact ⟨_, fr_ovl 48 ⟨rfl, rfl, rfl, trivial⟩, hC, hO, h0, h1⟩
 ·cases o29 with
  | nx _ => exact True.intro
  | rt r_ =>
   have hs := after_rt hs
   intro a1 w1 hK
   cases hs
   exact hK
  | br s25 =>
   have hs := after_br hs
   rintro a1 w26 ⟨σ, rfl, hC, hO, h0, h1⟩
   refine c_seq ?_
   refine wp_block ?_
   refine c_seq (c_region ?_)
   refine pl_val (.slice pa0 pn0 pc0) (y_move rfl) ?_
   refine pl_val (.int .i64 (s_.length : Int)) (y_len' Sl22 (rs_len h0) rfl) ?_
   refine pl_val (.slice pa1 pn1 pc1) (y_move rfl) ?_
   refine pl_val (.int .i64 (t.length : Int)) (y_len' Sl22 (rs_len h1) rfl) ?_
   refine pl_val (.bool (decide ((s_.length : Int) < (t.length : Int)))) (y_lss rfl rfl) ?_
   refine pl_val (.bool (decide ((s_.length : Int) < (t.length : Int)))) (y_assign rfl) ?_
   refine c_nil ?_
   rcases bif_some hs with ⟨hc53, hs⟩ | ⟨hc53, hs⟩
   ·skip
    refine c_condT (congrArg Value.bool hc53) ?_
    refine c_seq (c_region ?_)
    refine pl_val (.int .i64 (-1)) (y_assign rfl) ?_
    refine c_nil ?_
    refine wp_ret ?_
    cases hs
    exact ⟨_, fr_ovl 48 ⟨rfl, trivial⟩, hC⟩
   ·skip
    refine c_condF (congrArg Value.bool hc53) ?_
    refine c_seq (c_region ?_)
    refine pl_val (.slice pa0 pn0 pc0) (y_move rfl) ?_
    refine pl_val (.int .i64 (s_.length : Int)) (y_len' Sl22 (rs_len h0) rfl) ?_
    refine pl_val (.slice pa1 pn1 pc1) (y_move rfl) ?_
    refine pl_val (.int .i64 (t.length : Int)) (y_len' Sl22 (rs_len h1) rfl) ?_
    refine pl_val (.bool (decide ((t.length : Int) < (s_.length : Int)))) (y_gtr rfl rfl) ?_
    refine pl_val (.bool (decide ((t.length : Int) < (s_.length : Int)))) (y_assign rfl) ?_
    refine c_nil ?_
    rcases bif_some hs with ⟨hc54, hs⟩ | ⟨hc54, hs⟩
    ·skip
     refine c_condT (congrArg Value.bool hc54) ?_
     refine c_seq (c_region ?_)
     refine pl_val (.int .i64 1) (y_assign rfl) ?_
     refine c_nil ?_
     refine wp_ret ?_
     cases hs
     exact ⟨_, fr_ovl 48 ⟨rfl, trivial⟩, hC⟩
    ·skip
     refine c_condF (congrArg Value.bool hc54) ?_
     refine wp_skip ?_
     refine c_seq (c_region ?_)
     refine pl_val (.int .i64 0) (y_assign rfl) ?_
     refine c_nil ?_
     refine wp_ret ?_
     cases hs
     exact ⟨_, fr_ovl 48 ⟨rfl, trivial⟩, hC⟩

theorem Bd99 : Bodied Try.prog 99 := bodied Try.func99 (by kernel_rfl) rfl

theorem Bd132 : Bodied Try.prog 132 := bodied Try.func132 (by kernel_rfl) rfl

def k_impl_compareCongruences (M : Nat → Prop) (w0 : World) (r : Int) (a : Act) (w : World) : Prop :=
  ∃ (σ : Nat → Value) , a = fr 17 (ovl σ [(4, (.int .i64 r))]) ∧ Chg [] w0 w
def s_impl_compareCongruences (p : List Int) (q : List Int) : Option (Int) :=
  (s_impl_blockCount q).bind fun r4 =>
  (s_impl_blockCount p).bind fun r6 =>
  (bif ((w64 (r4 - r6)) != 0) then some (w64 (r4 - r6)) else (s_impl_compareLists p q).bind fun r9 =>
  some r9)
set_option maxHeartbeats 4000000 in
theorem c_impl_compareCongruences {M : Nat → Prop} {w : World} {pa0 : Option Addr} {pn0 pc0 : Nat} {pa1 : Option Addr} {pn1 pc1 : Nat} (p : List Int) (q : List Int) (h0 : (RT.rs (RT.int .i64)).val M w (.slice pa0 pn0 pc0) p ([])) (h1 : (RT.rs (RT.int .i64)).val M w (.slice pa1 pn1 pc1) q ([])) (hM : ∀ g, w.heap.size ≤ g → M g) {r : Int} (hs : s_impl_compareCongruences p q = some r) :
    Gives Try.prog 129 [(.slice pa0 pn0 pc0), (.slice pa1 pn1 pc1)] w (fun v w' => v = (.int .i64 r) ∧ Chg [] w w') := by
 refine calls_fr Try.func129 rfl Try.ntmps129 (Nat.le_of_ble_eq_true rfl) ?_
 have hO := Own.start (N := Nw w []) hM Nw.fut
 have hC := Chg.refl [] w
 unfold s_impl_compareCongruences at hs
 refine wp_mono (Q := KPost (k_impl_compareCongruences M w r)) ?_ (fun e a w1 h => ?_)
 rotate_left
 ·cases e
  case ret =>
   obtain ⟨σ, rfl, hrest⟩ := h
   exact ret1x Try.results129 (res_tmp rfl) ⟨rfl, hrest⟩
  all_goals exact (h : False).elim
 refine c_seq (c_region ?_)
 refine pl_val (.int .i64 0) (y_assign rfl) ?_
 refine c_nil ?_
 refine c_seq ?_
 refine c_seq (c_region ?_)
 refine pl_val (.slice pa1 pn1 pc1) (y_move rfl) ?_
 obtain ⟨r4, hr4, hs⟩ := bind_some hs
 refine pl_call Bd99 rfl (c_impl_blockCount (M := M) q h1 hO.fut hr4) ?_
 rintro _ w3 ⟨rfl, hC3⟩
 have h0 := h0.ext hC3
 have h1 := h1.ext hC3
 have hC := hC.ext hC3
 have hO := hO.ext hC3
 refine pl_val (.slice pa0 pn0 pc0) (y_move rfl) ?_
 obtain ⟨r6, hr6, hs⟩ := bind_some hs
 refine pl_call Bd99 rfl (c_impl_blockCount (M := M) p h0 hO.fut hr6) ?_
 rintro _ w5 ⟨rfl, hC5⟩
 have h0 := h0.ext hC5
 have h1 := h1.ext hC5
 have hC := hC.ext hC5
 have hO := hO.ext hC5
 refine pl_val (.int .i64 (w64 (r4 - r6))) (y_sub rfl rfl) ?_
 refine pl_val (.int .i64 (w64 (r4 - r6))) (y_assign rfl) ?_
 refine c_nil ?_
 refine c_seq (c_region ?_)
 refine pl_val (.int .i64 (w64 (r4 - r6))) (y_move rfl) ?_
 refine pl_val (.bool ((w64 (r4 - r6)) != 0)) (y_neq rfl rfl) ?_
 refine c_nil ?_
 rcases bif_some hs with ⟨hc7, hs⟩ | ⟨hc7, hs⟩
 ·skip
  refine c_condT (congrArg Value.bool hc7) ?_
  refine c_seq (c_region ?_)
  refine pl_val (.int .i64 (w64 (r4 - r6))) (y_move rfl) ?_
  refine pl_val (.int .i64 (w64 (r4 - r6))) (y_assign rfl) ?_
  refine c_nil ?_
  refine wp_ret ?_
  cases hs
  exact ⟨_, fr_ovl 17 ⟨rfl, trivial⟩, hC⟩
 ·skip
  refine c_condF (congrArg Value.bool hc7) ?_
  refine wp_skip ?_
  refine c_seq (c_region ?_)
  refine pl_val (.slice pa0 pn0 pc0) (y_move rfl) ?_
  refine pl_val (.slice pa1 pn1 pc1) (y_move rfl) ?_
  obtain ⟨r9, hr9, hs⟩ := bind_some hs
  refine pl_call Bd132 rfl (c_impl_compareLists (M := M) p q h0 h1 hO.fut hr9) ?_
  rintro _ w8 ⟨rfl, hC8⟩
  have h0 := h0.ext hC8
  have h1 := h1.ext hC8
  have hC := hC.ext hC8
  have hO := hO.ext hC8
  refine pl_val (.int .i64 r9) (y_assign rfl) ?_
  refine c_nil ?_
  refine wp_ret ?_
  cases hs
  exact ⟨_, fr_ovl 17 ⟨rfl, trivial⟩, hC⟩

theorem Bd125 : Bodied Try.prog 125 := bodied Try.func125 (by kernel_rfl) rfl

theorem Bd127 : Bodied Try.prog 127 := bodied Try.func127 (by kernel_rfl) rfl

theorem Bd78 : Bodied Try.prog 78 := bodied Try.func78 (by kernel_rfl) rfl

theorem Zv4 : ∀ w, (zeroValue 4).run Try.prog w = .ok (Value.bool false) w := fun _ => by kernel_rfl

theorem Ag52 : AggT Try.prog 52 false := fun _ => by kernel_rfl

theorem Sz52 : SzT Try.prog 52 1 := ⟨_, rfl, rfl⟩

theorem Bd129 : Bodied Try.prog 129 := bodied Try.func129 (by kernel_rfl) rfl

def k_impl_sortRows_1__impl_compareCongruences (M : Nat → Prop) (w0 : World) (r : Bool) (a : Act) (w : World) : Prop :=
  ∃ (σ : Nat → Value) , a = fr 18 (ovl σ [(6, (.bool r))]) ∧ Chg [] w0 w
def s_impl_sortRows_1__impl_compareCongruences (tab1 : List (List Int)) (i : Int) (j : Int) : Option (Bool) :=
  (idx tab1 i).bind fun x5 =>
  (idx tab1 j).bind fun x9 =>
  (s_impl_compareCongruences x5 x9).bind fun r14 =>
  some (decide (r14 < 0))
set_option maxHeartbeats 4000000 in
theorem c_impl_sortRows_1__impl_compareCongruences {M : Nat → Prop} {w : World} {gv0 : Nat} {pa1 : Option Addr} {pn1 pc1 : Nat} {gv1 : Nat} (tab1 : List (List Int)) (i : Int) (j : Int) (hbgv0 : BoxV w gv0 52 [(.func (.func 129) #[] #[])]) (h1 : (RT.rs (RT.rs (RT.int .i64))).val M w (.slice pa1 pn1 pc1) tab1 ([])) (hbgv1 : BoxV w gv1 41 [(.slice pa1 pn1 pc1)]) (hM : ∀ g, w.heap.size ≤ g → M g) {r : Bool} (hs : s_impl_sortRows_1__impl_compareCongruences tab1 i j = some r) :
    Gives Try.prog 136 [(.int .i64 i), (.int .i64 j), (.pointer (some ⟨gv0, 0, none⟩)), (.pointer (some ⟨gv1, 0, none⟩))] w (fun v w' => v = (.bool r) ∧ Chg [] w w') := by
 refine calls_fr Try.func136 rfl Try.ntmps136 (Nat.le_of_ble_eq_true rfl) ?_
 have hO := Own.start (N := Nw w []) hM Nw.fut
 have hC := Chg.refl [] w
 unfold s_impl_sortRows_1__impl_compareCongruences at hs
 refine wp_mono (Q := KPost (k_impl_sortRows_1__impl_compareCongruences M w r)) ?_ (fun e a w1 h => ?_)
 rotate_left
 ·cases e
  case ret =>
   obtain ⟨σ, rfl, hrest⟩ := h
   exact ret1x Try.results136 (res_tmp rfl) ⟨rfl, hrest⟩
  all_goals exact (h : False).elim
 refine c_seq (c_region ?_)
 refine pl_val (.bool false) (y_assign rfl) ?_
 refine c_nil ?_
 refine c_seq ?_
 refine x_start [] Mx rfl ?_
 have hCw4 := Chg.drew w
 generalize World.drew w = w4 at hCw4 ⊢
 have hbgv0 := hbgv0.chg hCw4 (fun h => nomatch h)
 have h1 := h1.ext hCw4
 have hbgv1 := hbgv1.chg hCw4 (fun h => nomatch h)
 have hC := hC.ext hCw4
 have hO := hO.ext hCw4
 have hS := Chg.refl [] w4
 refine x_l 0 (.func (.func 129) #[] #[]) rfl (by kernel_rfl)  (fun w' hw' => y_load rfl ((box_load Ag52 Sz52 hbgv0 [] [(.func (.func 129) #[] #[])] [] rfl rfl (fun _ => rfl)) w' hw')) hS ?_
 refine x_l 1 (.slice pa1 pn1 pc1) rfl (by kernel_rfl)  (fun w' hw' => y_load rfl ((box_load Ag41 Sz41 hbgv1 [] [(.slice pa1 pn1 pc1)] [] rfl rfl (fun _ => rfl)) w' hw')) hS ?_
 refine x_p 2 (.int .i64 i) rfl (by kernel_rfl)  (fun _ => y_move rfl) (fun _ => hS) ?_
 obtain ⟨x5, hx5, hs⟩ := bind_some hs
 obtain ⟨b6, o6, hp6, ha6⟩ := rs_idx Sl41 Sz22 h1 hx5
 refine x_p 3 (.pointer (some ⟨b6, o6, none⟩)) rfl (by kernel_rfl)  (fun _ => hp6 _ _ _ _ _ _ _ _ _ rfl rfl) (fun _ => hS) ?_
 obtain ⟨v7, hl7, hv7⟩ := at_load Ag22 Sz22 (fun _ => rfl) ha6
 obtain ⟨a7, n7, c7, rfl⟩ := rs_sl hv7
 refine x_l 4 (.slice a7 n7 c7) rfl (by kernel_rfl)  (fun w' hw' => y_load rfl (hl7 w' hw')) hS ?_
 refine x_l 5 (.slice pa1 pn1 pc1) rfl (by kernel_rfl)  (fun w' hw' => y_load rfl ((box_load Ag41 Sz41 hbgv1 [] [(.slice pa1 pn1 pc1)] [] rfl rfl (fun _ => rfl)) w' hw')) hS ?_
 refine x_p 6 (.int .i64 j) rfl (by kernel_rfl)  (fun _ => y_move rfl) (fun _ => hS) ?_
 obtain ⟨x9, hx9, hs⟩ := bind_some hs
 obtain ⟨b10, o10, hp10, ha10⟩ := rs_idx Sl41 Sz22 h1 hx9
 refine x_p 7 (.pointer (some ⟨b10, o10, none⟩)) rfl (by kernel_rfl)  (fun _ => hp10 _ _ _ _ _ _ _ _ _ rfl rfl) (fun _ => hS) ?_
 obtain ⟨v11, hl11, hv11⟩ := at_load Ag22 Sz22 (fun _ => rfl) ha10
 obtain ⟨a11, n11, c11, rfl⟩ := rs_sl hv11
 refine x_l 8 (.slice a11 n11 c11) rfl (by kernel_rfl)  (fun w' hw' => y_load rfl (hl11 w' hw')) hS ?_
 refine x_one (i := 9) (by kernel_rfl) ?_
 obtain ⟨r14, hr14, hs⟩ := bind_some hs
 refine xk_callv (b := false) rfl  (h := rfl) Bd129 rfl (c_impl_compareCongruences (M := M) x5 x9 hv7 hv11 hO.fut hr14) rfl (by rintro _ _ _ ⟨rfl, hC13⟩; exact hS.ext hC13) ?_
 rintro _ w13 ⟨rfl, hC13⟩
 have hbgv0 := hbgv0.chg hC13 (fun h => nomatch h)
 have h1 := h1.ext hC13
 have hbgv1 := hbgv1.chg hC13 (fun h => nomatch h)
 have hv7 := hv7.ext hC13
 have hv11 := hv11.ext hC13
 have hC := hC.ext hC13
 have hO := hO.ext hC13
 have hS := hS.ext hC13
 refine x_p 10 (.bool (decide (r14 < 0))) rfl (by kernel_rfl)  (fun _ => y_lss rfl rfl) (fun _ => hS) ?_
 refine x_p 11 (.bool (decide (r14 < 0))) rfl (by kernel_rfl)  (fun _ => y_assign rfl) (fun _ => hS) ?_
 refine x_end (by kernel_rfl) ?_
 clear hS
 refine wp_ret ?_
 cases hs
 exact ⟨_, fr_ovl 18 ⟨rfl, trivial⟩, hC⟩

theorem Fx137 : ∀ args W, (callFunc 137 args).run Try.prog W = (((fun args : Array Value => Extern.ReflectliteValue.unpack (args.getD 0 (.tuple #[]))) args).run Try.prog W).andThen fun v w' => .ok (.value v) w' := fun args W => run_callFunc_extern Try.func137 (by kernel_rfl) (by kernel_rfl) (by kernel_rfl) (e := (fun args : Array Value => Extern.ReflectliteValue.unpack (args.getD 0 (.tuple #[])))) (by kernel_rfl) args W

theorem Ti41 : ∃ i, Try.prog.info? 41 = some i ∧ i.desc = .slice 22 := ⟨(Try.prog.info? 41).get (by kernel_rfl), by kernel_rfl, by kernel_rfl⟩

theorem Sz119 : SzT Try.prog 119 3 := ⟨_, rfl, rfl⟩

theorem Fx138 : ∀ args W, (callFunc 138 args).run Try.prog W = (((Extern.ReflectliteSwapper.swapper "internal/reflectlite" (Extern.ReflectliteValue.valueError "Swapper")) args).run Try.prog W).andThen fun v w' => .ok (.value v) w' := fun args W => run_callFunc_extern Try.func138 (by kernel_rfl) (by kernel_rfl) (by kernel_rfl) (e := (Extern.ReflectliteSwapper.swapper "internal/reflectlite" (Extern.ReflectliteValue.valueError "Swapper"))) (by kernel_rfl) args W

theorem Ke22 : ∀ w, (Extern.Rtype.kind 22).run Try.prog w = .ok 23 w := fun _ => by kernel_rfl

theorem Ag119 : AggT Try.prog 119 true := fun _ => by kernel_rfl

theorem Fx140 : ∀ args W, (callFunc 140 args).run Try.prog W = (((Extern.ReflectliteValue.method (Extern.ReflectliteValue.valueError "reflectlite.Value.Len" 0) Extern.ReflectliteValue.len) args).run Try.prog W).andThen fun v w' => .ok (.value v) w' := fun args W => run_callFunc_extern Try.func140 (by kernel_rfl) (by kernel_rfl) (by kernel_rfl) (e := (Extern.ReflectliteValue.method (Extern.ReflectliteValue.valueError "reflectlite.Value.Len" 0) Extern.ReflectliteValue.len)) (by kernel_rfl) args W

theorem Pk41 : Try.prog.packed 41 = false := by kernel_rfl

theorem Bd139 : Bodied Try.prog 139 := bodied Try.func139 (by kernel_rfl) rfl

def k_sort_SliceStable (M : Nat → Prop) (w0 : World) {α_ : Type} (I_ : World → List α_ → Prop) (G_ : List Nat) (r : (List α_)) (a : Act) (w : World) : Prop :=
  ∃ (σ : Nat → Value) , a = fr 16 (ovl σ []) ∧ Chg (G_ ++ ([])) w0 w ∧ I_ w r
def s_sort_SliceStable {α_ : Type} (ls_ : α_ → α_ → Option Bool) (d_ : List α_) (n_ : Nat) : Option ((List α_)) :=
  (s_sort_stable_func ls_ d_ (n_ : Int)).bind fun r7 =>
  some r7
set_option maxHeartbeats 4000000 in
theorem c_sort_SliceStable {M : Nat → Prop} {w : World} {a_ : Option Addr} {c_ : Nat} {ie_ : TypeInfo} {α_ : Type} {n0_ : Nat} {I_ : World → List α_ → Prop} {G_ : List Nat} {g_ sf_ : Nat} {lb_ : Array Value} (ls_ : α_ → α_ → Option Bool) (d_ : List α_) (n_ : Nat) (hN_ : n0_ ≤ w.heap.size) (hie_ : Try.prog.info? 22 = some ie_) (hf_ : Try.prog.funcs.findIdx? (·.name == "internal/reflectlite" ++ ".Swapper$" ++ toString (Go.Lib.swapperK n_ ie_ 23)) = some sf_) (hE_ : Env Try.prog n0_ I_ G_ ls_ g_ lb_ sf_ (if Go.Lib.swapperK n_ ie_ 23 ≤ 2 then #[] else #[.slice a_ n_ c_, typeHandle Try.prog 22])) (hI_ : I_ w d_) (hI : Own (Nw w (G_ ++ ([]))) M w (G_ ++ ([]))) (hM : ∀ g, w.heap.size ≤ g → M g) {r : (List α_)} (hs : s_sort_SliceStable ls_ d_ n_ = some r) :
    Gives Try.prog 135 [(.iface 41 (.slice a_ n_ c_)), (.func (.func g_) #[] lb_)] w (fun v w' => v = (.tuple #[]) ∧ Chg (G_ ++ ([])) w w' ∧ I_ w' r) := by
 refine calls_fr Try.func135 rfl Try.ntmps135 (Nat.le_of_ble_eq_true rfl) ?_
 have hO := hI
 have hC := Chg.refl (G_ ++ ([])) w
 unfold s_sort_SliceStable at hs
 refine wp_mono (Q := KPostN (k_sort_SliceStable M w I_ G_ r)) ?_ (fun e a w1 h => ?_)
 rotate_left
 ·cases e
  case ret =>
   obtain ⟨σ, rfl, hrest⟩ := h
   exact ret0x Try.results135  ⟨rfl, hrest⟩
  case normal =>
   obtain ⟨σ, rfl, hrest⟩ := h
   exact ret0n Try.results135  ⟨rfl, hrest⟩
  all_goals exact (h : False).elim
 refine c_seq (c_region ?_)
 refine pl_val (.iface 41 (.slice a_ n_ c_)) (y_move rfl) ?_
 obtain ⟨i1, hi1, hd1⟩ := Ti41
 obtain ⟨w1, g1, ew1, eg1, hC1, hb1⟩ := new_block w [(.slice a_ n_ c_)] 41
 refine pl_val (w' := w1) (.agg #[(typeHandle Try.prog 41), (.pointer (some ⟨g1, 0, none⟩)), (.int .u64 151)]) (y_callg rfl rfl (by rw [Fx137]; show Result.andThen (Sem.run Try.prog (Extern.ReflectliteValue.unpack (.iface 41 (.slice a_ n_ c_))) _) _ = _; rw [Go.Lib.run_valueOf_slice 41 22 i1 hi1 hd1, ew1, eg1]; rfl)) ?_
 have hI_ := hE_.ext hI_ hC1 (fun _ h => nomatch h)
 have hC := hC.ext hC1
 have hO := hO.new1 hC1 eg1 hb1.lt
 obtain ⟨w2, g2, ew2, eg2, hC2, hb2⟩ := new_block w1 [(.pointer none), (.pointer none), (.int .u64 0)] 119
 refine pl_val (w' := w2) (.pointer (some ⟨g2, 0, none⟩)) (y_alloc (by rw [ew2, eg2]; kernel_rfl)) ?_
 have hI_ := hE_.ext hI_ hC2 (fun _ h => nomatch h)
 have hb1 := hb1.chg hC2 (fun h => nomatch h)
 have hC := hC.ext hC2
 have hO := hO.new1 hC2 eg2 hb2.lt
 obtain ⟨w3, hst3, hC3, hb3⟩ := box_store (P := Try.prog) hb2 [] [(.pointer none), (.pointer none), (.int .u64 0)] [] [(typeHandle Try.prog 41), (.pointer (some ⟨g1, 0, none⟩)), (.int .u64 151)] rfl rfl (by intro u hu; simp only [List.mem_cons, List.not_mem_nil, or_false] at hu; rcases hu with rfl | rfl | rfl <;> rfl)
 refine pl_skip (w' := w3) (ys_store rfl rfl (hst3 _ _ rfl Sz119)) ?_
 have hI_ := hE_.ext hI_ hC3 (fun q hq => Nat.le_trans hN_ ((hO.inN q ((fun _ h => h) q hq)).resolve_left (fun e => hO.apart q ((fun _ h => h) q hq) (mem_r (mem_l (nil_mem q e))))))
 have hb1 := hb1.chg hC3 (fun hg => hO.apart _ ((fun _ h => h) _ hg) (mem_l (List.mem_singleton.2 rfl)))
 have hC := hC.step hC3 (fun g hg => hO.inN g ((fun _ h => h) g hg))
 have hO := hO.ext hC3
 have hb3 : BoxV w3 g2 119 [(typeHandle Try.prog 41), (.pointer (some ⟨g1, 0, none⟩)), (.int .u64 151)] := hb3
 refine c_nil ?_
 refine c_seq (c_region ?_)
 refine pl_val (.iface 41 (.slice a_ n_ c_)) (y_move rfl) ?_
 obtain ⟨i4, hi4, hd4⟩ := Ti41
 refine pl_val (.func (.func sf_) #[] (if Go.Lib.swapperK n_ ie_ 23 ≤ 2 then #[] else #[.slice a_ n_ c_, typeHandle Try.prog 22])) ((y_callg rfl rfl (by rw [Fx138]; show Result.andThen (Sem.run Try.prog (Extern.ReflectliteSwapper.swapper "internal/reflectlite" (Extern.ReflectliteValue.valueError "Swapper") #[(.iface 41 (.slice a_ n_ c_))]) _) _ = _; rw [Go.Lib.run_swapper_slice 41 22 i4 ie_ hi4 hd4 hie_ 23 Ke22 a_ n_ c_ sf_ hf_]; rfl))) ?_
 refine pl_val (.func (.func sf_) #[] (if Go.Lib.swapperK n_ ie_ 23 ≤ 2 then #[] else #[.slice a_ n_ c_, typeHandle Try.prog 22])) (y_assign rfl) ?_
 refine c_nil ?_
 refine c_region ?_
 refine pl_val (.func (.func g_) #[] lb_) (y_move rfl) ?_
 refine pl_val (.func (.func sf_) #[] (if Go.Lib.swapperK n_ ie_ 23 ≤ 2 then #[] else #[.slice a_ n_ c_, typeHandle Try.prog 22])) (y_move rfl) ?_
 refine pl_val (.agg #[(.func (.func g_) #[] lb_), (.func (.func sf_) #[] (if Go.Lib.swapperK n_ ie_ 23 ≤ 2 then #[] else #[.slice a_ n_ c_, typeHandle Try.prog 22]))]) (y_build rfl (by kernel_rfl)) ?_
 refine pl_val (.agg #[(typeHandle Try.prog 41), (.pointer (some ⟨g1, 0, none⟩)), (.int .u64 151)]) (y_load rfl ((box_load Ag119 Sz119 hb3 [] [(typeHandle Try.prog 41), (.pointer (some ⟨g1, 0, none⟩)), (.int .u64 151)] [] rfl rfl (fun h => nomatch h)) _ (Chg.refl _ _))) ?_
 obtain ⟨i5, hi5, hd5⟩ := Ti41
 refine pl_val (.int .i64 (n_ : Int)) ((y_callg rfl rfl (by rw [Fx140]; show Result.andThen (Sem.run Try.prog (Extern.ReflectliteValue.method (Extern.ReflectliteValue.valueError "reflectlite.Value.Len" 0) Extern.ReflectliteValue.len #[(.agg #[(typeHandle Try.prog 41), (.pointer (some ⟨g1, 0, none⟩)), (.int .u64 151)])]) _) _ = _; rw [Go.Lib.run_valueLen_slice 41 22 i5 hi5 hd5 Pk41 _ _ _ _ _ (box_cell hb1)]; rfl))) ?_
 have hO := hO.fr2
 have hI6 := Own.lend (F := (G_ ++ ([]))) (R := ([g2]) ++ (([g1]) ++ ([]))) (Own.perm hO (by simp))
 obtain ⟨r7, hr7, hs⟩ := bind_some hs
 refine pl_call Bd139 rfl (c_sort_stable_func (M := M) ls_ d_ (n_ : Int) (Nat.le_trans hN_ hC.size) hE_ hI_ hI6 hO.fut hr7) ?_
 rintro _ w6 ⟨rfl, hC6, hv6⟩
 have hb1 := hb1.chg hC6 (fun hg => hO.apart _ (nil_mem _ hg) (mem_r (mem_l (List.mem_singleton.2 rfl))))
 have hb3 := hb3.chg hC6 (fun hg => hO.apart _ (nil_mem _ hg) (mem_l (List.mem_singleton.2 rfl)))
 have hC := hC.step hC6 (fun g hg => hO.inN g (nil_mem g hg))
 have hO := hO.ext hC6
 refine c_nil ?_
 cases hs
 exact ⟨_, fr_ovl 16 trivial, hC, hv6⟩

theorem Ei22 : ∃ ie, Try.prog.info? 22 = some ie ∧ ie.size = 1 ∧ ie.hasPointers = true ∧ (ie.bytes == 8) = false := ⟨(Try.prog.info? 22).get (by kernel_rfl), by kernel_rfl, by kernel_rfl, by kernel_rfl, by kernel_rfl⟩

theorem Fs2 : ∀ W, (callFunc 142 #[.int .i64 0, .int .i64 0]).run Try.prog W = .ok (.value (.tuple #[])) W := fun W => (run_callFunc_extern Try.func142 (by kernel_rfl) (by kernel_rfl) (by kernel_rfl) (e := (Extern.find Try.f142).get (by kernel_rfl)) (by kernel_rfl) _ W).trans (by kernel_rfl)

theorem Fx149 : ∀ args W, (callFunc 149 args).run Try.prog W = (((Extern.ReflectliteSwapper.swap false) args).run Try.prog W).andThen fun v w' => .ok (.value v) w' := fun args W => run_callFunc_extern Try.func149 (by kernel_rfl) (by kernel_rfl) (by kernel_rfl) (e := (Extern.ReflectliteSwapper.swap false)) (by kernel_rfl) args W

theorem Sn1 : Try.prog.funcs.findIdx? (·.name == "internal/reflectlite" ++ ".Swapper$" ++ toString 1) = some 141 := by kernel_rfl

theorem Sn2 : Try.prog.funcs.findIdx? (·.name == "internal/reflectlite" ++ ".Swapper$" ++ toString 2) = some 142 := by kernel_rfl

theorem Sn9 : Try.prog.funcs.findIdx? (·.name == "internal/reflectlite" ++ ".Swapper$" ++ toString 9) = some 149 := by kernel_rfl

theorem Bd136 : Bodied Try.prog 136 := bodied Try.func136 (by kernel_rfl) rfl

theorem Bd135 : Bodied Try.prog 135 := bodied Try.func135 (by kernel_rfl) rfl

def k_impl_sortRows__impl_compareCongruences (M : Nat → Prop) (w0 : World) (qa0 : Option Addr) (qn0 qc0 : Nat) (qf0 : List Nat) (r : (List (List Int))) (a : Act) (w : World) : Prop :=
  ∃ (σ : Nat → Value) (rfi0 : List Nat), a = fr 8 (ovl σ []) ∧ Chg (qf0 ++ ([])) w0 w ∧ (RT.os 22 (RT.os 3 (RT.int .i64))).val M w (.slice qa0 qn0 qc0) r rfi0 ∧ Own (Nw w0 (qf0 ++ ([]))) (fun _ => True) w (rfi0 ++ ([]))
def s_impl_sortRows__impl_compareCongruences (rows : List (List Int)) : Option ((List (List Int))) :=
  (s_sort_SliceStable (fun x_ y_ => (s_impl_compareCongruences x_ y_).bind fun r_ => some (decide (r_ < 0))) rows (rows.length)).bind fun r5 =>
  some r5
set_option maxHeartbeats 4000000 in
theorem c_impl_sortRows__impl_compareCongruences {M : Nat → Prop} {w : World} {pa0 : Option Addr} {pn0 pc0 : Nat} {pf0 : List Nat} (rows : List (List Int)) (h0 : (RT.os 22 (RT.os 3 (RT.int .i64))).val M w (.slice pa0 pn0 pc0) rows pf0) (hI : Own (Nw w (pf0 ++ ([]))) M w (pf0 ++ ([]))) (hM : ∀ g, w.heap.size ≤ g → M g) {r : (List (List Int))} (hs : s_impl_sortRows__impl_compareCongruences rows = some r) :
    Gives Try.prog 128 [(.slice pa0 pn0 pc0), (.func (.func 129) #[] #[])] w (fun v w' => ∃ (rfi0 : List Nat), v = (.tuple #[]) ∧ Chg (pf0 ++ ([])) w w' ∧ (RT.os 22 (RT.os 3 (RT.int .i64))).val M w' (.slice pa0 pn0 pc0) r rfi0 ∧ Own (Nw w (pf0 ++ ([]))) (fun _ => True) w' (rfi0 ++ ([]))) := by
 refine calls_fr Try.func128 rfl Try.ntmps128 (Nat.le_of_ble_eq_true rfl) ?_
 have hO := hI
 have hC := Chg.refl (pf0 ++ ([])) w
 unfold s_impl_sortRows__impl_compareCongruences at hs
 refine wp_mono (Q := KPostN (k_impl_sortRows__impl_compareCongruences M w pa0 pn0 pc0 pf0 r)) ?_ (fun e a w1 h => ?_)
 rotate_left
 ·cases e
  case ret =>
   obtain ⟨σ, rfi0, rfl, hrest⟩ := h
   exact ret0x Try.results128  ⟨rfi0, rfl, hrest⟩
  case normal =>
   obtain ⟨σ, rfi0, rfl, hrest⟩ := h
   exact ret0n Try.results128  ⟨rfi0, rfl, hrest⟩
  all_goals exact (h : False).elim
 refine c_seq (c_region ?_)
 obtain ⟨w2, g2, ew2, eg2, hC2, hb2⟩ := new_block w [(.slice pa0 pn0 pc0)] 41
 refine pl_val (w' := w2) (.pointer (some ⟨g2, 0, none⟩)) (y_box rfl (by rw [ew2, eg2]; kernel_rfl)) ?_
 have h0 := h0.ext hC2
 have hC := hC.ext hC2
 have hO := hO.new1 hC2 eg2 hb2.lt
 obtain ⟨w3, g3, ew3, eg3, hC3, hb3⟩ := new_block w2 [(.func (.func 129) #[] #[])] 52
 refine pl_val (w' := w3) (.pointer (some ⟨g3, 0, none⟩)) (y_box rfl (by rw [ew3, eg3]; kernel_rfl)) ?_
 have h0 := h0.ext hC3
 have hb2 := hb2.chg hC3 (fun h => nomatch h)
 have hC := hC.ext hC3
 have hO := hO.new1 hC3 eg3 hb3.lt
 refine c_nil ?_
 refine c_region ?_
 refine pl_val (.slice pa0 pn0 pc0) (y_load rfl ((box_load Ag41 Sz41 hb2 [] [(.slice pa0 pn0 pc0)] [] rfl rfl (fun _ => rfl)) _ (Chg.refl _ _))) ?_
 refine pl_val (.iface 41 (.slice pa0 pn0 pc0)) (y_iface Try.underlying41 rfl) ?_
 refine pl_val (.func (.func 136) #[] #[(.pointer (some ⟨g3, 0, none⟩)), (.pointer (some ⟨g2, 0, none⟩))]) (y_func rfl rfl) ?_
 have hO := hO.fr2
 obtain ⟨ie4, hie4, hz4, hp4, hb4⟩ := Ei22
 have hl4 := os_n h0
 obtain ⟨sf4, hf4, hE4⟩ := sort_env (P := Try.prog) (ke := 23) (M := M) (gO := g3) (gR := g2) (tO := 52) (tR := 41) (fv := (.func (.func 129) #[] #[])) (ls := (fun x_ y_ => (s_impl_compareCongruences x_ y_).bind fun r_ => some (decide (r_ < 0)))) (g := 136) (lb := #[(.pointer (some ⟨g3, 0, none⟩)), (.pointer (some ⟨g2, 0, none⟩))]) rfl hie4 hz4 Ag22 hp4 hb4 rfl Sn1 Sn2 Sn9 Fs2 Fx149 Bd136 hO.inM (fun hg => hO.apart _ hg (mem_l (List.mem_singleton.2 rfl))) (fun hg => hO.apart _ hg (mem_r (mem_l (List.mem_singleton.2 rfl)))) (fun h hm ho hr hf hl => c_impl_sortRows_1__impl_compareCongruences (M := Less M _) _ _ _ ho (((Frz.os (Frz.os Frz.int))).val h Less.sub Less.not) hr (less_fut hf h.fpl) (show s_impl_sortRows_1__impl_compareCongruences _ _ _ = some _ from hl)) h0 (n0 := (w3).heap.size) hO.lt hb3.lt hb2.lt hO.fut
 have hJ4 : SortI (RT.os 3 (RT.int .i64)) 22 M pa0 pn0 pc0 pf0 g3 g2 52 41 (.func (.func 129) #[] #[]) w3 rows := ⟨⟨_, h0, List.Perm.refl _⟩, hb3, hb2, hO.fut⟩
 have hI4 := Own.lend (F := (pf0 ++ ([]))) (R := ([g3]) ++ (([g2]) ++ ([]))) (Own.perm hO (by simp))
 obtain ⟨r5, hr5, hs⟩ := bind_some hs
 refine pl_call Bd135 rfl (c_sort_SliceStable (M := M) (fun x_ y_ => (s_impl_compareCongruences x_ y_).bind fun r_ => some (decide (r_ < 0))) rows pn0 (Nat.le_refl _) hie4 hf4 hE4 hJ4 hI4 hO.fut (by rw [hl4]; exact hr5)) ?_
 rintro _ w4 ⟨rfl, hC4, ⟨⟨f4, hv4, hp4⟩, _, _, _⟩⟩
 have hb2 := hb2.chg hC4 (fun hg => hO.apart _ (nil_mem _ hg) (mem_r (mem_l (List.mem_singleton.2 rfl))))
 have hb3 := hb3.chg hC4 (fun hg => hO.apart _ (nil_mem _ hg) (mem_l (List.mem_singleton.2 rfl)))
 have hC := hC.step hC4 (fun g hg => hO.inN g (nil_mem g hg))
 have hO := hO.grow hC4 (fun q hq => .inl (hp4.mem_iff.1 hq)) (os_nodup hv4) hv4.fpl
 refine c_nil ?_
 cases hs
 have hO := hO.fr1
 have hO := hO.drop
 have hO := hO.fr1
 have hO := hO.drop
 exact ⟨_, f4, fr_ovl 8 trivial, hC, hv4, hO.top⟩

theorem Bd128 : Bodied Try.prog 128 := bodied Try.func128 (by kernel_rfl) rfl

def k_impl_allCongruences (M : Nat → Prop) (w0 : World) (r : (List (List Int)) × Bool) (a : Act) (w : World) : Prop :=
  ∃ (σ : Nat → Value) (ra0 : Option Addr) (rn0 rc0 : Nat) (rf0 : List Nat), a = fr 85 (ovl σ [(2, (.slice ra0 rn0 rc0)), (3, (.bool r.2))]) ∧ Chg [] w0 w ∧ (RT.os 22 (RT.os 3 (RT.int .i64))).val M w (.slice ra0 rn0 rc0) r.1 rf0 ∧ Own (Nw w0 []) (fun _ => True) w (rf0 ++ ([]))
def s_impl_allCongruences (a_ : Int × (List (Int × (List Int)))) : Option ((List (List Int)) × Bool) :=
  (forC (S := (List (List Int))) (R := (List (List Int)) × Bool) (fun k41 s39 =>
  (forC (S := (List (List Int))) (R := (List (List Int)) × Bool) (fun k63 s61 =>
  (s_impl_congruenceOf (a_.1, a_.2) ([(k41, k63)])).bind fun r74 =>
  (app s61 ([r74])).bind fun y79 =>
  some (.nx y79)) (w64 (k41 + 1)) a_.1 s39).bind fun o65 => after o65 (fun r_ => some (.rt r_)) (fun s61 =>
  some (.nx s61))) 0 a_.1 ([])).bind fun o43 => after o43 (fun r_ => some r_) (fun s39 =>
  (s_impl_identityOf a_.1).bind fun r82 =>
  (idx ([r82]) 0).bind fun x88 =>
  (s_impl_keyOf x88).bind fun r93 =>
  (iter (S := (List (List Int)) × Int × (List (ByteArray × Bool))) (R := (List (List Int)) × Bool) (fun s640 =>
  (bif (decide (s640.2.1 < (s640.1.length : Int))) then (forR (S := (List (List Int)) × (List (ByteArray × Bool))) (R := (List (List Int)) × Bool) (fun _ x737 s734 =>
  (idx s734.1 s640.2.1).bind fun x749 =>
  (s_impl_join x749 x737).bind fun r754 =>
  (s_impl_keyOf r754).bind fun r757 =>
  (bif (!((mget s734.2 r757).getD false)) then (app s734.1 ([r754])).bind fun y781 =>
  some (y781, mput s734.2 r757 true) else some (s734.1, s734.2)).bind fun s770 =>
  (bif (decide (200 < (s770.1.length : Int))) then some (.rt ([], false)) else some (.nx (s770.1, s770.2)))) 0 s39 (s640.1, s640.2.2)).bind fun o738 => after o738 (fun r_ => some (.rt r_)) (fun s734 =>
  some (.nx (s734.1, w64 (s640.2.1 + 1), s734.2))) else some (.br (s640.1, s640.2.1, s640.2.2)))) FU ([r82], 0, mput ([]) r93 true)).bind fun o644 => after o644 (fun r_ => some r_) (fun s640 =>
  (s_impl_sortRows__impl_compareCongruences s640.1).bind fun r785 =>
  some (r785, true)))
set_option maxHeartbeats 4000000 in
theorem c_impl_allCongruences {M : Nat → Prop} {w : World} {pa0 : Option Addr} {pn0 pc0 : Nat} (a_ : Int × (List (Int × (List Int)))) (h0 : (RT.rs (RT.pr (RT.int .i64) (RT.rs (RT.int .i64)))).val M w (.slice pa0 pn0 pc0) a_.2 ([])) (hM : ∀ g, w.heap.size ≤ g → M g) {r : (List (List Int)) × Bool} (hs : s_impl_allCongruences a_ = some r) :
    Gives Try.prog 110 [(.agg #[(.int .i64 a_.1), (.slice pa0 pn0 pc0)])] w (fun v w' => ∃ (ra0 : Option Addr) (rn0 rc0 : Nat) (rf0 : List Nat), v = (.tuple #[(.slice ra0 rn0 rc0), (.bool r.2)]) ∧ Chg [] w w' ∧ (RT.os 22 (RT.os 3 (RT.int .i64))).val M w' (.slice ra0 rn0 rc0) r.1 rf0 ∧ Own (Nw w []) (fun _ => True) w' (rf0 ++ ([]))) := by
 refine calls_fr Try.func110 rfl Try.ntmps110 (Nat.le_of_ble_eq_true rfl) ?_
 have hO := Own.start (N := Nw w []) hM Nw.fut
 have hC := Chg.refl [] w
 unfold s_impl_allCongruences at hs
 refine wp_mono (Q := KPost (k_impl_allCongruences M w r)) ?_ (fun e a w1 h => ?_)
 rotate_left
 ·cases e
  case ret =>
   obtain ⟨σ, ra0, rn0, rc0, rf0, rfl, hrest⟩ := h
   exact ret2x Try.results110 (res_tmp rfl) (res_tmp rfl) ⟨ra0, rn0, rc0, rf0, rfl, hrest⟩
  all_goals exact (h : False).elim
 refine c_seq (c_region ?_)
 obtain ⟨w2, g2, ew2, eg2, hC2, hb2⟩ := new_block w [(.int .i64 a_.1), (.slice pa0 pn0 pc0)] 35
 refine pl_val (w' := w2) (.pointer (some ⟨g2, 0, none⟩)) (y_box rfl (by rw [ew2, eg2]; kernel_rfl)) ?_
 have h0 := h0.ext hC2
 have hC := hC.ext hC2
 have hO := hO.new1 hC2 eg2 hb2.lt
 refine pl_val (.slice none 0 0) (y_assign rfl) ?_
 refine pl_val (.bool false) (y_assign rfl) ?_
 refine c_nil ?_
 refine c_seq (c_region ?_)
 obtain ⟨w3, g3, ew3, eg3, hC3, hb3⟩ := new_block w2 [] 22
 refine pl_val (w' := w3) (.slice (some ⟨g3, 0, none⟩) 0 0) (y_bslice rfl (by rw [ew3, eg3]; kernel_rfl)) ?_
 have h0 := h0.ext hC3
 have hb2 := hb2.chg hC3 (fun h => nomatch h)
 have hC := hC.ext hC3
 have hO := hO.new1 hC3 eg3 hb3.lt
 have hv3 := os_of_box (r := (RT.os 3 (RT.int .i64))) (M := M) (css := []) (fps := []) (xs := ([] : List (List Int))) hb3 trivial (Nat.zero_le _) (List.nodup_cons.2 ⟨(fun h => nomatch h), List.nodup_nil⟩)
 have hv3 : (RT.os 22 (RT.os 3 (RT.int .i64))).val M w3 (.slice (some ⟨g3, 0, none⟩) 0 0) [] [g3] := hv3
 refine pl_val (.slice (some ⟨g3, 0, none⟩) 0 0) (y_assign rfl) ?_
 refine c_nil ?_
 refine c_seq ?_
 refine c_seq (c_region ?_)
 refine pl_val (.int .i64 0) (y_assign rfl) ?_
 refine c_nil ?_
 obtain ⟨o43, hl44, hs⟩ := bind_some hs
 refine wp_block ?_
 refine wp_forC (id := 0) a_.1 (I := fun k41 s39 a w40 => ∃ (σ : Nat → Value) (a45 : Option Addr) (n45 : Nat) (c45 : Nat) (f45 : List Nat), a = fr 85 (ovl σ [(1, (.pointer (some ⟨g2, 0, none⟩))), (4, (.slice a45 n45 c45)), (5, (.int .i64 k41))]) ∧ Chg [] w w40 ∧ Own (Nw w []) M w40 (f45 ++ (([g2]) ++ [])) ∧ (RT.rs (RT.pr (RT.int .i64) (RT.rs (RT.int .i64)))).val M w40 (.slice pa0 pn0 pc0) a_.2 ([]) ∧ BoxV w40 g2 35 [(.int .i64 a_.1), (.slice pa0 pn0 pc0)] ∧ (RT.os 22 (RT.os 3 (RT.int .i64))).val M w40 (.slice a45 n45 c45) s39 f45) (J := fun s39 a w40 => ∃ (σ : Nat → Value) (a47 : Option Addr) (n47 : Nat) (c47 : Nat) (f47 : List Nat), a = fr 85 (ovl σ [(1, (.pointer (some ⟨g2, 0, none⟩))), (4, (.slice a47 n47 c47))]) ∧ Chg [] w w40 ∧ Own (Nw w []) M w40 (f47 ++ (([g2]) ++ [])) ∧ (RT.rs (RT.pr (RT.int .i64) (RT.rs (RT.int .i64)))).val M w40 (.slice pa0 pn0 pc0) a_.2 ([]) ∧ BoxV w40 g2 35 [(.int .i64 a_.1), (.slice pa0 pn0 pc0)] ∧ (RT.os 22 (RT.os 3 (RT.int .i64))).val M w40 (.slice a47 n47 c47) s39 f47) (K := (k_impl_allCongruences M w)) ?_ ?_ 0 ([]) o43 _ _ ?_ hl44 ?_
 ·rintro k41 s39 a w40 ⟨σ, a45, n45, c45, f45, rfl, hC, hO, h0, hb2, hv45⟩ hlt
  refine c_seq ?_
  refine c_seq (c_region ?_)
  refine pl_val (.int .i64 k41) (y_move rfl) ?_
  refine pl_val (.pointer (some ⟨g2, 0, none⟩)) (y_faddr rfl Fa35x0) ?_
  refine pl_val (.int .i64 a_.1) (y_load rfl ((box_load Ag3 Sz3 hb2 [] [(.int .i64 a_.1)] [(.slice pa0 pn0 pc0)] rfl rfl (fun _ => rfl)) _ (Chg.refl _ _))) ?_
  refine pl_val (.bool (decide (k41 < a_.1))) (y_lss rfl rfl) ?_
  refine c_nil ?_
  refine c_condF (congrArg Value.bool (decide_eq_false hlt)) ?_
  refine wp_exit ?_
  have hO := hO.fr1
  have hO := hO.fr1
  exact ⟨rfl, _, a45, n45, c45, f45, fr_ovl 85 ⟨rfl, rfl, trivial⟩, hC, hO, h0, hb2, hv45⟩
 ·rintro k41 s39 o43 a w40 ⟨σ, a45, n45, c45, f45, rfl, hC, hO, h0, hb2, hv45⟩ hlt hw hs
  refine c_seq ?_
  refine c_seq (c_region ?_)
  refine pl_val (.int .i64 k41) (y_move rfl) ?_
  refine pl_val (.pointer (some ⟨g2, 0, none⟩)) (y_faddr rfl Fa35x0) ?_
  refine pl_val (.int .i64 a_.1) (y_load rfl ((box_load Ag3 Sz3 hb2 [] [(.int .i64 a_.1)] [(.slice pa0 pn0 pc0)] rfl rfl (fun _ => rfl)) _ (Chg.refl _ _))) ?_
  refine pl_val (.bool (decide (k41 < a_.1))) (y_lss rfl rfl) ?_
  refine c_nil ?_
  refine c_condT (congrArg Value.bool (decide_eq_true hlt)) ?_
  refine wp_skip ?_
  refine c_seq ?_
  refine wp_block ?_
  refine c_seq (c_region ?_)
  refine pl_val (.int .i64 k41) (y_move rfl) ?_
  refine pl_val (.int .i64 (w64 (k41 + 1))) (y_add rfl rfl) ?_
  refine pl_val (.int .i64 (w64 (k41 + 1))) (y_assign rfl) ?_
  refine c_nil ?_
  obtain ⟨o65, hl66, hs⟩ := bind_some hs
  refine wp_block ?_
  refine wp_forC (id := 2) a_.1 (I := fun k63 s61 a w62 => ∃ (σ : Nat → Value) (a67 : Option Addr) (n67 : Nat) (c67 : Nat) (f67 : List Nat), a = fr 85 (ovl σ [(1, (.pointer (some ⟨g2, 0, none⟩))), (4, (.slice a67 n67 c67)), (5, (.int .i64 k41)), (6, (.int .i64 k63))]) ∧ Chg [] w w62 ∧ Own (Nw w []) M w62 (f67 ++ (([g2]) ++ [])) ∧ (RT.rs (RT.pr (RT.int .i64) (RT.rs (RT.int .i64)))).val M w62 (.slice pa0 pn0 pc0) a_.2 ([]) ∧ BoxV w62 g2 35 [(.int .i64 a_.1), (.slice pa0 pn0 pc0)] ∧ (RT.os 22 (RT.os 3 (RT.int .i64))).val M w62 (.slice a67 n67 c67) s61 f67) (J := fun s61 a w62 => ∃ (σ : Nat → Value) (a69 : Option Addr) (n69 : Nat) (c69 : Nat) (f69 : List Nat), a = fr 85 (ovl σ [(1, (.pointer (some ⟨g2, 0, none⟩))), (4, (.slice a69 n69 c69)), (5, (.int .i64 k41))]) ∧ Chg [] w w62 ∧ Own (Nw w []) M w62 (f69 ++ (([g2]) ++ [])) ∧ (RT.rs (RT.pr (RT.int .i64) (RT.rs (RT.int .i64)))).val M w62 (.slice pa0 pn0 pc0) a_.2 ([]) ∧ BoxV w62 g2 35 [(.int .i64 a_.1), (.slice pa0 pn0 pc0)] ∧ (RT.os 22 (RT.os 3 (RT.int .i64))).val M w62 (.slice a69 n69 c69) s61 f69) (K := (k_impl_allCongruences M w)) ?_ ?_ (w64 (k41 + 1)) s39 o65 _ _ ?_ hl66 ?_
  ·rintro k63 s61 a w62 ⟨σ, a67, n67, c67, f67, rfl, hC, hO, h0, hb2, hv67⟩ hlt
   refine c_seq ?_
   refine c_seq (c_region ?_)
   refine pl_val (.int .i64 k63) (y_move rfl) ?_
   refine pl_val (.pointer (some ⟨g2, 0, none⟩)) (y_faddr rfl Fa35x0) ?_
   refine pl_val (.int .i64 a_.1) (y_load rfl ((box_load Ag3 Sz3 hb2 [] [(.int .i64 a_.1)] [(.slice pa0 pn0 pc0)] rfl rfl (fun _ => rfl)) _ (Chg.refl _ _))) ?_
   refine pl_val (.bool (decide (k63 < a_.1))) (y_lss rfl rfl) ?_
   refine c_nil ?_
   refine c_condF (congrArg Value.bool (decide_eq_false hlt)) ?_
   refine wp_exit ?_
   have hO := hO.fr1
   have hO := hO.fr1
   exact ⟨rfl, _, a67, n67, c67, f67, fr_ovl 85 ⟨rfl, rfl, rfl, trivial⟩, hC, hO, h0, hb2, hv67⟩
  ·rintro k63 s61 o65 a w62 ⟨σ, a67, n67, c67, f67, rfl, hC, hO, h0, hb2, hv67⟩ hlt hw hs
   refine c_seq ?_
   refine c_seq (c_region ?_)
   refine pl_val (.int .i64 k63) (y_move rfl) ?_
   refine pl_val (.pointer (some ⟨g2, 0, none⟩)) (y_faddr rfl Fa35x0) ?_
   refine pl_val (.int .i64 a_.1) (y_load rfl ((box_load Ag3 Sz3 hb2 [] [(.int .i64 a_.1)] [(.slice pa0 pn0 pc0)] rfl rfl (fun _ => rfl)) _ (Chg.refl _ _))) ?_
   refine pl_val (.bool (decide (k63 < a_.1))) (y_lss rfl rfl) ?_
   refine c_nil ?_
   refine c_condT (congrArg Value.bool (decide_eq_true hlt)) ?_
   refine wp_skip ?_
   refine c_seq ?_
   refine wp_block ?_
   refine c_region ?_
   refine pl_val (.slice a67 n67 c67) (y_move rfl) ?_
   refine pl_val (.agg #[(.int .i64 a_.1), (.slice pa0 pn0 pc0)]) (y_load rfl ((box_load Ag35 Sz35 hb2 [] [(.int .i64 a_.1), (.slice pa0 pn0 pc0)] [] rfl rfl (fun h => nomatch h)) _ (Chg.refl _ _))) ?_
   refine pl_val (.int .i64 k41) (y_move rfl) ?_
   refine pl_val (.int .i64 k63) (y_move rfl) ?_
   refine pl_val (.agg #[(.int .i64 k41), (.int .i64 k63)]) (y_build rfl (by kernel_rfl)) ?_
   obtain ⟨w71, g71, ew71, eg71, hC71, hb71⟩ := new_block w62 [(.int .i64 k41), (.int .i64 k63)] 103
   refine pl_val (w' := w71) (.slice (some ⟨g71, 0, none⟩) 1 1) (y_bslice rfl (by rw [ew71, eg71]; kernel_rfl)) ?_
   have h0 := h0.ext hC71
   have hb2 := hb2.chg hC71 (fun h => nomatch h)
   have hv67 := hv67.ext hC71
   have hC := hC.ext hC71
   have hO := hO.new1 hC71 eg71 hb71.lt
   have hv71 := os_of_box (r := (RT.pr (RT.int .i64) (RT.int .i64))) (M := M) (css := [[(.int .i64 k41), (.int .i64 k63)]]) (fps := [([] : List Nat)]) (xs := ([(k41, k63)] : List (Int × Int))) hb71 ⟨⟨_, _, _, _, rfl, rfl, ⟨rfl, rfl⟩, ⟨rfl, rfl⟩⟩, trivial⟩ (Nat.le_of_ble_eq_true rfl) (List.nodup_cons.2 ⟨(fun h => nomatch h), List.nodup_nil⟩)
   have hv71 : (RT.os 103 (RT.pr (RT.int .i64) (RT.int .i64))).val M w71 (.slice (some ⟨g71, 0, none⟩) 1 1) [(k41, k63)] [g71] := hv71
   obtain ⟨r74, hr74, hs⟩ := bind_some hs
   refine pl_call Bd125 rfl (c_impl_congruenceOf (M := (Less M ([g71]))) (a_.1, a_.2) ([(k41, k63)]) (h0.sub Less.sub) (((Frz.os (Frz.pr Frz.int Frz.int))).val hv71 Less.sub Less.not) hO.less.fut hr74) ?_
   rintro _ w73 ⟨a73x0, n73x0, c73x0, f73x0, rfl, hC73, hv73x0, hOc73⟩
   have h0 := h0.ext hC73
   have hb2 := hb2.chg hC73 (fun h => nomatch h)
   have hv67 := hv67.ext hC73
   have hv71 := hv71.ext hC73
   have hC := hC.ext hC73
   have hO := Own.join0 hO hC73 hOc73
   have hO := hO.perm (R := f73x0 ++ (([g71]) ++ (f67 ++ (([g2]) ++ ([]))))) (by simp)
   have hv73x0 := hv73x0.free (M' := M) (Free.os Free.int)
   obtain ⟨w76, g76, ew76, eg76, hC76, hb76⟩ := new_block w73 [(.slice a73x0 n73x0 c73x0)] 22
   refine pl_val (w' := w76) (.slice (some ⟨g76, 0, none⟩) 1 1) (y_bslice rfl (by rw [ew76, eg76]; kernel_rfl)) ?_
   have h0 := h0.ext hC76
   have hb2 := hb2.chg hC76 (fun h => nomatch h)
   have hv67 := hv67.ext hC76
   have hv71 := hv71.ext hC76
   have hv73x0 := hv73x0.ext hC76
   have hC := hC.ext hC76
   have hO := hO.new1 hC76 eg76 hb76.lt
   have hO := hO.perm (R := (g76 :: ((f73x0) ++ ([]))) ++ (([g71]) ++ (f67 ++ (([g2]) ++ ([]))))) (by simp)
   have hnd76 := hO.nd
   have hv76 := os_of_box (r := (RT.os 3 (RT.int .i64))) (M := M) (css := [[(.slice a73x0 n73x0 c73x0)]]) (fps := [(f73x0 : List Nat)]) (xs := ([r74] : List (List Int))) hb76 ⟨(os_unval hv73x0), trivial⟩ (Nat.le_of_ble_eq_true rfl) hnd76
   have hv76 : (RT.os 22 (RT.os 3 (RT.int .i64))).val M w76 (.slice (some ⟨g76, 0, none⟩) 1 1) [r74] (g76 :: ((f73x0) ++ ([]))) := hv76
   obtain ⟨y79, hy79, hs⟩ := bind_some hs
   have hO := hO.fr2
   obtain ⟨a78, n78, c78, w78, f78, hr78, hC78, hf78, hv78⟩ := app_os Rw41 hy79 hv67 hv76 hO.inM (fun g hg hq => hO.apart g hq (mem_l hg))
   have hG78 := os_block hv67
   refine pl_val (w' := w78) (.slice a78 n78 c78) (y_append rfl rfl (hr78 _)) ?_
   have hO := hO.fr1
   have hO := hO.fr1
   have h0 := h0.mut hC78 (fun g hg => hO.inM g (hG78 g hg)) (fun _ _ h => nomatch h)
   have hb2 := hb2.chg hC78 (fun hg => hO.apart _ (hG78 _ hg) (mem_r (mem_r (mem_l (List.mem_singleton.2 rfl)))))
   have hv71 := hv71.mut hC78 (fun g hg => hO.inM g (hG78 g hg)) (fun g hg e => hO.apart g (hG78 g hg) (mem_r (mem_l (e))))
   have hC := hC.step hC78 (fun g hg => hO.inN g (hG78 g hg))
   have hO := hO.eat hC78 hf78 (os_nodup hv78) hv78.fpl
   refine pl_val (.slice a78 n78 c78) (y_assign rfl) ?_
   refine c_nil ?_
   refine c_region ?_
   refine pl_val (.int .i64 k63) (y_move rfl) ?_
   refine pl_val (.int .i64 (w64 (k63 + 1))) (y_add rfl rfl) ?_
   refine pl_val (.int .i64 (w64 (k63 + 1))) (y_assign rfl) ?_
   refine c_nil ?_
   cases hs
   have hO := hO.fr1
   have hO := hO.drop
   have hO := hO.fr1
   have hO := hO.fr1
   exact ⟨_, a78, n78, c78, f78, fr_ovl 85 ⟨rfl, rfl, rfl, congrArg (Value.int .i64) hw, trivial⟩, hC, hO, h0, hb2, hv78⟩
  ·skip
   have hO := hO.fr1
   have hO := hO.fr1
   exact ⟨_, a45, n45, c45, f45, fr_ovl 85 ⟨rfl, rfl, rfl, rfl, trivial⟩, hC, hO, h0, hb2, hv45⟩
  ·cases o65 with
   | nx _ => exact True.intro
   | rt r_ =>
    have hs := after_rt hs
    intro a1 w1 hK
    cases hs
    exact hK
   | br s61 =>
    have hs := after_br hs
    rintro a1 w62 ⟨σ, a69, n69, c69, f69, rfl, hC, hO, h0, hb2, hv69⟩
    refine c_region ?_
    refine pl_val (.int .i64 k41) (y_move rfl) ?_
    refine pl_val (.int .i64 (w64 (k41 + 1))) (y_add rfl rfl) ?_
    refine pl_val (.int .i64 (w64 (k41 + 1))) (y_assign rfl) ?_
    refine c_nil ?_
    cases hs
    have hO := hO.fr1
    have hO := hO.fr1
    exact ⟨_, a69, n69, c69, f69, fr_ovl 85 ⟨rfl, rfl, congrArg (Value.int .i64) hw, trivial⟩, hC, hO, h0, hb2, hv69⟩
 ·skip
  have hO := hO.fr1
  have hO := hO.fr1
  exact ⟨_, (some ⟨g3, 0, none⟩), 0, 0, ([g3]), fr_ovl 85 ⟨rfl, rfl, rfl, trivial⟩, hC, hO, h0, hb2, hv3⟩
 ·cases o43 with
  | nx _ => exact True.intro
  | rt r_ =>
   have hs := after_rt hs
   intro a1 w1 hK
   cases hs
   exact hK
  | br s39 =>
   have hs := after_br hs
   rintro a1 w40 ⟨σ, a47, n47, c47, f47, rfl, hC, hO, h0, hb2, hv47⟩
   refine c_seq (c_region ?_)
   refine pl_val (.pointer (some ⟨g2, 0, none⟩)) (y_faddr rfl Fa35x0) ?_
   refine pl_val (.int .i64 a_.1) (y_load rfl ((box_load Ag3 Sz3 hb2 [] [(.int .i64 a_.1)] [(.slice pa0 pn0 pc0)] rfl rfl (fun _ => rfl)) _ (Chg.refl _ _))) ?_
   obtain ⟨r82, hr82, hs⟩ := bind_some hs
   refine pl_call Bd126 rfl (c_impl_identityOf (M := M) a_.1  hO.fut hr82) ?_
   rintro _ w81 ⟨a81x0, n81x0, c81x0, f81x0, rfl, hC81, hv81x0, hOc81⟩
   have h0 := h0.ext hC81
   have hb2 := hb2.chg hC81 (fun h => nomatch h)
   have hv47 := hv47.ext hC81
   have hC := hC.ext hC81
   have hO := Own.join0 hO hC81 hOc81
   have hO := hO.perm (R := f81x0 ++ (f47 ++ (([g2]) ++ ([])))) (by simp)
   obtain ⟨w84, g84, ew84, eg84, hC84, hb84⟩ := new_block w81 [(.slice a81x0 n81x0 c81x0)] 22
   refine pl_val (w' := w84) (.slice (some ⟨g84, 0, none⟩) 1 1) (y_bslice rfl (by rw [ew84, eg84]; kernel_rfl)) ?_
   have h0 := h0.ext hC84
   have hb2 := hb2.chg hC84 (fun h => nomatch h)
   have hv47 := hv47.ext hC84
   have hv81x0 := hv81x0.ext hC84
   have hC := hC.ext hC84
   have hO := hO.new1 hC84 eg84 hb84.lt
   have hO := hO.perm (R := (g84 :: ((f81x0) ++ ([]))) ++ (f47 ++ (([g2]) ++ ([])))) (by simp)
   have hnd84 := hO.nd
   have hv84 := os_of_box (r := (RT.os 3 (RT.int .i64))) (M := M) (css := [[(.slice a81x0 n81x0 c81x0)]]) (fps := [(f81x0 : List Nat)]) (xs := ([r82] : List (List Int))) hb84 ⟨(os_unval hv81x0), trivial⟩ (Nat.le_of_ble_eq_true rfl) hnd84
   have hv84 : (RT.os 22 (RT.os 3 (RT.int .i64))).val M w84 (.slice (some ⟨g84, 0, none⟩) 1 1) [r82] (g84 :: ((f81x0) ++ ([]))) := hv84
   refine pl_val (.slice (some ⟨g84, 0, none⟩) 1 1) (y_assign rfl) ?_
   refine c_nil ?_
   refine c_seq (c_region ?_)
   obtain ⟨w86, b86, ew86, eb86, hC86, hv86⟩ := mo_make (enc := Value.bool) (M := M) w84
   refine pl_val (w' := w86) (.map (some b86)) (by rw [ew86, eb86]; exact y_mmap) ?_
   have hb2 := hb2.chg hC86 (fun h => nomatch h)
   have hv47 := hv47.ext hC86
   have hv84 := hv84.ext hC86
   have hC := hC.ext hC86
   have hO := hO.new (X' := [b86]) hC86 (fun q hq => by rw [List.mem_singleton.1 hq, eb86]; exact Nat.le_refl _) (List.nodup_cons.2 ⟨(fun h => nomatch h), List.nodup_nil⟩) hv86.fpl
   refine pl_val (.slice (some ⟨g84, 0, none⟩) 1 1) (y_move rfl) ?_
   obtain ⟨x88, hx88, hs⟩ := bind_some hs
   obtain ⟨g89, f89, hg89, hk89, hp89, ha89, hf89⟩ := os_idx Sl41 Sz22 hv84 hx88
   have hb89 := own_row (Frz.os Frz.int) ha89 hf89
   refine pl_val (.pointer (some ⟨g89, 0 + Int.toNat 0 * 1, none⟩)) (hp89 _ _ _ _ _ _ _ _ _ rfl rfl) ?_
   obtain ⟨v90, hl90, hrow90, hv90⟩ := at_load1 Ag22 Sz22 rfl rfl hb89
   obtain ⟨a90, n90, c90, rfl⟩ := rs_sl hv90
   refine pl_val (.slice a90 n90 c90) (y_load rfl (hl90 _ (Chg.refl _ _))) ?_
   have hO := hO.fr1
   obtain ⟨r93, hr93, hs⟩ := bind_some hs
   refine pl_call Bd127 rfl (c_impl_keyOf (M := (Less M (g84 :: ((f81x0) ++ ([]))))) x88 hv90 hO.less.fut hr93) ?_
   rintro _ w92 ⟨rfl, hC92⟩
   have hb2 := hb2.chg hC92 (fun h => nomatch h)
   have hv47 := hv47.ext hC92
   have hv84 := hv84.ext hC92
   have hv86 := hv86.ext hC92
   have hv90 := hv90.ext hC92
   have hrow90 := hrow90.chg hC92 (fun h => nomatch h)
   have hC := hC.ext hC92
   have hO := hO.ext hC92
   have hO := hO.fr1
   obtain ⟨w94, hst94, hC94, hv94⟩ := mo_put (P := Try.prog) (t := 105) (key := r93) (x := true) Try.underlying105 Try.underlying9 hv86
   refine pl_skip (w' := w94) (ys_ins rfl rfl rfl hst94) ?_
   have hb2 := hb2.chg hC94 (fun hg => hO.apart _ ((fun _ h => h) _ hg) (mem_r (mem_r (mem_l (List.mem_singleton.2 rfl)))))
   have hv47 := hv47.mut hC94 (fun g hg => hO.inM g ((fun _ h => h) g hg)) (fun g hg e => hO.apart g ((fun _ h => h) g hg) (mem_r (mem_l (e))))
   have hv84 := hv84.mut hC94 (fun g hg => hO.inM g ((fun _ h => h) g hg)) (fun g hg e => hO.apart g ((fun _ h => h) g hg) (mem_l (e)))
   have hv90 := hv90.mut hC94 (fun g hg => ⟨hO.inM g ((fun _ h => h) g hg), fun e => hO.apart g ((fun _ h => h) g hg) (mem_l (e))⟩) (fun _ _ h => nomatch h)
   have hC := hC.step hC94 (fun g hg => hO.inN g ((fun _ h => h) g hg))
   have hO := hO.ext hC94
   refine pl_val (.map (some b86)) (y_move rfl) ?_
   refine pl_val (.map (some b86)) (y_assign rfl) ?_
   refine c_nil ?_
   refine c_seq ?_
   refine c_seq (c_region ?_)
   refine pl_val (.int .i64 0) (y_assign rfl) ?_
   refine c_nil ?_
   have hO := hO.fr3
   have hO := hO.drop
   obtain ⟨o644, hl645, hs⟩ := bind_some hs
   refine wp_block ?_
   refine wp_iter (id := 4) (I := fun s640 a w641 => ∃ (σ : Nat → Value) (a646 : Option Addr) (n646 : Nat) (c646 : Nat) (f646 : List Nat) (f648 : List Nat), a = fr 85 (ovl σ [(4, (.slice a47 n47 c47)), (7, (.slice a646 n646 c646)), (8, (.map (some b86))), (9, (.int .i64 s640.2.1))]) ∧ Chg [] w w641 ∧ Own (Nw w []) M w641 (f646 ++ (f648 ++ (f47 ++ []))) ∧ (RT.os 22 (RT.os 3 (RT.int .i64))).val M w641 (.slice a47 n47 c47) s39 f47 ∧ (RT.mo Value.bool).val M w641 (.map (some b86)) s640.2.2 f648 ∧ (RT.os 22 (RT.os 3 (RT.int .i64))).val M w641 (.slice a646 n646 c646) s640.1 f646) (J := fun s640 a w641 => ∃ (σ : Nat → Value) (a649 : Option Addr) (n649 : Nat) (c649 : Nat) (f649 : List Nat) (f651 : List Nat), a = fr 85 (ovl σ [(7, (.slice a649 n649 c649))]) ∧ Chg [] w w641 ∧ Own (Nw w []) M w641 (f649 ++ (f651 ++ (f47 ++ []))) ∧ (RT.os 22 (RT.os 3 (RT.int .i64))).val M w641 (.slice a47 n47 c47) s39 f47 ∧ (RT.mo Value.bool).val M w641 (.map (some b86)) s640.2.2 f651 ∧ (RT.os 22 (RT.os 3 (RT.int .i64))).val M w641 (.slice a649 n649 c649) s640.1 f649) (K := (k_impl_allCongruences M w)) ?_ FU ([r82], 0, mput ([]) r93 true) o644 _ _ ?_ hl645 ?_
   ·rintro s640 o644 a w641 ⟨σ, a646, n646, c646, f646, f648, rfl, hC, hO, hv47, hv648, hv646⟩ hs
    refine c_seq ?_
    refine c_seq (c_region ?_)
    refine pl_val (.int .i64 s640.2.1) (y_move rfl) ?_
    refine pl_val (.slice a646 n646 c646) (y_move rfl) ?_
    refine pl_val (.int .i64 (s640.1.length : Int)) (y_len' Sl41 (os_len hv646) rfl) ?_
    refine pl_val (.bool (decide (s640.2.1 < (s640.1.length : Int)))) (y_lss rfl rfl) ?_
    refine c_nil ?_
    rcases bif_some hs with ⟨hc652, hs⟩ | ⟨hc652, hs⟩
    ·skip
     refine c_condT (congrArg Value.bool hc652) ?_
     refine wp_skip ?_
     refine c_seq ?_
     refine wp_block ?_
     refine c_seq (c_region ?_)
     refine pl_val (.slice a47 n47 c47) (y_move rfl) ?_
     refine pl_val (.int .i64 (s39.length : Int)) (y_len' Sl41 (os_len hv47) rfl) ?_
     refine pl_val (.int .i64 0) (y_move rfl) ?_
     refine c_nil ?_
     obtain ⟨o738, hl739, hs⟩ := bind_some hs
     refine wp_block ?_
     refine wp_forR (id := 6) (I := fun i_ xs_ s734 a w735 => ∃ k736 : Nat, i_ = (k736 : Int) ∧ List.drop k736 s39 = xs_ ∧ (∃ (σ : Nat → Value) (a740 : Option Addr) (n740 : Nat) (c740 : Nat) (f740 : List Nat) (f742 : List Nat), a = fr 85 (ovl σ [(4, (.slice a47 n47 c47)), (7, (.slice a740 n740 c740)), (8, (.map (some b86))), (9, (.int .i64 s640.2.1)), (54, (.slice a47 n47 c47)), (55, (.int .i64 (s39.length : Int))), (56, (.int .i64 (k736 : Int)))]) ∧ Chg [] w w735 ∧ Own (Nw w []) M w735 (f740 ++ (f742 ++ (f47 ++ []))) ∧ (RT.os 22 (RT.os 3 (RT.int .i64))).val M w735 (.slice a47 n47 c47) s39 f47 ∧ (RT.mo Value.bool).val M w735 (.map (some b86)) s734.2 f742 ∧ (RT.os 22 (RT.os 3 (RT.int .i64))).val M w735 (.slice a740 n740 c740) s734.1 f740)) (J := fun s734 a w735 => ∃ (σ : Nat → Value) (a743 : Option Addr) (n743 : Nat) (c743 : Nat) (f743 : List Nat) (f745 : List Nat), a = fr 85 (ovl σ [(4, (.slice a47 n47 c47)), (7, (.slice a743 n743 c743)), (8, (.map (some b86))), (9, (.int .i64 s640.2.1))]) ∧ Chg [] w w735 ∧ Own (Nw w []) M w735 (f743 ++ (f745 ++ (f47 ++ []))) ∧ (RT.os 22 (RT.os 3 (RT.int .i64))).val M w735 (.slice a47 n47 c47) s39 f47 ∧ (RT.mo Value.bool).val M w735 (.map (some b86)) s734.2 f745 ∧ (RT.os 22 (RT.os 3 (RT.int .i64))).val M w735 (.slice a743 n743 c743) s734.1 f743) (K := (k_impl_allCongruences M w)) ?_ ?_ s39 0 (s640.1, s640.2.2) o738 _ _ ?_ hl739 ?_
     ·rintro _ s734 a w735 ⟨k736, rfl, hd, σ, a740, n740, c740, f740, f742, rfl, hC, hO, hv47, hv742, hv740⟩
      have hlt := drop_nil_ge hd
      refine c_seq (c_region ?_)
      refine pl_val (.bool (decide ((k736 : Int) < (s39.length : Int)))) (y_lss rfl rfl) ?_
      refine c_nil ?_
      refine c_seq ?_
      refine c_condF (congrArg Value.bool (decide_eq_false hlt)) ?_
      refine wp_exit ?_
      have hO := hO.fr2
      have hO := hO.fr2
      have hO := hO.fr2
      exact ⟨rfl, _, a740, n740, c740, f740, f742, fr_ovl 85 ⟨rfl, rfl, rfl, rfl, trivial⟩, hC, hO, hv47, hv742, hv740⟩
     ·rintro _ x737 xs_ s734 o738 a w735 ⟨k736, rfl, hd, σ, a740, n740, c740, f740, f742, rfl, hC, hO, hv47, hv742, hv740⟩ hs
      have hlt := drop_cons_lt hd
      have hxk736 := drop_cons_idx hd
      refine c_seq (c_region ?_)
      refine pl_val (.bool (decide ((k736 : Int) < (s39.length : Int)))) (y_lss rfl rfl) ?_
      refine c_nil ?_
      refine c_seq ?_
      refine c_condT (congrArg Value.bool (decide_eq_true hlt)) ?_
      refine wp_skip ?_
      refine c_seq ?_
      refine wp_block ?_
      refine c_seq (c_region ?_)
      obtain ⟨g746, f746, hg746, hk746, hp746, ha746, hf746⟩ := os_idx Sl41 Sz22 hv47 hxk736
      have hb746 := own_row (Frz.os Frz.int) ha746 hf746
      refine pl_val (.pointer (some ⟨g746, 0 + Int.toNat (k736 : Int) * 1, none⟩)) (hp746 _ _ _ _ _ _ _ _ _ rfl rfl) ?_
      obtain ⟨v747, hl747, hrow747, hv747⟩ := at_load1 Ag22 Sz22 rfl rfl hb746
      obtain ⟨a747, n747, c747, rfl⟩ := rs_sl hv747
      refine pl_val (.slice a747 n747 c747) (y_load rfl (hl747 _ (Chg.refl _ _))) ?_
      refine pl_val (.slice a747 n747 c747) (y_assign rfl) ?_
      refine c_nil ?_
      refine c_seq (c_region ?_)
      refine pl_val (.slice a740 n740 c740) (y_move rfl) ?_
      refine pl_val (.int .i64 s640.2.1) (y_move rfl) ?_
      obtain ⟨x749, hx749, hs⟩ := bind_some hs
      obtain ⟨g750, f750, hg750, hk750, hp750, ha750, hf750⟩ := os_idx Sl41 Sz22 hv740 hx749
      have hb750 := own_row (Frz.os Frz.int) ha750 hf750
      refine pl_val (.pointer (some ⟨g750, 0 + Int.toNat s640.2.1 * 1, none⟩)) (hp750 _ _ _ _ _ _ _ _ _ rfl rfl) ?_
      obtain ⟨v751, hl751, hrow751, hv751⟩ := at_load1 Ag22 Sz22 rfl rfl hb750
      obtain ⟨a751, n751, c751, rfl⟩ := rs_sl hv751
      refine pl_val (.slice a751 n751 c751) (y_load rfl (hl751 _ (Chg.refl _ _))) ?_
      refine pl_val (.slice a747 n747 c747) (y_move rfl) ?_
      have hO := hO.fr2
      have hO := hO.fr1
      obtain ⟨r754, hr754, hs⟩ := bind_some hs
      refine pl_call Bd78 rfl (c_impl_join (M := (Less (Less M f740) f47)) x749 x737 (hv751.sub (M' := (Less (Less M f740) f47)) (fun g h => .inl (by simp only [Less] at h ⊢; simp [h]))) (hv747.sub (M' := (Less (Less M f740) f47)) (fun g h => .inl (by simp only [Less] at h ⊢; simp [h]))) (hO.less).less.fut hr754) ?_
      rintro _ w753 ⟨a753x0, n753x0, c753x0, f753x0, rfl, hC753, hv753x0, hOc753⟩
      have hv47 := hv47.ext hC753
      have hv742 := hv742.ext hC753
      have hv740 := hv740.ext hC753
      have hv747 := hv747.ext hC753
      have hrow747 := hrow747.chg hC753 (fun h => nomatch h)
      have hv751 := hv751.ext hC753
      have hrow751 := hrow751.chg hC753 (fun h => nomatch h)
      have hC := hC.ext hC753
      have hO := Own.join0 hO hC753 hOc753
      have hO := hO.perm (R := f753x0 ++ (f740 ++ (f47 ++ (f742 ++ ([]))))) (by simp)
      have hv753x0 := hv753x0.free (M' := M) (Free.os Free.int)
      refine pl_val (.slice a753x0 n753x0 c753x0) (y_assign rfl) ?_
      refine c_nil ?_
      refine c_seq ?_
      refine c_seq (c_region ?_)
      refine pl_val (.slice a753x0 n753x0 c753x0) (y_move rfl) ?_
      obtain ⟨r757, hr757, hs⟩ := bind_some hs
      refine pl_call Bd127 rfl (c_impl_keyOf (M := (Less M f753x0)) r754 (((Frz.os Frz.int)).val hv753x0 Less.sub Less.not) hO.less.fut hr757) ?_
      rintro _ w756 ⟨rfl, hC756⟩
      have hv47 := hv47.ext hC756
      have hv742 := hv742.ext hC756
      have hv740 := hv740.ext hC756
      have hv753x0 := hv753x0.ext hC756
      have hC := hC.ext hC756
      have hO := hO.ext hC756
      refine pl_val (.string r757) (y_assign rfl) ?_
      refine c_nil ?_
      refine c_seq (c_region ?_)
      refine pl_val (.map (some b86)) (y_move rfl) ?_
      refine pl_val (.string r757) (y_move rfl) ?_
      refine pl_val (.bool ((mget s734.2 r757).getD false)) (y_look (enc := Value.bool) Try.underlying105 Try.underlying9 Zv4 (mo_at hv742) rfl rfl) ?_
      refine pl_val (.bool (!((mget s734.2 r757).getD false))) (y_not rfl) ?_
      refine c_nil ?_
      obtain ⟨s770, hm772, hs⟩ := bind_some hs
      refine c_mid (I := fun a w771 => ∃ (σ : Nat → Value) (a773 : Option Addr) (n773 : Nat) (c773 : Nat) (f773 : List Nat) (f775 : List Nat), a = fr 85 (ovl σ [(4, (.slice a47 n47 c47)), (7, (.slice a773 n773 c773)), (8, (.map (some b86))), (9, (.int .i64 s640.2.1)), (54, (.slice a47 n47 c47)), (55, (.int .i64 (s39.length : Int))), (56, (.int .i64 (k736 : Int)))]) ∧ Chg [] w w771 ∧ Own (Nw w []) M w771 (f773 ++ (f47 ++ (f775 ++ []))) ∧ (RT.os 22 (RT.os 3 (RT.int .i64))).val M w771 (.slice a47 n47 c47) s39 f47 ∧ (RT.mo Value.bool).val M w771 (.map (some b86)) s770.2 f775 ∧ (RT.os 22 (RT.os 3 (RT.int .i64))).val M w771 (.slice a773 n773 c773) s770.1 f773) ?_ ?_
      ·replace hs := hm772
       rcases bif_some hs with ⟨hc776, hs⟩ | ⟨hc776, hs⟩
       ·skip
        refine c_condT (congrArg Value.bool hc776) ?_
        refine c_seq (c_region ?_)
        refine pl_val (.map (some b86)) (y_move rfl) ?_
        refine pl_val (.string r757) (y_move rfl) ?_
        have hO := hO.fr3
        obtain ⟨w777, hst777, hC777, hv777⟩ := mo_put (P := Try.prog) (t := 105) (key := r757) (x := true) Try.underlying105 Try.underlying9 hv742
        refine pl_skip (w' := w777) (ys_put rfl rfl rfl hst777) ?_
        have hv47 := hv47.mut hC777 (fun g hg => hO.inM g ((fun _ h => h) g hg)) (fun g hg e => hO.apart g ((fun _ h => h) g hg) (mem_r (mem_r (mem_l (e)))))
        have hv740 := hv740.mut hC777 (fun g hg => hO.inM g ((fun _ h => h) g hg)) (fun g hg e => hO.apart g ((fun _ h => h) g hg) (mem_r (mem_l (e))))
        have hv753x0 := hv753x0.mut hC777 (fun g hg => hO.inM g ((fun _ h => h) g hg)) (fun g hg e => hO.apart g ((fun _ h => h) g hg) (mem_l (e)))
        have hC := hC.step hC777 (fun g hg => hO.inN g ((fun _ h => h) g hg))
        have hO := hO.ext hC777
        refine c_nil ?_
        refine c_region ?_
        refine pl_val (.slice a740 n740 c740) (y_move rfl) ?_
        refine pl_val (.slice a753x0 n753x0 c753x0) (y_move rfl) ?_
        obtain ⟨w778, g778, ew778, eg778, hC778, hb778⟩ := new_block w777 [(.slice a753x0 n753x0 c753x0)] 22
        refine pl_val (w' := w778) (.slice (some ⟨g778, 0, none⟩) 1 1) (y_bslice rfl (by rw [ew778, eg778]; kernel_rfl)) ?_
        have hv47 := hv47.ext hC778
        have hv777 := hv777.ext hC778
        have hv740 := hv740.ext hC778
        have hv753x0 := hv753x0.ext hC778
        have hC := hC.ext hC778
        have hO := hO.fr1
        have hO := hO.new1 hC778 eg778 hb778.lt
        have hO := hO.perm (R := (g778 :: ((f753x0) ++ ([]))) ++ (f742 ++ (f740 ++ (f47 ++ ([]))))) (by simp)
        have hnd778 := hO.nd
        have hv778 := os_of_box (r := (RT.os 3 (RT.int .i64))) (M := M) (css := [[(.slice a753x0 n753x0 c753x0)]]) (fps := [(f753x0 : List Nat)]) (xs := ([r754] : List (List Int))) hb778 ⟨(os_unval hv753x0), trivial⟩ (Nat.le_of_ble_eq_true rfl) hnd778
        have hv778 : (RT.os 22 (RT.os 3 (RT.int .i64))).val M w778 (.slice (some ⟨g778, 0, none⟩) 1 1) [r754] (g778 :: ((f753x0) ++ ([]))) := hv778
        obtain ⟨y781, hy781, hs⟩ := bind_some hs
        have hO := hO.fr2
        obtain ⟨a780, n780, c780, w780, f780, hr780, hC780, hf780, hv780⟩ := app_os Rw41 hy781 hv740 hv778 hO.inM (fun g hg hq => hO.apart g hq (mem_l hg))
        have hG780 := os_block hv740
        refine pl_val (w' := w780) (.slice a780 n780 c780) (y_append rfl rfl (hr780 _)) ?_
        have hO := hO.fr1
        have hO := hO.fr1
        have hv47 := hv47.mut hC780 (fun g hg => hO.inM g (hG780 g hg)) (fun g hg e => hO.apart g (hG780 g hg) (mem_r (mem_r (mem_l (e)))))
        have hv777 := hv777.mut hC780 (fun g hg => hO.inM g (hG780 g hg)) (fun g hg e => hO.apart g (hG780 g hg) (mem_r (mem_l (e))))
        have hC := hC.step hC780 (fun g hg => hO.inN g (hG780 g hg))
        have hO := hO.eat hC780 hf780 (os_nodup hv780) hv780.fpl
        refine pl_val (.slice a780 n780 c780) (y_assign rfl) ?_
        refine c_nil ?_
        cases hs
        have hO := hO.fr1
        have hO := hO.fr2
        have hO := hO.fr2
        exact ⟨_, a780, n780, c780, f780, f742, fr_ovl 85 ⟨rfl, rfl, rfl, rfl, rfl, rfl, rfl, trivial⟩, hC, hO, hv47, hv777, hv780⟩
       ·skip
        refine c_condF (congrArg Value.bool hc776) ?_
        refine wp_skip ?_
        cases hs
        have hO := hO.drop
        have hO := hO.fr2
        have hO := hO.fr2
        have hO := hO.fr2
        exact ⟨_, a740, n740, c740, f740, f742, fr_ovl 85 ⟨rfl, rfl, rfl, rfl, rfl, rfl, rfl, trivial⟩, hC, hO, hv47, hv742, hv740⟩
      ·rintro a1 w771 ⟨σ, a773, n773, c773, f773, f775, rfl, hC, hO, hv47, hv775, hv773⟩
       refine c_seq (c_region ?_)
       refine pl_val (.slice a773 n773 c773) (y_move rfl) ?_
       refine pl_val (.int .i64 (s770.1.length : Int)) (y_len' Sl41 (os_len hv773) rfl) ?_
       refine pl_val (.bool (decide (200 < (s770.1.length : Int)))) (y_gtr rfl rfl) ?_
       refine c_nil ?_
       rcases bif_some hs with ⟨hc783, hs⟩ | ⟨hc783, hs⟩
       ·skip
        refine c_condT (congrArg Value.bool hc783) ?_
        refine c_seq (c_region ?_)
        refine pl_val (.slice none 0 0) (y_assign rfl) ?_
        refine pl_val (.bool false) (y_assign rfl) ?_
        refine c_nil ?_
        refine wp_ret ?_
        cases hs
        have hO := hO.drop
        have hO := hO.drop
        have hO := hO.drop
        have hO := hO.nil
        exact ⟨_, none, 0, 0, [], fr_ovl 85 ⟨rfl, rfl, trivial⟩, hC, os_nil, hO.top⟩
       ·skip
        refine c_condF (congrArg Value.bool hc783) ?_
        refine wp_skip ?_
        refine c_region ?_
        refine pl_val (.int .i64 (w64 ((k736 : Int) + 1))) (y_add rfl rfl) ?_
        refine pl_val (.int .i64 (w64 ((k736 : Int) + 1))) (y_move rfl) ?_
        refine c_nil ?_
        cases hs
        have hO := hO.fr1
        have hO := hO.fr2
        have hO := hO.fr2
        exact ⟨_, rfl, drop_cons_next hd, _, a773, n773, c773, f773, f775, fr_ovl 85 ⟨rfl, rfl, rfl, rfl, rfl, rfl, congrArg (Value.int .i64) (w64_succ hlt (Int.natCast_nonneg _) (os_max hv47)), trivial⟩, hC, hO, hv47, hv775, hv773⟩
     ·skip
      have hO := hO.fr2
      have hO := hO.fr2
      have hO := hO.fr2
      exact ⟨0, rfl, rfl, _, a646, n646, c646, f646, f648, fr_ovl 85 ⟨rfl, rfl, rfl, rfl, rfl, rfl, rfl, trivial⟩, hC, hO, hv47, hv648, hv646⟩
     ·cases o738 with
      | nx _ => exact True.intro
      | rt r_ =>
       have hs := after_rt hs
       intro a1 w1 hK
       cases hs
       exact hK
      | br s734 =>
       have hs := after_br hs
       rintro a1 w735 ⟨σ, a743, n743, c743, f743, f745, rfl, hC, hO, hv47, hv745, hv743⟩
       refine c_region ?_
       refine pl_val (.int .i64 s640.2.1) (y_move rfl) ?_
       refine pl_val (.int .i64 (w64 (s640.2.1 + 1))) (y_add rfl rfl) ?_
       refine pl_val (.int .i64 (w64 (s640.2.1 + 1))) (y_assign rfl) ?_
       refine c_nil ?_
       cases hs
       have hO := hO.fr2
       have hO := hO.fr2
       have hO := hO.fr2
       exact ⟨_, a743, n743, c743, f743, f745, fr_ovl 85 ⟨rfl, rfl, rfl, rfl, trivial⟩, hC, hO, hv47, hv745, hv743⟩
    ·skip
     refine c_condF (congrArg Value.bool hc652) ?_
     refine wp_exit ?_
     cases hs
     have hO := hO.fr2
     have hO := hO.fr2
     have hO := hO.fr2
     exact ⟨rfl, _, a646, n646, c646, f646, f648, fr_ovl 85 ⟨rfl, trivial⟩, hC, hO, hv47, hv648, hv646⟩
   ·skip
    have hO := hO.fr2
    have hO := hO.fr1
    have hO := hO.fr2
    exact ⟨_, (some ⟨g84, 0, none⟩), 1, 1, (g84 :: ((f81x0) ++ ([]))), [b86], fr_ovl 85 ⟨rfl, rfl, rfl, rfl, trivial⟩, hC, hO, hv47, hv94, hv84⟩
   ·cases o644 with
    | nx _ => exact True.intro
    | rt r_ =>
     have hs := after_rt hs
     intro a1 w1 hK
     cases hs
     exact hK
    | br s640 =>
     have hs := after_br hs
     rintro a1 w641 ⟨σ, a649, n649, c649, f649, f651, rfl, hC, hO, hv47, hv651, hv649⟩
     refine c_seq (c_region ?_)
     refine pl_val (.slice a649 n649 c649) (y_move rfl) ?_
     have hL784 := hO
     have hI784 := Own.lend (F := (f649 ++ ([]))) (R := f651 ++ (f47 ++ ([]))) (Own.perm (hL784) (by simp))
     obtain ⟨r785, hr785, hs⟩ := bind_some hs
     refine pl_call Bd128 rfl (c_impl_sortRows__impl_compareCongruences (M := M) s640.1 hv649 hI784 hI784.fut hr785) ?_
     rintro _ w784 ⟨fi784x0, rfl, hC784, hvi784x0, hOc784⟩
     have hO := hO.perm (R := (f649 ++ ([])) ++ (f651 ++ (f47 ++ ([])))) (by simp)
     have hv47 := hv47.mut hC784 (fun g hg => hO.inM g ((fun _ h => h) g hg)) (fun g hg e => hO.apart g ((fun _ h => h) g hg) (mem_r (mem_l (e))))
     have hv651 := hv651.mut hC784 (fun g hg => hO.inM g ((fun _ h => h) g hg)) (fun g hg e => hO.apart g ((fun _ h => h) g hg) (mem_l (e)))
     have hC := hC.step hC784 (fun g hg => hO.inN g ((fun _ h => h) g hg))
     have hO := Own.join hO hC784 hOc784
     have hO := hO.perm (R := fi784x0 ++ (f651 ++ (f47 ++ ([])))) (by simp)
     refine c_nil ?_
     refine c_seq (c_region ?_)
     refine pl_val (.slice a649 n649 c649) (y_move rfl) ?_
     refine pl_val (.slice a649 n649 c649) (y_assign rfl) ?_
     refine pl_val (.bool true) (y_assign rfl) ?_
     refine c_nil ?_
     refine wp_ret ?_
     cases hs
     have hO := hO.fr1
     have hO := hO.drop
     have hO := hO.fr1
     have hO := hO.drop
     exact ⟨_, a649, n649, c649, fi784x0, fr_ovl 85 ⟨rfl, rfl, trivial⟩, hC, hvi784x0, hO.top⟩

theorem Bd109 : Bodied Try.prog 109 := bodied Try.func109 (by kernel_rfl) rfl

theorem Bd110 : Bodied Try.prog 110 := bodied Try.func110 (by kernel_rfl) rfl

def k_impl_congruences (M : Nat → Prop) (w0 : World) (r : (List (List Int)) × Bool) (a : Act) (w : World) : Prop :=
  ∃ (σ : Nat → Value) (ra0 : Option Addr) (rn0 rc0 : Nat) (rf0 : List Nat), a = fr 11 (ovl σ [(2, (.slice ra0 rn0 rc0)), (3, (.bool r.2))]) ∧ Chg [] w0 w ∧ (RT.os 22 (RT.os 3 (RT.int .i64))).val M w (.slice ra0 rn0 rc0) r.1 rf0 ∧ Own (Nw w0 []) (fun _ => True) w (rf0 ++ ([]))
def s_impl_congruences (a_ : Int × (List (Int × (List Int)))) : Option ((List (List Int)) × Bool) :=
  (s_impl_IsAlgebra (a_.1, a_.2)).bind fun r4 =>
  (bif (!r4) then some ([], false) else (s_impl_allCongruences (a_.1, a_.2)).bind fun r7 =>
  some (r7.1, r7.2))
set_option maxHeartbeats 4000000 in
theorem c_impl_congruences {M : Nat → Prop} {w : World} {pa0 : Option Addr} {pn0 pc0 : Nat} (a_ : Int × (List (Int × (List Int)))) (h0 : (RT.rs (RT.pr (RT.int .i64) (RT.rs (RT.int .i64)))).val M w (.slice pa0 pn0 pc0) a_.2 ([])) (hM : ∀ g, w.heap.size ≤ g → M g) {r : (List (List Int)) × Bool} (hs : s_impl_congruences a_ = some r) :
    Gives Try.prog 84 [(.agg #[(.int .i64 a_.1), (.slice pa0 pn0 pc0)])] w (fun v w' => ∃ (ra0 : Option Addr) (rn0 rc0 : Nat) (rf0 : List Nat), v = (.tuple #[(.slice ra0 rn0 rc0), (.bool r.2)]) ∧ Chg [] w w' ∧ (RT.os 22 (RT.os 3 (RT.int .i64))).val M w' (.slice ra0 rn0 rc0) r.1 rf0 ∧ Own (Nw w []) (fun _ => True) w' (rf0 ++ ([]))) := by
 refine calls_fr Try.func84 rfl Try.ntmps84 (Nat.le_of_ble_eq_true rfl) ?_
 have hO := Own.start (N := Nw w []) hM Nw.fut
 have hC := Chg.refl [] w
 unfold s_impl_congruences at hs
 refine wp_mono (Q := KPost (k_impl_congruences M w r)) ?_ (fun e a w1 h => ?_)
 rotate_left
 ·cases e
  case ret =>
   obtain ⟨σ, ra0, rn0, rc0, rf0, rfl, hrest⟩ := h
   exact ret2x Try.results84 (res_tmp rfl) (res_tmp rfl) ⟨ra0, rn0, rc0, rf0, rfl, hrest⟩
  all_goals exact (h : False).elim
 refine c_seq (c_region ?_)
 obtain ⟨w2, g2, ew2, eg2, hC2, hb2⟩ := new_block w [(.int .i64 a_.1), (.slice pa0 pn0 pc0)] 35
 refine pl_val (w' := w2) (.pointer (some ⟨g2, 0, none⟩)) (y_box rfl (by rw [ew2, eg2]; kernel_rfl)) ?_
 have h0 := h0.ext hC2
 have hC := hC.ext hC2
 have hO := hO.new1 hC2 eg2 hb2.lt
 refine pl_val (.slice none 0 0) (y_assign rfl) ?_
 refine pl_val (.bool false) (y_assign rfl) ?_
 refine c_nil ?_
 refine c_seq ?_
 refine c_seq (c_region ?_)
 refine pl_val (.agg #[(.int .i64 a_.1), (.slice pa0 pn0 pc0)]) (y_load rfl ((box_load Ag35 Sz35 hb2 [] [(.int .i64 a_.1), (.slice pa0 pn0 pc0)] [] rfl rfl (fun h => nomatch h)) _ (Chg.refl _ _))) ?_
 obtain ⟨r4, hr4, hs⟩ := bind_some hs
 refine pl_call Bd109 rfl (c_impl_IsAlgebra (M := M) (a_.1, a_.2) h0 hO.fut hr4) ?_
 rintro _ w3 ⟨rfl, hC3⟩
 have h0 := h0.ext hC3
 have hb2 := hb2.chg hC3 (fun h => nomatch h)
 have hC := hC.ext hC3
 have hO := hO.ext hC3
 refine pl_val (.bool (!r4)) (y_not rfl) ?_
 refine c_nil ?_
 rcases bif_some hs with ⟨hc5, hs⟩ | ⟨hc5, hs⟩
 ·skip
  refine c_condT (congrArg Value.bool hc5) ?_
  refine c_seq (c_region ?_)
  refine pl_val (.slice none 0 0) (y_assign rfl) ?_
  refine pl_val (.bool false) (y_assign rfl) ?_
  refine c_nil ?_
  refine wp_ret ?_
  cases hs
  have hO := hO.drop
  have hO := hO.nil
  exact ⟨_, none, 0, 0, [], fr_ovl 11 ⟨rfl, rfl, trivial⟩, hC, os_nil, hO.top⟩
 ·skip
  refine c_condF (congrArg Value.bool hc5) ?_
  refine wp_skip ?_
  refine c_seq (c_region ?_)
  refine pl_val (.agg #[(.int .i64 a_.1), (.slice pa0 pn0 pc0)]) (y_load rfl ((box_load Ag35 Sz35 hb2 [] [(.int .i64 a_.1), (.slice pa0 pn0 pc0)] [] rfl rfl (fun h => nomatch h)) _ (Chg.refl _ _))) ?_
  obtain ⟨r7, hr7, hs⟩ := bind_some hs
  refine pl_call Bd110 rfl (c_impl_allCongruences (M := M) (a_.1, a_.2) h0 hO.fut hr7) ?_
  rintro _ w6 ⟨a6x0, n6x0, c6x0, f6x0, rfl, hC6, hv6x0, hOc6⟩
  have h0 := h0.ext hC6
  have hb2 := hb2.chg hC6 (fun h => nomatch h)
  have hC := hC.ext hC6
  have hO := Own.join0 hO hC6 hOc6
  have hO := hO.perm (R := f6x0 ++ (([g2]) ++ ([]))) (by simp)
  refine pl_val (.slice a6x0 n6x0 c6x0) (y_extract rfl (by kernel_rfl)) ?_
  refine pl_val (.bool r7.2) (y_extract rfl (by kernel_rfl)) ?_
  refine pl_val (.slice a6x0 n6x0 c6x0) (y_assign rfl) ?_
  refine pl_val (.bool r7.2) (y_assign rfl) ?_
  refine c_nil ?_
  refine wp_ret ?_
  cases hs
  have hO := hO.fr1
  have hO := hO.drop
  exact ⟨_, a6x0, n6x0, c6x0, f6x0, fr_ovl 11 ⟨rfl, rfl, trivial⟩, hC, hv6x0, hO.top⟩

theorem Bd84 : Bodied Try.prog 84 := bodied Try.func84 (by kernel_rfl) rfl

def k_impl_fewCongruences (M : Nat → Prop) (w0 : World) (r : (List (List Int)) × Bool) (a : Act) (w : World) : Prop :=
  ∃ (σ : Nat → Value) (ra0 : Option Addr) (rn0 rc0 : Nat) (rf0 : List Nat), a = fr 19 (ovl σ [(2, (.slice ra0 rn0 rc0)), (3, (.bool r.2))]) ∧ Chg [] w0 w ∧ (RT.os 22 (RT.os 3 (RT.int .i64))).val M w (.slice ra0 rn0 rc0) r.1 rf0 ∧ Own (Nw w0 []) (fun _ => True) w (rf0 ++ ([]))
def s_impl_fewCongruences (a_ : Int × (List (Int × (List Int)))) : Option ((List (List Int)) × Bool) :=
  (s_impl_congruences (a_.1, a_.2)).bind fun r4 =>
  (bif ((!r4.2) || (decide (60 < (r4.1.length : Int)))) then some ([], false) else some (r4.1, true))
set_option maxHeartbeats 4000000 in
theorem c_impl_fewCongruences {M : Nat → Prop} {w : World} {pa0 : Option Addr} {pn0 pc0 : Nat} (a_ : Int × (List (Int × (List Int)))) (h0 : (RT.rs (RT.pr (RT.int .i64) (RT.rs (RT.int .i64)))).val M w (.slice pa0 pn0 pc0) a_.2 ([])) (hM : ∀ g, w.heap.size ≤ g → M g) {r : (List (List Int)) × Bool} (hs : s_impl_fewCongruences a_ = some r) :
    Gives Try.prog 53 [(.agg #[(.int .i64 a_.1), (.slice pa0 pn0 pc0)])] w (fun v w' => ∃ (ra0 : Option Addr) (rn0 rc0 : Nat) (rf0 : List Nat), v = (.tuple #[(.slice ra0 rn0 rc0), (.bool r.2)]) ∧ Chg [] w w' ∧ (RT.os 22 (RT.os 3 (RT.int .i64))).val M w' (.slice ra0 rn0 rc0) r.1 rf0 ∧ Own (Nw w []) (fun _ => True) w' (rf0 ++ ([]))) := by
 refine calls_fr Try.func53 rfl Try.ntmps53 (Nat.le_of_ble_eq_true rfl) ?_
 have hO := Own.start (N := Nw w []) hM Nw.fut
 have hC := Chg.refl [] w
 unfold s_impl_fewCongruences at hs
 refine wp_mono (Q := KPost (k_impl_fewCongruences M w r)) ?_ (fun e a w1 h => ?_)
 rotate_left
 ·cases e
  case ret =>
   obtain ⟨σ, ra0, rn0, rc0, rf0, rfl, hrest⟩ := h
   exact ret2x Try.results53 (res_tmp rfl) (res_tmp rfl) ⟨ra0, rn0, rc0, rf0, rfl, hrest⟩
  all_goals exact (h : False).elim
 refine c_seq (c_region ?_)
 obtain ⟨w2, g2, ew2, eg2, hC2, hb2⟩ := new_block w [(.int .i64 a_.1), (.slice pa0 pn0 pc0)] 35
 refine pl_val (w' := w2) (.pointer (some ⟨g2, 0, none⟩)) (y_box rfl (by rw [ew2, eg2]; kernel_rfl)) ?_
 have h0 := h0.ext hC2
 have hC := hC.ext hC2
 have hO := hO.new1 hC2 eg2 hb2.lt
 refine pl_val (.slice none 0 0) (y_assign rfl) ?_
 refine pl_val (.bool false) (y_assign rfl) ?_
 refine c_nil ?_
 refine c_seq (c_region ?_)
 refine pl_val (.agg #[(.int .i64 a_.1), (.slice pa0 pn0 pc0)]) (y_load rfl ((box_load Ag35 Sz35 hb2 [] [(.int .i64 a_.1), (.slice pa0 pn0 pc0)] [] rfl rfl (fun h => nomatch h)) _ (Chg.refl _ _))) ?_
 obtain ⟨r4, hr4, hs⟩ := bind_some hs
 refine pl_call Bd84 rfl (c_impl_congruences (M := M) (a_.1, a_.2) h0 hO.fut hr4) ?_
 rintro _ w3 ⟨a3x0, n3x0, c3x0, f3x0, rfl, hC3, hv3x0, hOc3⟩
 have h0 := h0.ext hC3
 have hb2 := hb2.chg hC3 (fun h => nomatch h)
 have hC := hC.ext hC3
 have hO := Own.join0 hO hC3 hOc3
 have hO := hO.perm (R := f3x0 ++ (([g2]) ++ ([]))) (by simp)
 refine pl_val (.tuple #[(.slice a3x0 n3x0 c3x0), (.bool r4.2)]) (y_move rfl) ?_
 refine pl_val (.slice a3x0 n3x0 c3x0) (y_extract rfl (by kernel_rfl)) ?_
 refine pl_val (.bool r4.2) (y_extract rfl (by kernel_rfl)) ?_
 refine pl_val (.slice a3x0 n3x0 c3x0) (y_assign rfl) ?_
 refine pl_val (.bool r4.2) (y_assign rfl) ?_
 refine c_nil ?_
 refine c_seq ?_
 refine c_seq ?_
 refine c_mid (I := fun a w7 => ∃ (σ : Nat → Value), a = fr 19 (ovl σ [(2, (.slice none 0 0)), (3, (.bool false)), (4, (.slice a3x0 n3x0 c3x0)), (17, (.bool ((!r4.2) || (decide (60 < (r4.1.length : Int))))))]) ∧ Chg [] w3 w7) ?_ ?_
 ·have hMid := Chg.refl [] w3
  refine c_region ?_
  refine pl_val (.bool r4.2) (y_move rfl) ?_
  refine pl_val (.bool (!r4.2)) (y_not rfl) ?_
  refine pl_val (.bool (!r4.2)) (y_move rfl) ?_
  rcases Bool.eq_false_or_eq_true ((!r4.2)) with hc9 | hc9
  ·skip
   refine pl_not (tg := 13) (by kernel_rfl) (congrArg Value.bool hc9) ?_
   refine pl_not (tg := 13) (by kernel_rfl) (congrArg Value.bool hc9) ?_
   refine pl_not (tg := 13) (by kernel_rfl) (congrArg Value.bool hc9) ?_
   refine pl_val (.bool ((!r4.2) || (decide (60 < (r4.1.length : Int))))) (y_pick_t (congrArg Value.bool hc9) (congrArg Value.bool (by rw [hc9]; rfl))) ?_
   refine c_nil ?_
   exact ⟨_, fr_ovl 19 ⟨rfl, rfl, rfl, rfl, trivial⟩, hMid⟩
  ·skip
   refine pl_yes (.slice a3x0 n3x0 c3x0) (tg := 13) (by kernel_rfl) (congrArg Value.bool hc9) (y_move rfl) ?_
   refine pl_yes (.int .i64 (r4.1.length : Int)) (tg := 13) (by kernel_rfl) (congrArg Value.bool hc9) (y_len' Sl41 (os_len hv3x0) rfl) ?_
   refine pl_yes (.bool (decide (60 < (r4.1.length : Int)))) (tg := 13) (by kernel_rfl) (congrArg Value.bool hc9) (y_gtr rfl rfl) ?_
   refine pl_val (.bool ((!r4.2) || (decide (60 < (r4.1.length : Int))))) (y_pick_f (congrArg Value.bool hc9) (congrArg Value.bool (by rw [hc9]; rfl))) ?_
   refine c_nil ?_
   exact ⟨_, fr_ovl 19 ⟨rfl, rfl, rfl, rfl, trivial⟩, hMid⟩
 ·rintro a1 w7 ⟨σ, rfl, hCs6⟩
  have hb2 := hb2.chg hCs6 (fun h => nomatch h)
  have hv3x0 := hv3x0.ext hCs6
  have hC := hC.ext hCs6
  have hO := hO.ext hCs6
  rcases bif_some hs with ⟨hc10, hs⟩ | ⟨hc10, hs⟩
  ·skip
   refine c_condT (congrArg Value.bool hc10) ?_
   refine c_seq (c_region ?_)
   refine pl_val (.slice none 0 0) (y_assign rfl) ?_
   refine pl_val (.bool false) (y_assign rfl) ?_
   refine c_nil ?_
   refine wp_ret ?_
   cases hs
   have hO := hO.drop
   have hO := hO.drop
   have hO := hO.nil
   exact ⟨_, none, 0, 0, [], fr_ovl 19 ⟨rfl, rfl, trivial⟩, hC, os_nil, hO.top⟩
  ·skip
   refine c_condF (congrArg Value.bool hc10) ?_
   refine wp_skip ?_
   refine c_seq (c_region ?_)
   refine pl_val (.slice a3x0 n3x0 c3x0) (y_move rfl) ?_
   refine pl_val (.slice a3x0 n3x0 c3x0) (y_assign rfl) ?_
   refine pl_val (.bool true) (y_assign rfl) ?_
   refine c_nil ?_
   refine wp_ret ?_
   cases hs
   have hO := hO.fr1
   have hO := hO.drop
   exact ⟨_, a3x0, n3x0, c3x0, f3x0, fr_ovl 19 ⟨rfl, rfl, trivial⟩, hC, hv3x0, hO.top⟩

theorem Rw107 : RowT Try.prog 107 109 1 [(.slice none 0 0)] := ⟨Try.underlying107, ⟨_, _, rfl, rfl, rfl, rfl, by decide⟩, rfl, by decide⟩

theorem Sl107 : SlT Try.prog 107 109 := Try.underlying107

theorem Rw109 : RowT Try.prog 109 4 1 [(.bool false)] := ⟨Try.underlying109, ⟨_, _, rfl, rfl, rfl, rfl, by decide⟩, rfl, by decide⟩

theorem Sz109 : SzT Try.prog 109 1 := ⟨_, rfl, rfl⟩

theorem Ag109 : AggT Try.prog 109 false := fun _ => by kernel_rfl

theorem Sl109 : SlT Try.prog 109 4 := Try.underlying109

theorem Sz4 : SzT Try.prog 4 1 := ⟨_, rfl, rfl⟩

theorem Ag4 : AggT Try.prog 4 false := fun _ => by kernel_rfl

def k_impl_productTable (M : Nat → Prop) (w0 : World) (r : (List (List Bool))) (a : Act) (w : World) : Prop :=
  ∃ (σ : Nat → Value) (ra0 : Option Addr) (rn0 rc0 : Nat) (rf0 : List Nat), a = fr 71 (ovl σ [(4, (.slice ra0 rn0 rc0))]) ∧ Chg [] w0 w ∧ (RT.os 109 (RT.os 4 RT.bool)).val M w (.slice ra0 rn0 rc0) r rf0 ∧ Own (Nw w0 []) (fun _ => True) w (rf0 ++ ([]))
def s_impl_productTable (p : List Int) (q : List Int) : Option ((List (List Bool))) :=
  (mks (p.length : Int) ([] : List Bool)).bind fun y4 =>
  (forC (S := (List (List Bool))) (R := (List (List Bool))) (fun k669 s667 =>
  (mks (p.length : Int) (false : Bool)).bind fun y676 =>
  (idx s667 k669).bind fun x678 =>
  (forC (S := (List (List Bool))) (R := (List (List Bool))) (fun k894 s892 =>
  (iter (S := Int × (List (List Bool))) (R := (List (List Bool))) (fun s965 =>
  ((bif (decide (s965.1 < (p.length : Int))) then (idx p k669).bind fun x978 =>
  (idx p k894).bind fun x980 =>
  some (x978 == x980) else some false)).bind fun s973 =>
  (bif s973 then (idx s965.2 k669).bind fun x984 =>
  (idx s965.2 k669).bind fun x988 =>
  (idx x988 s965.1).bind fun x992 =>
  (bif x992 then (idx x984 s965.1).bind fun x995 =>
  some (.nx (w64 (s965.1 + 1), List.set s965.2 (Int.toNat k669) (List.set x984 (Int.toNat s965.1) true))) else (idx q k894).bind fun x998 =>
  (idx q s965.1).bind fun x1000 =>
  (idx x984 s965.1).bind fun x1002 =>
  some (.nx (w64 (s965.1 + 1), List.set s965.2 (Int.toNat k669) (List.set x984 (Int.toNat s965.1) (x998 == x1000))))) else some (.br (s965.1, s965.2)))) FU (0, s892)).bind fun o969 => after o969 (fun r_ => some (.rt r_)) (fun s965 =>
  some (.nx s965.2))) 0 (p.length : Int) (List.set s667 (Int.toNat k669) y676)).bind fun o896 => after o896 (fun r_ => some (.rt r_)) (fun s892 =>
  some (.nx s892))) 0 (y4.length : Int) y4).bind fun o671 => after o671 (fun r_ => some r_) (fun s667 =>
  some s667)
set_option maxHeartbeats 4000000 in
theorem c_impl_productTable {M : Nat → Prop} {w : World} {pa0 : Option Addr} {pn0 pc0 : Nat} {pa1 : Option Addr} {pn1 pc1 : Nat} (p : List Int) (q : List Int) (h0 : (RT.rs (RT.int .i64)).val M w (.slice pa0 pn0 pc0) p ([])) (h1 : (RT.rs (RT.int .i64)).val M w (.slice pa1 pn1 pc1) q ([])) (hM : ∀ g, w.heap.size ≤ g → M g) {r : (List (List Bool))} (hs : s_impl_productTable p q = some r) :
    Gives Try.prog 130 [(.slice pa0 pn0 pc0), (.slice pa1 pn1 pc1)] w (fun v w' => ∃ (ra0 : Option Addr) (rn0 rc0 : Nat) (rf0 : List Nat), v = (.slice ra0 rn0 rc0) ∧ Chg [] w w' ∧ (RT.os 109 (RT.os 4 RT.bool)).val M w' (.slice ra0 rn0 rc0) r rf0 ∧ Own (Nw w []) (fun _ => True) w' (rf0 ++ ([]))) := by
 refine calls_fr Try.func130 rfl Try.ntmps130 (Nat.le_of_ble_eq_true rfl) ?_
 have hO := Own.start (N := Nw w []) hM Nw.fut
 have hC := Chg.refl [] w
 unfold s_impl_productTable at hs
 refine wp_mono (Q := KPost (k_impl_productTable M w r)) ?_ (fun e a w1 h => ?_)
 rotate_left
 ·cases e
  case ret =>
   obtain ⟨σ, ra0, rn0, rc0, rf0, rfl, hrest⟩ := h
   exact ret1x Try.results130 (res_tmp rfl) ⟨ra0, rn0, rc0, rf0, rfl, hrest⟩
  all_goals exact (h : False).elim
 refine c_seq (c_region ?_)
 refine pl_val (.slice none 0 0) (y_assign rfl) ?_
 refine c_nil ?_
 refine c_seq (c_region ?_)
 refine pl_val (.slice pa0 pn0 pc0) (y_move rfl) ?_
 refine pl_val (.int .i64 (p.length : Int)) (y_len' Sl22 (rs_len h0) rfl) ?_
 refine pl_val (.int .i64 (p.length : Int)) (y_assign rfl) ?_
 refine c_nil ?_
 refine c_seq (c_region ?_)
 refine pl_val (.int .i64 (p.length : Int)) (y_move rfl) ?_
 obtain ⟨y4, hy4, hs⟩ := bind_some hs
 obtain ⟨a3, n3, c3, w3, f3, hm3, hC3, hfr3, hv3⟩ := mk_os (M := M) (w := w) (r := (RT.os 4 RT.bool)) Rw107 hy4 (fun _ _ => (os_unval os_nil))
 refine pl_val (w' := w3) (.slice a3 n3 c3) (y_make rfl rfl hm3) ?_
 have h0 := h0.ext hC3
 have h1 := h1.ext hC3
 have hC := hC.ext hC3
 have hO := hO.new hC3 hfr3 (os_nodup hv3) hv3.fpl
 refine pl_val (.slice a3 n3 c3) (y_assign rfl) ?_
 refine c_nil ?_
 refine c_seq ?_
 refine c_seq (c_region ?_)
 refine pl_val (.slice a3 n3 c3) (y_move rfl) ?_
 refine pl_val (.int .i64 (y4.length : Int)) (y_len' Sl107 (os_len hv3) rfl) ?_
 refine pl_val (.int .i64 0) (y_move rfl) ?_
 refine c_nil ?_
 obtain ⟨o671, hl672, hs⟩ := bind_some hs
 refine wp_block ?_
 refine wp_forC (id := 0) (y4.length : Int) (I := fun k669 s667 a w668 => ∃ (σ : Nat → Value) (f673 : List Nat), a = fr 71 (ovl σ [(0, (.slice pa0 pn0 pc0)), (1, (.slice pa1 pn1 pc1)), (5, (.int .i64 (p.length : Int))), (6, (.slice a3 n3 c3)), (15, (.int .i64 (y4.length : Int))), (16, (.int .i64 k669))]) ∧ Chg [] w w668 ∧ Own (Nw w []) M w668 (f673 ++ []) ∧ (RT.rs (RT.int .i64)).val M w668 (.slice pa0 pn0 pc0) p ([]) ∧ (RT.rs (RT.int .i64)).val M w668 (.slice pa1 pn1 pc1) q ([]) ∧ (RT.os 109 (RT.os 4 RT.bool)).val M w668 (.slice a3 n3 c3) s667 f673) (J := fun s667 a w668 => ∃ (σ : Nat → Value) (f674 : List Nat), a = fr 71 (ovl σ [(6, (.slice a3 n3 c3))]) ∧ Chg [] w w668 ∧ Own (Nw w []) M w668 (f674 ++ []) ∧ (RT.rs (RT.int .i64)).val M w668 (.slice pa0 pn0 pc0) p ([]) ∧ (RT.rs (RT.int .i64)).val M w668 (.slice pa1 pn1 pc1) q ([]) ∧ (RT.os 109 (RT.os 4 RT.bool)).val M w668 (.slice a3 n3 c3) s667 f674) (K := (k_impl_productTable M w)) ?_ ?_ 0 y4 o671 _ _ ?_ hl672 ?_
 ·rintro k669 s667 a w668 ⟨σ, f673, rfl, hC, hO, h0, h1, hv673⟩ hlt
  refine c_seq (c_region ?_)
  refine pl_val (.bool (decide (k669 < (y4.length : Int)))) (y_lss rfl rfl) ?_
  refine c_nil ?_
  refine c_seq ?_
  refine c_condF (congrArg Value.bool (decide_eq_false hlt)) ?_
  refine wp_exit ?_
  exact ⟨rfl, _, f673, fr_ovl 71 ⟨rfl, trivial⟩, hC, hO, h0, h1, hv673⟩
 ·rintro k669 s667 o671 a w668 ⟨σ, f673, rfl, hC, hO, h0, h1, hv673⟩ hlt hw hs
  refine c_seq (c_region ?_)
  refine pl_val (.bool (decide (k669 < (y4.length : Int)))) (y_lss rfl rfl) ?_
  refine c_nil ?_
  refine c_seq ?_
  refine c_condT (congrArg Value.bool (decide_eq_true hlt)) ?_
  refine wp_skip ?_
  refine c_seq ?_
  refine wp_block ?_
  refine c_seq (c_region ?_)
  refine pl_val (.int .i64 k669) (y_move rfl) ?_
  refine pl_val (.int .i64 k669) (y_assign rfl) ?_
  refine c_nil ?_
  refine c_seq (c_region ?_)
  refine pl_val (.slice a3 n3 c3) (y_move rfl) ?_
  refine pl_val (.int .i64 k669) (y_move rfl) ?_
  refine pl_val (.int .i64 (p.length : Int)) (y_move rfl) ?_
  obtain ⟨y676, hy676, hs⟩ := bind_some hs
  obtain ⟨a675, n675, c675, w675, f675, hm675, hC675, hfr675, hv675⟩ := mk_os (M := M) (w := w668) (r := RT.bool) Rw109 hy676 (fun _ _ => ⟨rfl, rfl⟩)
  refine pl_val (w' := w675) (.slice a675 n675 c675) (y_make rfl rfl hm675) ?_
  have h0 := h0.ext hC675
  have h1 := h1.ext hC675
  have hv673 := hv673.ext hC675
  have hC := hC.ext hC675
  have hO := hO.new hC675 hfr675 (os_nodup hv675) hv675.fpl
  obtain ⟨x678, hx678, hs⟩ := bind_some hs
  obtain ⟨g679, f679, hg679, hk679, hp679, ha679, hf679⟩ := os_idx Sl107 Sz109 hv673 hx678
  have hb679 := own_row (Frz.os Frz.bool) ha679 hf679
  refine pl_val (.pointer (some ⟨g679, 0 + Int.toNat k669 * 1, none⟩)) (hp679 _ _ _ _ _ _ _ _ _ rfl rfl) ?_
  have hO := hO.fr1
  obtain ⟨w680, f680, hst680, hC680, hf680, hv680⟩ := os_store (P := Try.prog) (c' := [(.slice a675 n675 c675)]) hg679 hv673 hk679 (fun g hg => hO.inM g (os_block hv673 g (by simpa using hg))) (os_unval hv675) (hO.drop.perm (R := f675 ++ ([])) (by simp)).nd (fun g hg hq => hO.apart g hq (by simp only [List.mem_append, List.not_mem_nil, false_or, or_false] at hg ⊢; simp [hg])) (fun _ h => .inl h)
  have hG680 : ∀ q ∈ [g679], q ∈ f673 := fun q hq => os_block hv673 q (by rw [hg679]; exact hq)
  refine pl_skip (w' := w680) (ys_store rfl rfl (hst680 _ _ rfl Sz109)) ?_
  have hO := hO.fr1
  have hO := hO.fr1
  have h0 := h0.mut hC680 (fun g hg => hO.inM g (hG680 g hg)) (fun _ _ h => nomatch h)
  have h1 := h1.mut hC680 (fun g hg => hO.inM g (hG680 g hg)) (fun _ _ h => nomatch h)
  have hC := hC.step hC680 (fun g hg => hO.inN g (hG680 g hg))
  have hO := hO.perm (R := f673 ++ (f675 ++ ([]))) (by simp)
  have hO := hO.eat hC680 (fun q hq => (hf680 q hq).elim .inl (fun h => .inr (.inl h))) (os_nodup hv680) hv680.fpl
  refine c_nil ?_
  refine c_seq (c_region ?_)
  refine pl_val (.int .i64 0) (y_assign rfl) ?_
  refine c_nil ?_
  obtain ⟨o896, hl897, hs⟩ := bind_some hs
  refine wp_block ?_
  refine wp_forC (id := 2) (p.length : Int) (I := fun k894 s892 a w893 => ∃ (σ : Nat → Value) (f898 : List Nat), a = fr 71 (ovl σ [(0, (.slice pa0 pn0 pc0)), (1, (.slice pa1 pn1 pc1)), (5, (.int .i64 (p.length : Int))), (6, (.slice a3 n3 c3)), (7, (.int .i64 k669)), (8, (.int .i64 k894)), (15, (.int .i64 (y4.length : Int))), (16, (.int .i64 k669))]) ∧ Chg [] w w893 ∧ Own (Nw w []) M w893 (f898 ++ []) ∧ (RT.rs (RT.int .i64)).val M w893 (.slice pa0 pn0 pc0) p ([]) ∧ (RT.rs (RT.int .i64)).val M w893 (.slice pa1 pn1 pc1) q ([]) ∧ (RT.os 109 (RT.os 4 RT.bool)).val M w893 (.slice a3 n3 c3) s892 f898) (J := fun s892 a w893 => ∃ (σ : Nat → Value) (f899 : List Nat), a = fr 71 (ovl σ [(0, (.slice pa0 pn0 pc0)), (1, (.slice pa1 pn1 pc1)), (5, (.int .i64 (p.length : Int))), (6, (.slice a3 n3 c3)), (15, (.int .i64 (y4.length : Int))), (16, (.int .i64 k669))]) ∧ Chg [] w w893 ∧ Own (Nw w []) M w893 (f899 ++ []) ∧ (RT.rs (RT.int .i64)).val M w893 (.slice pa0 pn0 pc0) p ([]) ∧ (RT.rs (RT.int .i64)).val M w893 (.slice pa1 pn1 pc1) q ([]) ∧ (RT.os 109 (RT.os 4 RT.bool)).val M w893 (.slice a3 n3 c3) s892 f899) (K := (k_impl_productTable M w)) ?_ ?_ 0 (List.set s667 (Int.toNat k669) y676) o896 _ _ ?_ hl897 ?_
  ·rintro k894 s892 a w893 ⟨σ, f898, rfl, hC, hO, h0, h1, hv898⟩ hlt
   refine c_seq ?_
   refine c_seq (c_region ?_)
   refine pl_val (.int .i64 k894) (y_move rfl) ?_
   refine pl_val (.int .i64 (p.length : Int)) (y_move rfl) ?_
   refine pl_val (.bool (decide (k894 < (p.length : Int)))) (y_lss rfl rfl) ?_
   refine c_nil ?_
   refine c_condF (congrArg Value.bool (decide_eq_false hlt)) ?_
   refine wp_exit ?_
   exact ⟨rfl, _, f898, fr_ovl 71 ⟨rfl, rfl, rfl, rfl, rfl, rfl, trivial⟩, hC, hO, h0, h1, hv898⟩
  ·rintro k894 s892 o896 a w893 ⟨σ, f898, rfl, hC, hO, h0, h1, hv898⟩ hlt hw hs
   refine c_seq ?_
   refine c_seq (c_region ?_)
   refine pl_val (.int .i64 k894) (y_move rfl) ?_
   refine pl_val (.int .i64 (p.length : Int)) (y_move rfl) ?_
   refine pl_val (.bool (decide (k894 < (p.length : Int)))) (y_lss rfl rfl) ?_
   refine c_nil ?_
   refine c_condT (congrArg Value.bool (decide_eq_true hlt)) ?_
   refine wp_skip ?_
   refine c_seq ?_
   refine wp_block ?_
   refine c_seq (c_region ?_)
   refine pl_val (.int .i64 0) (y_assign rfl) ?_
   refine c_nil ?_
   obtain ⟨o969, hl970, hs⟩ := bind_some hs
   refine wp_block ?_
   refine wp_iter (id := 4) (I := fun s965 a w966 => ∃ (σ : Nat → Value) (f971 : List Nat), a = fr 71 (ovl σ [(0, (.slice pa0 pn0 pc0)), (1, (.slice pa1 pn1 pc1)), (5, (.int .i64 (p.length : Int))), (6, (.slice a3 n3 c3)), (7, (.int .i64 k669)), (8, (.int .i64 k894)), (9, (.int .i64 s965.1)), (15, (.int .i64 (y4.length : Int))), (16, (.int .i64 k669))]) ∧ Chg [] w w966 ∧ Own (Nw w []) M w966 (f971 ++ []) ∧ (RT.rs (RT.int .i64)).val M w966 (.slice pa0 pn0 pc0) p ([]) ∧ (RT.rs (RT.int .i64)).val M w966 (.slice pa1 pn1 pc1) q ([]) ∧ (RT.os 109 (RT.os 4 RT.bool)).val M w966 (.slice a3 n3 c3) s965.2 f971) (J := fun s965 a w966 => ∃ (σ : Nat → Value) (f972 : List Nat), a = fr 71 (ovl σ [(0, (.slice pa0 pn0 pc0)), (1, (.slice pa1 pn1 pc1)), (5, (.int .i64 (p.length : Int))), (6, (.slice a3 n3 c3)), (7, (.int .i64 k669)), (8, (.int .i64 k894)), (15, (.int .i64 (y4.length : Int))), (16, (.int .i64 k669))]) ∧ Chg [] w w966 ∧ Own (Nw w []) M w966 (f972 ++ []) ∧ (RT.rs (RT.int .i64)).val M w966 (.slice pa0 pn0 pc0) p ([]) ∧ (RT.rs (RT.int .i64)).val M w966 (.slice pa1 pn1 pc1) q ([]) ∧ (RT.os 109 (RT.os 4 RT.bool)).val M w966 (.slice a3 n3 c3) s965.2 f972) (K := (k_impl_productTable M w)) ?_ FU (0, s892) o969 _ _ ?_ hl970 ?_
   ·rintro s965 o969 a w966 ⟨σ, f971, rfl, hC, hO, h0, h1, hv971⟩ hs
    refine c_seq ?_
    refine c_seq ?_
    obtain ⟨s973, hm975, hs⟩ := bind_some hs
    refine c_mid (I := fun a w974 => ∃ (σ : Nat → Value), a = fr 71 (ovl σ [(0, (.slice pa0 pn0 pc0)), (1, (.slice pa1 pn1 pc1)), (5, (.int .i64 (p.length : Int))), (6, (.slice a3 n3 c3)), (7, (.int .i64 k669)), (8, (.int .i64 k894)), (9, (.int .i64 s965.1)), (15, (.int .i64 (y4.length : Int))), (16, (.int .i64 k669)), (42, (.bool s973))]) ∧ Chg [] w966 w974) ?_ ?_
    ·replace hs := hm975
     have hMid := Chg.refl [] w966
     refine x_start [] Mx rfl ?_
     have hCw976 := Chg.drew w966
     generalize World.drew w966 = w976 at hCw976 ⊢
     have h0 := h0.ext hCw976
     have h1 := h1.ext hCw976
     have hv971 := hv971.ext hCw976
     have hMid := hMid.ext hCw976
     have hC := hC.ext hCw976
     have hO := hO.ext hCw976
     have hS := Chg.refl [] w976
     refine x_p 0 (.int .i64 s965.1) rfl (by kernel_rfl)  (fun _ => y_move rfl) (fun _ => hS) ?_
     refine x_p 1 (.int .i64 (p.length : Int)) rfl (by kernel_rfl)  (fun _ => y_move rfl) (fun _ => hS) ?_
     refine x_p 2 (.bool (decide (s965.1 < (p.length : Int)))) rfl (by kernel_rfl)  (fun _ => y_lss rfl rfl) (fun _ => hS) ?_
     refine x_p 3 (.bool (decide (s965.1 < (p.length : Int)))) rfl (by kernel_rfl)  (fun _ => y_move rfl) (fun _ => hS) ?_
     rcases bif_some hs with ⟨hc977, hs⟩ | ⟨hc977, hs⟩
     ·skip
      refine x_py 4 (.slice pa0 pn0 pc0) rfl (by kernel_rfl) (tg := 32) (by kernel_rfl) (congrArg Value.bool hc977) (fun _ => y_move rfl) (fun _ => hS) ?_
      refine x_py 5 (.int .i64 k669) rfl (by kernel_rfl) (tg := 32) (by kernel_rfl) (congrArg Value.bool hc977) (fun _ => y_move rfl) (fun _ => hS) ?_
      obtain ⟨x978, hx978, hs⟩ := bind_some hs
      obtain ⟨b979, o979, hp979, ha979⟩ := rs_idx Sl22 Sz3 h0 hx978
      refine x_py 6 (.pointer (some ⟨b979, o979, none⟩)) rfl (by kernel_rfl) (tg := 32) (by kernel_rfl) (congrArg Value.bool hc977) (fun _ => hp979 _ _ _ _ _ _ _ _ _ rfl rfl) (fun _ => hS) ?_
      refine x_ly 7 (.int .i64 x978) rfl (by kernel_rfl) (tg := 32) (by kernel_rfl) (congrArg Value.bool hc977) (fun w' hw' => y_load rfl ((at_load_int Ag3 Sz3 ha979) w' hw')) hS ?_
      refine x_py 8 (.slice pa0 pn0 pc0) rfl (by kernel_rfl) (tg := 32) (by kernel_rfl) (congrArg Value.bool hc977) (fun _ => y_move rfl) (fun _ => hS) ?_
      refine x_py 9 (.int .i64 k894) rfl (by kernel_rfl) (tg := 32) (by kernel_rfl) (congrArg Value.bool hc977) (fun _ => y_move rfl) (fun _ => hS) ?_
      obtain ⟨x980, hx980, hs⟩ := bind_some hs
      obtain ⟨b981, o981, hp981, ha981⟩ := rs_idx Sl22 Sz3 h0 hx980
      refine x_py 10 (.pointer (some ⟨b981, o981, none⟩)) rfl (by kernel_rfl) (tg := 32) (by kernel_rfl) (congrArg Value.bool hc977) (fun _ => hp981 _ _ _ _ _ _ _ _ _ rfl rfl) (fun _ => hS) ?_
      refine x_ly 11 (.int .i64 x980) rfl (by kernel_rfl) (tg := 32) (by kernel_rfl) (congrArg Value.bool hc977) (fun w' hw' => y_load rfl ((at_load_int Ag3 Sz3 ha981) w' hw')) hS ?_
      refine x_py 12 (.bool (x978 == x980)) rfl (by kernel_rfl) (tg := 32) (by kernel_rfl) (congrArg Value.bool hc977) (fun _ => y_eql rfl rfl) (fun _ => hS) ?_
      refine x_p 13 (.bool (x978 == x980)) rfl (by kernel_rfl)  (fun _ => y_pick_t (congrArg Value.bool hc977) rfl) (fun _ => hS) ?_
      refine x_end (by kernel_rfl) ?_
      clear hS
      cases hs
      exact ⟨_, fr_ovl 71 ⟨rfl, rfl, rfl, rfl, rfl, rfl, rfl, rfl, rfl, rfl, trivial⟩, hMid⟩
     ·skip
      refine x_pn 4 rfl (by kernel_rfl) (tg := 32) (by kernel_rfl) (congrArg Value.bool hc977) (fun _ => hS) ?_
      refine x_pn 5 rfl (by kernel_rfl) (tg := 32) (by kernel_rfl) (congrArg Value.bool hc977) (fun _ => hS) ?_
      refine x_pn 6 rfl (by kernel_rfl) (tg := 32) (by kernel_rfl) (congrArg Value.bool hc977) (fun _ => hS) ?_
      refine x_pn 7 rfl (by kernel_rfl) (tg := 32) (by kernel_rfl) (congrArg Value.bool hc977) (fun _ => hS) ?_
      refine x_pn 8 rfl (by kernel_rfl) (tg := 32) (by kernel_rfl) (congrArg Value.bool hc977) (fun _ => hS) ?_
      refine x_pn 9 rfl (by kernel_rfl) (tg := 32) (by kernel_rfl) (congrArg Value.bool hc977) (fun _ => hS) ?_
      refine x_pn 10 rfl (by kernel_rfl) (tg := 32) (by kernel_rfl) (congrArg Value.bool hc977) (fun _ => hS) ?_
      refine x_pn 11 rfl (by kernel_rfl) (tg := 32) (by kernel_rfl) (congrArg Value.bool hc977) (fun _ => hS) ?_
      refine x_pn 12 rfl (by kernel_rfl) (tg := 32) (by kernel_rfl) (congrArg Value.bool hc977) (fun _ => hS) ?_
      refine x_p 13 (.bool false) rfl (by kernel_rfl)  (fun _ => y_pick_f (congrArg Value.bool hc977) rfl) (fun _ => hS) ?_
      refine x_end (by kernel_rfl) ?_
      clear hS
      cases hs
      exact ⟨_, fr_ovl 71 ⟨rfl, rfl, rfl, rfl, rfl, rfl, rfl, rfl, rfl, rfl, trivial⟩, hMid⟩
    ·rintro a1 w974 ⟨σ, rfl, hCs973⟩
     have h0 := h0.ext hCs973
     have h1 := h1.ext hCs973
     have hv971 := hv971.ext hCs973
     have hC := hC.ext hCs973
     have hO := hO.ext hCs973
     rcases bif_some hs with ⟨hc982, hs⟩ | ⟨hc982, hs⟩
     ·skip
      refine c_condT (congrArg Value.bool hc982) ?_
      refine wp_skip ?_
      refine c_seq ?_
      refine wp_block ?_
      refine x_start [24] Mx rfl ?_
      have hCw983 := Chg.drew w974
      generalize World.drew w974 = w983 at hCw983 ⊢
      have h0 := h0.ext hCw983
      have h1 := h1.ext hCw983
      have hv971 := hv971.ext hCw983
      have hC := hC.ext hCw983
      have hO := hO.ext hCw983
      have hS := Chg.refl [] w983
      refine x_p 0 (.slice a3 n3 c3) rfl (by kernel_rfl)  (fun _ => y_move rfl) (fun _ => hS) ?_
      refine x_p 1 (.int .i64 k669) rfl (by kernel_rfl)  (fun _ => y_move rfl) (fun _ => hS) ?_
      obtain ⟨x984, hx984, hs⟩ := bind_some hs
      obtain ⟨g985, f985, hg985, hk985, hp985, ha985, hf985⟩ := os_idx Sl107 Sz109 hv971 hx984
      have hb985 := own_row (Frz.os Frz.bool) ha985 hf985
      refine x_p 2 (.pointer (some ⟨g985, 0 + Int.toNat k669 * 1, none⟩)) rfl (by kernel_rfl)  (fun _ => hp985 _ _ _ _ _ _ _ _ _ rfl rfl) (fun _ => hS) ?_
      obtain ⟨v986, hl986, hrow986, hv986⟩ := at_load1 Ag109 Sz109 rfl rfl hb985
      obtain ⟨a986, n986, c986, rfl⟩ := rs_sl hv986
      refine x_l 3 (.slice a986 n986 c986) rfl (by kernel_rfl)  (fun w' hw' => y_load rfl (hl986 w' hw')) hS ?_
      refine x_p 4 (.int .i64 s965.1) rfl (by kernel_rfl)  (fun _ => y_move rfl) (fun _ => hS) ?_
      refine x_p 5 (.slice a3 n3 c3) rfl (by kernel_rfl)  (fun _ => y_move rfl) (fun _ => hS) ?_
      refine x_p 6 (.int .i64 k669) rfl (by kernel_rfl)  (fun _ => y_move rfl) (fun _ => hS) ?_
      obtain ⟨x988, hx988, hs⟩ := bind_some hs
      obtain ⟨g989, f989, hg989, hk989, hp989, ha989, hf989⟩ := os_idx Sl107 Sz109 hv971 hx988
      have hb989 := own_row (Frz.os Frz.bool) ha989 hf989
      refine x_p 7 (.pointer (some ⟨g989, 0 + Int.toNat k669 * 1, none⟩)) rfl (by kernel_rfl)  (fun _ => hp989 _ _ _ _ _ _ _ _ _ rfl rfl) (fun _ => hS) ?_
      obtain ⟨v990, hl990, hrow990, hv990⟩ := at_load1 Ag109 Sz109 rfl rfl hb989
      obtain ⟨a990, n990, c990, rfl⟩ := rs_sl hv990
      refine x_l 8 (.slice a990 n990 c990) rfl (by kernel_rfl)  (fun w' hw' => y_load rfl (hl990 w' hw')) hS ?_
      refine x_p 9 (.int .i64 s965.1) rfl (by kernel_rfl)  (fun _ => y_move rfl) (fun _ => hS) ?_
      obtain ⟨x992, hx992, hs⟩ := bind_some hs
      obtain ⟨fr993, hrr993, hfr993, _, _⟩ := os_put hg989 hv971 hx988 hrow990 rfl hO.inM
      obtain ⟨g993, f993, hg993, hk993, hp993, ha993, hf993⟩ := os_idx Sl109 Sz4 (show (RT.os 4 RT.bool).val M w983 (.slice a990 n990 c990) _ fr993 from ⟨[_], rfl, hrr993⟩) hx992
      refine x_p 10 (.pointer (some ⟨g993, 0 + Int.toNat s965.1 * 1, none⟩)) rfl (by kernel_rfl)  (fun _ => hp993 _ _ _ _ _ _ _ _ _ rfl rfl) (fun _ => hS) ?_
      refine x_l 11 (.bool x992) rfl (by kernel_rfl)  (fun w' hw' => y_load rfl ((at_load_bool Ag4 Sz4 ha993) w' hw')) hS ?_
      refine x_p 12 (.bool x992) rfl (by kernel_rfl)  (fun _ => y_move rfl) (fun _ => hS) ?_
      rcases bif_some hs with ⟨hc994, hs⟩ | ⟨hc994, hs⟩
      ·skip
       refine x_pn 13 rfl (by kernel_rfl) (tg := 57) (by kernel_rfl) (congrArg Value.bool hc994) (fun _ => hS) ?_
       refine x_pn 14 rfl (by kernel_rfl) (tg := 57) (by kernel_rfl) (congrArg Value.bool hc994) (fun _ => hS) ?_
       refine x_pn 15 rfl (by kernel_rfl) (tg := 57) (by kernel_rfl) (congrArg Value.bool hc994) (fun _ => hS) ?_
       refine x_pn 16 rfl (by kernel_rfl) (tg := 57) (by kernel_rfl) (congrArg Value.bool hc994) (fun _ => hS) ?_
       refine x_pn 17 rfl (by kernel_rfl) (tg := 57) (by kernel_rfl) (congrArg Value.bool hc994) (fun _ => hS) ?_
       refine x_pn 18 rfl (by kernel_rfl) (tg := 57) (by kernel_rfl) (congrArg Value.bool hc994) (fun _ => hS) ?_
       refine x_pn 19 rfl (by kernel_rfl) (tg := 57) (by kernel_rfl) (congrArg Value.bool hc994) (fun _ => hS) ?_
       refine x_pn 20 rfl (by kernel_rfl) (tg := 57) (by kernel_rfl) (congrArg Value.bool hc994) (fun _ => hS) ?_
       refine x_pn 21 rfl (by kernel_rfl) (tg := 57) (by kernel_rfl) (congrArg Value.bool hc994) (fun _ => hS) ?_
       refine x_p 22 (.bool true) rfl (by kernel_rfl)  (fun _ => y_pick_t (congrArg Value.bool hc994) rfl) (fun _ => hS) ?_
       obtain ⟨x995, hx995, hs⟩ := bind_some hs
       obtain ⟨fr996, hrr996, hfr996, _, _⟩ := os_put hg985 hv971 hx984 hrow986 rfl hO.inM
       obtain ⟨g996, f996, hg996, hk996, hp996, ha996, hf996⟩ := os_idx Sl109 Sz4 (show (RT.os 4 RT.bool).val M w983 (.slice a986 n986 c986) _ fr996 from ⟨[_], rfl, hrr996⟩) hx995
       refine x_p 23 (.pointer (some ⟨g996, 0 + Int.toNat s965.1 * 1, none⟩)) rfl (by kernel_rfl)  (fun _ => hp996 _ _ _ _ _ _ _ _ _ rfl rfl) (fun _ => hS) ?_
       refine x_one (i := 24) (by kernel_rfl) ?_
       obtain ⟨w997, f997, hst997, hC997, hG997, hf997, hv997⟩ := os_store2 (P := Try.prog) (c' := [(.bool true)]) hg985 hv971 hx984 hrow986 hg996 hk996 hO.inM ⟨rfl, rfl⟩
       refine xk_skip (w' := w997) (b := true) rfl (ys_store rfl rfl (hst997 _ _ rfl Sz4)) rfl (fun h => nomatch h) ?_
       have h0 := h0.mut hC997 (fun g hg => hO.inM g (hG997 g hg)) (fun _ _ h => nomatch h)
       have h1 := h1.mut hC997 (fun g hg => hO.inM g (hG997 g hg)) (fun _ _ h => nomatch h)
       have hC := hC.step hC997 (fun g hg => hO.inN g (hG997 g hg))
       have hO := hO.grow hC997 hf997 (os_nodup hv997) hv997.fpl
       refine x_end (by kernel_rfl) ?_
       clear hS
       refine c_region ?_
       refine pl_val (.int .i64 s965.1) (y_move rfl) ?_
       refine pl_val (.int .i64 (w64 (s965.1 + 1))) (y_add rfl rfl) ?_
       refine pl_val (.int .i64 (w64 (s965.1 + 1))) (y_assign rfl) ?_
       refine c_nil ?_
       cases hs
       exact ⟨_, f997, fr_ovl 71 ⟨rfl, rfl, rfl, rfl, rfl, rfl, rfl, rfl, rfl, trivial⟩, hC, hO, h0, h1, hv997⟩
      ·skip
       refine x_py 13 (.slice pa1 pn1 pc1) rfl (by kernel_rfl) (tg := 57) (by kernel_rfl) (congrArg Value.bool hc994) (fun _ => y_move rfl) (fun _ => hS) ?_
       refine x_py 14 (.int .i64 k894) rfl (by kernel_rfl) (tg := 57) (by kernel_rfl) (congrArg Value.bool hc994) (fun _ => y_move rfl) (fun _ => hS) ?_
       obtain ⟨x998, hx998, hs⟩ := bind_some hs
       obtain ⟨b999, o999, hp999, ha999⟩ := rs_idx Sl22 Sz3 h1 hx998
       refine x_py 15 (.pointer (some ⟨b999, o999, none⟩)) rfl (by kernel_rfl) (tg := 57) (by kernel_rfl) (congrArg Value.bool hc994) (fun _ => hp999 _ _ _ _ _ _ _ _ _ rfl rfl) (fun _ => hS) ?_
       refine x_ly 16 (.int .i64 x998) rfl (by kernel_rfl) (tg := 57) (by kernel_rfl) (congrArg Value.bool hc994) (fun w' hw' => y_load rfl ((at_load_int Ag3 Sz3 ha999) w' hw')) hS ?_
       refine x_py 17 (.slice pa1 pn1 pc1) rfl (by kernel_rfl) (tg := 57) (by kernel_rfl) (congrArg Value.bool hc994) (fun _ => y_move rfl) (fun _ => hS) ?_
       refine x_py 18 (.int .i64 s965.1) rfl (by kernel_rfl) (tg := 57) (by kernel_rfl) (congrArg Value.bool hc994) (fun _ => y_move rfl) (fun _ => hS) ?_
       obtain ⟨x1000, hx1000, hs⟩ := bind_some hs
       obtain ⟨b1001, o1001, hp1001, ha1001⟩ := rs_idx Sl22 Sz3 h1 hx1000
       refine x_py 19 (.pointer (some ⟨b1001, o1001, none⟩)) rfl (by kernel_rfl) (tg := 57) (by kernel_rfl) (congrArg Value.bool hc994) (fun _ => hp1001 _ _ _ _ _ _ _ _ _ rfl rfl) (fun _ => hS) ?_
       refine x_ly 20 (.int .i64 x1000) rfl (by kernel_rfl) (tg := 57) (by kernel_rfl) (congrArg Value.bool hc994) (fun w' hw' => y_load rfl ((at_load_int Ag3 Sz3 ha1001) w' hw')) hS ?_
       refine x_py 21 (.bool (x998 == x1000)) rfl (by kernel_rfl) (tg := 57) (by kernel_rfl) (congrArg Value.bool hc994) (fun _ => y_eql rfl rfl) (fun _ => hS) ?_
       refine x_p 22 (.bool (x998 == x1000)) rfl (by kernel_rfl)  (fun _ => y_pick_f (congrArg Value.bool hc994) rfl) (fun _ => hS) ?_
       obtain ⟨x1002, hx1002, hs⟩ := bind_some hs
       obtain ⟨fr1003, hrr1003, hfr1003, _, _⟩ := os_put hg985 hv971 hx984 hrow986 rfl hO.inM
       obtain ⟨g1003, f1003, hg1003, hk1003, hp1003, ha1003, hf1003⟩ := os_idx Sl109 Sz4 (show (RT.os 4 RT.bool).val M w983 (.slice a986 n986 c986) _ fr1003 from ⟨[_], rfl, hrr1003⟩) hx1002
       refine x_p 23 (.pointer (some ⟨g1003, 0 + Int.toNat s965.1 * 1, none⟩)) rfl (by kernel_rfl)  (fun _ => hp1003 _ _ _ _ _ _ _ _ _ rfl rfl) (fun _ => hS) ?_
       refine x_one (i := 24) (by kernel_rfl) ?_
       obtain ⟨w1004, f1004, hst1004, hC1004, hG1004, hf1004, hv1004⟩ := os_store2 (P := Try.prog) (c' := [(.bool (x998 == x1000))]) hg985 hv971 hx984 hrow986 hg1003 hk1003 hO.inM ⟨rfl, rfl⟩
       refine xk_skip (w' := w1004) (b := true) rfl (ys_store rfl rfl (hst1004 _ _ rfl Sz4)) rfl (fun h => nomatch h) ?_
       have h0 := h0.mut hC1004 (fun g hg => hO.inM g (hG1004 g hg)) (fun _ _ h => nomatch h)
       have h1 := h1.mut hC1004 (fun g hg => hO.inM g (hG1004 g hg)) (fun _ _ h => nomatch h)
       have hC := hC.step hC1004 (fun g hg => hO.inN g (hG1004 g hg))
       have hO := hO.grow hC1004 hf1004 (os_nodup hv1004) hv1004.fpl
       refine x_end (by kernel_rfl) ?_
       clear hS
       refine c_region ?_
       refine pl_val (.int .i64 s965.1) (y_move rfl) ?_
       refine pl_val (.int .i64 (w64 (s965.1 + 1))) (y_add rfl rfl) ?_
       refine pl_val (.int .i64 (w64 (s965.1 + 1))) (y_assign rfl) ?_
       refine c_nil ?_
       cases hs
       exact ⟨_, f1004, fr_ovl 71 ⟨rfl, rfl, rfl, rfl, rfl, rfl, rfl, rfl, rfl, trivial⟩, hC, hO, h0, h1, hv1004⟩
     ·skip
      refine c_condF (congrArg Value.bool hc982) ?_
      refine wp_exit ?_
      cases hs
      exact ⟨rfl, _, f971, fr_ovl 71 ⟨rfl, rfl, rfl, rfl, rfl, rfl, rfl, rfl, trivial⟩, hC, hO, h0, h1, hv971⟩
   ·skip
    exact ⟨_, f898, fr_ovl 71 ⟨rfl, rfl, rfl, rfl, rfl, rfl, rfl, rfl, rfl, trivial⟩, hC, hO, h0, h1, hv898⟩
   ·cases o969 with
    | nx _ => exact True.intro
    | rt r_ =>
     have hs := after_rt hs
     intro a1 w1 hK
     cases hs
     exact hK
    | br s965 =>
     have hs := after_br hs
     rintro a1 w966 ⟨σ, f972, rfl, hC, hO, h0, h1, hv972⟩
     refine c_region ?_
     refine pl_val (.int .i64 k894) (y_move rfl) ?_
     refine pl_val (.int .i64 (w64 (k894 + 1))) (y_add rfl rfl) ?_
     refine pl_val (.int .i64 (w64 (k894 + 1))) (y_assign rfl) ?_
     refine c_nil ?_
     cases hs
     exact ⟨_, f972, fr_ovl 71 ⟨rfl, rfl, rfl, rfl, rfl, congrArg (Value.int .i64) hw, rfl, rfl, trivial⟩, hC, hO, h0, h1, hv972⟩
  ·skip
   exact ⟨_, f680, fr_ovl 71 ⟨rfl, rfl, rfl, rfl, rfl, rfl, rfl, rfl, trivial⟩, hC, hO, h0, h1, hv680⟩
  ·cases o896 with
   | nx _ => exact True.intro
   | rt r_ =>
    have hs := after_rt hs
    intro a1 w1 hK
    cases hs
    exact hK
   | br s892 =>
    have hs := after_br hs
    rintro a1 w893 ⟨σ, f899, rfl, hC, hO, h0, h1, hv899⟩
    refine c_region ?_
    refine pl_val (.int .i64 (w64 (k669 + 1))) (y_add rfl rfl) ?_
    refine pl_val (.int .i64 (w64 (k669 + 1))) (y_move rfl) ?_
    refine c_nil ?_
    cases hs
    exact ⟨_, f899, fr_ovl 71 ⟨rfl, rfl, rfl, rfl, rfl, congrArg (Value.int .i64) hw, trivial⟩, hC, hO, h0, h1, hv899⟩
 ·skip
  exact ⟨_, f3, fr_ovl 71 ⟨rfl, rfl, rfl, rfl, rfl, rfl, trivial⟩, hC, hO, h0, h1, hv3⟩
 ·cases o671 with
  | nx _ => exact True.intro
  | rt r_ =>
   have hs := after_rt hs
   intro a1 w1 hK
   cases hs
   exact hK
  | br s667 =>
   have hs := after_br hs
   rintro a1 w668 ⟨σ, f674, rfl, hC, hO, h0, h1, hv674⟩
   refine c_seq (c_region ?_)
   refine pl_val (.slice a3 n3 c3) (y_move rfl) ?_
   refine pl_val (.slice a3 n3 c3) (y_assign rfl) ?_
   refine c_nil ?_
   refine wp_ret ?_
   cases hs
   exact ⟨_, a3, n3, c3, f674, fr_ovl 71 ⟨rfl, trivial⟩, hC, hv674, hO.top⟩

theorem Bd130 : Bodied Try.prog 130 := bodied Try.func130 (by kernel_rfl) rfl

end Go.Proofs
