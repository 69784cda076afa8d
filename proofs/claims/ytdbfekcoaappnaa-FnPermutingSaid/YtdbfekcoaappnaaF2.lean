/- What functions of the program compute, as plain functions, and that a call gives just that. Conditions: those named in each theorem. -/
import Derived.Test.YtdbfekcoaappnaaF1
set_option linter.unusedVariables false
namespace Go.Proofs
open Go.G Go.RowKit
set_option maxRecDepth 100000

def k_sort_symMerge_func (M : Nat → Prop) (w0 : World) {α_ : Type} (I_ : World → List α_ → Prop) (G_ : List Nat) (r : (List α_)) (a : Act) (w : World) : Prop :=
  ∃ (σ : Nat → Value) , a = fr 177 (ovl σ []) ∧ Chg (G_ ++ ([])) w0 w ∧ I_ w r
def s_sort_symMerge_func {α_ : Type} : Nat → (α_ → α_ → Option Bool) → (List α_) → (Int) → (Int) → (Int) → Option ((List α_))
  | 0, _, _, _, _, _ => none
  | fu_ + 1, ls_, d_, a_, m, b =>
  (bif ((w64 (m - a_)) == 1) then (iter (S := Int × Int) (R := (List α_)) (fun s7 =>
  (bif (decide (s7.1 < s7.2)) then (lsx ls_ d_ (w64 (ishr .u64 (IntKind.u64.wrap (w64 (s7.1 + s7.2))) 1)) a_).bind fun r15 =>
  (bif r15 then some (.nx (w64 ((w64 (ishr .u64 (IntKind.u64.wrap (w64 (s7.1 + s7.2))) 1)) + 1), s7.2)) else some (.nx (s7.1, w64 (ishr .u64 (IntKind.u64.wrap (w64 (s7.1 + s7.2))) 1)))) else some (.br (s7.1, s7.2)))) FU (m, b)).bind fun o11 => after o11 (fun r_ => some r_) (fun s7 =>
  (forC (S := (List α_)) (R := (List α_)) (fun k24 s22 =>
  (swx s22 k24 (w64 (k24 + 1))).bind fun y31 =>
  some (.nx y31)) a_ (w64 (s7.1 - 1)) d_).bind fun o26 => after o26 (fun r_ => some r_) (fun s22 =>
  some s22)) else (bif ((w64 (b - m)) == 1) then (iter (S := Int × Int) (R := (List α_)) (fun s37 =>
  (bif (decide (s37.1 < s37.2)) then (lsx ls_ d_ m (w64 (ishr .u64 (IntKind.u64.wrap (w64 (s37.1 + s37.2))) 1))).bind fun r45 =>
  (bif (!r45) then some (.nx (w64 ((w64 (ishr .u64 (IntKind.u64.wrap (w64 (s37.1 + s37.2))) 1)) + 1), s37.2)) else some (.nx (s37.1, w64 (ishr .u64 (IntKind.u64.wrap (w64 (s37.1 + s37.2))) 1)))) else some (.br (s37.1, s37.2)))) FU (a_, m)).bind fun o41 => after o41 (fun r_ => some r_) (fun s37 =>
  (iter (S := Int × (List α_)) (R := (List α_)) (fun s54 =>
  (bif (decide (s37.1 < s54.1)) then (swx s54.2 s54.1 (w64 (s54.1 - 1))).bind fun y64 =>
  some (.nx (w64 (s54.1 - 1), y64)) else some (.br (s54.1, s54.2)))) FU (m, d_)).bind fun o58 => after o58 (fun r_ => some r_) (fun s54 =>
  some s54.2)) else (bif (decide ((w64 (ishr .u64 (IntKind.u64.wrap (w64 (a_ + b))) 1)) < m)) then some (w64 ((w64 ((w64 (ishr .u64 (IntKind.u64.wrap (w64 (a_ + b))) 1)) + m)) - b), w64 (ishr .u64 (IntKind.u64.wrap (w64 (a_ + b))) 1)) else some (a_, m)).bind fun s65 =>
  (iter (S := Int × Int) (R := (List α_)) (fun s73 =>
  (bif (decide (s73.1 < s73.2)) then (lsx ls_ d_ (w64 ((w64 ((w64 ((w64 (ishr .u64 (IntKind.u64.wrap (w64 (a_ + b))) 1)) + m)) - 1)) - (w64 (ishr .u64 (IntKind.u64.wrap (w64 (s73.1 + s73.2))) 1)))) (w64 (ishr .u64 (IntKind.u64.wrap (w64 (s73.1 + s73.2))) 1))).bind fun r81 =>
  (bif (!r81) then some (.nx (w64 ((w64 (ishr .u64 (IntKind.u64.wrap (w64 (s73.1 + s73.2))) 1)) + 1), s73.2)) else some (.nx (s73.1, w64 (ishr .u64 (IntKind.u64.wrap (w64 (s73.1 + s73.2))) 1)))) else some (.br (s73.1, s73.2)))) FU (s65.1, s65.2)).bind fun o77 => after o77 (fun r_ => some r_) (fun s73 =>
  (bif ((decide (s73.1 < m)) && (decide (m < (w64 ((w64 ((w64 (ishr .u64 (IntKind.u64.wrap (w64 (a_ + b))) 1)) + m)) - s73.1))))) then (s_sort_rotate_func ls_ d_ s73.1 m (w64 ((w64 ((w64 (ishr .u64 (IntKind.u64.wrap (w64 (a_ + b))) 1)) + m)) - s73.1))).bind fun r97 =>
  some r97 else some d_).bind fun s91 =>
  (bif ((decide (a_ < s73.1)) && (decide (s73.1 < (w64 (ishr .u64 (IntKind.u64.wrap (w64 (a_ + b))) 1))))) then (s_sort_symMerge_func fu_ ls_ s91 a_ s73.1 (w64 (ishr .u64 (IntKind.u64.wrap (w64 (a_ + b))) 1))).bind fun r112 =>
  some r112 else some s91).bind fun s106 =>
  (bif ((decide ((w64 (ishr .u64 (IntKind.u64.wrap (w64 (a_ + b))) 1)) < (w64 ((w64 ((w64 (ishr .u64 (IntKind.u64.wrap (w64 (a_ + b))) 1)) + m)) - s73.1)))) && (decide ((w64 ((w64 ((w64 (ishr .u64 (IntKind.u64.wrap (w64 (a_ + b))) 1)) + m)) - s73.1)) < b))) then (s_sort_symMerge_func fu_ ls_ s106 (w64 (ishr .u64 (IntKind.u64.wrap (w64 (a_ + b))) 1)) (w64 ((w64 ((w64 (ishr .u64 (IntKind.u64.wrap (w64 (a_ + b))) 1)) + m)) - s73.1)) b).bind fun r119 =>
  some r119 else some s106))))
set_option maxHeartbeats 4000000 in
theorem c_sort_symMerge_func : ∀ (fu_ : Nat) {M : Nat → Prop} {w : World} {α_ : Type} {n0_ : Nat} {I_ : World → List α_ → Prop} {G_ : List Nat} {g_ sf_ : Nat} {lb_ sb_ : Array Value} (ls_ : α_ → α_ → Option Bool) (d_ : List α_) (a_ : Int) (m : Int) (b : Int) (hN_ : n0_ ≤ w.heap.size) (hE_ : Env Try.prog n0_ I_ G_ ls_ g_ lb_ sf_ sb_) (hI_ : I_ w d_) (hI : Own (Nw w (G_ ++ ([]))) M w (G_ ++ ([]))) (hM : ∀ g, w.heap.size ≤ g → M g) {r : (List α_)} (hs : s_sort_symMerge_func fu_ ls_ d_ a_ m b = some r), Gives Try.prog 128 [(.agg #[(.func (.func g_) #[] lb_), (.func (.func sf_) #[] sb_)]), (.int .i64 a_), (.int .i64 m), (.int .i64 b)] w (fun v w' => v = (.tuple #[]) ∧ Chg (G_ ++ ([])) w w' ∧ I_ w' r) := by
 intro fu_
 induction fu_ with
 | zero => intro M w α_ n0_ I_ G_ g_ sf_ lb_ sb_ ls_ d_ a_ m b hN_ hE_ hI_ hI hM r hs; exact (nomatch hs)
 | succ fu_ c_ih =>
 intro M w α_ n0_ I_ G_ g_ sf_ lb_ sb_ ls_ d_ a_ m b hN_ hE_ hI_ hI hM r hs
 refine calls_fr Try.func128 rfl Try.ntmps128 (Nat.le_of_ble_eq_true rfl) ?_
 have hO := hI
 have hC := Chg.refl (G_ ++ ([])) w
 rw [s_sort_symMerge_func] at hs
 refine wp_mono (Q := KPostN (k_sort_symMerge_func M w I_ G_ r)) ?_ (fun e a b1 h => ?_)
 rotate_left
 ·cases e
  case ret =>
   obtain ⟨σ, rfl, hrest⟩ := h
   exact ret0x Try.results128  ⟨rfl, hrest⟩
  case normal =>
   obtain ⟨σ, rfl, hrest⟩ := h
   exact ret0n Try.results128  ⟨rfl, hrest⟩
  all_goals exact (h : False).elim
 refine c_sr ?_
 obtain ⟨b1, a1, e8, e3, c3, a0⟩ := new_block w [(.func (.func g_) #[] lb_), (.func (.func sf_) #[] sb_)] 115
 refine pl_val (w' := b1) (.pointer (some ⟨a1, 0, none⟩)) (y_box rfl (by rw [e8, e3]; kernel_rfl)) ?_
 have hI_ := hE_.ext hI_ c3 (fun _ h => nomatch h)
 have hC := hC.ext c3
 have hO := hO.new1 c3 e3 a0.lt
 refine c_nil ?_
 refine c_seq ?_
 refine c_sr ?_
 refine pl_val (.int .i64 m) (y_move rfl) ?_
 refine pl_val (.int .i64 a_) (y_move rfl) ?_
 refine pl_val (.int .i64 (w64 (m - a_))) (y_sub rfl rfl) ?_
 refine pl_val (.bool ((w64 (m - a_)) == 1)) (y_eql rfl rfl) ?_
 refine c_nil ?_
 rcases bif_some hs with ⟨c4, hs⟩ | ⟨c4, hs⟩
 ·refine c_condT (congrArg Value.bool c4) ?_
  refine c_sr ?_
  refine pl_val (.int .i64 m) (y_move rfl) ?_
  refine pl_val (.int .i64 m) (y_assign rfl) ?_
  refine c_nil ?_
  refine c_sr ?_
  refine pl_val (.int .i64 b) (y_move rfl) ?_
  refine pl_val (.int .i64 b) (y_assign rfl) ?_
  refine c_nil ?_
  refine c_seq ?_
  obtain ⟨o11, e9, hs⟩ := bind_some hs
  refine wp_block ?_
  refine wp_iter (id := 0) (I := fun s7 a a5 => ∃ (σ : Nat → Value), a = fr 177 (ovl σ [(1, (.int .i64 a_)), (2, (.int .i64 m)), (3, (.int .i64 b)), (4, (.pointer (some ⟨a1, 0, none⟩))), (8, (.int .i64 s7.1)), (9, (.int .i64 s7.2))]) ∧ Chg (G_ ++ ([])) w a5 ∧ Own (Nw w (G_ ++ ([]))) M a5 (([a1]) ++ (G_ ++ [])) ∧ I_ a5 d_ ∧ BoxV a5 a1 115 [(.func (.func g_) #[] lb_), (.func (.func sf_) #[] sb_)]) (J := fun s7 a a5 => ∃ (σ : Nat → Value), a = fr 177 (ovl σ [(1, (.int .i64 a_)), (2, (.int .i64 m)), (3, (.int .i64 b)), (4, (.pointer (some ⟨a1, 0, none⟩))), (8, (.int .i64 s7.1))]) ∧ Chg (G_ ++ ([])) w a5 ∧ Own (Nw w (G_ ++ ([]))) M a5 (([a1]) ++ (G_ ++ [])) ∧ I_ a5 d_ ∧ BoxV a5 a1 115 [(.func (.func g_) #[] lb_), (.func (.func sf_) #[] sb_)]) (K := (k_sort_symMerge_func M w I_ G_)) ?_ FU (m, b) o11 _ _ ?_ e9 ?_
  ·rintro s7 o11 a a5 ⟨σ, rfl, hC, hO, hI_, a0⟩ hs
   refine c_seq ?_
   refine c_sr ?_
   refine pl_val (.int .i64 s7.1) (y_move rfl) ?_
   refine pl_val (.int .i64 s7.2) (y_move rfl) ?_
   refine pl_val (.bool (decide (s7.1 < s7.2))) (y_lss rfl rfl) ?_
   refine c_nil ?_
   rcases bif_some hs with ⟨c5, hs⟩ | ⟨c5, hs⟩
   ·refine c_condT (congrArg Value.bool c5) ?_
    refine wp_skip ?_
    refine wp_block ?_
    refine c_sr ?_
    refine pl_val (.int .i64 s7.1) (y_move rfl) ?_
    refine pl_val (.int .i64 s7.2) (y_move rfl) ?_
    refine pl_val (.int .i64 (w64 (s7.1 + s7.2))) (y_add rfl rfl) ?_
    refine pl_val (.int .u64 (IntKind.u64.wrap (w64 (s7.1 + s7.2)))) (y_conv_int Try.underlying3 Try.underlying95 rfl) ?_
    refine pl_val (.int .u64 (ishr .u64 (IntKind.u64.wrap (w64 (s7.1 + s7.2))) 1)) (y_shr rfl rfl (by decide)) ?_
    refine pl_val (.int .i64 (w64 (ishr .u64 (IntKind.u64.wrap (w64 (s7.1 + s7.2))) 1))) (y_conv_int Try.underlying95 Try.underlying3 rfl) ?_
    refine pl_val (.int .i64 (w64 (ishr .u64 (IntKind.u64.wrap (w64 (s7.1 + s7.2))) 1))) (y_assign rfl) ?_
    refine c_nil ?_
    refine c_sr ?_
    refine pl_val (.pointer (some ⟨a1, 0, none⟩)) (y_faddr rfl Fa115x0) ?_
    refine pl_val (.func (.func g_) #[] lb_) (y_load rfl ((box_load Ag105 Sz105 a0 [] [(.func (.func g_) #[] lb_)] [(.func (.func sf_) #[] sb_)] rfl rfl (fun _ => rfl)) _ (Chg.refl _ _))) ?_
    refine pl_val (.int .i64 (w64 (ishr .u64 (IntKind.u64.wrap (w64 (s7.1 + s7.2))) 1))) (y_move rfl) ?_
    refine pl_val (.int .i64 a_) (y_move rfl) ?_
    obtain ⟨r15, f0, hs⟩ := bind_some hs
    refine pl_callb rfl hE_.bod rfl (hE_.less hI_ f0) ?_
    rintro _ h9 ⟨rfl, b5⟩
    have hI_ := hE_.ext hI_ b5 (fun _ h => nomatch h)
    have a0 := a0.cn b5
    have hC := hC.ext b5
    have hO := hO.ext b5
    refine c_nil ?_
    rcases bif_some hs with ⟨c6, hs⟩ | ⟨c6, hs⟩
    ·refine c_condT (congrArg Value.bool c6) ?_
     refine c_region ?_
     refine pl_val (.int .i64 (w64 (ishr .u64 (IntKind.u64.wrap (w64 (s7.1 + s7.2))) 1))) (y_move rfl) ?_
     refine pl_val (.int .i64 (w64 ((w64 (ishr .u64 (IntKind.u64.wrap (w64 (s7.1 + s7.2))) 1)) + 1))) (y_add rfl rfl) ?_
     refine pl_val (.int .i64 (w64 ((w64 (ishr .u64 (IntKind.u64.wrap (w64 (s7.1 + s7.2))) 1)) + 1))) (y_assign rfl) ?_
     refine c_nil ?_
     cases hs
     have hO := hO.fr1
     have hO := hO.fr1
     exact ⟨_, fr_ovl 177 ⟨rfl, rfl, rfl, rfl, rfl, rfl, trivial⟩, hC, hO, hI_, a0⟩
    refine c_condF (congrArg Value.bool c6) ?_
    refine c_region ?_
    refine pl_val (.int .i64 (w64 (ishr .u64 (IntKind.u64.wrap (w64 (s7.1 + s7.2))) 1))) (y_move rfl) ?_
    refine pl_val (.int .i64 (w64 (ishr .u64 (IntKind.u64.wrap (w64 (s7.1 + s7.2))) 1))) (y_assign rfl) ?_
    refine c_nil ?_
    cases hs
    have hO := hO.fr1
    have hO := hO.fr1
    exact ⟨_, fr_ovl 177 ⟨rfl, rfl, rfl, rfl, rfl, rfl, trivial⟩, hC, hO, hI_, a0⟩
   refine c_condF (congrArg Value.bool c5) ?_
   refine wp_exit ?_
   cases hs
   have hO := hO.fr1
   have hO := hO.fr1
   exact ⟨rfl, _, fr_ovl 177 ⟨rfl, rfl, rfl, rfl, rfl, trivial⟩, hC, hO, hI_, a0⟩
  ·skip
   have hO := hO.fr1
   have hO := hO.fr1
   exact ⟨_, fr_ovl 177 ⟨rfl, rfl, rfl, rfl, rfl, rfl, trivial⟩, hC, hO, hI_, a0⟩
  cases o11 with
  | nx _ => exact True.intro
  | rt r_ =>
   have hs := after_rt hs
   intro a2 b1 hK
   cases hs
   exact hK
  | br s7 =>
   have hs := after_br hs
   rintro a2 a5 ⟨σ, rfl, hC, hO, hI_, a0⟩
   refine c_seq ?_
   refine c_sr ?_
   refine pl_val (.int .i64 a_) (y_move rfl) ?_
   refine pl_val (.int .i64 a_) (y_assign rfl) ?_
   refine c_nil ?_
   obtain ⟨o26, f1, hs⟩ := bind_some hs
   refine wp_block ?_
   refine wp_forC (id := 2) (w64 (s7.1 - 1)) (I := fun k24 s22 a a4 => ∃ (σ : Nat → Value), a = fr 177 (ovl σ [(1, (.int .i64 a_)), (2, (.int .i64 m)), (3, (.int .i64 b)), (4, (.pointer (some ⟨a1, 0, none⟩))), (8, (.int .i64 s7.1)), (11, (.int .i64 k24))]) ∧ Chg (G_ ++ ([])) w a4 ∧ Own (Nw w (G_ ++ ([]))) M a4 (([a1]) ++ (G_ ++ [])) ∧ I_ a4 s22 ∧ BoxV a4 a1 115 [(.func (.func g_) #[] lb_), (.func (.func sf_) #[] sb_)]) (J := fun s22 a a4 => ∃ (σ : Nat → Value), a = fr 177 (ovl σ [(1, (.int .i64 a_)), (2, (.int .i64 m)), (3, (.int .i64 b)), (4, (.pointer (some ⟨a1, 0, none⟩)))]) ∧ Chg (G_ ++ ([])) w a4 ∧ Own (Nw w (G_ ++ ([]))) M a4 (([a1]) ++ (G_ ++ [])) ∧ I_ a4 s22 ∧ BoxV a4 a1 115 [(.func (.func g_) #[] lb_), (.func (.func sf_) #[] sb_)]) (K := (k_sort_symMerge_func M w I_ G_)) ?_ ?_ a_ d_ o26 _ _ ?_ f1 ?_
   ·rintro k24 s22 a a4 ⟨σ, rfl, hC, hO, c7, a0⟩ hlt
    refine c_seq ?_
    refine c_sr ?_
    refine pl_val (.int .i64 k24) (y_move rfl) ?_
    refine pl_val (.int .i64 s7.1) (y_move rfl) ?_
    refine pl_val (.int .i64 (w64 (s7.1 - 1))) (y_sub rfl rfl) ?_
    refine pl_val (.bool (decide (k24 < (w64 (s7.1 - 1))))) (y_lss rfl rfl) ?_
    refine c_nil ?_
    refine c_condF (congrArg Value.bool (decide_eq_false hlt)) ?_
    refine wp_exit ?_
    have hO := hO.fr1
    have hO := hO.fr1
    exact ⟨rfl, _, fr_ovl 177 ⟨rfl, rfl, rfl, rfl, trivial⟩, hC, hO, c7, a0⟩
   ·rintro k24 s22 o26 a a4 ⟨σ, rfl, hC, hO, c7, a0⟩ hlt hw hs
    refine c_seq ?_
    refine c_sr ?_
    refine pl_val (.int .i64 k24) (y_move rfl) ?_
    refine pl_val (.int .i64 s7.1) (y_move rfl) ?_
    refine pl_val (.int .i64 (w64 (s7.1 - 1))) (y_sub rfl rfl) ?_
    refine pl_val (.bool (decide (k24 < (w64 (s7.1 - 1))))) (y_lss rfl rfl) ?_
    refine c_nil ?_
    refine c_condT (congrArg Value.bool (decide_eq_true hlt)) ?_
    refine wp_skip ?_
    refine c_seq ?_
    refine wp_block ?_
    refine c_region ?_
    refine pl_val (.pointer (some ⟨a1, 1, none⟩)) (y_faddr rfl Fa115x1) ?_
    refine pl_val (.func (.func sf_) #[] sb_) (y_load rfl ((box_load Ag111 Sz111 a0 [(.func (.func g_) #[] lb_)] [(.func (.func sf_) #[] sb_)] [] rfl rfl (fun _ => rfl)) _ (Chg.refl _ _))) ?_
    refine pl_val (.int .i64 k24) (y_move rfl) ?_
    refine pl_val (.int .i64 k24) (y_move rfl) ?_
    refine pl_val (.int .i64 (w64 (k24 + 1))) (y_add rfl rfl) ?_
    obtain ⟨y31, f2, hs⟩ := bind_some hs
    obtain ⟨f3, f4, c8, f5⟩ := hE_.swap c7 f2
    refine pl_val (w' := f3) (.tuple #[]) (y_callx rfl rfl f4) ?_
    have hO := hO.fr1
    have a0 := a0.ap c8 hO same_ (mem_l (List.mem_singleton.2 rfl))
    have hC := hC.st c8 hO same_
    have hO := hO.ext c8
    refine c_nil ?_
    refine c_region ?_
    refine pl_val (.int .i64 k24) (y_move rfl) ?_
    refine pl_val (.int .i64 (w64 (k24 + 1))) (y_add rfl rfl) ?_
    refine pl_val (.int .i64 (w64 (k24 + 1))) (y_assign rfl) ?_
    refine c_nil ?_
    cases hs
    have hO := hO.fr1
    exact ⟨_, fr_ovl 177 ⟨rfl, rfl, rfl, rfl, rfl, congrArg (Value.int .i64) hw, trivial⟩, hC, hO, f5, a0⟩
   ·skip
    have hO := hO.fr1
    have hO := hO.fr1
    exact ⟨_, fr_ovl 177 ⟨rfl, rfl, rfl, rfl, rfl, rfl, trivial⟩, hC, hO, hI_, a0⟩
   cases o26 with
   | nx _ => exact True.intro
   | rt r_ =>
    have hs := after_rt hs
    intro a2 b1 hK
    cases hs
    exact hK
   | br s22 =>
    have hs := after_br hs
    rintro a2 a4 ⟨σ, rfl, hC, hO, f6, a0⟩
    refine wp_ret ?_
    cases hs
    exact ⟨_, fr_ovl 177 trivial, hC, f6⟩
 refine c_condF (congrArg Value.bool c4) ?_
 refine wp_skip ?_
 refine c_seq ?_
 refine c_sr ?_
 refine pl_val (.int .i64 b) (y_move rfl) ?_
 refine pl_val (.int .i64 m) (y_move rfl) ?_
 refine pl_val (.int .i64 (w64 (b - m))) (y_sub rfl rfl) ?_
 refine pl_val (.bool ((w64 (b - m)) == 1)) (y_eql rfl rfl) ?_
 refine c_nil ?_
 rcases bif_some hs with ⟨c9, hs⟩ | ⟨c9, hs⟩
 ·refine c_condT (congrArg Value.bool c9) ?_
  refine c_sr ?_
  refine pl_val (.int .i64 a_) (y_move rfl) ?_
  refine pl_val (.int .i64 a_) (y_assign rfl) ?_
  refine c_nil ?_
  refine c_sr ?_
  refine pl_val (.int .i64 m) (y_move rfl) ?_
  refine pl_val (.int .i64 m) (y_assign rfl) ?_
  refine c_nil ?_
  refine c_seq ?_
  obtain ⟨o41, f7, hs⟩ := bind_some hs
  refine wp_block ?_
  refine wp_iter (id := 4) (I := fun s37 a a6 => ∃ (σ : Nat → Value), a = fr 177 (ovl σ [(1, (.int .i64 a_)), (2, (.int .i64 m)), (3, (.int .i64 b)), (4, (.pointer (some ⟨a1, 0, none⟩))), (12, (.int .i64 s37.1)), (13, (.int .i64 s37.2))]) ∧ Chg (G_ ++ ([])) w a6 ∧ Own (Nw w (G_ ++ ([]))) M a6 (([a1]) ++ (G_ ++ [])) ∧ I_ a6 d_ ∧ BoxV a6 a1 115 [(.func (.func g_) #[] lb_), (.func (.func sf_) #[] sb_)]) (J := fun s37 a a6 => ∃ (σ : Nat → Value), a = fr 177 (ovl σ [(1, (.int .i64 a_)), (2, (.int .i64 m)), (3, (.int .i64 b)), (4, (.pointer (some ⟨a1, 0, none⟩))), (12, (.int .i64 s37.1))]) ∧ Chg (G_ ++ ([])) w a6 ∧ Own (Nw w (G_ ++ ([]))) M a6 (([a1]) ++ (G_ ++ [])) ∧ I_ a6 d_ ∧ BoxV a6 a1 115 [(.func (.func g_) #[] lb_), (.func (.func sf_) #[] sb_)]) (K := (k_sort_symMerge_func M w I_ G_)) ?_ FU (a_, m) o41 _ _ ?_ f7 ?_
  ·rintro s37 o41 a a6 ⟨σ, rfl, hC, hO, hI_, a0⟩ hs
   refine c_seq ?_
   refine c_sr ?_
   refine pl_val (.int .i64 s37.1) (y_move rfl) ?_
   refine pl_val (.int .i64 s37.2) (y_move rfl) ?_
   refine pl_val (.bool (decide (s37.1 < s37.2))) (y_lss rfl rfl) ?_
   refine c_nil ?_
   rcases bif_some hs with ⟨d0, hs⟩ | ⟨d0, hs⟩
   ·refine c_condT (congrArg Value.bool d0) ?_
    refine wp_skip ?_
    refine wp_block ?_
    refine c_sr ?_
    refine pl_val (.int .i64 s37.1) (y_move rfl) ?_
    refine pl_val (.int .i64 s37.2) (y_move rfl) ?_
    refine pl_val (.int .i64 (w64 (s37.1 + s37.2))) (y_add rfl rfl) ?_
    refine pl_val (.int .u64 (IntKind.u64.wrap (w64 (s37.1 + s37.2)))) (y_conv_int Try.underlying3 Try.underlying95 rfl) ?_
    refine pl_val (.int .u64 (ishr .u64 (IntKind.u64.wrap (w64 (s37.1 + s37.2))) 1)) (y_shr rfl rfl (by decide)) ?_
    refine pl_val (.int .i64 (w64 (ishr .u64 (IntKind.u64.wrap (w64 (s37.1 + s37.2))) 1))) (y_conv_int Try.underlying95 Try.underlying3 rfl) ?_
    refine pl_val (.int .i64 (w64 (ishr .u64 (IntKind.u64.wrap (w64 (s37.1 + s37.2))) 1))) (y_assign rfl) ?_
    refine c_nil ?_
    refine c_sr ?_
    refine pl_val (.pointer (some ⟨a1, 0, none⟩)) (y_faddr rfl Fa115x0) ?_
    refine pl_val (.func (.func g_) #[] lb_) (y_load rfl ((box_load Ag105 Sz105 a0 [] [(.func (.func g_) #[] lb_)] [(.func (.func sf_) #[] sb_)] rfl rfl (fun _ => rfl)) _ (Chg.refl _ _))) ?_
    refine pl_val (.int .i64 m) (y_move rfl) ?_
    refine pl_val (.int .i64 (w64 (ishr .u64 (IntKind.u64.wrap (w64 (s37.1 + s37.2))) 1))) (y_move rfl) ?_
    obtain ⟨r45, f8, hs⟩ := bind_some hs
    refine pl_callb rfl hE_.bod rfl (hE_.less hI_ f8) ?_
    rintro _ i0 ⟨rfl, b6⟩
    have hI_ := hE_.ext hI_ b6 (fun _ h => nomatch h)
    have a0 := a0.cn b6
    have hC := hC.ext b6
    have hO := hO.ext b6
    refine pl_val (.bool (!r45)) (y_not rfl) ?_
    refine c_nil ?_
    rcases bif_some hs with ⟨d1, hs⟩ | ⟨d1, hs⟩
    ·refine c_condT (congrArg Value.bool d1) ?_
     refine c_region ?_
     refine pl_val (.int .i64 (w64 (ishr .u64 (IntKind.u64.wrap (w64 (s37.1 + s37.2))) 1))) (y_move rfl) ?_
     refine pl_val (.int .i64 (w64 ((w64 (ishr .u64 (IntKind.u64.wrap (w64 (s37.1 + s37.2))) 1)) + 1))) (y_add rfl rfl) ?_
     refine pl_val (.int .i64 (w64 ((w64 (ishr .u64 (IntKind.u64.wrap (w64 (s37.1 + s37.2))) 1)) + 1))) (y_assign rfl) ?_
     refine c_nil ?_
     cases hs
     have hO := hO.fr1
     have hO := hO.fr1
     exact ⟨_, fr_ovl 177 ⟨rfl, rfl, rfl, rfl, rfl, rfl, trivial⟩, hC, hO, hI_, a0⟩
    refine c_condF (congrArg Value.bool d1) ?_
    refine c_region ?_
    refine pl_val (.int .i64 (w64 (ishr .u64 (IntKind.u64.wrap (w64 (s37.1 + s37.2))) 1))) (y_move rfl) ?_
    refine pl_val (.int .i64 (w64 (ishr .u64 (IntKind.u64.wrap (w64 (s37.1 + s37.2))) 1))) (y_assign rfl) ?_
    refine c_nil ?_
    cases hs
    have hO := hO.fr1
    have hO := hO.fr1
    exact ⟨_, fr_ovl 177 ⟨rfl, rfl, rfl, rfl, rfl, rfl, trivial⟩, hC, hO, hI_, a0⟩
   refine c_condF (congrArg Value.bool d0) ?_
   refine wp_exit ?_
   cases hs
   have hO := hO.fr1
   have hO := hO.fr1
   exact ⟨rfl, _, fr_ovl 177 ⟨rfl, rfl, rfl, rfl, rfl, trivial⟩, hC, hO, hI_, a0⟩
  ·skip
   have hO := hO.fr1
   have hO := hO.fr1
   exact ⟨_, fr_ovl 177 ⟨rfl, rfl, rfl, rfl, rfl, rfl, trivial⟩, hC, hO, hI_, a0⟩
  cases o41 with
  | nx _ => exact True.intro
  | rt r_ =>
   have hs := after_rt hs
   intro a2 b1 hK
   cases hs
   exact hK
  | br s37 =>
   have hs := after_br hs
   rintro a2 a6 ⟨σ, rfl, hC, hO, hI_, a0⟩
   refine c_seq ?_
   refine c_sr ?_
   refine pl_val (.int .i64 m) (y_move rfl) ?_
   refine pl_val (.int .i64 m) (y_assign rfl) ?_
   refine c_nil ?_
   obtain ⟨o58, f9, hs⟩ := bind_some hs
   refine wp_block ?_
   refine wp_iter (id := 6) (I := fun s54 a a7 => ∃ (σ : Nat → Value), a = fr 177 (ovl σ [(1, (.int .i64 a_)), (2, (.int .i64 m)), (3, (.int .i64 b)), (4, (.pointer (some ⟨a1, 0, none⟩))), (12, (.int .i64 s37.1)), (15, (.int .i64 s54.1))]) ∧ Chg (G_ ++ ([])) w a7 ∧ Own (Nw w (G_ ++ ([]))) M a7 (([a1]) ++ (G_ ++ [])) ∧ I_ a7 s54.2 ∧ BoxV a7 a1 115 [(.func (.func g_) #[] lb_), (.func (.func sf_) #[] sb_)]) (J := fun s54 a a7 => ∃ (σ : Nat → Value), a = fr 177 (ovl σ [(1, (.int .i64 a_)), (2, (.int .i64 m)), (3, (.int .i64 b)), (4, (.pointer (some ⟨a1, 0, none⟩)))]) ∧ Chg (G_ ++ ([])) w a7 ∧ Own (Nw w (G_ ++ ([]))) M a7 (([a1]) ++ (G_ ++ [])) ∧ I_ a7 s54.2 ∧ BoxV a7 a1 115 [(.func (.func g_) #[] lb_), (.func (.func sf_) #[] sb_)]) (K := (k_sort_symMerge_func M w I_ G_)) ?_ FU (m, d_) o58 _ _ ?_ f9 ?_
   ·rintro s54 o58 a a7 ⟨σ, rfl, hC, hO, e4, a0⟩ hs
    refine c_seq ?_
    refine c_sr ?_
    refine pl_val (.int .i64 s54.1) (y_move rfl) ?_
    refine pl_val (.int .i64 s37.1) (y_move rfl) ?_
    refine pl_val (.bool (decide (s37.1 < s54.1))) (y_gtr rfl rfl) ?_
    refine c_nil ?_
    rcases bif_some hs with ⟨d2, hs⟩ | ⟨d2, hs⟩
    ·refine c_condT (congrArg Value.bool d2) ?_
     refine wp_skip ?_
     refine c_seq ?_
     refine wp_block ?_
     refine c_region ?_
     refine pl_val (.pointer (some ⟨a1, 1, none⟩)) (y_faddr rfl Fa115x1) ?_
     refine pl_val (.func (.func sf_) #[] sb_) (y_load rfl ((box_load Ag111 Sz111 a0 [(.func (.func g_) #[] lb_)] [(.func (.func sf_) #[] sb_)] [] rfl rfl (fun _ => rfl)) _ (Chg.refl _ _))) ?_
     refine pl_val (.int .i64 s54.1) (y_move rfl) ?_
     refine pl_val (.int .i64 s54.1) (y_move rfl) ?_
     refine pl_val (.int .i64 (w64 (s54.1 - 1))) (y_sub rfl rfl) ?_
     obtain ⟨y64, g0, hs⟩ := bind_some hs
     obtain ⟨g1, g2, d3, g3⟩ := hE_.swap e4 g0
     refine pl_val (w' := g1) (.tuple #[]) (y_callx rfl rfl g2) ?_
     have hO := hO.fr1
     have a0 := a0.ap d3 hO same_ (mem_l (List.mem_singleton.2 rfl))
     have hC := hC.st d3 hO same_
     have hO := hO.ext d3
     refine c_nil ?_
     refine c_region ?_
     refine pl_val (.int .i64 s54.1) (y_move rfl) ?_
     refine pl_val (.int .i64 (w64 (s54.1 - 1))) (y_sub rfl rfl) ?_
     refine pl_val (.int .i64 (w64 (s54.1 - 1))) (y_assign rfl) ?_
     refine c_nil ?_
     cases hs
     have hO := hO.fr1
     exact ⟨_, fr_ovl 177 ⟨rfl, rfl, rfl, rfl, rfl, rfl, trivial⟩, hC, hO, g3, a0⟩
    refine c_condF (congrArg Value.bool d2) ?_
    refine wp_exit ?_
    cases hs
    have hO := hO.fr1
    have hO := hO.fr1
    exact ⟨rfl, _, fr_ovl 177 ⟨rfl, rfl, rfl, rfl, trivial⟩, hC, hO, e4, a0⟩
   ·skip
    have hO := hO.fr1
    have hO := hO.fr1
    exact ⟨_, fr_ovl 177 ⟨rfl, rfl, rfl, rfl, rfl, rfl, trivial⟩, hC, hO, hI_, a0⟩
   cases o58 with
   | nx _ => exact True.intro
   | rt r_ =>
    have hs := after_rt hs
    intro a2 b1 hK
    cases hs
    exact hK
   | br s54 =>
    have hs := after_br hs
    rintro a2 a7 ⟨σ, rfl, hC, hO, g4, a0⟩
    refine wp_ret ?_
    cases hs
    exact ⟨_, fr_ovl 177 trivial, hC, g4⟩
 refine c_condF (congrArg Value.bool c9) ?_
 refine wp_skip ?_
 refine c_sr ?_
 refine pl_val (.int .i64 a_) (y_move rfl) ?_
 refine pl_val (.int .i64 b) (y_move rfl) ?_
 refine pl_val (.int .i64 (w64 (a_ + b))) (y_add rfl rfl) ?_
 refine pl_val (.int .u64 (IntKind.u64.wrap (w64 (a_ + b)))) (y_conv_int Try.underlying3 Try.underlying95 rfl) ?_
 refine pl_val (.int .u64 (ishr .u64 (IntKind.u64.wrap (w64 (a_ + b))) 1)) (y_shr rfl rfl (by decide)) ?_
 refine pl_val (.int .i64 (w64 (ishr .u64 (IntKind.u64.wrap (w64 (a_ + b))) 1))) (y_conv_int Try.underlying95 Try.underlying3 rfl) ?_
 refine pl_val (.int .i64 (w64 (ishr .u64 (IntKind.u64.wrap (w64 (a_ + b))) 1))) (y_assign rfl) ?_
 refine c_nil ?_
 refine c_sr ?_
 refine pl_val (.int .i64 (w64 (ishr .u64 (IntKind.u64.wrap (w64 (a_ + b))) 1))) (y_move rfl) ?_
 refine pl_val (.int .i64 m) (y_move rfl) ?_
 refine pl_val (.int .i64 (w64 ((w64 (ishr .u64 (IntKind.u64.wrap (w64 (a_ + b))) 1)) + m))) (y_add rfl rfl) ?_
 refine pl_val (.int .i64 (w64 ((w64 (ishr .u64 (IntKind.u64.wrap (w64 (a_ + b))) 1)) + m))) (y_assign rfl) ?_
 refine c_nil ?_
 refine c_sr ?_
 refine pl_val (.int .i64 0) (y_assign rfl) ?_
 refine pl_val (.int .i64 0) (y_assign rfl) ?_
 refine c_nil ?_
 refine c_seq ?_
 refine c_sr ?_
 refine pl_val (.int .i64 m) (y_move rfl) ?_
 refine pl_val (.int .i64 (w64 (ishr .u64 (IntKind.u64.wrap (w64 (a_ + b))) 1))) (y_move rfl) ?_
 refine pl_val (.bool (decide ((w64 (ishr .u64 (IntKind.u64.wrap (w64 (a_ + b))) 1)) < m))) (y_gtr rfl rfl) ?_
 refine c_nil ?_
 obtain ⟨s65, g5, hs⟩ := bind_some hs
 refine c_mid (I := fun a b4 => ∃ (σ : Nat → Value), a = fr 177 (ovl σ [(1, (.int .i64 a_)), (2, (.int .i64 m)), (3, (.int .i64 b)), (4, (.pointer (some ⟨a1, 0, none⟩))), (16, (.int .i64 (w64 (ishr .u64 (IntKind.u64.wrap (w64 (a_ + b))) 1)))), (17, (.int .i64 (w64 ((w64 (ishr .u64 (IntKind.u64.wrap (w64 (a_ + b))) 1)) + m)))), (18, (.int .i64 s65.1)), (19, (.int .i64 s65.2))]) ∧ Chg (G_ ++ ([])) w b4 ∧ Own (Nw w (G_ ++ ([]))) M b4 (([a1]) ++ (G_ ++ [])) ∧ I_ b4 d_ ∧ BoxV b4 a1 115 [(.func (.func g_) #[] lb_), (.func (.func sf_) #[] sb_)]) ?_ ?_
 ·replace hs := g5
  rcases bif_some hs with ⟨d4, hs⟩ | ⟨d4, hs⟩
  ·refine c_condT (congrArg Value.bool d4) ?_
   refine c_sr ?_
   refine pl_val (.int .i64 (w64 ((w64 (ishr .u64 (IntKind.u64.wrap (w64 (a_ + b))) 1)) + m))) (y_move rfl) ?_
   refine pl_val (.int .i64 b) (y_move rfl) ?_
   refine pl_val (.int .i64 (w64 ((w64 ((w64 (ishr .u64 (IntKind.u64.wrap (w64 (a_ + b))) 1)) + m)) - b))) (y_sub rfl rfl) ?_
   refine pl_val (.int .i64 (w64 ((w64 ((w64 (ishr .u64 (IntKind.u64.wrap (w64 (a_ + b))) 1)) + m)) - b))) (y_assign rfl) ?_
   refine c_nil ?_
   refine c_region ?_
   refine pl_val (.int .i64 (w64 (ishr .u64 (IntKind.u64.wrap (w64 (a_ + b))) 1))) (y_move rfl) ?_
   refine pl_val (.int .i64 (w64 (ishr .u64 (IntKind.u64.wrap (w64 (a_ + b))) 1))) (y_assign rfl) ?_
   refine c_nil ?_
   cases hs
   have hO := hO.fr1
   have hO := hO.fr1
   exact ⟨_, fr_ovl 177 ⟨rfl, rfl, rfl, rfl, rfl, rfl, rfl, rfl, trivial⟩, hC, hO, hI_, a0⟩
  refine c_condF (congrArg Value.bool d4) ?_
  refine c_sr ?_
  refine pl_val (.int .i64 a_) (y_move rfl) ?_
  refine pl_val (.int .i64 a_) (y_assign rfl) ?_
  refine c_nil ?_
  refine c_region ?_
  refine pl_val (.int .i64 m) (y_move rfl) ?_
  refine pl_val (.int .i64 m) (y_assign rfl) ?_
  refine c_nil ?_
  cases hs
  have hO := hO.fr1
  have hO := hO.fr1
  exact ⟨_, fr_ovl 177 ⟨rfl, rfl, rfl, rfl, rfl, rfl, rfl, rfl, trivial⟩, hC, hO, hI_, a0⟩
 rintro a2 b4 ⟨σ, rfl, hC, hO, hI_, a0⟩
 refine c_sr ?_
 refine pl_val (.int .i64 (w64 ((w64 (ishr .u64 (IntKind.u64.wrap (w64 (a_ + b))) 1)) + m))) (y_move rfl) ?_
 refine pl_val (.int .i64 (w64 ((w64 ((w64 (ishr .u64 (IntKind.u64.wrap (w64 (a_ + b))) 1)) + m)) - 1))) (y_sub rfl rfl) ?_
 refine pl_val (.int .i64 (w64 ((w64 ((w64 (ishr .u64 (IntKind.u64.wrap (w64 (a_ + b))) 1)) + m)) - 1))) (y_assign rfl) ?_
 refine c_nil ?_
 refine c_seq ?_
 obtain ⟨o77, g6, hs⟩ := bind_some hs
 refine wp_block ?_
 refine wp_iter (id := 8) (I := fun s73 a a3 => ∃ (σ : Nat → Value), a = fr 177 (ovl σ [(1, (.int .i64 a_)), (2, (.int .i64 m)), (3, (.int .i64 b)), (4, (.pointer (some ⟨a1, 0, none⟩))), (16, (.int .i64 (w64 (ishr .u64 (IntKind.u64.wrap (w64 (a_ + b))) 1)))), (17, (.int .i64 (w64 ((w64 (ishr .u64 (IntKind.u64.wrap (w64 (a_ + b))) 1)) + m)))), (18, (.int .i64 s73.1)), (19, (.int .i64 s73.2)), (20, (.int .i64 (w64 ((w64 ((w64 (ishr .u64 (IntKind.u64.wrap (w64 (a_ + b))) 1)) + m)) - 1))))]) ∧ Chg (G_ ++ ([])) w a3 ∧ Own (Nw w (G_ ++ ([]))) M a3 (([a1]) ++ (G_ ++ [])) ∧ I_ a3 d_ ∧ BoxV a3 a1 115 [(.func (.func g_) #[] lb_), (.func (.func sf_) #[] sb_)]) (J := fun s73 a a3 => ∃ (σ : Nat → Value), a = fr 177 (ovl σ [(1, (.int .i64 a_)), (2, (.int .i64 m)), (3, (.int .i64 b)), (4, (.pointer (some ⟨a1, 0, none⟩))), (16, (.int .i64 (w64 (ishr .u64 (IntKind.u64.wrap (w64 (a_ + b))) 1)))), (17, (.int .i64 (w64 ((w64 (ishr .u64 (IntKind.u64.wrap (w64 (a_ + b))) 1)) + m)))), (18, (.int .i64 s73.1))]) ∧ Chg (G_ ++ ([])) w a3 ∧ Own (Nw w (G_ ++ ([]))) M a3 (([a1]) ++ (G_ ++ [])) ∧ I_ a3 d_ ∧ BoxV a3 a1 115 [(.func (.func g_) #[] lb_), (.func (.func sf_) #[] sb_)]) (K := (k_sort_symMerge_func M w I_ G_)) ?_ FU (s65.1, s65.2) o77 _ _ ?_ g6 ?_
 ·rintro s73 o77 a a3 ⟨σ, rfl, hC, hO, hI_, a0⟩ hs
  refine c_seq ?_
  refine c_sr ?_
  refine pl_val (.int .i64 s73.1) (y_move rfl) ?_
  refine pl_val (.int .i64 s73.2) (y_move rfl) ?_
  refine pl_val (.bool (decide (s73.1 < s73.2))) (y_lss rfl rfl) ?_
  refine c_nil ?_
  rcases bif_some hs with ⟨d5, hs⟩ | ⟨d5, hs⟩
  ·refine c_condT (congrArg Value.bool d5) ?_
   refine wp_skip ?_
   refine wp_block ?_
   refine c_sr ?_
   refine pl_val (.int .i64 s73.1) (y_move rfl) ?_
   refine pl_val (.int .i64 s73.2) (y_move rfl) ?_
   refine pl_val (.int .i64 (w64 (s73.1 + s73.2))) (y_add rfl rfl) ?_
   refine pl_val (.int .u64 (IntKind.u64.wrap (w64 (s73.1 + s73.2)))) (y_conv_int Try.underlying3 Try.underlying95 rfl) ?_
   refine pl_val (.int .u64 (ishr .u64 (IntKind.u64.wrap (w64 (s73.1 + s73.2))) 1)) (y_shr rfl rfl (by decide)) ?_
   refine pl_val (.int .i64 (w64 (ishr .u64 (IntKind.u64.wrap (w64 (s73.1 + s73.2))) 1))) (y_conv_int Try.underlying95 Try.underlying3 rfl) ?_
   refine pl_val (.int .i64 (w64 (ishr .u64 (IntKind.u64.wrap (w64 (s73.1 + s73.2))) 1))) (y_assign rfl) ?_
   refine c_nil ?_
   refine c_sr ?_
   refine pl_val (.pointer (some ⟨a1, 0, none⟩)) (y_faddr rfl Fa115x0) ?_
   refine pl_val (.func (.func g_) #[] lb_) (y_load rfl ((box_load Ag105 Sz105 a0 [] [(.func (.func g_) #[] lb_)] [(.func (.func sf_) #[] sb_)] rfl rfl (fun _ => rfl)) _ (Chg.refl _ _))) ?_
   refine pl_val (.int .i64 (w64 ((w64 ((w64 (ishr .u64 (IntKind.u64.wrap (w64 (a_ + b))) 1)) + m)) - 1))) (y_move rfl) ?_
   refine pl_val (.int .i64 (w64 (ishr .u64 (IntKind.u64.wrap (w64 (s73.1 + s73.2))) 1))) (y_move rfl) ?_
   refine pl_val (.int .i64 (w64 ((w64 ((w64 ((w64 (ishr .u64 (IntKind.u64.wrap (w64 (a_ + b))) 1)) + m)) - 1)) - (w64 (ishr .u64 (IntKind.u64.wrap (w64 (s73.1 + s73.2))) 1))))) (y_sub rfl rfl) ?_
   refine pl_val (.int .i64 (w64 (ishr .u64 (IntKind.u64.wrap (w64 (s73.1 + s73.2))) 1))) (y_move rfl) ?_
   obtain ⟨r81, g7, hs⟩ := bind_some hs
   refine pl_callb rfl hE_.bod rfl (hE_.less hI_ g7) ?_
   rintro _ i1 ⟨rfl, b7⟩
   have hI_ := hE_.ext hI_ b7 (fun _ h => nomatch h)
   have a0 := a0.cn b7
   have hC := hC.ext b7
   have hO := hO.ext b7
   refine pl_val (.bool (!r81)) (y_not rfl) ?_
   refine c_nil ?_
   rcases bif_some hs with ⟨d6, hs⟩ | ⟨d6, hs⟩
   ·refine c_condT (congrArg Value.bool d6) ?_
    refine c_region ?_
    refine pl_val (.int .i64 (w64 (ishr .u64 (IntKind.u64.wrap (w64 (s73.1 + s73.2))) 1))) (y_move rfl) ?_
    refine pl_val (.int .i64 (w64 ((w64 (ishr .u64 (IntKind.u64.wrap (w64 (s73.1 + s73.2))) 1)) + 1))) (y_add rfl rfl) ?_
    refine pl_val (.int .i64 (w64 ((w64 (ishr .u64 (IntKind.u64.wrap (w64 (s73.1 + s73.2))) 1)) + 1))) (y_assign rfl) ?_
    refine c_nil ?_
    cases hs
    have hO := hO.fr1
    have hO := hO.fr1
    exact ⟨_, fr_ovl 177 ⟨rfl, rfl, rfl, rfl, rfl, rfl, rfl, rfl, rfl, trivial⟩, hC, hO, hI_, a0⟩
   refine c_condF (congrArg Value.bool d6) ?_
   refine c_region ?_
   refine pl_val (.int .i64 (w64 (ishr .u64 (IntKind.u64.wrap (w64 (s73.1 + s73.2))) 1))) (y_move rfl) ?_
   refine pl_val (.int .i64 (w64 (ishr .u64 (IntKind.u64.wrap (w64 (s73.1 + s73.2))) 1))) (y_assign rfl) ?_
   refine c_nil ?_
   cases hs
   have hO := hO.fr1
   have hO := hO.fr1
   exact ⟨_, fr_ovl 177 ⟨rfl, rfl, rfl, rfl, rfl, rfl, rfl, rfl, rfl, trivial⟩, hC, hO, hI_, a0⟩
  refine c_condF (congrArg Value.bool d5) ?_
  refine wp_exit ?_
  cases hs
  have hO := hO.fr1
  have hO := hO.fr1
  exact ⟨rfl, _, fr_ovl 177 ⟨rfl, rfl, rfl, rfl, rfl, rfl, rfl, trivial⟩, hC, hO, hI_, a0⟩
 ·skip
  have hO := hO.fr1
  have hO := hO.fr1
  exact ⟨_, fr_ovl 177 ⟨rfl, rfl, rfl, rfl, rfl, rfl, rfl, rfl, rfl, trivial⟩, hC, hO, hI_, a0⟩
 cases o77 with
 | nx _ => exact True.intro
 | rt r_ =>
  have hs := after_rt hs
  intro a2 b1 hK
  cases hs
  exact hK
 | br s73 =>
  have hs := after_br hs
  rintro a2 a3 ⟨σ, rfl, hC, hO, hI_, a0⟩
  refine c_sr ?_
  refine pl_val (.int .i64 (w64 ((w64 (ishr .u64 (IntKind.u64.wrap (w64 (a_ + b))) 1)) + m))) (y_move rfl) ?_
  refine pl_val (.int .i64 s73.1) (y_move rfl) ?_
  refine pl_val (.int .i64 (w64 ((w64 ((w64 (ishr .u64 (IntKind.u64.wrap (w64 (a_ + b))) 1)) + m)) - s73.1))) (y_sub rfl rfl) ?_
  refine pl_val (.int .i64 (w64 ((w64 ((w64 (ishr .u64 (IntKind.u64.wrap (w64 (a_ + b))) 1)) + m)) - s73.1))) (y_assign rfl) ?_
  refine c_nil ?_
  refine c_seq ?_
  refine c_seq ?_
  refine c_mid (I := fun a e5 => ∃ (σ : Nat → Value), a = fr 177 (ovl σ [(1, (.int .i64 a_)), (2, (.int .i64 m)), (3, (.int .i64 b)), (4, (.pointer (some ⟨a1, 0, none⟩))), (16, (.int .i64 (w64 (ishr .u64 (IntKind.u64.wrap (w64 (a_ + b))) 1)))), (18, (.int .i64 s73.1)), (22, (.int .i64 (w64 ((w64 ((w64 (ishr .u64 (IntKind.u64.wrap (w64 (a_ + b))) 1)) + m)) - s73.1)))), (145, (.bool ((decide (s73.1 < m)) && (decide (m < (w64 ((w64 ((w64 (ishr .u64 (IntKind.u64.wrap (w64 (a_ + b))) 1)) + m)) - s73.1)))))))]) ∧ Chg [] a3 e5) ?_ ?_
  ·have hMid := Chg.refl [] a3
   refine c_region ?_
   refine pl_val (.int .i64 s73.1) (y_move rfl) ?_
   refine pl_val (.int .i64 m) (y_move rfl) ?_
   refine pl_val (.bool (decide (s73.1 < m))) (y_lss rfl rfl) ?_
   refine pl_val (.bool (decide (s73.1 < m))) (y_move rfl) ?_
   rcases Bool.eq_false_or_eq_true ((decide (s73.1 < m))) with a8 | a8
   ·skip
    refine pl_yes (.int .i64 m) (tg := 141) (by kernel_rfl) (congrArg Value.bool a8) (y_move rfl) ?_
    refine pl_yes (.int .i64 (w64 ((w64 ((w64 (ishr .u64 (IntKind.u64.wrap (w64 (a_ + b))) 1)) + m)) - s73.1))) (tg := 141) (by kernel_rfl) (congrArg Value.bool a8) (y_move rfl) ?_
    refine pl_yes (.bool (decide (m < (w64 ((w64 ((w64 (ishr .u64 (IntKind.u64.wrap (w64 (a_ + b))) 1)) + m)) - s73.1))))) (tg := 141) (by kernel_rfl) (congrArg Value.bool a8) (y_lss rfl rfl) ?_
    refine pl_val (.bool ((decide (s73.1 < m)) && (decide (m < (w64 ((w64 ((w64 (ishr .u64 (IntKind.u64.wrap (w64 (a_ + b))) 1)) + m)) - s73.1)))))) (y_pick_t (congrArg Value.bool a8) (congrArg Value.bool (by rw [a8]; rfl))) ?_
    refine c_nil ?_
    exact ⟨_, fr_ovl 177 ⟨rfl, rfl, rfl, rfl, rfl, rfl, rfl, rfl, trivial⟩, hMid⟩
   refine pl_not (tg := 141) (by kernel_rfl) (congrArg Value.bool a8) ?_
   refine pl_not (tg := 141) (by kernel_rfl) (congrArg Value.bool a8) ?_
   refine pl_not (tg := 141) (by kernel_rfl) (congrArg Value.bool a8) ?_
   refine pl_val (.bool ((decide (s73.1 < m)) && (decide (m < (w64 ((w64 ((w64 (ishr .u64 (IntKind.u64.wrap (w64 (a_ + b))) 1)) + m)) - s73.1)))))) (y_pick_f (congrArg Value.bool a8) (congrArg Value.bool (by rw [a8]; rfl))) ?_
   refine c_nil ?_
   exact ⟨_, fr_ovl 177 ⟨rfl, rfl, rfl, rfl, rfl, rfl, rfl, rfl, trivial⟩, hMid⟩
  rintro a2 e5 ⟨σ, rfl, b8⟩
  have hI_ := hE_.ext hI_ b8 (fun _ h => nomatch h)
  have a0 := a0.cn b8
  have hC := hC.ext b8
  have hO := hO.ext b8
  obtain ⟨s91, g8, hs⟩ := bind_some hs
  refine c_mid (I := fun a b2 => ∃ (σ : Nat → Value), a = fr 177 (ovl σ [(1, (.int .i64 a_)), (3, (.int .i64 b)), (4, (.pointer (some ⟨a1, 0, none⟩))), (16, (.int .i64 (w64 (ishr .u64 (IntKind.u64.wrap (w64 (a_ + b))) 1)))), (18, (.int .i64 s73.1)), (22, (.int .i64 (w64 ((w64 ((w64 (ishr .u64 (IntKind.u64.wrap (w64 (a_ + b))) 1)) + m)) - s73.1))))]) ∧ Chg (G_ ++ ([])) w b2 ∧ Own (Nw w (G_ ++ ([]))) M b2 (([a1]) ++ (G_ ++ [])) ∧ I_ b2 s91 ∧ BoxV b2 a1 115 [(.func (.func g_) #[] lb_), (.func (.func sf_) #[] sb_)]) ?_ ?_
  ·replace hs := g8
   rcases bif_some hs with ⟨d7, hs⟩ | ⟨d7, hs⟩
   ·refine c_condT (congrArg Value.bool d7) ?_
    refine c_region ?_
    refine pl_val (.agg #[(.func (.func g_) #[] lb_), (.func (.func sf_) #[] sb_)]) (y_load rfl ((box_load Ag115 Sz115 a0 [] [(.func (.func g_) #[] lb_), (.func (.func sf_) #[] sb_)] [] rfl rfl (fun h => nomatch h)) _ (Chg.refl _ _))) ?_
    refine pl_val (.int .i64 s73.1) (y_move rfl) ?_
    refine pl_val (.int .i64 m) (y_move rfl) ?_
    refine pl_val (.int .i64 (w64 ((w64 ((w64 (ishr .u64 (IntKind.u64.wrap (w64 (a_ + b))) 1)) + m)) - s73.1))) (y_move rfl) ?_
    have hO := hO.fr1
    have g9 := Own.lend (F := (G_ ++ ([]))) (R := ([a1]) ++ ([])) (Own.perm hO (by simp))
    obtain ⟨r97, h0, hs⟩ := bind_some hs
    refine pl_call Bd129 rfl (c_sort_rotate_func (M := M) ls_ d_ s73.1 m (w64 ((w64 ((w64 (ishr .u64 (IntKind.u64.wrap (w64 (a_ + b))) 1)) + m)) - s73.1)) (Nat.le_trans hN_ hC.size) hE_ hI_ g9 hO.fut h0) ?_
    rintro _ i2 ⟨rfl, d8, h1⟩
    have a0 := a0.ap d8 hO nil_mem (mem_l (List.mem_singleton.2 rfl))
    have hC := hC.st d8 hO nil_mem
    have hO := hO.ext d8
    refine c_nil ?_
    cases hs
    have hO := hO.fr1
    exact ⟨_, fr_ovl 177 ⟨rfl, rfl, rfl, rfl, rfl, rfl, trivial⟩, hC, hO, h1, a0⟩
   refine c_condF (congrArg Value.bool d7) ?_
   refine wp_skip ?_
   cases hs
   have hO := hO.fr1
   have hO := hO.fr1
   exact ⟨_, fr_ovl 177 ⟨rfl, rfl, rfl, rfl, rfl, rfl, trivial⟩, hC, hO, hI_, a0⟩
  rintro a2 b2 ⟨σ, rfl, hC, hO, b9, a0⟩
  refine c_seq ?_
  refine c_seq ?_
  refine c_mid (I := fun a e6 => ∃ (σ : Nat → Value), a = fr 177 (ovl σ [(1, (.int .i64 a_)), (3, (.int .i64 b)), (4, (.pointer (some ⟨a1, 0, none⟩))), (16, (.int .i64 (w64 (ishr .u64 (IntKind.u64.wrap (w64 (a_ + b))) 1)))), (18, (.int .i64 s73.1)), (22, (.int .i64 (w64 ((w64 ((w64 (ishr .u64 (IntKind.u64.wrap (w64 (a_ + b))) 1)) + m)) - s73.1)))), (158, (.bool ((decide (a_ < s73.1)) && (decide (s73.1 < (w64 (ishr .u64 (IntKind.u64.wrap (w64 (a_ + b))) 1)))))))]) ∧ Chg [] b2 e6) ?_ ?_
  ·have hMid := Chg.refl [] b2
   refine c_region ?_
   refine pl_val (.int .i64 a_) (y_move rfl) ?_
   refine pl_val (.int .i64 s73.1) (y_move rfl) ?_
   refine pl_val (.bool (decide (a_ < s73.1))) (y_lss rfl rfl) ?_
   refine pl_val (.bool (decide (a_ < s73.1))) (y_move rfl) ?_
   rcases Bool.eq_false_or_eq_true ((decide (a_ < s73.1))) with a9 | a9
   ·skip
    refine pl_yes (.int .i64 s73.1) (tg := 154) (by kernel_rfl) (congrArg Value.bool a9) (y_move rfl) ?_
    refine pl_yes (.int .i64 (w64 (ishr .u64 (IntKind.u64.wrap (w64 (a_ + b))) 1))) (tg := 154) (by kernel_rfl) (congrArg Value.bool a9) (y_move rfl) ?_
    refine pl_yes (.bool (decide (s73.1 < (w64 (ishr .u64 (IntKind.u64.wrap (w64 (a_ + b))) 1))))) (tg := 154) (by kernel_rfl) (congrArg Value.bool a9) (y_lss rfl rfl) ?_
    refine pl_val (.bool ((decide (a_ < s73.1)) && (decide (s73.1 < (w64 (ishr .u64 (IntKind.u64.wrap (w64 (a_ + b))) 1)))))) (y_pick_t (congrArg Value.bool a9) (congrArg Value.bool (by rw [a9]; rfl))) ?_
    refine c_nil ?_
    exact ⟨_, fr_ovl 177 ⟨rfl, rfl, rfl, rfl, rfl, rfl, rfl, trivial⟩, hMid⟩
   refine pl_not (tg := 154) (by kernel_rfl) (congrArg Value.bool a9) ?_
   refine pl_not (tg := 154) (by kernel_rfl) (congrArg Value.bool a9) ?_
   refine pl_not (tg := 154) (by kernel_rfl) (congrArg Value.bool a9) ?_
   refine pl_val (.bool ((decide (a_ < s73.1)) && (decide (s73.1 < (w64 (ishr .u64 (IntKind.u64.wrap (w64 (a_ + b))) 1)))))) (y_pick_f (congrArg Value.bool a9) (congrArg Value.bool (by rw [a9]; rfl))) ?_
   refine c_nil ?_
   exact ⟨_, fr_ovl 177 ⟨rfl, rfl, rfl, rfl, rfl, rfl, rfl, trivial⟩, hMid⟩
  rintro a2 e6 ⟨σ, rfl, c0⟩
  have b9 := hE_.ext b9 c0 (fun _ h => nomatch h)
  have a0 := a0.cn c0
  have hC := hC.ext c0
  have hO := hO.ext c0
  obtain ⟨s106, h2, hs⟩ := bind_some hs
  refine c_mid (I := fun a b3 => ∃ (σ : Nat → Value), a = fr 177 (ovl σ [(3, (.int .i64 b)), (4, (.pointer (some ⟨a1, 0, none⟩))), (16, (.int .i64 (w64 (ishr .u64 (IntKind.u64.wrap (w64 (a_ + b))) 1)))), (22, (.int .i64 (w64 ((w64 ((w64 (ishr .u64 (IntKind.u64.wrap (w64 (a_ + b))) 1)) + m)) - s73.1))))]) ∧ Chg (G_ ++ ([])) w b3 ∧ Own (Nw w (G_ ++ ([]))) M b3 (([a1]) ++ (G_ ++ [])) ∧ I_ b3 s106 ∧ BoxV b3 a1 115 [(.func (.func g_) #[] lb_), (.func (.func sf_) #[] sb_)]) ?_ ?_
  ·replace hs := h2
   rcases bif_some hs with ⟨d9, hs⟩ | ⟨d9, hs⟩
   ·refine c_condT (congrArg Value.bool d9) ?_
    refine c_region ?_
    refine pl_val (.agg #[(.func (.func g_) #[] lb_), (.func (.func sf_) #[] sb_)]) (y_load rfl ((box_load Ag115 Sz115 a0 [] [(.func (.func g_) #[] lb_), (.func (.func sf_) #[] sb_)] [] rfl rfl (fun h => nomatch h)) _ (Chg.refl _ _))) ?_
    refine pl_val (.int .i64 a_) (y_move rfl) ?_
    refine pl_val (.int .i64 s73.1) (y_move rfl) ?_
    refine pl_val (.int .i64 (w64 (ishr .u64 (IntKind.u64.wrap (w64 (a_ + b))) 1))) (y_move rfl) ?_
    have hO := hO.fr1
    have h3 := Own.lend (F := (G_ ++ ([]))) (R := ([a1]) ++ ([])) (Own.perm hO (by simp))
    obtain ⟨r112, h4, hs⟩ := bind_some hs
    refine pl_call Bd128 rfl (c_ih (M := M) ls_ s91 a_ s73.1 (w64 (ishr .u64 (IntKind.u64.wrap (w64 (a_ + b))) 1)) (Nat.le_trans hN_ hC.size) hE_ b9 h3 hO.fut h4) ?_
    rintro _ i3 ⟨rfl, e0, h5⟩
    have a0 := a0.ap e0 hO nil_mem (mem_l (List.mem_singleton.2 rfl))
    have hC := hC.st e0 hO nil_mem
    have hO := hO.ext e0
    refine c_nil ?_
    cases hs
    have hO := hO.fr1
    exact ⟨_, fr_ovl 177 ⟨rfl, rfl, rfl, rfl, trivial⟩, hC, hO, h5, a0⟩
   refine c_condF (congrArg Value.bool d9) ?_
   refine wp_skip ?_
   cases hs
   have hO := hO.fr1
   have hO := hO.fr1
   exact ⟨_, fr_ovl 177 ⟨rfl, rfl, rfl, rfl, trivial⟩, hC, hO, b9, a0⟩
  rintro a2 b3 ⟨σ, rfl, hC, hO, c1, a0⟩
  refine c_seq ?_
  refine c_mid (I := fun a e7 => ∃ (σ : Nat → Value), a = fr 177 (ovl σ [(3, (.int .i64 b)), (4, (.pointer (some ⟨a1, 0, none⟩))), (16, (.int .i64 (w64 (ishr .u64 (IntKind.u64.wrap (w64 (a_ + b))) 1)))), (22, (.int .i64 (w64 ((w64 ((w64 (ishr .u64 (IntKind.u64.wrap (w64 (a_ + b))) 1)) + m)) - s73.1)))), (171, (.bool ((decide ((w64 (ishr .u64 (IntKind.u64.wrap (w64 (a_ + b))) 1)) < (w64 ((w64 ((w64 (ishr .u64 (IntKind.u64.wrap (w64 (a_ + b))) 1)) + m)) - s73.1)))) && (decide ((w64 ((w64 ((w64 (ishr .u64 (IntKind.u64.wrap (w64 (a_ + b))) 1)) + m)) - s73.1)) < b)))))]) ∧ Chg [] b3 e7) ?_ ?_
  ·have hMid := Chg.refl [] b3
   refine c_region ?_
   refine pl_val (.int .i64 (w64 (ishr .u64 (IntKind.u64.wrap (w64 (a_ + b))) 1))) (y_move rfl) ?_
   refine pl_val (.int .i64 (w64 ((w64 ((w64 (ishr .u64 (IntKind.u64.wrap (w64 (a_ + b))) 1)) + m)) - s73.1))) (y_move rfl) ?_
   refine pl_val (.bool (decide ((w64 (ishr .u64 (IntKind.u64.wrap (w64 (a_ + b))) 1)) < (w64 ((w64 ((w64 (ishr .u64 (IntKind.u64.wrap (w64 (a_ + b))) 1)) + m)) - s73.1))))) (y_lss rfl rfl) ?_
   refine pl_val (.bool (decide ((w64 (ishr .u64 (IntKind.u64.wrap (w64 (a_ + b))) 1)) < (w64 ((w64 ((w64 (ishr .u64 (IntKind.u64.wrap (w64 (a_ + b))) 1)) + m)) - s73.1))))) (y_move rfl) ?_
   rcases Bool.eq_false_or_eq_true ((decide ((w64 (ishr .u64 (IntKind.u64.wrap (w64 (a_ + b))) 1)) < (w64 ((w64 ((w64 (ishr .u64 (IntKind.u64.wrap (w64 (a_ + b))) 1)) + m)) - s73.1))))) with b0 | b0
   ·skip
    refine pl_yes (.int .i64 (w64 ((w64 ((w64 (ishr .u64 (IntKind.u64.wrap (w64 (a_ + b))) 1)) + m)) - s73.1))) (tg := 167) (by kernel_rfl) (congrArg Value.bool b0) (y_move rfl) ?_
    refine pl_yes (.int .i64 b) (tg := 167) (by kernel_rfl) (congrArg Value.bool b0) (y_move rfl) ?_
    refine pl_yes (.bool (decide ((w64 ((w64 ((w64 (ishr .u64 (IntKind.u64.wrap (w64 (a_ + b))) 1)) + m)) - s73.1)) < b))) (tg := 167) (by kernel_rfl) (congrArg Value.bool b0) (y_lss rfl rfl) ?_
    refine pl_val (.bool ((decide ((w64 (ishr .u64 (IntKind.u64.wrap (w64 (a_ + b))) 1)) < (w64 ((w64 ((w64 (ishr .u64 (IntKind.u64.wrap (w64 (a_ + b))) 1)) + m)) - s73.1)))) && (decide ((w64 ((w64 ((w64 (ishr .u64 (IntKind.u64.wrap (w64 (a_ + b))) 1)) + m)) - s73.1)) < b)))) (y_pick_t (congrArg Value.bool b0) (congrArg Value.bool (by rw [b0]; rfl))) ?_
    refine c_nil ?_
    exact ⟨_, fr_ovl 177 ⟨rfl, rfl, rfl, rfl, rfl, trivial⟩, hMid⟩
   refine pl_not (tg := 167) (by kernel_rfl) (congrArg Value.bool b0) ?_
   refine pl_not (tg := 167) (by kernel_rfl) (congrArg Value.bool b0) ?_
   refine pl_not (tg := 167) (by kernel_rfl) (congrArg Value.bool b0) ?_
   refine pl_val (.bool ((decide ((w64 (ishr .u64 (IntKind.u64.wrap (w64 (a_ + b))) 1)) < (w64 ((w64 ((w64 (ishr .u64 (IntKind.u64.wrap (w64 (a_ + b))) 1)) + m)) - s73.1)))) && (decide ((w64 ((w64 ((w64 (ishr .u64 (IntKind.u64.wrap (w64 (a_ + b))) 1)) + m)) - s73.1)) < b)))) (y_pick_f (congrArg Value.bool b0) (congrArg Value.bool (by rw [b0]; rfl))) ?_
   refine c_nil ?_
   exact ⟨_, fr_ovl 177 ⟨rfl, rfl, rfl, rfl, rfl, trivial⟩, hMid⟩
  rintro a2 e7 ⟨σ, rfl, c2⟩
  have c1 := hE_.ext c1 c2 (fun _ h => nomatch h)
  have a0 := a0.cn c2
  have hC := hC.ext c2
  have hO := hO.ext c2
  rcases bif_some hs with ⟨e1, hs⟩ | ⟨e1, hs⟩
  ·refine c_condT (congrArg Value.bool e1) ?_
   refine c_region ?_
   refine pl_val (.agg #[(.func (.func g_) #[] lb_), (.func (.func sf_) #[] sb_)]) (y_load rfl ((box_load Ag115 Sz115 a0 [] [(.func (.func g_) #[] lb_), (.func (.func sf_) #[] sb_)] [] rfl rfl (fun h => nomatch h)) _ (Chg.refl _ _))) ?_
   refine pl_val (.int .i64 (w64 (ishr .u64 (IntKind.u64.wrap (w64 (a_ + b))) 1))) (y_move rfl) ?_
   refine pl_val (.int .i64 (w64 ((w64 ((w64 (ishr .u64 (IntKind.u64.wrap (w64 (a_ + b))) 1)) + m)) - s73.1))) (y_move rfl) ?_
   refine pl_val (.int .i64 b) (y_move rfl) ?_
   have hO := hO.fr1
   have h6 := Own.lend (F := (G_ ++ ([]))) (R := ([a1]) ++ ([])) (Own.perm hO (by simp))
   obtain ⟨r119, h7, hs⟩ := bind_some hs
   refine pl_call Bd128 rfl (c_ih (M := M) ls_ s106 (w64 (ishr .u64 (IntKind.u64.wrap (w64 (a_ + b))) 1)) (w64 ((w64 ((w64 (ishr .u64 (IntKind.u64.wrap (w64 (a_ + b))) 1)) + m)) - s73.1)) b (Nat.le_trans hN_ hC.size) hE_ c1 h6 hO.fut h7) ?_
   rintro _ i4 ⟨rfl, e2, h8⟩
   have a0 := a0.ap e2 hO nil_mem (mem_l (List.mem_singleton.2 rfl))
   have hC := hC.st e2 hO nil_mem
   have hO := hO.ext e2
   refine c_nil ?_
   cases hs
   exact ⟨_, fr_ovl 177 trivial, hC, h8⟩
  refine c_condF (congrArg Value.bool e1) ?_
  refine wp_skip ?_
  cases hs
  exact ⟨_, fr_ovl 177 trivial, hC, c1⟩

theorem Bd127 : Bodied Try.prog 127 := bodied Try.func127 (by kernel_rfl) rfl

def k_sort_stable_func (M : Nat → Prop) (w0 : World) {α_ : Type} (I_ : World → List α_ → Prop) (G_ : List Nat) (r : (List α_)) (a : Act) (w : World) : Prop :=
  ∃ (σ : Nat → Value) , a = fr 57 (ovl σ []) ∧ Chg (G_ ++ ([])) w0 w ∧ I_ w r
def s_sort_stable_func {α_ : Type} (ls_ : α_ → α_ → Option Bool) (d_ : List α_) (n : Int) : Option ((List α_)) :=
  (iter (S := Int × Int × (List α_)) (R := (List α_)) (fun s9 =>
  (bif (decide (s9.2.1 ≤ n)) then (s_sort_insertionSort_func ls_ s9.2.2 s9.1 s9.2.1).bind fun r19 =>
  some (.nx (s9.2.1, w64 (s9.2.1 + 20), r19)) else some (.br (s9.1, s9.2.1, s9.2.2)))) FU (0, 20, d_)).bind fun o13 => after o13 (fun r_ => some r_) (fun s9 =>
  (s_sort_insertionSort_func ls_ s9.2.2 s9.1 n).bind fun r21 =>
  (iter (S := Int × Int × Int × (List α_)) (R := (List α_)) (fun s67 =>
  (bif (decide (s67.1 < n)) then (iter (S := Int × Int × (List α_)) (R := (List α_)) (fun s83 =>
  (bif (decide (s83.2.1 ≤ n)) then (s_sort_symMerge_func FU ls_ s83.2.2 s83.1 (w64 (s83.1 + s67.1)) s83.2.1).bind fun r93 =>
  some (.nx (s83.2.1, w64 (s83.2.1 + (w64 (2 * s67.1))), r93)) else some (.br (s83.1, s83.2.1, s83.2.2)))) FU (0, w64 (2 * s67.1), s67.2.2.2)).bind fun o87 => after o87 (fun r_ => some (.rt r_)) (fun s83 =>
  (bif (decide ((w64 (s83.1 + s67.1)) < n)) then (s_sort_symMerge_func FU ls_ s83.2.2 s83.1 (w64 (s83.1 + s67.1)) n).bind fun r96 =>
  some (.nx (w64 (s67.1 * 2), s83.1, s83.2.1, r96)) else some (.nx (w64 (s67.1 * 2), s83.1, s83.2.1, s83.2.2)))) else some (.br (s67.1, s67.2.1, s67.2.2.1, s67.2.2.2)))) FU (20, s9.1, s9.2.1, r21)).bind fun o71 => after o71 (fun r_ => some r_) (fun s67 =>
  some s67.2.2.2))
set_option maxHeartbeats 4000000 in
theorem c_sort_stable_func {M : Nat → Prop} {w : World} {α_ : Type} {n0_ : Nat} {I_ : World → List α_ → Prop} {G_ : List Nat} {g_ sf_ : Nat} {lb_ sb_ : Array Value} (ls_ : α_ → α_ → Option Bool) (d_ : List α_) (n : Int) (hN_ : n0_ ≤ w.heap.size) (hE_ : Env Try.prog n0_ I_ G_ ls_ g_ lb_ sf_ sb_) (hI_ : I_ w d_) (hI : Own (Nw w (G_ ++ ([]))) M w (G_ ++ ([]))) (hM : ∀ g, w.heap.size ≤ g → M g) {r : (List α_)} (hs : s_sort_stable_func ls_ d_ n = some r) :
    Gives Try.prog 116 [(.agg #[(.func (.func g_) #[] lb_), (.func (.func sf_) #[] sb_)]), (.int .i64 n)] w (fun v w' => v = (.tuple #[]) ∧ Chg (G_ ++ ([])) w w' ∧ I_ w' r) := by
 refine calls_fr Try.func116 rfl Try.ntmps116 (Nat.le_of_ble_eq_true rfl) ?_
 have hO := hI
 have hC := Chg.refl (G_ ++ ([])) w
 unfold s_sort_stable_func at hs
 refine wp_mono (Q := KPostN (k_sort_stable_func M w I_ G_ r)) ?_ (fun e a a5 h => ?_)
 rotate_left
 ·cases e
  case ret =>
   obtain ⟨σ, rfl, hrest⟩ := h
   exact ret0x Try.results116  ⟨rfl, hrest⟩
  case normal =>
   obtain ⟨σ, rfl, hrest⟩ := h
   exact ret0n Try.results116  ⟨rfl, hrest⟩
  all_goals exact (h : False).elim
 refine c_sr ?_
 obtain ⟨a5, a1, c1, b6, a7, a0⟩ := new_block w [(.func (.func g_) #[] lb_), (.func (.func sf_) #[] sb_)] 115
 refine pl_val (w' := a5) (.pointer (some ⟨a1, 0, none⟩)) (y_box rfl (by rw [c1, b6]; kernel_rfl)) ?_
 have hI_ := hE_.ext hI_ a7 (fun _ h => nomatch h)
 have hC := hC.ext a7
 have hO := hO.new1 a7 b6 a0.lt
 refine c_nil ?_
 refine c_sr ?_
 refine pl_val (.int .i64 20) (y_assign rfl) ?_
 refine c_nil ?_
 refine c_sr ?_
 refine pl_val (.int .i64 20) (y_move rfl) ?_
 refine pl_val (.int .i64 0) (y_assign rfl) ?_
 refine pl_val (.int .i64 20) (y_assign rfl) ?_
 refine c_nil ?_
 refine c_seq ?_
 obtain ⟨o13, c2, hs⟩ := bind_some hs
 refine wp_block ?_
 refine wp_iter (id := 0) (I := fun s9 a a2 => ∃ (σ : Nat → Value), a = fr 57 (ovl σ [(1, (.int .i64 n)), (2, (.pointer (some ⟨a1, 0, none⟩))), (4, (.int .i64 20)), (5, (.int .i64 s9.1)), (6, (.int .i64 s9.2.1))]) ∧ Chg (G_ ++ ([])) w a2 ∧ Own (Nw w (G_ ++ ([]))) M a2 (([a1]) ++ (G_ ++ [])) ∧ I_ a2 s9.2.2 ∧ BoxV a2 a1 115 [(.func (.func g_) #[] lb_), (.func (.func sf_) #[] sb_)]) (J := fun s9 a a2 => ∃ (σ : Nat → Value), a = fr 57 (ovl σ [(1, (.int .i64 n)), (2, (.pointer (some ⟨a1, 0, none⟩))), (4, (.int .i64 20)), (5, (.int .i64 s9.1)), (6, (.int .i64 s9.2.1))]) ∧ Chg (G_ ++ ([])) w a2 ∧ Own (Nw w (G_ ++ ([]))) M a2 (([a1]) ++ (G_ ++ [])) ∧ I_ a2 s9.2.2 ∧ BoxV a2 a1 115 [(.func (.func g_) #[] lb_), (.func (.func sf_) #[] sb_)]) (K := (k_sort_stable_func M w I_ G_)) ?_ FU (0, 20, d_) o13 _ _ ?_ c2 ?_
 ·rintro s9 o13 a a2 ⟨σ, rfl, hC, hO, b7, a0⟩ hs
  refine c_seq ?_
  refine c_sr ?_
  refine pl_val (.int .i64 s9.2.1) (y_move rfl) ?_
  refine pl_val (.int .i64 n) (y_move rfl) ?_
  refine pl_val (.bool (decide (s9.2.1 ≤ n))) (y_leq rfl rfl) ?_
  refine c_nil ?_
  rcases bif_some hs with ⟨a8, hs⟩ | ⟨a8, hs⟩
  ·refine c_condT (congrArg Value.bool a8) ?_
   refine wp_skip ?_
   refine wp_block ?_
   refine c_sr ?_
   refine pl_val (.agg #[(.func (.func g_) #[] lb_), (.func (.func sf_) #[] sb_)]) (y_load rfl ((box_load Ag115 Sz115 a0 [] [(.func (.func g_) #[] lb_), (.func (.func sf_) #[] sb_)] [] rfl rfl (fun h => nomatch h)) _ (Chg.refl _ _))) ?_
   refine pl_val (.int .i64 s9.1) (y_move rfl) ?_
   refine pl_val (.int .i64 s9.2.1) (y_move rfl) ?_
   have hO := hO.fr1
   have c3 := Own.lend (F := (G_ ++ ([]))) (R := ([a1]) ++ ([])) (Own.perm hO (by simp))
   obtain ⟨r19, c4, hs⟩ := bind_some hs
   refine pl_call Bd127 rfl (c_sort_insertionSort_func (M := M) ls_ s9.2.2 s9.1 s9.2.1 (Nat.le_trans hN_ hC.size) hE_ b7 c3 hO.fut c4) ?_
   rintro _ d9 ⟨rfl, a9, c5⟩
   have a0 := a0.ap a9 hO nil_mem (mem_l (List.mem_singleton.2 rfl))
   have hC := hC.st a9 hO nil_mem
   have hO := hO.ext a9
   refine c_nil ?_
   refine c_sr ?_
   refine pl_val (.int .i64 s9.2.1) (y_move rfl) ?_
   refine pl_val (.int .i64 s9.2.1) (y_assign rfl) ?_
   refine c_nil ?_
   refine c_region ?_
   refine pl_val (.int .i64 s9.2.1) (y_move rfl) ?_
   refine pl_val (.int .i64 20) (y_move rfl) ?_
   refine pl_val (.int .i64 (w64 (s9.2.1 + 20))) (y_add rfl rfl) ?_
   refine pl_val (.int .i64 (w64 (s9.2.1 + 20))) (y_assign rfl) ?_
   refine c_nil ?_
   cases hs
   have hO := hO.fr1
   exact ⟨_, fr_ovl 57 ⟨rfl, rfl, rfl, rfl, rfl, trivial⟩, hC, hO, c5, a0⟩
  refine c_condF (congrArg Value.bool a8) ?_
  refine wp_exit ?_
  cases hs
  have hO := hO.fr1
  have hO := hO.fr1
  exact ⟨rfl, _, fr_ovl 57 ⟨rfl, rfl, rfl, rfl, rfl, trivial⟩, hC, hO, b7, a0⟩
 ·skip
  have hO := hO.fr1
  have hO := hO.fr1
  exact ⟨_, fr_ovl 57 ⟨rfl, rfl, rfl, rfl, rfl, trivial⟩, hC, hO, hI_, a0⟩
 cases o13 with
 | nx _ => exact True.intro
 | rt r_ =>
  have hs := after_rt hs
  intro a6 a5 hK
  cases hs
  exact hK
 | br s9 =>
  have hs := after_br hs
  rintro a6 a2 ⟨σ, rfl, hC, hO, c6, a0⟩
  refine c_sr ?_
  refine pl_val (.agg #[(.func (.func g_) #[] lb_), (.func (.func sf_) #[] sb_)]) (y_load rfl ((box_load Ag115 Sz115 a0 [] [(.func (.func g_) #[] lb_), (.func (.func sf_) #[] sb_)] [] rfl rfl (fun h => nomatch h)) _ (Chg.refl _ _))) ?_
  refine pl_val (.int .i64 s9.1) (y_move rfl) ?_
  refine pl_val (.int .i64 n) (y_move rfl) ?_
  have hO := hO.fr1
  have c7 := Own.lend (F := (G_ ++ ([]))) (R := ([a1]) ++ ([])) (Own.perm hO (by simp))
  obtain ⟨r21, c8, hs⟩ := bind_some hs
  refine pl_call Bd127 rfl (c_sort_insertionSort_func (M := M) ls_ s9.2.2 s9.1 n (Nat.le_trans hN_ hC.size) hE_ c6 c7 hO.fut c8) ?_
  rintro _ e0 ⟨rfl, b0, c9⟩
  have a0 := a0.ap b0 hO nil_mem (mem_l (List.mem_singleton.2 rfl))
  have hC := hC.st b0 hO nil_mem
  have hO := hO.ext b0
  refine c_nil ?_
  obtain ⟨o71, d0, hs⟩ := bind_some hs
  refine wp_block ?_
  refine wp_iter (id := 2) (I := fun s67 a a3 => ∃ (σ : Nat → Value), a = fr 57 (ovl σ [(1, (.int .i64 n)), (2, (.pointer (some ⟨a1, 0, none⟩))), (4, (.int .i64 s67.1)), (5, (.int .i64 s67.2.1)), (6, (.int .i64 s67.2.2.1))]) ∧ Chg (G_ ++ ([])) w a3 ∧ Own (Nw w (G_ ++ ([]))) M a3 (G_ ++ (([a1]) ++ [])) ∧ I_ a3 s67.2.2.2 ∧ BoxV a3 a1 115 [(.func (.func g_) #[] lb_), (.func (.func sf_) #[] sb_)]) (J := fun s67 a a3 => ∃ (σ : Nat → Value), a = fr 57 (ovl σ []) ∧ Chg (G_ ++ ([])) w a3 ∧ Own (Nw w (G_ ++ ([]))) M a3 (G_ ++ (([a1]) ++ [])) ∧ I_ a3 s67.2.2.2 ∧ BoxV a3 a1 115 [(.func (.func g_) #[] lb_), (.func (.func sf_) #[] sb_)]) (K := (k_sort_stable_func M w I_ G_)) ?_ FU (20, s9.1, s9.2.1, r21) o71 _ _ ?_ d0 ?_
  ·rintro s67 o71 a a3 ⟨σ, rfl, hC, hO, b8, a0⟩ hs
   refine c_seq ?_
   refine c_sr ?_
   refine pl_val (.int .i64 s67.1) (y_move rfl) ?_
   refine pl_val (.int .i64 n) (y_move rfl) ?_
   refine pl_val (.bool (decide (s67.1 < n))) (y_lss rfl rfl) ?_
   refine c_nil ?_
   rcases bif_some hs with ⟨b1, hs⟩ | ⟨b1, hs⟩
   ·refine c_condT (congrArg Value.bool b1) ?_
    refine wp_skip ?_
    refine wp_block ?_
    refine c_sr ?_
    refine pl_val (.int .i64 s67.1) (y_move rfl) ?_
    refine pl_val (.int .i64 (w64 (2 * s67.1))) (y_mul rfl rfl) ?_
    refine pl_val (.int .i64 0) (y_assign rfl) ?_
    refine pl_val (.int .i64 (w64 (2 * s67.1))) (y_assign rfl) ?_
    refine c_nil ?_
    refine c_seq ?_
    obtain ⟨o87, d1, hs⟩ := bind_some hs
    refine wp_block ?_
    refine wp_iter (id := 4) (I := fun s83 a a4 => ∃ (σ : Nat → Value), a = fr 57 (ovl σ [(1, (.int .i64 n)), (2, (.pointer (some ⟨a1, 0, none⟩))), (4, (.int .i64 s67.1)), (5, (.int .i64 s83.1)), (6, (.int .i64 s83.2.1))]) ∧ Chg (G_ ++ ([])) w a4 ∧ Own (Nw w (G_ ++ ([]))) M a4 (G_ ++ (([a1]) ++ [])) ∧ I_ a4 s83.2.2 ∧ BoxV a4 a1 115 [(.func (.func g_) #[] lb_), (.func (.func sf_) #[] sb_)]) (J := fun s83 a a4 => ∃ (σ : Nat → Value), a = fr 57 (ovl σ [(1, (.int .i64 n)), (2, (.pointer (some ⟨a1, 0, none⟩))), (4, (.int .i64 s67.1)), (5, (.int .i64 s83.1)), (6, (.int .i64 s83.2.1))]) ∧ Chg (G_ ++ ([])) w a4 ∧ Own (Nw w (G_ ++ ([]))) M a4 (G_ ++ (([a1]) ++ [])) ∧ I_ a4 s83.2.2 ∧ BoxV a4 a1 115 [(.func (.func g_) #[] lb_), (.func (.func sf_) #[] sb_)]) (K := (k_sort_stable_func M w I_ G_)) ?_ FU (0, w64 (2 * s67.1), s67.2.2.2) o87 _ _ ?_ d1 ?_
    ·rintro s83 o87 a a4 ⟨σ, rfl, hC, hO, b9, a0⟩ hs
     refine c_seq ?_
     refine c_sr ?_
     refine pl_val (.int .i64 s83.2.1) (y_move rfl) ?_
     refine pl_val (.int .i64 n) (y_move rfl) ?_
     refine pl_val (.bool (decide (s83.2.1 ≤ n))) (y_leq rfl rfl) ?_
     refine c_nil ?_
     rcases bif_some hs with ⟨b2, hs⟩ | ⟨b2, hs⟩
     ·refine c_condT (congrArg Value.bool b2) ?_
      refine wp_skip ?_
      refine wp_block ?_
      refine c_sr ?_
      refine pl_val (.agg #[(.func (.func g_) #[] lb_), (.func (.func sf_) #[] sb_)]) (y_load rfl ((box_load Ag115 Sz115 a0 [] [(.func (.func g_) #[] lb_), (.func (.func sf_) #[] sb_)] [] rfl rfl (fun h => nomatch h)) _ (Chg.refl _ _))) ?_
      refine pl_val (.int .i64 s83.1) (y_move rfl) ?_
      refine pl_val (.int .i64 s83.1) (y_move rfl) ?_
      refine pl_val (.int .i64 s67.1) (y_move rfl) ?_
      refine pl_val (.int .i64 (w64 (s83.1 + s67.1))) (y_add rfl rfl) ?_
      refine pl_val (.int .i64 s83.2.1) (y_move rfl) ?_
      have d2 := Own.lend (F := (G_ ++ ([]))) (R := ([a1]) ++ ([])) (Own.perm hO (by simp))
      obtain ⟨r93, d3, hs⟩ := bind_some hs
      refine pl_call Bd128 rfl (c_sort_symMerge_func (M := M) FU ls_ s83.2.2 s83.1 (w64 (s83.1 + s67.1)) s83.2.1 (Nat.le_trans hN_ hC.size) hE_ b9 d2 hO.fut d3) ?_
      rintro _ e1 ⟨rfl, b3, d4⟩
      have a0 := a0.ap b3 hO nil_mem (mem_l (List.mem_singleton.2 rfl))
      have hC := hC.st b3 hO nil_mem
      have hO := hO.ext b3
      refine c_nil ?_
      refine c_sr ?_
      refine pl_val (.int .i64 s83.2.1) (y_move rfl) ?_
      refine pl_val (.int .i64 s83.2.1) (y_assign rfl) ?_
      refine c_nil ?_
      refine c_region ?_
      refine pl_val (.int .i64 s83.2.1) (y_move rfl) ?_
      refine pl_val (.int .i64 s67.1) (y_move rfl) ?_
      refine pl_val (.int .i64 (w64 (2 * s67.1))) (y_mul rfl rfl) ?_
      refine pl_val (.int .i64 (w64 (s83.2.1 + (w64 (2 * s67.1))))) (y_add rfl rfl) ?_
      refine pl_val (.int .i64 (w64 (s83.2.1 + (w64 (2 * s67.1))))) (y_assign rfl) ?_
      refine c_nil ?_
      cases hs
      have hO := hO.fr1
      have hO := hO.fr1
      exact ⟨_, fr_ovl 57 ⟨rfl, rfl, rfl, rfl, rfl, trivial⟩, hC, hO, d4, a0⟩
     refine c_condF (congrArg Value.bool b2) ?_
     refine wp_exit ?_
     cases hs
     have hO := hO.fr1
     have hO := hO.fr1
     exact ⟨rfl, _, fr_ovl 57 ⟨rfl, rfl, rfl, rfl, rfl, trivial⟩, hC, hO, b9, a0⟩
    ·skip
     have hO := hO.fr1
     have hO := hO.fr1
     exact ⟨_, fr_ovl 57 ⟨rfl, rfl, rfl, rfl, rfl, trivial⟩, hC, hO, b8, a0⟩
    cases o87 with
    | nx _ => exact True.intro
    | rt r_ =>
     have hs := after_rt hs
     intro a6 a5 hK
     cases hs
     exact hK
    | br s83 =>
     have hs := after_br hs
     rintro a6 a4 ⟨σ, rfl, hC, hO, c0, a0⟩
     refine c_seq ?_
     refine c_sr ?_
     refine pl_val (.int .i64 s83.1) (y_move rfl) ?_
     refine pl_val (.int .i64 s67.1) (y_move rfl) ?_
     refine pl_val (.int .i64 (w64 (s83.1 + s67.1))) (y_add rfl rfl) ?_
     refine pl_val (.int .i64 (w64 (s83.1 + s67.1))) (y_assign rfl) ?_
     refine c_nil ?_
     refine c_sr ?_
     refine pl_val (.int .i64 (w64 (s83.1 + s67.1))) (y_move rfl) ?_
     refine pl_val (.int .i64 n) (y_move rfl) ?_
     refine pl_val (.bool (decide ((w64 (s83.1 + s67.1)) < n))) (y_lss rfl rfl) ?_
     refine c_nil ?_
     rcases bif_some hs with ⟨b4, hs⟩ | ⟨b4, hs⟩
     ·refine c_condT (congrArg Value.bool b4) ?_
      refine c_region ?_
      refine pl_val (.agg #[(.func (.func g_) #[] lb_), (.func (.func sf_) #[] sb_)]) (y_load rfl ((box_load Ag115 Sz115 a0 [] [(.func (.func g_) #[] lb_), (.func (.func sf_) #[] sb_)] [] rfl rfl (fun h => nomatch h)) _ (Chg.refl _ _))) ?_
      refine pl_val (.int .i64 s83.1) (y_move rfl) ?_
      refine pl_val (.int .i64 (w64 (s83.1 + s67.1))) (y_move rfl) ?_
      refine pl_val (.int .i64 n) (y_move rfl) ?_
      have d5 := Own.lend (F := (G_ ++ ([]))) (R := ([a1]) ++ ([])) (Own.perm hO (by simp))
      obtain ⟨r96, d6, hs⟩ := bind_some hs
      refine pl_call Bd128 rfl (c_sort_symMerge_func (M := M) FU ls_ s83.2.2 s83.1 (w64 (s83.1 + s67.1)) n (Nat.le_trans hN_ hC.size) hE_ c0 d5 hO.fut d6) ?_
      rintro _ e2 ⟨rfl, b5, d7⟩
      have a0 := a0.ap b5 hO nil_mem (mem_l (List.mem_singleton.2 rfl))
      have hC := hC.st b5 hO nil_mem
      have hO := hO.ext b5
      refine c_nil ?_
      refine c_region ?_
      refine pl_val (.int .i64 s67.1) (y_move rfl) ?_
      refine pl_val (.int .i64 (w64 (s67.1 * 2))) (y_mul rfl rfl) ?_
      refine pl_val (.int .i64 (w64 (s67.1 * 2))) (y_assign rfl) ?_
      refine c_nil ?_
      cases hs
      have hO := hO.fr1
      have hO := hO.fr1
      exact ⟨_, fr_ovl 57 ⟨rfl, rfl, rfl, rfl, rfl, trivial⟩, hC, hO, d7, a0⟩
     refine c_condF (congrArg Value.bool b4) ?_
     refine wp_skip ?_
     refine c_region ?_
     refine pl_val (.int .i64 s67.1) (y_move rfl) ?_
     refine pl_val (.int .i64 (w64 (s67.1 * 2))) (y_mul rfl rfl) ?_
     refine pl_val (.int .i64 (w64 (s67.1 * 2))) (y_assign rfl) ?_
     refine c_nil ?_
     cases hs
     have hO := hO.fr1
     have hO := hO.fr1
     exact ⟨_, fr_ovl 57 ⟨rfl, rfl, rfl, rfl, rfl, trivial⟩, hC, hO, c0, a0⟩
   refine c_condF (congrArg Value.bool b1) ?_
   refine wp_exit ?_
   cases hs
   have hO := hO.fr1
   have hO := hO.fr1
   exact ⟨rfl, _, fr_ovl 57 trivial, hC, hO, b8, a0⟩
  ·skip
   have hO := hO.fr1
   have hO := hO.fr1
   exact ⟨_, fr_ovl 57 ⟨rfl, rfl, rfl, rfl, rfl, trivial⟩, hC, hO, c9, a0⟩
  cases o71 with
  | nx _ => exact True.intro
  | rt r_ =>
   have hs := after_rt hs
   intro a6 a5 hK
   cases hs
   exact hK
  | br s67 =>
   have hs := after_br hs
   rintro a6 a3 ⟨σ, rfl, hC, hO, d8, a0⟩
   cases hs
   exact ⟨_, fr_ovl 57 trivial, hC, d8⟩

def k_impl_compareLists (M : Nat → Prop) (w0 : World) (r : Int) (a : Act) (w : World) : Prop :=
  ∃ (σ : Nat → Value) , a = fr 48 (ovl σ [(4, (.int .i64 r))]) ∧ Chg [] w0 w
def s_impl_compareLists (s_ : List Int) (t : List Int) : Option (Int) :=
  (iter (S := Int) (R := Int) (fun s25 =>
  (bif ((decide (s25 < (s_.length : Int))) && (decide (s25 < (t.length : Int)))) then (idx s_ s25).bind fun x42 =>
  (idx t s25).bind fun x44 =>
  (bif (x42 != x44) then (idx s_ s25).bind fun x48 =>
  (idx t s25).bind fun x50 =>
  (bif (decide (x48 < x50)) then some (.rt (-1)) else some (.rt 1)) else some (.nx (w64 (s25 + 1)))) else some (.br s25))) FU 0).bind fun o29 => after o29 (fun r_ => some r_) (fun s25 =>
  (bif (decide ((s_.length : Int) < (t.length : Int))) then some (-1) else (bif (decide ((t.length : Int) < (s_.length : Int))) then some 1 else some 0)))
set_option maxHeartbeats 4000000 in
theorem c_impl_compareLists {M : Nat → Prop} {w : World} {pa0 : Option Addr} {pn0 pc0 : Nat} {pa1 : Option Addr} {pn1 pc1 : Nat} (s_ : List Int) (t : List Int) (h0 : (RT.rs (RT.int .i64)).val M w (.slice pa0 pn0 pc0) s_ ([])) (h1 : (RT.rs (RT.int .i64)).val M w (.slice pa1 pn1 pc1) t ([])) (hM : ∀ g, w.heap.size ≤ g → M g) {r : Int} (hs : s_impl_compareLists s_ t = some r) :
    Gives Try.prog 103 [(.slice pa0 pn0 pc0), (.slice pa1 pn1 pc1)] w (fun v w' => v = (.int .i64 r) ∧ Chg [] w w') := by
 refine calls_fr Try.func103 rfl Try.ntmps103 (Nat.le_of_ble_eq_true rfl) ?_
 have hO := Own.start (N := Nw w []) hM Nw.fut
 have hC := Chg.refl [] w
 unfold s_impl_compareLists at hs
 refine wp_mono (Q := KPost (k_impl_compareLists M w r)) ?_ (fun e a b3 h => ?_)
 rotate_left
 ·cases e
  case ret =>
   obtain ⟨σ, rfl, hrest⟩ := h
   exact ret1x Try.results103 (res_tmp rfl) ⟨rfl, hrest⟩
  all_goals exact (h : False).elim
 refine c_sr ?_
 refine pl_val (.int .i64 0) (y_assign rfl) ?_
 refine c_nil ?_
 refine c_seq ?_
 refine c_sr ?_
 refine pl_val (.int .i64 0) (y_assign rfl) ?_
 refine c_nil ?_
 obtain ⟨o29, b4, hs⟩ := bind_some hs
 refine wp_block ?_
 refine wp_iter (id := 0) (I := fun s25 a a0 => ∃ (σ : Nat → Value), a = fr 48 (ovl σ [(0, (.slice pa0 pn0 pc0)), (1, (.slice pa1 pn1 pc1)), (5, (.int .i64 s25))]) ∧ Chg [] w a0 ∧ Own (Nw w []) M a0 ([]) ∧ (RT.rs (RT.int .i64)).val M a0 (.slice pa0 pn0 pc0) s_ ([]) ∧ (RT.rs (RT.int .i64)).val M a0 (.slice pa1 pn1 pc1) t ([])) (J := fun s25 a a0 => ∃ (σ : Nat → Value), a = fr 48 (ovl σ [(0, (.slice pa0 pn0 pc0)), (1, (.slice pa1 pn1 pc1))]) ∧ Chg [] w a0 ∧ Own (Nw w []) M a0 ([]) ∧ (RT.rs (RT.int .i64)).val M a0 (.slice pa0 pn0 pc0) s_ ([]) ∧ (RT.rs (RT.int .i64)).val M a0 (.slice pa1 pn1 pc1) t ([])) (K := (k_impl_compareLists M w)) ?_ FU 0 o29 _ _ ?_ b4 ?_
 ·rintro s25 o29 a a0 ⟨σ, rfl, hC, hO, h0, h1⟩ hs
  refine c_seq ?_
  refine c_seq ?_
  refine c_mid (I := fun a a4 => ∃ (σ : Nat → Value), a = fr 48 (ovl σ [(0, (.slice pa0 pn0 pc0)), (1, (.slice pa1 pn1 pc1)), (5, (.int .i64 s25)), (15, (.bool ((decide (s25 < (s_.length : Int))) && (decide (s25 < (t.length : Int))))))]) ∧ Chg [] a0 a4) ?_ ?_
  ·have hMid := Chg.refl [] a0
   refine c_region ?_
   refine pl_val (.int .i64 s25) (y_move rfl) ?_
   refine pl_val (.slice pa0 pn0 pc0) (y_move rfl) ?_
   refine pl_val (.int .i64 (s_.length : Int)) (y_len' Sl25 (rs_len h0) rfl) ?_
   refine pl_val (.bool (decide (s25 < (s_.length : Int)))) (y_lss rfl rfl) ?_
   refine pl_val (.bool (decide (s25 < (s_.length : Int)))) (y_move rfl) ?_
   rcases Bool.eq_false_or_eq_true ((decide (s25 < (s_.length : Int)))) with a1 | a1
   ·skip
    refine pl_yes (.int .i64 s25) (tg := 10) (by kernel_rfl) (congrArg Value.bool a1) (y_move rfl) ?_
    refine pl_yes (.slice pa1 pn1 pc1) (tg := 10) (by kernel_rfl) (congrArg Value.bool a1) (y_move rfl) ?_
    refine pl_yes (.int .i64 (t.length : Int)) (tg := 10) (by kernel_rfl) (congrArg Value.bool a1) (y_len' Sl25 (rs_len h1) rfl) ?_
    refine pl_yes (.bool (decide (s25 < (t.length : Int)))) (tg := 10) (by kernel_rfl) (congrArg Value.bool a1) (y_lss rfl rfl) ?_
    refine pl_val (.bool ((decide (s25 < (s_.length : Int))) && (decide (s25 < (t.length : Int))))) (y_pick_t (congrArg Value.bool a1) (congrArg Value.bool (by rw [a1]; rfl))) ?_
    refine c_nil ?_
    exact ⟨_, fr_ovl 48 ⟨rfl, rfl, rfl, rfl, trivial⟩, hMid⟩
   refine pl_not (tg := 10) (by kernel_rfl) (congrArg Value.bool a1) ?_
   refine pl_not (tg := 10) (by kernel_rfl) (congrArg Value.bool a1) ?_
   refine pl_not (tg := 10) (by kernel_rfl) (congrArg Value.bool a1) ?_
   refine pl_not (tg := 10) (by kernel_rfl) (congrArg Value.bool a1) ?_
   refine pl_val (.bool ((decide (s25 < (s_.length : Int))) && (decide (s25 < (t.length : Int))))) (y_pick_f (congrArg Value.bool a1) (congrArg Value.bool (by rw [a1]; rfl))) ?_
   refine c_nil ?_
   exact ⟨_, fr_ovl 48 ⟨rfl, rfl, rfl, rfl, trivial⟩, hMid⟩
  rintro b2 a4 ⟨σ, rfl, a5⟩
  have h0 := h0.ext a5
  have h1 := h1.ext a5
  have hC := hC.ext a5
  have hO := hO.ext a5
  rcases bif_some hs with ⟨a6, hs⟩ | ⟨a6, hs⟩
  ·refine c_condT (congrArg Value.bool a6) ?_
   refine wp_skip ?_
   refine c_seq ?_
   refine wp_block ?_
   refine c_seq ?_
   refine x_start [] Mx rfl ?_
   have a2 := Chg.drew a4
   generalize World.drew a4 = a7 at a2 ⊢
   have h0 := h0.ext a2
   have h1 := h1.ext a2
   have hC := hC.ext a2
   have hO := hO.ext a2
   have hS := Chg.refl [] a7
   refine x_p 0 (.slice pa0 pn0 pc0) rfl (by kernel_rfl)  (fun _ => y_move rfl) (fun _ => hS) ?_
   refine x_p 1 (.int .i64 s25) rfl (by kernel_rfl)  (fun _ => y_move rfl) (fun _ => hS) ?_
   obtain ⟨x42, b5, hs⟩ := bind_some hs
   obtain ⟨b6, b7, b8, b9⟩ := rs_idx Sl25 Sz3 h0 b5
   refine x_p 2 (.pointer (some ⟨b6, b7, none⟩)) rfl (by kernel_rfl)  (fun _ => b8 _ _ _ _ _ _ _ _ _ rfl rfl) (fun _ => hS) ?_
   refine x_l 3 (.int .i64 x42) rfl (by kernel_rfl)  (fun w' hw' => y_load rfl ((at_load_int Ag3 Sz3 b9) w' hw')) hS ?_
   refine x_p 4 (.slice pa1 pn1 pc1) rfl (by kernel_rfl)  (fun _ => y_move rfl) (fun _ => hS) ?_
   refine x_p 5 (.int .i64 s25) rfl (by kernel_rfl)  (fun _ => y_move rfl) (fun _ => hS) ?_
   obtain ⟨x44, c0, hs⟩ := bind_some hs
   obtain ⟨c1, c2, c3, c4⟩ := rs_idx Sl25 Sz3 h1 c0
   refine x_p 6 (.pointer (some ⟨c1, c2, none⟩)) rfl (by kernel_rfl)  (fun _ => c3 _ _ _ _ _ _ _ _ _ rfl rfl) (fun _ => hS) ?_
   refine x_l 7 (.int .i64 x44) rfl (by kernel_rfl)  (fun w' hw' => y_load rfl ((at_load_int Ag3 Sz3 c4) w' hw')) hS ?_
   refine x_p 8 (.bool (x42 != x44)) rfl (by kernel_rfl)  (fun _ => y_neq rfl rfl) (fun _ => hS) ?_
   refine x_end (by kernel_rfl) ?_
   clear hS
   rcases bif_some hs with ⟨a8, hs⟩ | ⟨a8, hs⟩
   ·refine c_condT (congrArg Value.bool a8) ?_
    refine c_seq ?_
    refine c_seq ?_
    refine x_start [] Mx rfl ?_
    have a3 := Chg.drew a7
    generalize World.drew a7 = c5 at a3 ⊢
    have h0 := h0.ext a3
    have h1 := h1.ext a3
    have hC := hC.ext a3
    have hO := hO.ext a3
    have hS := Chg.refl [] c5
    refine x_p 0 (.slice pa0 pn0 pc0) rfl (by kernel_rfl)  (fun _ => y_move rfl) (fun _ => hS) ?_
    refine x_p 1 (.int .i64 s25) rfl (by kernel_rfl)  (fun _ => y_move rfl) (fun _ => hS) ?_
    obtain ⟨x48, c6, hs⟩ := bind_some hs
    obtain ⟨c7, c8, c9, d0⟩ := rs_idx Sl25 Sz3 h0 c6
    refine x_p 2 (.pointer (some ⟨c7, c8, none⟩)) rfl (by kernel_rfl)  (fun _ => c9 _ _ _ _ _ _ _ _ _ rfl rfl) (fun _ => hS) ?_
    refine x_l 3 (.int .i64 x48) rfl (by kernel_rfl)  (fun w' hw' => y_load rfl ((at_load_int Ag3 Sz3 d0) w' hw')) hS ?_
    refine x_p 4 (.slice pa1 pn1 pc1) rfl (by kernel_rfl)  (fun _ => y_move rfl) (fun _ => hS) ?_
    refine x_p 5 (.int .i64 s25) rfl (by kernel_rfl)  (fun _ => y_move rfl) (fun _ => hS) ?_
    obtain ⟨x50, d1, hs⟩ := bind_some hs
    obtain ⟨d2, d3, d4, d5⟩ := rs_idx Sl25 Sz3 h1 d1
    refine x_p 6 (.pointer (some ⟨d2, d3, none⟩)) rfl (by kernel_rfl)  (fun _ => d4 _ _ _ _ _ _ _ _ _ rfl rfl) (fun _ => hS) ?_
    refine x_l 7 (.int .i64 x50) rfl (by kernel_rfl)  (fun w' hw' => y_load rfl ((at_load_int Ag3 Sz3 d5) w' hw')) hS ?_
    refine x_p 8 (.bool (decide (x48 < x50))) rfl (by kernel_rfl)  (fun _ => y_lss rfl rfl) (fun _ => hS) ?_
    refine x_end (by kernel_rfl) ?_
    clear hS
    rcases bif_some hs with ⟨a9, hs⟩ | ⟨a9, hs⟩
    ·refine c_condT (congrArg Value.bool a9) ?_
     refine c_sr ?_
     refine pl_val (.int .i64 (-1)) (y_assign rfl) ?_
     refine c_nil ?_
     refine wp_ret ?_
     cases hs
     exact ⟨_, fr_ovl 48 ⟨rfl, trivial⟩, hC⟩
    refine c_condF (congrArg Value.bool a9) ?_
    refine wp_skip ?_
    refine c_sr ?_
    refine pl_val (.int .i64 1) (y_assign rfl) ?_
    refine c_nil ?_
    refine wp_ret ?_
    cases hs
    exact ⟨_, fr_ovl 48 ⟨rfl, trivial⟩, hC⟩
   refine c_condF (congrArg Value.bool a8) ?_
   refine wp_skip ?_
   refine c_region ?_
   refine pl_val (.int .i64 s25) (y_move rfl) ?_
   refine pl_val (.int .i64 (w64 (s25 + 1))) (y_add rfl rfl) ?_
   refine pl_val (.int .i64 (w64 (s25 + 1))) (y_assign rfl) ?_
   refine c_nil ?_
   cases hs
   exact ⟨_, fr_ovl 48 ⟨rfl, rfl, rfl, trivial⟩, hC, hO, h0, h1⟩
  refine c_condF (congrArg Value.bool a6) ?_
  refine wp_exit ?_
  cases hs
  exact ⟨rfl, _, fr_ovl 48 ⟨rfl, rfl, trivial⟩, hC, hO, h0, h1⟩
 ·skip
  exact ⟨_, fr_ovl 48 ⟨rfl, rfl, rfl, trivial⟩, hC, hO, h0, h1⟩
 cases o29 with
 | nx _ => exact True.intro
 | rt r_ =>
  have hs := after_rt hs
  intro b2 b3 hK
  cases hs
  exact hK
 | br s25 =>
  have hs := after_br hs
  rintro b2 a0 ⟨σ, rfl, hC, hO, h0, h1⟩
  refine c_seq ?_
  refine wp_block ?_
  refine c_sr ?_
  refine pl_val (.slice pa0 pn0 pc0) (y_move rfl) ?_
  refine pl_val (.int .i64 (s_.length : Int)) (y_len' Sl25 (rs_len h0) rfl) ?_
  refine pl_val (.slice pa1 pn1 pc1) (y_move rfl) ?_
  refine pl_val (.int .i64 (t.length : Int)) (y_len' Sl25 (rs_len h1) rfl) ?_
  refine pl_val (.bool (decide ((s_.length : Int) < (t.length : Int)))) (y_lss rfl rfl) ?_
  refine pl_val (.bool (decide ((s_.length : Int) < (t.length : Int)))) (y_assign rfl) ?_
  refine c_nil ?_
  rcases bif_some hs with ⟨b0, hs⟩ | ⟨b0, hs⟩
  ·refine c_condT (congrArg Value.bool b0) ?_
   refine c_sr ?_
   refine pl_val (.int .i64 (-1)) (y_assign rfl) ?_
   refine c_nil ?_
   refine wp_ret ?_
   cases hs
   exact ⟨_, fr_ovl 48 ⟨rfl, trivial⟩, hC⟩
  refine c_condF (congrArg Value.bool b0) ?_
  refine c_sr ?_
  refine pl_val (.slice pa0 pn0 pc0) (y_move rfl) ?_
  refine pl_val (.int .i64 (s_.length : Int)) (y_len' Sl25 (rs_len h0) rfl) ?_
  refine pl_val (.slice pa1 pn1 pc1) (y_move rfl) ?_
  refine pl_val (.int .i64 (t.length : Int)) (y_len' Sl25 (rs_len h1) rfl) ?_
  refine pl_val (.bool (decide ((t.length : Int) < (s_.length : Int)))) (y_gtr rfl rfl) ?_
  refine pl_val (.bool (decide ((t.length : Int) < (s_.length : Int)))) (y_assign rfl) ?_
  refine c_nil ?_
  rcases bif_some hs with ⟨b1, hs⟩ | ⟨b1, hs⟩
  ·refine c_condT (congrArg Value.bool b1) ?_
   refine c_sr ?_
   refine pl_val (.int .i64 1) (y_assign rfl) ?_
   refine c_nil ?_
   refine wp_ret ?_
   cases hs
   exact ⟨_, fr_ovl 48 ⟨rfl, trivial⟩, hC⟩
  refine c_condF (congrArg Value.bool b1) ?_
  refine wp_skip ?_
  refine c_sr ?_
  refine pl_val (.int .i64 0) (y_assign rfl) ?_
  refine c_nil ?_
  refine wp_ret ?_
  cases hs
  exact ⟨_, fr_ovl 48 ⟨rfl, trivial⟩, hC⟩

theorem Bd110 : Bodied Try.prog 110 := bodied Try.func110 (by kernel_rfl) rfl

theorem Ag69 : AggT Try.prog 69 false := fun _ => by kernel_rfl

theorem Sz69 : SzT Try.prog 69 1 := ⟨_, rfl, rfl⟩

theorem Bd103 : Bodied Try.prog 103 := bodied Try.func103 (by kernel_rfl) rfl

def k_impl_sortRows_1__impl_compareLists (M : Nat → Prop) (w0 : World) (r : Bool) (a : Act) (w : World) : Prop :=
  ∃ (σ : Nat → Value) , a = fr 18 (ovl σ [(6, (.bool r))]) ∧ Chg [] w0 w
def s_impl_sortRows_1__impl_compareLists (tab1 : List (List Int)) (i : Int) (j : Int) : Option (Bool) :=
  (idx tab1 i).bind fun x5 =>
  (idx tab1 j).bind fun x9 =>
  (s_impl_compareLists x5 x9).bind fun r14 =>
  some (decide (r14 < 0))
set_option maxHeartbeats 4000000 in
theorem c_impl_sortRows_1__impl_compareLists {M : Nat → Prop} {w : World} {gv0 : Nat} {pa1 : Option Addr} {pn1 pc1 : Nat} {gv1 : Nat} (tab1 : List (List Int)) (i : Int) (j : Int) (hbgv0 : BoxV w gv0 69 [(.func (.func 103) #[] #[])]) (h1 : (RT.rs (RT.rs (RT.int .i64))).val M w (.slice pa1 pn1 pc1) tab1 ([])) (hbgv1 : BoxV w gv1 43 [(.slice pa1 pn1 pc1)]) (hM : ∀ g, w.heap.size ≤ g → M g) {r : Bool} (hs : s_impl_sortRows_1__impl_compareLists tab1 i j = some r) :
    Gives Try.prog 113 [(.int .i64 i), (.int .i64 j), (.pointer (some ⟨gv0, 0, none⟩)), (.pointer (some ⟨gv1, 0, none⟩))] w (fun v w' => v = (.bool r) ∧ Chg [] w w') := by
 refine calls_fr Try.func113 rfl Try.ntmps113 (Nat.le_of_ble_eq_true rfl) ?_
 have hO := Own.start (N := Nw w []) hM Nw.fut
 have hC := Chg.refl [] w
 unfold s_impl_sortRows_1__impl_compareLists at hs
 refine wp_mono (Q := KPost (k_impl_sortRows_1__impl_compareLists M w r)) ?_ (fun e a c4 h => ?_)
 rotate_left
 ·cases e
  case ret =>
   obtain ⟨σ, rfl, hrest⟩ := h
   exact ret1x Try.results113 (res_tmp rfl) ⟨rfl, hrest⟩
  all_goals exact (h : False).elim
 refine c_sr ?_
 refine pl_val (.bool false) (y_assign rfl) ?_
 refine c_nil ?_
 refine c_seq ?_
 refine x_start [9] Mx rfl ?_
 have a1 := Chg.drew w
 generalize World.drew w = a4 at a1 ⊢
 have hbgv0 := hbgv0.cn a1
 have h1 := h1.ext a1
 have hbgv1 := hbgv1.cn a1
 have hC := hC.ext a1
 have hO := hO.ext a1
 have hS := Chg.refl [] a4
 refine x_l 0 (.func (.func 103) #[] #[]) rfl (by kernel_rfl)  (fun w' hw' => y_load rfl ((box_load Ag69 Sz69 hbgv0 [] [(.func (.func 103) #[] #[])] [] rfl rfl (fun _ => rfl)) w' hw')) hS ?_
 refine x_l 1 (.slice pa1 pn1 pc1) rfl (by kernel_rfl)  (fun w' hw' => y_load rfl ((box_load Ag43 Sz43 hbgv1 [] [(.slice pa1 pn1 pc1)] [] rfl rfl (fun _ => rfl)) w' hw')) hS ?_
 refine x_p 2 (.int .i64 i) rfl (by kernel_rfl)  (fun _ => y_move rfl) (fun _ => hS) ?_
 obtain ⟨x5, a5, hs⟩ := bind_some hs
 obtain ⟨a6, a7, a8, a9⟩ := rs_idx Sl43 Sz25 h1 a5
 refine x_p 3 (.pointer (some ⟨a6, a7, none⟩)) rfl (by kernel_rfl)  (fun _ => a8 _ _ _ _ _ _ _ _ _ rfl rfl) (fun _ => hS) ?_
 obtain ⟨c5, b0, a2⟩ := at_load Ag25 Sz25 (fun _ => rfl) a9
 obtain ⟨b1, b2, b3, rfl⟩ := rs_sl a2
 refine x_l 4 (.slice b1 b2 b3) rfl (by kernel_rfl)  (fun w' hw' => y_load rfl (b0 w' hw')) hS ?_
 refine x_l 5 (.slice pa1 pn1 pc1) rfl (by kernel_rfl)  (fun w' hw' => y_load rfl ((box_load Ag43 Sz43 hbgv1 [] [(.slice pa1 pn1 pc1)] [] rfl rfl (fun _ => rfl)) w' hw')) hS ?_
 refine x_p 6 (.int .i64 j) rfl (by kernel_rfl)  (fun _ => y_move rfl) (fun _ => hS) ?_
 obtain ⟨x9, b4, hs⟩ := bind_some hs
 obtain ⟨b5, b6, b7, b8⟩ := rs_idx Sl43 Sz25 h1 b4
 refine x_p 7 (.pointer (some ⟨b5, b6, none⟩)) rfl (by kernel_rfl)  (fun _ => b7 _ _ _ _ _ _ _ _ _ rfl rfl) (fun _ => hS) ?_
 obtain ⟨c6, b9, a3⟩ := at_load Ag25 Sz25 (fun _ => rfl) b8
 obtain ⟨c0, c1, c2, rfl⟩ := rs_sl a3
 refine x_l 8 (.slice c0 c1 c2) rfl (by kernel_rfl)  (fun w' hw' => y_load rfl (b9 w' hw')) hS ?_
 refine x_one (i := 9) (by kernel_rfl) ?_
 obtain ⟨r14, c3, hs⟩ := bind_some hs
 refine xk_callv (b := true) rfl  (h := rfl) Bd103 rfl (c_impl_compareLists (M := M) x5 x9 a2 a3 hO.fut c3) rfl (fun h => nomatch h) ?_
 rintro _ c7 ⟨rfl, a0⟩
 have hbgv0 := hbgv0.cn a0
 have h1 := h1.ext a0
 have hbgv1 := hbgv1.cn a0
 have a2 := a2.ext a0
 have a3 := a3.ext a0
 have hC := hC.ext a0
 have hO := hO.ext a0
 refine x_p 10 (.bool (decide (r14 < 0))) rfl (by kernel_rfl)  (fun _ => y_lss rfl rfl) (fun h => nomatch h) ?_
 refine x_p 11 (.bool (decide (r14 < 0))) rfl (by kernel_rfl)  (fun _ => y_assign rfl) (fun h => nomatch h) ?_
 refine x_end (by kernel_rfl) ?_
 clear hS
 refine wp_ret ?_
 cases hs
 exact ⟨_, fr_ovl 18 ⟨rfl, trivial⟩, hC⟩

theorem Fx114 : ∀ args W, (callFunc 114 args).run Try.prog W = (((fun args : Array Value => Extern.ReflectliteValue.unpack (args.getD 0 (.tuple #[]))) args).run Try.prog W).andThen fun v w' => .ok (.value v) w' := fun args W => run_callFunc_extern Try.func114 (by kernel_rfl) (by kernel_rfl) (by kernel_rfl) (e := (fun args : Array Value => Extern.ReflectliteValue.unpack (args.getD 0 (.tuple #[])))) (by kernel_rfl) args W

theorem Ti43 : ∃ i, Try.prog.info? 43 = some i ∧ i.desc = .slice 25 := ⟨(Try.prog.info? 43).get (by kernel_rfl), by kernel_rfl, by kernel_rfl⟩

theorem Sz109 : SzT Try.prog 109 3 := ⟨_, rfl, rfl⟩

theorem Fx115 : ∀ args W, (callFunc 115 args).run Try.prog W = (((Extern.ReflectliteSwapper.swapper "internal/reflectlite" (Extern.ReflectliteValue.valueError "Swapper")) args).run Try.prog W).andThen fun v w' => .ok (.value v) w' := fun args W => run_callFunc_extern Try.func115 (by kernel_rfl) (by kernel_rfl) (by kernel_rfl) (e := (Extern.ReflectliteSwapper.swapper "internal/reflectlite" (Extern.ReflectliteValue.valueError "Swapper"))) (by kernel_rfl) args W

theorem Ke25 : ∀ w, (Extern.Rtype.kind 25).run Try.prog w = .ok 23 w := fun _ => by kernel_rfl

theorem Ag109 : AggT Try.prog 109 true := fun _ => by kernel_rfl

theorem Fx117 : ∀ args W, (callFunc 117 args).run Try.prog W = (((Extern.ReflectliteValue.method (Extern.ReflectliteValue.valueError "reflectlite.Value.Len" 0) Extern.ReflectliteValue.len) args).run Try.prog W).andThen fun v w' => .ok (.value v) w' := fun args W => run_callFunc_extern Try.func117 (by kernel_rfl) (by kernel_rfl) (by kernel_rfl) (e := (Extern.ReflectliteValue.method (Extern.ReflectliteValue.valueError "reflectlite.Value.Len" 0) Extern.ReflectliteValue.len)) (by kernel_rfl) args W

theorem Pk43 : Try.prog.packed 43 = false := by kernel_rfl

theorem Bd116 : Bodied Try.prog 116 := bodied Try.func116 (by kernel_rfl) rfl

def k_sort_SliceStable (M : Nat → Prop) (w0 : World) {α_ : Type} (I_ : World → List α_ → Prop) (G_ : List Nat) (r : (List α_)) (a : Act) (w : World) : Prop :=
  ∃ (σ : Nat → Value) , a = fr 16 (ovl σ []) ∧ Chg (G_ ++ ([])) w0 w ∧ I_ w r
def s_sort_SliceStable {α_ : Type} (ls_ : α_ → α_ → Option Bool) (d_ : List α_) (n_ : Nat) : Option ((List α_)) :=
  (s_sort_stable_func ls_ d_ (n_ : Int)).bind fun r7 =>
  some r7
set_option maxHeartbeats 4000000 in
theorem c_sort_SliceStable {M : Nat → Prop} {w : World} {a_ : Option Addr} {c_ : Nat} {ie_ : TypeInfo} {α_ : Type} {n0_ : Nat} {I_ : World → List α_ → Prop} {G_ : List Nat} {g_ sf_ : Nat} {lb_ : Array Value} (ls_ : α_ → α_ → Option Bool) (d_ : List α_) (n_ : Nat) (hN_ : n0_ ≤ w.heap.size) (hie_ : Try.prog.info? 25 = some ie_) (hf_ : Try.prog.funcs.findIdx? (·.name == "internal/reflectlite" ++ ".Swapper$" ++ toString (Go.Lib.swapperK n_ ie_ 23)) = some sf_) (hE_ : Env Try.prog n0_ I_ G_ ls_ g_ lb_ sf_ (if Go.Lib.swapperK n_ ie_ 23 ≤ 2 then #[] else #[.slice a_ n_ c_, typeHandle Try.prog 25])) (hI_ : I_ w d_) (hI : Own (Nw w (G_ ++ ([]))) M w (G_ ++ ([]))) (hM : ∀ g, w.heap.size ≤ g → M g) {r : (List α_)} (hs : s_sort_SliceStable ls_ d_ n_ = some r) :
    Gives Try.prog 112 [(.iface 43 (.slice a_ n_ c_)), (.func (.func g_) #[] lb_)] w (fun v w' => v = (.tuple #[]) ∧ Chg (G_ ++ ([])) w w' ∧ I_ w' r) := by
 refine calls_fr Try.func112 rfl Try.ntmps112 (Nat.le_of_ble_eq_true rfl) ?_
 have hO := hI
 have hC := Chg.refl (G_ ++ ([])) w
 unfold s_sort_SliceStable at hs
 refine wp_mono (Q := KPostN (k_sort_SliceStable M w I_ G_ r)) ?_ (fun e a a6 h => ?_)
 rotate_left
 ·cases e
  case ret =>
   obtain ⟨σ, rfl, hrest⟩ := h
   exact ret0x Try.results112  ⟨rfl, hrest⟩
  case normal =>
   obtain ⟨σ, rfl, hrest⟩ := h
   exact ret0n Try.results112  ⟨rfl, hrest⟩
  all_goals exact (h : False).elim
 refine c_sr ?_
 refine pl_val (.iface 43 (.slice a_ n_ c_)) (y_move rfl) ?_
 obtain ⟨b3, b4, b5⟩ := Ti43
 obtain ⟨a6, a1, b6, a9, a7, a0⟩ := new_block w [(.slice a_ n_ c_)] 43
 refine pl_val (w' := a6) (.agg #[(typeHandle Try.prog 43), (.pointer (some ⟨a1, 0, none⟩)), (.int .u64 151)]) (y_callg rfl rfl (by rw [Fx114]; show Result.andThen (Sem.run Try.prog (Extern.ReflectliteValue.unpack (.iface 43 (.slice a_ n_ c_))) _) _ = _; rw [Go.Lib.run_valueOf_slice 43 25 b3 b4 b5, b6, a9]; rfl)) ?_
 have hI_ := hE_.ext hI_ a7 (fun _ h => nomatch h)
 have hC := hC.ext a7
 have hO := hO.new1 a7 a9 a0.lt
 obtain ⟨b7, a8, b8, b0, a3, b1⟩ := new_block a6 [(.pointer none), (.pointer none), (.int .u64 0)] 109
 refine pl_val (w' := b7) (.pointer (some ⟨a8, 0, none⟩)) (y_alloc (by rw [b8, b0]; kernel_rfl)) ?_
 have hI_ := hE_.ext hI_ a3 (fun _ h => nomatch h)
 have a0 := a0.cn a3
 have hC := hC.ext a3
 have hO := hO.new1 a3 b0 b1.lt
 obtain ⟨b2, b9, a4, a2⟩ := box_store (P := Try.prog) b1 [] [(.pointer none), (.pointer none), (.int .u64 0)] [] [(typeHandle Try.prog 43), (.pointer (some ⟨a1, 0, none⟩)), (.int .u64 151)] rfl rfl (by intro u hu; simp only [List.mem_cons, List.not_mem_nil, or_false] at hu; rcases hu with rfl | rfl | rfl <;> rfl)
 refine pl_skip (w' := b2) (ys_store rfl rfl (b9 _ _ rfl Sz109)) ?_
 have hI_ := hE_.ext hI_ a4 (fun q hq => Nat.le_trans hN_ ((hO.inN q ((fun _ h => h) q hq)).resolve_left (fun e => hO.apart q ((fun _ h => h) q hq) (mem_r (mem_l (nil_mem q e))))))
 have a0 := a0.ap a4 hO same_ (mem_l (List.mem_singleton.2 rfl))
 have hC := hC.st a4 hO same_
 have hO := hO.ext a4
 have a2 : BoxV b2 a8 109 [(typeHandle Try.prog 43), (.pointer (some ⟨a1, 0, none⟩)), (.int .u64 151)] := a2
 refine c_nil ?_
 refine c_sr ?_
 refine pl_val (.iface 43 (.slice a_ n_ c_)) (y_move rfl) ?_
 obtain ⟨c0, c1, c2⟩ := Ti43
 refine pl_val (.func (.func sf_) #[] (if Go.Lib.swapperK n_ ie_ 23 ≤ 2 then #[] else #[.slice a_ n_ c_, typeHandle Try.prog 25])) ((y_callg rfl rfl (by rw [Fx115]; show Result.andThen (Sem.run Try.prog (Extern.ReflectliteSwapper.swapper "internal/reflectlite" (Extern.ReflectliteValue.valueError "Swapper") #[(.iface 43 (.slice a_ n_ c_))]) _) _ = _; rw [Go.Lib.run_swapper_slice 43 25 c0 ie_ c1 c2 hie_ 23 Ke25 a_ n_ c_ sf_ hf_]; rfl))) ?_
 refine pl_val (.func (.func sf_) #[] (if Go.Lib.swapperK n_ ie_ 23 ≤ 2 then #[] else #[.slice a_ n_ c_, typeHandle Try.prog 25])) (y_assign rfl) ?_
 refine c_nil ?_
 refine c_region ?_
 refine pl_val (.func (.func g_) #[] lb_) (y_move rfl) ?_
 refine pl_val (.func (.func sf_) #[] (if Go.Lib.swapperK n_ ie_ 23 ≤ 2 then #[] else #[.slice a_ n_ c_, typeHandle Try.prog 25])) (y_move rfl) ?_
 refine pl_val (.agg #[(.func (.func g_) #[] lb_), (.func (.func sf_) #[] (if Go.Lib.swapperK n_ ie_ 23 ≤ 2 then #[] else #[.slice a_ n_ c_, typeHandle Try.prog 25]))]) (y_build rfl (by kernel_rfl)) ?_
 refine pl_val (.agg #[(typeHandle Try.prog 43), (.pointer (some ⟨a1, 0, none⟩)), (.int .u64 151)]) (y_load rfl ((box_load Ag109 Sz109 a2 [] [(typeHandle Try.prog 43), (.pointer (some ⟨a1, 0, none⟩)), (.int .u64 151)] [] rfl rfl (fun h => nomatch h)) _ (Chg.refl _ _))) ?_
 obtain ⟨c3, c4, c5⟩ := Ti43
 refine pl_val (.int .i64 (n_ : Int)) ((y_callg rfl rfl (by rw [Fx117]; show Result.andThen (Sem.run Try.prog (Extern.ReflectliteValue.method (Extern.ReflectliteValue.valueError "reflectlite.Value.Len" 0) Extern.ReflectliteValue.len #[(.agg #[(typeHandle Try.prog 43), (.pointer (some ⟨a1, 0, none⟩)), (.int .u64 151)])]) _) _ = _; rw [Go.Lib.run_valueLen_slice 43 25 c3 c4 c5 Pk43 _ _ _ _ _ (box_cell a0)]; rfl))) ?_
 have hO := hO.fr2
 have c6 := Own.lend (F := (G_ ++ ([]))) (R := ([a8]) ++ (([a1]) ++ ([]))) (Own.perm hO (by simp))
 obtain ⟨r7, c7, hs⟩ := bind_some hs
 refine pl_call Bd116 rfl (c_sort_stable_func (M := M) ls_ d_ (n_ : Int) (Nat.le_trans hN_ hC.size) hE_ hI_ c6 hO.fut c7) ?_
 rintro _ c9 ⟨rfl, a5, c8⟩
 have a0 := a0.ap a5 hO nil_mem (mem_r (mem_l (List.mem_singleton.2 rfl)))
 have a2 := a2.ap a5 hO nil_mem (mem_l (List.mem_singleton.2 rfl))
 have hC := hC.st a5 hO nil_mem
 have hO := hO.ext a5
 refine c_nil ?_
 cases hs
 exact ⟨_, fr_ovl 16 trivial, hC, c8⟩

theorem Ei25 : ∃ ie, Try.prog.info? 25 = some ie ∧ ie.size = 1 ∧ ie.hasPointers = true ∧ (ie.bytes == 8) = false := ⟨(Try.prog.info? 25).get (by kernel_rfl), by kernel_rfl, by kernel_rfl, by kernel_rfl, by kernel_rfl⟩

theorem Fs2 : ∀ W, (callFunc 119 #[.int .i64 0, .int .i64 0]).run Try.prog W = .ok (.value (.tuple #[])) W := fun W => (run_callFunc_extern Try.func119 (by kernel_rfl) (by kernel_rfl) (by kernel_rfl) (e := (Extern.find Try.f119).get (by kernel_rfl)) (by kernel_rfl) _ W).trans (by kernel_rfl)

theorem Fx126 : ∀ args W, (callFunc 126 args).run Try.prog W = (((Extern.ReflectliteSwapper.swap false) args).run Try.prog W).andThen fun v w' => .ok (.value v) w' := fun args W => run_callFunc_extern Try.func126 (by kernel_rfl) (by kernel_rfl) (by kernel_rfl) (e := (Extern.ReflectliteSwapper.swap false)) (by kernel_rfl) args W

theorem Sn1 : Try.prog.funcs.findIdx? (·.name == "internal/reflectlite" ++ ".Swapper$" ++ toString 1) = some 118 := by kernel_rfl

theorem Sn2 : Try.prog.funcs.findIdx? (·.name == "internal/reflectlite" ++ ".Swapper$" ++ toString 2) = some 119 := by kernel_rfl

theorem Sn9 : Try.prog.funcs.findIdx? (·.name == "internal/reflectlite" ++ ".Swapper$" ++ toString 9) = some 126 := by kernel_rfl

theorem Bd113 : Bodied Try.prog 113 := bodied Try.func113 (by kernel_rfl) rfl

theorem Bd112 : Bodied Try.prog 112 := bodied Try.func112 (by kernel_rfl) rfl

def k_impl_sortRows__impl_compareLists (M : Nat → Prop) (w0 : World) (qa0 : Option Addr) (qn0 qc0 : Nat) (qf0 : List Nat) (r : (List (List Int))) (a : Act) (w : World) : Prop :=
  ∃ (σ : Nat → Value) (rfi0 : List Nat), a = fr 8 (ovl σ []) ∧ Chg (qf0 ++ ([])) w0 w ∧ (RT.os 25 (RT.os 3 (RT.int .i64))).val M w (.slice qa0 qn0 qc0) r rfi0 ∧ Own (Nw w0 (qf0 ++ ([]))) (fun _ => True) w (rfi0 ++ ([]))
def s_impl_sortRows__impl_compareLists (rows : List (List Int)) : Option ((List (List Int))) :=
  (s_sort_SliceStable (fun x_ y_ => (s_impl_compareLists x_ y_).bind fun r_ => some (decide (r_ < 0))) rows (rows.length)).bind fun r5 =>
  some r5
set_option maxHeartbeats 4000000 in
theorem c_impl_sortRows__impl_compareLists {M : Nat → Prop} {w : World} {pa0 : Option Addr} {pn0 pc0 : Nat} {pf0 : List Nat} (rows : List (List Int)) (h0 : (RT.os 25 (RT.os 3 (RT.int .i64))).val M w (.slice pa0 pn0 pc0) rows pf0) (hI : Own (Nw w (pf0 ++ ([]))) M w (pf0 ++ ([]))) (hM : ∀ g, w.heap.size ≤ g → M g) {r : (List (List Int))} (hs : s_impl_sortRows__impl_compareLists rows = some r) :
    Gives Try.prog 111 [(.slice pa0 pn0 pc0), (.func (.func 103) #[] #[])] w (fun v w' => ∃ (rfi0 : List Nat), v = (.tuple #[]) ∧ Chg (pf0 ++ ([])) w w' ∧ (RT.os 25 (RT.os 3 (RT.int .i64))).val M w' (.slice pa0 pn0 pc0) r rfi0 ∧ Own (Nw w (pf0 ++ ([]))) (fun _ => True) w' (rfi0 ++ ([]))) := by
 refine calls_fr Try.func111 rfl Try.ntmps111 (Nat.le_of_ble_eq_true rfl) ?_
 have hO := hI
 have hC := Chg.refl (pf0 ++ ([])) w
 unfold s_impl_sortRows__impl_compareLists at hs
 refine wp_mono (Q := KPostN (k_impl_sortRows__impl_compareLists M w pa0 pn0 pc0 pf0 r)) ?_ (fun e a c5 h => ?_)
 rotate_left
 ·cases e
  case ret =>
   obtain ⟨σ, rfi0, rfl, hrest⟩ := h
   exact ret0x Try.results111  ⟨rfi0, rfl, hrest⟩
  case normal =>
   obtain ⟨σ, rfi0, rfl, hrest⟩ := h
   exact ret0n Try.results111  ⟨rfi0, rfl, hrest⟩
  all_goals exact (h : False).elim
 refine c_sr ?_
 obtain ⟨b0, a1, b4, b1, a6, a0⟩ := new_block w [(.slice pa0 pn0 pc0)] 43
 refine pl_val (w' := b0) (.pointer (some ⟨a1, 0, none⟩)) (y_box rfl (by rw [b4, b1]; kernel_rfl)) ?_
 have h0 := h0.ext a6
 have hC := hC.ext a6
 have hO := hO.new1 a6 b1 a0.lt
 obtain ⟨a7, a2, b5, b2, a4, a3⟩ := new_block b0 [(.func (.func 103) #[] #[])] 69
 refine pl_val (w' := a7) (.pointer (some ⟨a2, 0, none⟩)) (y_box rfl (by rw [b5, b2]; kernel_rfl)) ?_
 have h0 := h0.ext a4
 have a0 := a0.cn a4
 have hC := hC.ext a4
 have hO := hO.new1 a4 b2 a3.lt
 refine c_nil ?_
 refine c_region ?_
 refine pl_val (.slice pa0 pn0 pc0) (y_load rfl ((box_load Ag43 Sz43 a0 [] [(.slice pa0 pn0 pc0)] [] rfl rfl (fun _ => rfl)) _ (Chg.refl _ _))) ?_
 refine pl_val (.iface 43 (.slice pa0 pn0 pc0)) (y_iface Try.underlying43 rfl) ?_
 refine pl_val (.func (.func 113) #[] #[(.pointer (some ⟨a2, 0, none⟩)), (.pointer (some ⟨a1, 0, none⟩))]) (y_func rfl rfl) ?_
 have hO := hO.fr2
 obtain ⟨c6, b3, b6, a8, b7⟩ := Ei25
 have b8 := os_n h0
 obtain ⟨c7, b9, c0⟩ := sort_env (P := Try.prog) (ke := 23) (M := M) (gO := a2) (gR := a1) (tO := 69) (tR := 43) (fv := (.func (.func 103) #[] #[])) (ls := (fun x_ y_ => (s_impl_compareLists x_ y_).bind fun r_ => some (decide (r_ < 0)))) (g := 113) (lb := #[(.pointer (some ⟨a2, 0, none⟩)), (.pointer (some ⟨a1, 0, none⟩))]) rfl b3 b6 Ag25 a8 b7 rfl Sn1 Sn2 Sn9 Fs2 Fx126 Bd113 hO.inM (fun hg => hO.apart _ hg (mem_l (List.mem_singleton.2 rfl))) (fun hg => hO.apart _ hg (mem_r (mem_l (List.mem_singleton.2 rfl)))) (fun h hm ho hr hf hl => c_impl_sortRows_1__impl_compareLists (M := Less M _) _ _ _ ho (((Frz.os (Frz.os Frz.int))).val h Less.sub Less.not) hr (less_fut hf h.fpl) (show s_impl_sortRows_1__impl_compareLists _ _ _ = some _ from hl)) h0 (n0 := (a7).heap.size) hO.lt a3.lt a0.lt hO.fut
 have c1 : SortI (RT.os 3 (RT.int .i64)) 25 M pa0 pn0 pc0 pf0 a2 a1 69 43 (.func (.func 103) #[] #[]) a7 rows := ⟨⟨_, h0, List.Perm.refl _⟩, a3, a0, hO.fut⟩
 have c2 := Own.lend (F := (pf0 ++ ([]))) (R := ([a2]) ++ (([a1]) ++ ([]))) (Own.perm hO (by simp))
 obtain ⟨r5, c3, hs⟩ := bind_some hs
 refine pl_call Bd112 rfl (c_sort_SliceStable (M := M) (fun x_ y_ => (s_impl_compareLists x_ y_).bind fun r_ => some (decide (r_ < 0))) rows pn0 (Nat.le_refl _) b3 b9 c0 c1 c2 hO.fut (by rw [b8]; exact c3)) ?_
 rintro _ c8 ⟨rfl, a5, ⟨⟨c4, a9, a8⟩, _, _, _⟩⟩
 have a0 := a0.ap a5 hO nil_mem (mem_r (mem_l (List.mem_singleton.2 rfl)))
 have a3 := a3.ap a5 hO nil_mem (mem_l (List.mem_singleton.2 rfl))
 have hC := hC.st a5 hO nil_mem
 have hO := hO.grow a5 (fun q hq => .inl (a8.mem_iff.1 hq)) (os_nodup a9) a9.fpl
 refine c_nil ?_
 cases hs
 have hO := hO.fr1
 have hO := hO.drop
 have hO := hO.fr1
 have hO := hO.drop
 exact ⟨_, c4, fr_ovl 8 trivial, hC, a9, hO.top⟩

theorem Bd111 : Bodied Try.prog 111 := bodied Try.func111 (by kernel_rfl) rfl

def k_impl_sortedTuples (M : Nat → Prop) (w0 : World) (r : (List (List Int))) (a : Act) (w : World) : Prop :=
  ∃ (σ : Nat → Value) (ra0 : Option Addr) (rn0 rc0 : Nat) (rf0 : List Nat), a = fr 9 (ovl σ [(2, (.slice ra0 rn0 rc0))]) ∧ Chg [] w0 w ∧ (RT.os 25 (RT.os 3 (RT.int .i64))).val M w (.slice ra0 rn0 rc0) r rf0 ∧ Own (Nw w0 []) (fun _ => True) w (rf0 ++ ([]))
def s_impl_sortedTuples (list : List (List Int)) : Option ((List (List Int))) :=
  (s_impl_cloneRows list).bind fun r3 =>
  (s_impl_sortRows__impl_compareLists r3).bind fun r6 =>
  some r6
set_option maxHeartbeats 4000000 in
theorem c_impl_sortedTuples {M : Nat → Prop} {w : World} {pa0 : Option Addr} {pn0 pc0 : Nat} (list : List (List Int)) (h0 : (RT.rs (RT.rs (RT.int .i64))).val M w (.slice pa0 pn0 pc0) list ([])) (hM : ∀ g, w.heap.size ≤ g → M g) {r : (List (List Int))} (hs : s_impl_sortedTuples list = some r) :
    Gives Try.prog 107 [(.slice pa0 pn0 pc0)] w (fun v w' => ∃ (ra0 : Option Addr) (rn0 rc0 : Nat) (rf0 : List Nat), v = (.slice ra0 rn0 rc0) ∧ Chg [] w w' ∧ (RT.os 25 (RT.os 3 (RT.int .i64))).val M w' (.slice ra0 rn0 rc0) r rf0 ∧ Own (Nw w []) (fun _ => True) w' (rf0 ++ ([]))) := by
 refine calls_fr Try.func107 rfl Try.ntmps107 (Nat.le_of_ble_eq_true rfl) ?_
 have hO := Own.start (N := Nw w []) hM Nw.fut
 have hC := Chg.refl [] w
 unfold s_impl_sortedTuples at hs
 refine wp_mono (Q := KPost (k_impl_sortedTuples M w r)) ?_ (fun e a b5 h => ?_)
 rotate_left
 ·cases e
  case ret =>
   obtain ⟨σ, ra0, rn0, rc0, rf0, rfl, hrest⟩ := h
   exact ret1x Try.results107 (res_tmp rfl) ⟨ra0, rn0, rc0, rf0, rfl, hrest⟩
  all_goals exact (h : False).elim
 refine c_sr ?_
 refine pl_val (.slice none 0 0) (y_assign rfl) ?_
 refine c_nil ?_
 refine c_sr ?_
 refine pl_val (.slice pa0 pn0 pc0) (y_move rfl) ?_
 obtain ⟨r3, a8, hs⟩ := bind_some hs
 refine pl_call Bd110 rfl (c_impl_cloneRows (M := M) list h0 hO.fut a8) ?_
 rintro _ b6 ⟨a0, a1, a2, a3, rfl, a4, a9, b0⟩
 have h0 := h0.ext a4
 have hC := hC.ext a4
 have hO := Own.join0 hO a4 b0
 have hO := hO.perm (R := a3 ++ ([])) (by simp)
 refine pl_val (.slice a0 a1 a2) (y_assign rfl) ?_
 refine c_nil ?_
 refine c_sr ?_
 refine pl_val (.slice a0 a1 a2) (y_move rfl) ?_
 have b1 := hO
 have a5 := Own.lend (F := (a3 ++ ([]))) (R := []) (Own.perm (b1) (by simp))
 obtain ⟨r6, b2, hs⟩ := bind_some hs
 refine pl_call Bd111 rfl (c_impl_sortRows__impl_compareLists (M := M) r3 a9 a5 a5.fut b2) ?_
 rintro _ b7 ⟨a6, rfl, a7, b3, b4⟩
 have hO := hO.perm (R := (a3 ++ ([])) ++ ([])) (by simp)
 have hC := hC.st a7 hO same_
 have hO := Own.join hO a7 b4
 have hO := hO.perm (R := a6 ++ ([])) (by simp)
 refine c_nil ?_
 refine c_sr ?_
 refine pl_val (.slice a0 a1 a2) (y_move rfl) ?_
 refine pl_val (.slice a0 a1 a2) (y_assign rfl) ?_
 refine c_nil ?_
 refine wp_ret ?_
 cases hs
 exact ⟨_, a0, a1, a2, a6, fr_ovl 9 ⟨rfl, trivial⟩, hC, b3, hO.top⟩

def k_impl_sameList (M : Nat → Prop) (w0 : World) (r : Bool) (a : Act) (w : World) : Prop :=
  ∃ (σ : Nat → Value) , a = fr 26 (ovl σ [(4, (.bool r))]) ∧ Chg [] w0 w
def s_impl_sameList (a_ : List Int) (b : List Int) : Option (Bool) :=
  (bif ((a_.length : Int) != (b.length : Int)) then some false else (forC (S := Unit) (R := Bool) (fun k11 s9 =>
  (idx a_ k11).bind fun x15 =>
  (idx b k11).bind fun x17 =>
  (bif (x17 != x15) then some (.rt false) else some (.nx ()))) 0 (a_.length : Int) ()).bind fun o13 => after o13 (fun r_ => some r_) (fun s9 =>
  some true))
set_option maxHeartbeats 4000000 in
theorem c_impl_sameList {M : Nat → Prop} {w : World} {pa0 : Option Addr} {pn0 pc0 : Nat} {pa1 : Option Addr} {pn1 pc1 : Nat} (a_ : List Int) (b : List Int) (h0 : (RT.rs (RT.int .i64)).val M w (.slice pa0 pn0 pc0) a_ ([])) (h1 : (RT.rs (RT.int .i64)).val M w (.slice pa1 pn1 pc1) b ([])) (hM : ∀ g, w.heap.size ≤ g → M g) {r : Bool} (hs : s_impl_sameList a_ b = some r) :
    Gives Try.prog 42 [(.slice pa0 pn0 pc0), (.slice pa1 pn1 pc1)] w (fun v w' => v = (.bool r) ∧ Chg [] w w') := by
 refine calls_fr Try.func42 rfl Try.ntmps42 (Nat.le_of_ble_eq_true rfl) ?_
 have hO := Own.start (N := Nw w []) hM Nw.fut
 have hC := Chg.refl [] w
 unfold s_impl_sameList at hs
 refine wp_mono (Q := KPost (k_impl_sameList M w r)) ?_ (fun e a a3 h => ?_)
 rotate_left
 ·cases e
  case ret =>
   obtain ⟨σ, rfl, hrest⟩ := h
   exact ret1x Try.results42 (res_tmp rfl) ⟨rfl, hrest⟩
  all_goals exact (h : False).elim
 refine c_sr ?_
 refine pl_val (.bool false) (y_assign rfl) ?_
 refine c_nil ?_
 refine c_seq ?_
 refine c_sr ?_
 refine pl_val (.slice pa0 pn0 pc0) (y_move rfl) ?_
 refine pl_val (.int .i64 (a_.length : Int)) (y_len' Sl25 (rs_len h0) rfl) ?_
 refine pl_val (.slice pa1 pn1 pc1) (y_move rfl) ?_
 refine pl_val (.int .i64 (b.length : Int)) (y_len' Sl25 (rs_len h1) rfl) ?_
 refine pl_val (.bool ((a_.length : Int) != (b.length : Int))) (y_neq rfl rfl) ?_
 refine c_nil ?_
 rcases bif_some hs with ⟨a1, hs⟩ | ⟨a1, hs⟩
 ·refine c_condT (congrArg Value.bool a1) ?_
  refine c_sr ?_
  refine pl_val (.bool false) (y_assign rfl) ?_
  refine c_nil ?_
  refine wp_ret ?_
  cases hs
  exact ⟨_, fr_ovl 26 ⟨rfl, trivial⟩, hC⟩
 refine c_condF (congrArg Value.bool a1) ?_
 refine wp_skip ?_
 refine c_seq ?_
 refine c_sr ?_
 refine pl_val (.slice pa0 pn0 pc0) (y_move rfl) ?_
 refine pl_val (.int .i64 (a_.length : Int)) (y_len' Sl25 (rs_len h0) rfl) ?_
 refine pl_val (.int .i64 0) (y_move rfl) ?_
 refine c_nil ?_
 obtain ⟨o13, a4, hs⟩ := bind_some hs
 refine wp_block ?_
 refine wp_forC (id := 0) (a_.length : Int) (I := fun k11 s9 a a0 => ∃ (σ : Nat → Value), a = fr 26 (ovl σ [(1, (.slice pa1 pn1 pc1)), (12, (.slice pa0 pn0 pc0)), (13, (.int .i64 (a_.length : Int))), (14, (.int .i64 k11))]) ∧ Chg [] w a0 ∧ Own (Nw w []) M a0 ([]) ∧ (RT.rs (RT.int .i64)).val M a0 (.slice pa0 pn0 pc0) a_ ([]) ∧ (RT.rs (RT.int .i64)).val M a0 (.slice pa1 pn1 pc1) b ([])) (J := fun s9 a a0 => ∃ (σ : Nat → Value), a = fr 26 (ovl σ []) ∧ Chg [] w a0 ∧ Own (Nw w []) M a0 ([]) ∧ (RT.rs (RT.int .i64)).val M a0 (.slice pa0 pn0 pc0) a_ ([]) ∧ (RT.rs (RT.int .i64)).val M a0 (.slice pa1 pn1 pc1) b ([])) (K := (k_impl_sameList M w)) ?_ ?_ 0 () o13 _ _ ?_ a4 ?_
 ·rintro k11 s9 a a0 ⟨σ, rfl, hC, hO, h0, h1⟩ hlt
  refine c_sr ?_
  refine pl_val (.bool (decide (k11 < (a_.length : Int)))) (y_lss rfl rfl) ?_
  refine c_nil ?_
  refine c_seq ?_
  refine c_condF (congrArg Value.bool (decide_eq_false hlt)) ?_
  refine wp_exit ?_
  exact ⟨rfl, _, fr_ovl 26 trivial, hC, hO, h0, h1⟩
 ·rintro k11 s9 o13 a a0 ⟨σ, rfl, hC, hO, h0, h1⟩ hlt hw hs
  refine c_sr ?_
  refine pl_val (.bool (decide (k11 < (a_.length : Int)))) (y_lss rfl rfl) ?_
  refine c_nil ?_
  refine c_seq ?_
  refine c_condT (congrArg Value.bool (decide_eq_true hlt)) ?_
  refine wp_skip ?_
  refine c_seq ?_
  refine wp_block ?_
  refine c_sr ?_
  refine pl_val (.int .i64 k11) (y_move rfl) ?_
  obtain ⟨x15, a5, hs⟩ := bind_some hs
  obtain ⟨a6, a7, a8, a9⟩ := rs_idx Sl25 Sz3 h0 a5
  refine pl_val (.pointer (some ⟨a6, a7, none⟩)) (a8 _ _ _ _ _ _ _ _ _ rfl rfl) ?_
  refine pl_val (.int .i64 x15) (y_load rfl ((at_load_int Ag3 Sz3 a9) _ (Chg.refl _ _))) ?_
  refine pl_val (.int .i64 k11) (y_assign rfl) ?_
  refine pl_val (.int .i64 x15) (y_assign rfl) ?_
  refine c_nil ?_
  refine c_sr ?_
  refine pl_val (.slice pa1 pn1 pc1) (y_move rfl) ?_
  refine pl_val (.int .i64 k11) (y_move rfl) ?_
  obtain ⟨x17, b0, hs⟩ := bind_some hs
  obtain ⟨b1, b2, b3, b4⟩ := rs_idx Sl25 Sz3 h1 b0
  refine pl_val (.pointer (some ⟨b1, b2, none⟩)) (b3 _ _ _ _ _ _ _ _ _ rfl rfl) ?_
  refine pl_val (.int .i64 x17) (y_load rfl ((at_load_int Ag3 Sz3 b4) _ (Chg.refl _ _))) ?_
  refine pl_val (.int .i64 x15) (y_move rfl) ?_
  refine pl_val (.bool (x17 != x15)) (y_neq rfl rfl) ?_
  refine c_nil ?_
  rcases bif_some hs with ⟨a2, hs⟩ | ⟨a2, hs⟩
  ·refine c_condT (congrArg Value.bool a2) ?_
   refine c_sr ?_
   refine pl_val (.bool false) (y_assign rfl) ?_
   refine c_nil ?_
   refine wp_ret ?_
   cases hs
   exact ⟨_, fr_ovl 26 ⟨rfl, trivial⟩, hC⟩
  refine c_condF (congrArg Value.bool a2) ?_
  refine wp_skip ?_
  refine c_region ?_
  refine pl_val (.int .i64 (w64 (k11 + 1))) (y_add rfl rfl) ?_
  refine pl_val (.int .i64 (w64 (k11 + 1))) (y_move rfl) ?_
  refine c_nil ?_
  cases hs
  exact ⟨_, fr_ovl 26 ⟨rfl, rfl, rfl, congrArg (Value.int .i64) hw, trivial⟩, hC, hO, h0, h1⟩
 ·skip
  exact ⟨_, fr_ovl 26 ⟨rfl, rfl, rfl, rfl, trivial⟩, hC, hO, h0, h1⟩
 cases o13 with
 | nx _ => exact True.intro
 | rt r_ =>
  have hs := after_rt hs
  intro b5 a3 hK
  cases hs
  exact hK
 | br s9 =>
  have hs := after_br hs
  rintro b5 a0 ⟨σ, rfl, hC, hO, h0, h1⟩
  refine c_sr ?_
  refine pl_val (.bool true) (y_assign rfl) ?_
  refine c_nil ?_
  refine wp_ret ?_
  cases hs
  exact ⟨_, fr_ovl 26 ⟨rfl, trivial⟩, hC⟩

theorem Bd42 : Bodied Try.prog 42 := bodied Try.func42 (by kernel_rfl) rfl

def k_impl_different (M : Nat → Prop) (w0 : World) (r : (List (List Int))) (a : Act) (w : World) : Prop :=
  ∃ (σ : Nat → Value) (ra0 : Option Addr) (rn0 rc0 : Nat), a = fr 32 (ovl σ [(2, (.slice ra0 rn0 rc0))]) ∧ Chg [] w0 w ∧ (RT.rs (RT.rs (RT.int .i64))).val (Past M w0 w) w (.slice ra0 rn0 rc0) r []
def s_impl_different (rows : List (List Int)) : Option ((List (List Int))) :=
  (forC (S := (List (List Int))) (R := (List (List Int))) (fun k53 s51 =>
  (idx rows k53).bind fun x63 =>
  ((bif (k53 == 0) then some true else (idx rows (w64 (k53 - 1))).bind fun x72 =>
  (s_impl_sameList x72 x63).bind fun r77 =>
  some (!r77))).bind fun s68 =>
  (bif s68 then (app s51 ([x63])).bind fun y82 =>
  some (.nx y82) else some (.nx s51))) 0 (rows.length : Int) ([])).bind fun o55 => after o55 (fun r_ => some r_) (fun s51 =>
  some s51)
set_option maxHeartbeats 4000000 in
theorem c_impl_different {M : Nat → Prop} {w : World} {pa0 : Option Addr} {pn0 pc0 : Nat} (rows : List (List Int)) (h0 : (RT.rs (RT.rs (RT.int .i64))).val M w (.slice pa0 pn0 pc0) rows ([])) (hM : ∀ g, w.heap.size ≤ g → M g) {r : (List (List Int))} (hs : s_impl_different rows = some r) :
    Gives Try.prog 106 [(.slice pa0 pn0 pc0)] w (fun v w' => ∃ (ra0 : Option Addr) (rn0 rc0 : Nat), v = (.slice ra0 rn0 rc0) ∧ Chg [] w w' ∧ (RT.rs (RT.rs (RT.int .i64))).val (Past M w w') w' (.slice ra0 rn0 rc0) r []) := by
 refine calls_fr Try.func106 rfl Try.ntmps106 (Nat.le_of_ble_eq_true rfl) ?_
 have hO := Own.start (N := Nw w []) hM Nw.fut
 have hC := Chg.refl [] w
 unfold s_impl_different at hs
 refine wp_mono (Q := KPost (k_impl_different M w r)) ?_ (fun e a e2 h => ?_)
 rotate_left
 ·cases e
  case ret =>
   obtain ⟨σ, ra0, rn0, rc0, rfl, hrest⟩ := h
   exact ret1x Try.results106 (res_tmp rfl) ⟨ra0, rn0, rc0, rfl, hrest⟩
  all_goals exact (h : False).elim
 refine c_sr ?_
 refine pl_val (.slice none 0 0) (y_assign rfl) ?_
 refine c_nil ?_
 refine c_sr ?_
 obtain ⟨d4, b6, e3, d5, c2, d6⟩ := new_block w [] 25
 refine pl_val (w' := d4) (.slice (some ⟨b6, 0, none⟩) 0 0) (y_bslice rfl (by rw [e3, d5]; kernel_rfl)) ?_
 have h0 := h0.ext c2
 have hC := hC.ext c2
 have hO := hO.new1 c2 d5 d6.lt
 have c3 := os_of_box (r := (RT.os 3 (RT.int .i64))) (M := M) (css := []) (fps := []) (xs := ([] : List (List Int))) d6 trivial (Nat.zero_le _) (List.nodup_cons.2 ⟨(fun h => nomatch h), List.nodup_nil⟩)
 have c3 : (RT.os 25 (RT.os 3 (RT.int .i64))).val M d4 (.slice (some ⟨b6, 0, none⟩) 0 0) [] [b6] := c3
 refine pl_val (.slice (some ⟨b6, 0, none⟩) 0 0) (y_assign rfl) ?_
 refine c_nil ?_
 refine c_seq ?_
 refine c_sr ?_
 refine pl_val (.slice pa0 pn0 pc0) (y_move rfl) ?_
 refine pl_val (.int .i64 (rows.length : Int)) (y_len' Sl43 (rs_len h0) rfl) ?_
 refine pl_val (.int .i64 0) (y_move rfl) ?_
 refine c_nil ?_
 obtain ⟨d7, e4, e5, e6, hO, e7⟩ := os_inner (Frz.os Frz.int) c3 hO
 have h0 := h0.sub (M' := d7) e5
 have hK := e6
 obtain ⟨o55, e8, hs⟩ := bind_some hs
 refine wp_block ?_
 refine wp_forC (id := 0) (rows.length : Int) (I := fun k53 s51 a a1 => ∃ (σ : Nat → Value) (a2 : Nat → Prop) (a5 : Option Addr) (a6 : Nat) (a7 : Nat) (b2 : List Nat), a = fr 32 (ovl σ [(0, (.slice pa0 pn0 pc0)), (3, (.slice a5 a6 a7)), (7, (.slice pa0 pn0 pc0)), (8, (.int .i64 (rows.length : Int))), (9, (.int .i64 k53))]) ∧ Chg [] w a1 ∧ Own (Nw w []) a2 a1 (b2 ++ []) ∧ Keeps w M a2 ∧ (RT.rs (RT.rs (RT.int .i64))).val a2 a1 (.slice pa0 pn0 pc0) rows ([]) ∧ (RT.os 25 (RT.rs (RT.int .i64))).val a2 a1 (.slice a5 a6 a7) s51 b2) (J := fun s51 a a1 => ∃ (σ : Nat → Value) (b7 : Nat → Prop) (b3 : Option Addr) (b4 : Nat) (b5 : Nat) (c4 : List Nat), a = fr 32 (ovl σ [(3, (.slice b3 b4 b5))]) ∧ Chg [] w a1 ∧ Own (Nw w []) b7 a1 (c4 ++ []) ∧ Keeps w M b7 ∧ (RT.rs (RT.rs (RT.int .i64))).val b7 a1 (.slice pa0 pn0 pc0) rows ([]) ∧ (RT.os 25 (RT.rs (RT.int .i64))).val b7 a1 (.slice b3 b4 b5) s51 c4) (K := (k_impl_different M w)) ?_ ?_ 0 ([]) o55 _ _ ?_ e8 ?_
 ·rintro k53 s51 a a1 ⟨σ, a2, a5, a6, a7, b2, rfl, hC, hO, hK, h0, a3⟩ hlt
  refine c_sr ?_
  refine pl_val (.bool (decide (k53 < (rows.length : Int)))) (y_lss rfl rfl) ?_
  refine c_nil ?_
  refine c_seq ?_
  refine c_condF (congrArg Value.bool (decide_eq_false hlt)) ?_
  refine wp_exit ?_
  exact ⟨rfl, _, a2, a5, a6, a7, b2, fr_ovl 32 ⟨rfl, trivial⟩, hC, hO, hK, h0, a3⟩
 ·rintro k53 s51 o55 a a1 ⟨σ, a2, a5, a6, a7, b2, rfl, hC, hO, hK, h0, a3⟩ hlt hw hs
  refine c_sr ?_
  refine pl_val (.bool (decide (k53 < (rows.length : Int)))) (y_lss rfl rfl) ?_
  refine c_nil ?_
  refine c_seq ?_
  refine c_condT (congrArg Value.bool (decide_eq_true hlt)) ?_
  refine wp_skip ?_
  refine c_seq ?_
  refine wp_block ?_
  refine c_sr ?_
  refine pl_val (.int .i64 k53) (y_move rfl) ?_
  obtain ⟨x63, e9, hs⟩ := bind_some hs
  obtain ⟨f0, f1, f2, f3⟩ := rs_idx Sl43 Sz25 h0 e9
  refine pl_val (.pointer (some ⟨f0, f1, none⟩)) (f2 _ _ _ _ _ _ _ _ _ rfl rfl) ?_
  obtain ⟨h6, f4, a4⟩ := at_load Ag25 Sz25 (fun _ => rfl) f3
  obtain ⟨a8, a9, b0, rfl⟩ := rs_sl a4
  refine pl_val (.slice a8 a9 b0) (y_load rfl (f4 _ (Chg.refl _ _))) ?_
  refine pl_val (.int .i64 k53) (y_assign rfl) ?_
  refine pl_val (.slice a8 a9 b0) (y_assign rfl) ?_
  refine c_nil ?_
  refine c_seq ?_
  obtain ⟨s68, f5, hs⟩ := bind_some hs
  refine c_mid (I := fun a c5 => ∃ (σ : Nat → Value), a = fr 32 (ovl σ [(0, (.slice pa0 pn0 pc0)), (3, (.slice a5 a6 a7)), (5, (.slice a8 a9 b0)), (7, (.slice pa0 pn0 pc0)), (8, (.int .i64 (rows.length : Int))), (9, (.int .i64 k53)), (25, (.bool s68))]) ∧ Chg [] a1 c5) ?_ ?_
  ·replace hs := f5
   have hMid := Chg.refl [] a1
   refine c_region ?_
   refine pl_val (.int .i64 k53) (y_move rfl) ?_
   refine pl_val (.bool (k53 == 0)) (y_eql rfl rfl) ?_
   refine pl_val (.bool (k53 == 0)) (y_move rfl) ?_
   rcases bif_some hs with ⟨a0, hs⟩ | ⟨a0, hs⟩
   ·skip
    refine pl_not (tg := 16) (by kernel_rfl) (congrArg Value.bool a0) ?_
    refine pl_not (tg := 16) (by kernel_rfl) (congrArg Value.bool a0) ?_
    refine pl_not (tg := 16) (by kernel_rfl) (congrArg Value.bool a0) ?_
    refine pl_not (tg := 16) (by kernel_rfl) (congrArg Value.bool a0) ?_
    refine pl_not (tg := 16) (by kernel_rfl) (congrArg Value.bool a0) ?_
    refine pl_not (tg := 16) (by kernel_rfl) (congrArg Value.bool a0) ?_
    refine pl_not (tg := 16) (by kernel_rfl) (congrArg Value.bool a0) ?_
    refine pl_not (tg := 16) (by kernel_rfl) (congrArg Value.bool a0) ?_
    refine pl_val (.bool true) (y_pick_t (congrArg Value.bool a0) rfl) ?_
    refine c_nil ?_
    cases hs
    exact ⟨_, fr_ovl 32 ⟨rfl, rfl, rfl, rfl, rfl, rfl, rfl, trivial⟩, hMid⟩
   refine pl_yes (.slice pa0 pn0 pc0) (tg := 16) (by kernel_rfl) (congrArg Value.bool a0) (y_move rfl) ?_
   refine pl_yes (.int .i64 k53) (tg := 16) (by kernel_rfl) (congrArg Value.bool a0) (y_move rfl) ?_
   refine pl_yes (.int .i64 (w64 (k53 - 1))) (tg := 16) (by kernel_rfl) (congrArg Value.bool a0) (y_sub rfl rfl) ?_
   obtain ⟨x72, f6, hs⟩ := bind_some hs
   obtain ⟨f7, f8, f9, g0⟩ := rs_idx Sl43 Sz25 h0 f6
   refine pl_yes (.pointer (some ⟨f7, f8, none⟩)) (tg := 16) (by kernel_rfl) (congrArg Value.bool a0) (f9 _ _ _ _ _ _ _ _ _ rfl rfl) ?_
   obtain ⟨h7, g1, c0⟩ := at_load Ag25 Sz25 (fun _ => rfl) g0
   obtain ⟨g2, g3, g4, rfl⟩ := rs_sl c0
   refine pl_yes (.slice g2 g3 g4) (tg := 16) (by kernel_rfl) (congrArg Value.bool a0) (y_load rfl (g1 _ (Chg.refl _ _))) ?_
   refine pl_yes (.slice a8 a9 b0) (tg := 16) (by kernel_rfl) (congrArg Value.bool a0) (y_move rfl) ?_
   obtain ⟨r77, g5, hs⟩ := bind_some hs
   refine pl_cally (tg := 16) (by kernel_rfl) (congrArg Value.bool a0) Bd42 rfl (c_impl_sameList (M := a2) x72 x63 c0 a4 hO.fut g5) ?_
   rintro _ h8 ⟨rfl, b1⟩
   have h0 := h0.ext b1
   have a3 := a3.ext b1
   have a4 := a4.ext b1
   have c0 := c0.ext b1
   have hMid := hMid.ext b1
   have hC := hC.ext b1
   have hO := hO.ext b1
   refine pl_yes (.bool (!r77)) (tg := 16) (by kernel_rfl) (congrArg Value.bool a0) (y_not rfl) ?_
   refine pl_val (.bool (!r77)) (y_pick_f (congrArg Value.bool a0) rfl) ?_
   refine c_nil ?_
   cases hs
   exact ⟨_, fr_ovl 32 ⟨rfl, rfl, rfl, rfl, rfl, rfl, rfl, trivial⟩, hMid⟩
  rintro d8 c5 ⟨σ, rfl, b8⟩
  have h0 := h0.ext b8
  have a3 := a3.ext b8
  have a4 := a4.ext b8
  have hC := hC.ext b8
  have hO := hO.ext b8
  rcases bif_some hs with ⟨c6, hs⟩ | ⟨c6, hs⟩
  ·refine c_condT (congrArg Value.bool c6) ?_
   refine c_region ?_
   refine pl_val (.slice a5 a6 a7) (y_move rfl) ?_
   refine pl_val (.slice a8 a9 b0) (y_move rfl) ?_
   obtain ⟨d9, c7, g6, e0, b9, e1⟩ := new_block c5 [(.slice a8 a9 b0)] 25
   refine pl_val (w' := d9) (.slice (some ⟨c7, 0, none⟩) 1 1) (y_bslice rfl (by rw [g6, e0]; kernel_rfl)) ?_
   have h0 := h0.ext b9
   have a3 := a3.ext b9
   have a4 := a4.ext b9
   have hC := hC.ext b9
   have hO := hO.new1 b9 e0 e1.lt
   have c8 := os_of_box (r := (RT.rs (RT.int .i64))) (M := a2) (css := [[(.slice a8 a9 b0)]]) (fps := [([] : List Nat)]) (xs := ([x63] : List (List Int))) e1 ⟨(rs_unval a4), trivial⟩ (Nat.le_of_ble_eq_true rfl) (List.nodup_cons.2 ⟨(fun h => nomatch h), List.nodup_nil⟩)
   have c8 : (RT.os 25 (RT.rs (RT.int .i64))).val a2 d9 (.slice (some ⟨c7, 0, none⟩) 1 1) [x63] [c7] := c8
   obtain ⟨y82, g7, hs⟩ := bind_some hs
   have hO := hO.fr1
   obtain ⟨c9, d0, d1, g8, g9, h1, c1, h2, d2⟩ := app_os Rw43 g7 a3 c8 hO.inM (fun g hg hq => hO.apart g hq (mem_l hg))
   have d3 := os_block a3
   refine pl_val (w' := g8) (.slice c9 d0 d1) (y_append rfl rfl (h1 _)) ?_
   have hO := hO.fr1
   have hO := hO.fr1
   have h0 := h0.mt c1 hO d3
   have a4 := a4.mt c1 hO d3
   have hC := hC.st c1 hO d3
   have hO := hO.eat c1 h2 (os_nodup d2) d2.fpl
   refine pl_val (.slice c9 d0 d1) (y_assign rfl) ?_
   refine c_nil ?_
   refine c_region ?_
   refine pl_val (.int .i64 (w64 (k53 + 1))) (y_add rfl rfl) ?_
   refine pl_val (.int .i64 (w64 (k53 + 1))) (y_move rfl) ?_
   refine c_nil ?_
   cases hs
   exact ⟨_, a2, c9, d0, d1, g9, fr_ovl 32 ⟨rfl, rfl, rfl, rfl, congrArg (Value.int .i64) hw, trivial⟩, hC, hO, hK, h0, d2⟩
  refine c_condF (congrArg Value.bool c6) ?_
  refine wp_skip ?_
  refine c_region ?_
  refine pl_val (.int .i64 (w64 (k53 + 1))) (y_add rfl rfl) ?_
  refine pl_val (.int .i64 (w64 (k53 + 1))) (y_move rfl) ?_
  refine c_nil ?_
  cases hs
  exact ⟨_, a2, a5, a6, a7, b2, fr_ovl 32 ⟨rfl, rfl, rfl, rfl, congrArg (Value.int .i64) hw, trivial⟩, hC, hO, hK, h0, a3⟩
 ·skip
  exact ⟨_, d7, (some ⟨b6, 0, none⟩), 0, 0, e4, fr_ovl 32 ⟨rfl, rfl, rfl, rfl, rfl, trivial⟩, hC, hO, hK, h0, e7⟩
 cases o55 with
 | nx _ => exact True.intro
 | rt r_ =>
  have hs := after_rt hs
  intro d8 e2 hK
  cases hs
  exact hK
 | br s51 =>
  have hs := after_br hs
  rintro d8 a1 ⟨σ, b7, b3, b4, b5, c4, rfl, hC, hO, hK, h0, h3⟩
  refine c_sr ?_
  refine pl_val (.slice b3 b4 b5) (y_move rfl) ?_
  refine pl_val (.slice b3 b4 b5) (y_assign rfl) ?_
  refine c_nil ?_
  refine wp_ret ?_
  cases hs
  obtain ⟨h9, i0, i1, h4, hO, h5⟩ := frz_own (Frz.os (Frz.rs Frz.int)) h3 hO
  have hK := hK.trans h4
  exact ⟨_, b3, b4, b5, fr_ovl 32 ⟨rfl, trivial⟩, hC, (Keeps.out hK h5)⟩

theorem Bd107 : Bodied Try.prog 107 := bodied Try.func107 (by kernel_rfl) rfl

theorem Bd106 : Bodied Try.prog 106 := bodied Try.func106 (by kernel_rfl) rfl

def k_impl_makeRelation (M : Nat → Prop) (w0 : World) (r : (Int × (List (List Int)))) (a : Act) (w : World) : Prop :=
  ∃ (σ : Nat → Value) (rg4 : Nat) (ra0 : Option Addr) (rn0 rc0 : Nat), a = fr 10 (ovl σ [(4, (.pointer (some ⟨rg4, 0, none⟩)))]) ∧ BoxV w rg4 45 [(.int .i64 r.1), (.slice ra0 rn0 rc0)] ∧ Chg [] w0 w ∧ (RT.rs (RT.rs (RT.int .i64))).val (Past M w0 w) w (.slice ra0 rn0 rc0) r.2 []
def s_impl_makeRelation (arity : Int) (tuples : List (List Int)) : Option ((Int × (List (List Int)))) :=
  (s_impl_sortedTuples tuples).bind fun r4 =>
  (s_impl_different r4).bind fun r8 =>
  some (arity, r8)
set_option maxHeartbeats 4000000 in
theorem c_impl_makeRelation {M : Nat → Prop} {w : World} {pa0 : Option Addr} {pn0 pc0 : Nat} (arity : Int) (tuples : List (List Int)) (h0 : (RT.rs (RT.rs (RT.int .i64))).val M w (.slice pa0 pn0 pc0) tuples ([])) (hM : ∀ g, w.heap.size ≤ g → M g) {r : (Int × (List (List Int)))} (hs : s_impl_makeRelation arity tuples = some r) :
    Gives Try.prog 101 [(.int .i64 arity), (.slice pa0 pn0 pc0)] w (fun v w' => ∃ (ra0 : Option Addr) (rn0 rc0 : Nat), v = (.agg #[(.int .i64 r.1), (.slice ra0 rn0 rc0)]) ∧ Chg [] w w' ∧ (RT.rs (RT.rs (RT.int .i64))).val (Past M w w') w' (.slice ra0 rn0 rc0) r.2 []) := by
 refine calls_fr Try.func101 rfl Try.ntmps101 (Nat.le_of_ble_eq_true rfl) ?_
 have hO := Own.start (N := Nw w []) hM Nw.fut
 have hC := Chg.refl [] w
 unfold s_impl_makeRelation at hs
 refine wp_mono (Q := KPost (k_impl_makeRelation M w r)) ?_ (fun e a c7 h => ?_)
 rotate_left
 ·cases e
  case ret =>
   obtain ⟨σ, rg4, ra0, rn0, rc0, rfl, hbrg4, hrest⟩ := h
   exact ret1x Try.results101 (res_cell rfl (box_load Ag45 Sz45 hbrg4 [] _ [] rfl rfl (fun h => nomatch h))) ⟨ra0, rn0, rc0, rfl, hrest⟩
  all_goals exact (h : False).elim
 refine c_sr ?_
 obtain ⟨b7, a5, b8, b5, b0, a1⟩ := new_block w [(.int .i64 0), (.slice none 0 0)] 45
 refine pl_val (w' := b7) (.pointer (some ⟨a5, 0, none⟩)) (y_alloc (by rw [b8, b5]; kernel_rfl)) ?_
 have h0 := h0.ext b0
 have hC := hC.ext b0
 have hO := hO.new1 b0 b5 a1.lt
 refine c_nil ?_
 refine c_sr ?_
 refine pl_val (.int .i64 arity) (y_move rfl) ?_
 refine pl_val (.slice pa0 pn0 pc0) (y_move rfl) ?_
 obtain ⟨r4, b9, hs⟩ := bind_some hs
 refine pl_call Bd107 rfl (c_impl_sortedTuples (M := M) tuples h0 hO.fut b9) ?_
 rintro _ b1 ⟨c8, c9, d0, c0, rfl, a6, c1, c2⟩
 have h0 := h0.ext a6
 have a1 := a1.cn a6
 have hC := hC.ext a6
 have hO := Own.join0 hO a6 c2
 have hO := hO.perm (R := c0 ++ (([a5]) ++ ([]))) (by simp)
 obtain ⟨a2, d1, c3, c4, hO, a0⟩ := frz_own (Frz.os (Frz.os Frz.int)) c1 hO
 have h0 := h0.sub (M' := a2) c3
 have hK := c4
 obtain ⟨r8, c5, hs⟩ := bind_some hs
 refine pl_call Bd106 rfl (c_impl_different (M := a2) r4 a0 hO.fut c5) ?_
 rintro _ b2 ⟨a7, a8, a9, rfl, a3, b3⟩
 have hK := hK.trans (show Keeps w a2 (Past a2 b1 b2) from Keeps.past hC.size)
 have h0 := h0.ext a3
 have a1 := a1.cn a3
 have a0 := a0.ext a3
 have hC := hC.ext a3
 have hO := hO.past a3
 have h0 := h0.sub (M' := (Past a2 b1 b2)) (fun g hg => .inl hg.1)
 have a0 := a0.sub (M' := (Past a2 b1 b2)) (fun g hg => .inl hg.1)
 refine pl_val (.agg #[(.int .i64 arity), (.slice a7 a8 a9)]) (y_build rfl (by kernel_rfl)) ?_
 obtain ⟨b6, c6, a4, b4⟩ := box_store (P := Try.prog) a1 [] [(.int .i64 0), (.slice none 0 0)] [] [(.int .i64 arity), (.slice a7 a8 a9)] rfl rfl (by intro u hu; simp only [List.mem_cons, List.not_mem_nil, or_false] at hu; rcases hu with rfl | rfl <;> rfl)
 refine pl_skip (w' := b6) (ys_store rfl rfl (c6 _ _ rfl Sz45)) ?_
 have h0 := h0.mt a4 hO same_
 have a0 := a0.mt a4 hO same_
 have b3 := b3.mt a4 hO same_
 have hC := hC.st a4 hO same_
 have hO := hO.ext a4
 have b4 : BoxV b6 a5 45 [(.int .i64 arity), (.slice a7 a8 a9)] := b4
 refine c_nil ?_
 refine wp_ret ?_
 cases hs
 exact ⟨_, a5, a7, a8, a9, fr_ovl 10 ⟨rfl, trivial⟩, b4, hC, (Keeps.out hK b3)⟩

theorem Bd101 : Bodied Try.prog 101 := bodied Try.func101 (by kernel_rfl) rfl

def k_impl_composeRelations (M : Nat → Prop) (w0 : World) (r : (Int × (List (List Int)))) (a : Act) (w : World) : Prop :=
  ∃ (σ : Nat → Value) (rg4 : Nat) (ra0 : Option Addr) (rn0 rc0 : Nat), a = fr 46 (ovl σ [(4, (.pointer (some ⟨rg4, 0, none⟩)))]) ∧ BoxV w rg4 45 [(.int .i64 r.1), (.slice ra0 rn0 rc0)] ∧ Chg [] w0 w ∧ (RT.rs (RT.rs (RT.int .i64))).val (Past M w0 w) w (.slice ra0 rn0 rc0) r.2 []
def s_impl_composeRelations (r_ : Int × (List (List Int))) (s_ : Int × (List (List Int))) : Option ((Int × (List (List Int)))) :=
  (forR (S := (List (List Int))) (R := (Int × (List (List Int)))) (fun _ x80 s77 =>
  (forR (S := (List (List Int))) (R := (Int × (List (List Int)))) (fun _ x121 s118 =>
  (idx x80 1).bind fun x137 =>
  (idx x121 0).bind fun x139 =>
  (bif (x137 == x139) then (idx x80 0).bind fun x143 =>
  (idx x121 1).bind fun x145 =>
  (app s118 ([[x143, x145]])).bind fun y152 =>
  some (.nx y152) else some (.nx s118))) 0 s_.2 s77).bind fun o122 => after o122 (fun r_ => some (.rt r_)) (fun s118 =>
  some (.nx s118))) 0 r_.2 ([])).bind fun o81 => after o81 (fun r_ => some r_) (fun s77 =>
  (s_impl_makeRelation 2 s77).bind fun r156 =>
  some (r156.1, r156.2))
set_option maxHeartbeats 4000000 in
theorem c_impl_composeRelations {M : Nat → Prop} {w : World} {pa0 : Option Addr} {pn0 pc0 : Nat} {pa1 : Option Addr} {pn1 pc1 : Nat} (r_ : Int × (List (List Int))) (s_ : Int × (List (List Int))) (h0 : (RT.rs (RT.rs (RT.int .i64))).val M w (.slice pa0 pn0 pc0) r_.2 ([])) (h1 : (RT.rs (RT.rs (RT.int .i64))).val M w (.slice pa1 pn1 pc1) s_.2 ([])) (hM : ∀ g, w.heap.size ≤ g → M g) {r : (Int × (List (List Int)))} (hs : s_impl_composeRelations r_ s_ = some r) :
    Gives Try.prog 85 [(.agg #[(.int .i64 r_.1), (.slice pa0 pn0 pc0)]), (.agg #[(.int .i64 s_.1), (.slice pa1 pn1 pc1)])] w (fun v w' => ∃ (ra0 : Option Addr) (rn0 rc0 : Nat), v = (.agg #[(.int .i64 r.1), (.slice ra0 rn0 rc0)]) ∧ Chg [] w w' ∧ (RT.rs (RT.rs (RT.int .i64))).val (Past M w w') w' (.slice ra0 rn0 rc0) r.2 []) := by
 refine calls_fr Try.func85 rfl Try.ntmps85 (Nat.le_of_ble_eq_true rfl) ?_
 have hO := Own.start (N := Nw w []) hM Nw.fut
 have hC := Chg.refl [] w
 unfold s_impl_composeRelations at hs
 refine wp_mono (Q := KPost (k_impl_composeRelations M w r)) ?_ (fun e a g9 h => ?_)
 rotate_left
 ·cases e
  case ret =>
   obtain ⟨σ, rg4, ra0, rn0, rc0, rfl, hbrg4, hrest⟩ := h
   exact ret1x Try.results85 (res_cell rfl (box_load Ag45 Sz45 hbrg4 [] _ [] rfl rfl (fun h => nomatch h))) ⟨ra0, rn0, rc0, rfl, hrest⟩
  all_goals exact (h : False).elim
 refine c_sr ?_
 obtain ⟨h2, h3, j1, h4, d9, b5⟩ := new_block w [(.int .i64 r_.1), (.slice pa0 pn0 pc0)] 45
 refine pl_val (w' := h2) (.pointer (some ⟨h3, 0, none⟩)) (y_box rfl (by rw [j1, h4]; kernel_rfl)) ?_
 have h0 := h0.ext d9
 have h1 := h1.ext d9
 have hC := hC.ext d9
 have hO := hO.new1 d9 h4 b5.lt
 obtain ⟨h5, a6, j2, h6, d7, a0⟩ := new_block h2 [(.int .i64 s_.1), (.slice pa1 pn1 pc1)] 45
 refine pl_val (w' := h5) (.pointer (some ⟨a6, 0, none⟩)) (y_box rfl (by rw [j2, h6]; kernel_rfl)) ?_
 have h0 := h0.ext d7
 have h1 := h1.ext d7
 have b5 := b5.cn d7
 have hC := hC.ext d7
 have hO := hO.new1 d7 h6 a0.lt
 obtain ⟨h7, a5, j3, h8, d1, a1⟩ := new_block h5 [(.int .i64 0), (.slice none 0 0)] 45
 refine pl_val (w' := h7) (.pointer (some ⟨a5, 0, none⟩)) (y_alloc (by rw [j3, h8]; kernel_rfl)) ?_
 have h0 := h0.ext d1
 have h1 := h1.ext d1
 have b5 := b5.cn d1
 have a0 := a0.cn d1
 have hC := hC.ext d1
 have hO := hO.new1 d1 h8 a1.lt
 refine c_nil ?_
 refine c_sr ?_
 obtain ⟨h9, d2, j4, i0, b9, i1⟩ := new_block h7 [] 25
 refine pl_val (w' := h9) (.slice (some ⟨d2, 0, none⟩) 0 0) (y_bslice rfl (by rw [j4, i0]; kernel_rfl)) ?_
 have h0 := h0.ext b9
 have h1 := h1.ext b9
 have b5 := b5.cn b9
 have a0 := a0.cn b9
 have a1 := a1.cn b9
 have hC := hC.ext b9
 have hO := hO.new1 b9 i0 i1.lt
 have f2 := os_of_box (r := (RT.os 3 (RT.int .i64))) (M := M) (css := []) (fps := []) (xs := ([] : List (List Int))) i1 trivial (Nat.zero_le _) (List.nodup_cons.2 ⟨(fun h => nomatch h), List.nodup_nil⟩)
 have f2 : (RT.os 25 (RT.os 3 (RT.int .i64))).val M h9 (.slice (some ⟨d2, 0, none⟩) 0 0) [] [d2] := f2
 refine pl_val (.slice (some ⟨d2, 0, none⟩) 0 0) (y_assign rfl) ?_
 refine c_nil ?_
 refine c_seq ?_
 refine c_sr ?_
 refine pl_val (.pointer (some ⟨h3, 1, none⟩)) (y_faddr rfl Fa45x1) ?_
 refine pl_val (.slice pa0 pn0 pc0) (y_load rfl ((box_load Ag43 Sz43 b5 [(.int .i64 r_.1)] [(.slice pa0 pn0 pc0)] [] rfl rfl (fun _ => rfl)) _ (Chg.refl _ _))) ?_
 refine pl_val (.int .i64 (r_.2.length : Int)) (y_len' Sl43 (rs_len h0) rfl) ?_
 refine pl_val (.int .i64 0) (y_move rfl) ?_
 refine c_nil ?_
 have hO := hO.fr3
 have hO := hO.drop
 obtain ⟨o81, j5, hs⟩ := bind_some hs
 refine wp_block ?_
 refine wp_forR (id := 0) (I := fun i_ xs_ s77 a a2 => ∃ b0 : Nat, i_ = (b0 : Int) ∧ List.drop b0 r_.2 = xs_ ∧ (∃ (σ : Nat → Value) (d3 : Option Addr) (d4 : Nat) (d5 : Nat) (d6 : List Nat), a = fr 46 (ovl σ [(3, (.pointer (some ⟨a6, 0, none⟩))), (4, (.pointer (some ⟨a5, 0, none⟩))), (5, (.slice d3 d4 d5)), (12, (.slice pa0 pn0 pc0)), (13, (.int .i64 (r_.2.length : Int))), (14, (.int .i64 (b0 : Int)))]) ∧ Chg [] w a2 ∧ Own (Nw w []) M a2 (d6 ++ (([a5]) ++ (([a6]) ++ []))) ∧ (RT.rs (RT.rs (RT.int .i64))).val M a2 (.slice pa0 pn0 pc0) r_.2 ([]) ∧ (RT.rs (RT.rs (RT.int .i64))).val M a2 (.slice pa1 pn1 pc1) s_.2 ([]) ∧ BoxV a2 a6 45 [(.int .i64 s_.1), (.slice pa1 pn1 pc1)] ∧ BoxV a2 a5 45 [(.int .i64 0), (.slice none 0 0)] ∧ (RT.os 25 (RT.os 3 (RT.int .i64))).val M a2 (.slice d3 d4 d5) s77 d6)) (J := fun s77 a a2 => ∃ (σ : Nat → Value) (e0 : Option Addr) (e1 : Nat) (e2 : Nat) (f3 : List Nat), a = fr 46 (ovl σ [(4, (.pointer (some ⟨a5, 0, none⟩))), (5, (.slice e0 e1 e2))]) ∧ Chg [] w a2 ∧ Own (Nw w []) M a2 (f3 ++ (([a5]) ++ (([a6]) ++ []))) ∧ (RT.rs (RT.rs (RT.int .i64))).val M a2 (.slice pa0 pn0 pc0) r_.2 ([]) ∧ (RT.rs (RT.rs (RT.int .i64))).val M a2 (.slice pa1 pn1 pc1) s_.2 ([]) ∧ BoxV a2 a6 45 [(.int .i64 s_.1), (.slice pa1 pn1 pc1)] ∧ BoxV a2 a5 45 [(.int .i64 0), (.slice none 0 0)] ∧ (RT.os 25 (RT.os 3 (RT.int .i64))).val M a2 (.slice e0 e1 e2) s77 f3) (K := (k_impl_composeRelations M w)) ?_ ?_ r_.2 0 ([]) o81 _ _ ?_ j5 ?_
 ·rintro _ s77 a a2 ⟨b0, rfl, hd, σ, d3, d4, d5, d6, rfl, hC, hO, h0, h1, a0, a1, f4⟩
  have hlt := drop_nil_ge hd
  refine c_sr ?_
  refine pl_val (.bool (decide ((b0 : Int) < (r_.2.length : Int)))) (y_lss rfl rfl) ?_
  refine c_nil ?_
  refine c_seq ?_
  refine c_condF (congrArg Value.bool (decide_eq_false hlt)) ?_
  refine wp_exit ?_
  have hO := hO.fr2
  have hO := hO.fr2
  have hO := hO.fr2
  exact ⟨rfl, _, d3, d4, d5, d6, fr_ovl 46 ⟨rfl, rfl, trivial⟩, hC, hO, h0, h1, a0, a1, f4⟩
 ·rintro _ x80 xs_ s77 o81 a a2 ⟨b0, rfl, hd, σ, d3, d4, d5, d6, rfl, hC, hO, h0, h1, a0, a1, f4⟩ hs
  have hlt := drop_cons_lt hd
  have j6 := drop_cons_idx hd
  refine c_sr ?_
  refine pl_val (.bool (decide ((b0 : Int) < (r_.2.length : Int)))) (y_lss rfl rfl) ?_
  refine c_nil ?_
  refine c_seq ?_
  refine c_condT (congrArg Value.bool (decide_eq_true hlt)) ?_
  refine wp_skip ?_
  refine c_seq ?_
  refine wp_block ?_
  refine c_sr ?_
  obtain ⟨j7, j8, j9, k0⟩ := rs_idx Sl43 Sz25 h0 j6
  refine pl_val (.pointer (some ⟨j7, j8, none⟩)) (j9 _ _ _ _ _ _ _ _ _ rfl rfl) ?_
  obtain ⟨o2, k1, a4⟩ := at_load Ag25 Sz25 (fun _ => rfl) k0
  obtain ⟨c0, c1, c2, rfl⟩ := rs_sl a4
  refine pl_val (.slice c0 c1 c2) (y_load rfl (k1 _ (Chg.refl _ _))) ?_
  refine pl_val (.slice c0 c1 c2) (y_assign rfl) ?_
  refine c_nil ?_
  refine c_sr ?_
  refine pl_val (.pointer (some ⟨a6, 1, none⟩)) (y_faddr rfl Fa45x1) ?_
  refine pl_val (.slice pa1 pn1 pc1) (y_load rfl ((box_load Ag43 Sz43 a0 [(.int .i64 s_.1)] [(.slice pa1 pn1 pc1)] [] rfl rfl (fun _ => rfl)) _ (Chg.refl _ _))) ?_
  refine pl_val (.int .i64 (s_.2.length : Int)) (y_len' Sl43 (rs_len h1) rfl) ?_
  refine pl_val (.int .i64 0) (y_move rfl) ?_
  refine c_nil ?_
  obtain ⟨o122, k2, hs⟩ := bind_some hs
  refine wp_block ?_
  refine wp_forR (id := 2) (I := fun i_ xs_ s118 a a3 => ∃ b1 : Nat, i_ = (b1 : Int) ∧ List.drop b1 s_.2 = xs_ ∧ (∃ (σ : Nat → Value) (c3 : Option Addr) (c4 : Nat) (c5 : Nat) (c6 : List Nat), a = fr 46 (ovl σ [(3, (.pointer (some ⟨a6, 0, none⟩))), (4, (.pointer (some ⟨a5, 0, none⟩))), (5, (.slice c3 c4 c5)), (7, (.slice c0 c1 c2)), (12, (.slice pa0 pn0 pc0)), (13, (.int .i64 (r_.2.length : Int))), (14, (.int .i64 (b0 : Int))), (19, (.slice pa1 pn1 pc1)), (20, (.int .i64 (s_.2.length : Int))), (21, (.int .i64 (b1 : Int)))]) ∧ Chg [] w a3 ∧ Own (Nw w []) M a3 (c6 ++ (([a5]) ++ (([a6]) ++ []))) ∧ (RT.rs (RT.rs (RT.int .i64))).val M a3 (.slice pa0 pn0 pc0) r_.2 ([]) ∧ (RT.rs (RT.rs (RT.int .i64))).val M a3 (.slice pa1 pn1 pc1) s_.2 ([]) ∧ BoxV a3 a6 45 [(.int .i64 s_.1), (.slice pa1 pn1 pc1)] ∧ BoxV a3 a5 45 [(.int .i64 0), (.slice none 0 0)] ∧ (RT.rs (RT.int .i64)).val M a3 (.slice c0 c1 c2) x80 ([]) ∧ (RT.os 25 (RT.os 3 (RT.int .i64))).val M a3 (.slice c3 c4 c5) s118 c6)) (J := fun s118 a a3 => ∃ (σ : Nat → Value) (e3 : Option Addr) (e4 : Nat) (e5 : Nat) (e6 : List Nat), a = fr 46 (ovl σ [(3, (.pointer (some ⟨a6, 0, none⟩))), (4, (.pointer (some ⟨a5, 0, none⟩))), (5, (.slice e3 e4 e5)), (12, (.slice pa0 pn0 pc0)), (13, (.int .i64 (r_.2.length : Int))), (14, (.int .i64 (b0 : Int)))]) ∧ Chg [] w a3 ∧ Own (Nw w []) M a3 (e6 ++ (([a5]) ++ (([a6]) ++ []))) ∧ (RT.rs (RT.rs (RT.int .i64))).val M a3 (.slice pa0 pn0 pc0) r_.2 ([]) ∧ (RT.rs (RT.rs (RT.int .i64))).val M a3 (.slice pa1 pn1 pc1) s_.2 ([]) ∧ BoxV a3 a6 45 [(.int .i64 s_.1), (.slice pa1 pn1 pc1)] ∧ BoxV a3 a5 45 [(.int .i64 0), (.slice none 0 0)] ∧ (RT.rs (RT.int .i64)).val M a3 (.slice c0 c1 c2) x80 ([]) ∧ (RT.os 25 (RT.os 3 (RT.int .i64))).val M a3 (.slice e3 e4 e5) s118 e6) (K := (k_impl_composeRelations M w)) ?_ ?_ s_.2 0 s77 o122 _ _ ?_ k2 ?_
  ·rintro _ s118 a a3 ⟨b1, rfl, hd, σ, c3, c4, c5, c6, rfl, hC, hO, h0, h1, a0, a1, a4, a7⟩
   have hlt := drop_nil_ge hd
   refine c_sr ?_
   refine pl_val (.bool (decide ((b1 : Int) < (s_.2.length : Int)))) (y_lss rfl rfl) ?_
   refine c_nil ?_
   refine c_seq ?_
   refine c_condF (congrArg Value.bool (decide_eq_false hlt)) ?_
   refine wp_exit ?_
   have hO := hO.fr2
   have hO := hO.fr2
   have hO := hO.fr2
   exact ⟨rfl, _, c3, c4, c5, c6, fr_ovl 46 ⟨rfl, rfl, rfl, rfl, rfl, rfl, trivial⟩, hC, hO, h0, h1, a0, a1, a4, a7⟩
  ·rintro _ x121 xs_ s118 o122 a a3 ⟨b1, rfl, hd, σ, c3, c4, c5, c6, rfl, hC, hO, h0, h1, a0, a1, a4, a7⟩ hs
   have hlt := drop_cons_lt hd
   have k3 := drop_cons_idx hd
   refine c_sr ?_
   refine pl_val (.bool (decide ((b1 : Int) < (s_.2.length : Int)))) (y_lss rfl rfl) ?_
   refine c_nil ?_
   refine c_seq ?_
   refine c_condT (congrArg Value.bool (decide_eq_true hlt)) ?_
   refine wp_skip ?_
   refine c_seq ?_
   refine wp_block ?_
   refine c_sr ?_
   obtain ⟨k4, k5, k6, k7⟩ := rs_idx Sl43 Sz25 h1 k3
   refine pl_val (.pointer (some ⟨k4, k5, none⟩)) (k6 _ _ _ _ _ _ _ _ _ rfl rfl) ?_
   obtain ⟨o3, k8, a8⟩ := at_load Ag25 Sz25 (fun _ => rfl) k7
   obtain ⟨e7, e8, e9, rfl⟩ := rs_sl a8
   refine pl_val (.slice e7 e8 e9) (y_load rfl (k8 _ (Chg.refl _ _))) ?_
   refine pl_val (.slice e7 e8 e9) (y_assign rfl) ?_
   refine c_nil ?_
   refine c_seq ?_
   refine x_start [] Mx rfl ?_
   have b3 := Chg.drew a3
   generalize World.drew a3 = f5 at b3 ⊢
   have h0 := h0.ext b3
   have h1 := h1.ext b3
   have a0 := a0.cn b3
   have a1 := a1.cn b3
   have a4 := a4.ext b3
   have a7 := a7.ext b3
   have a8 := a8.ext b3
   have hC := hC.ext b3
   have hO := hO.ext b3
   have hS := Chg.refl [] f5
   refine x_p 0 (.slice c0 c1 c2) rfl (by kernel_rfl)  (fun _ => y_move rfl) (fun _ => hS) ?_
   obtain ⟨x137, k9, hs⟩ := bind_some hs
   obtain ⟨l0, l1, l2, l3⟩ := rs_idx Sl25 Sz3 a4 k9
   refine x_p 1 (.pointer (some ⟨l0, l1, none⟩)) rfl (by kernel_rfl)  (fun _ => l2 _ _ _ _ _ _ _ _ _ rfl rfl) (fun _ => hS) ?_
   refine x_l 2 (.int .i64 x137) rfl (by kernel_rfl)  (fun w' hw' => y_load rfl ((at_load_int Ag3 Sz3 l3) w' hw')) hS ?_
   refine x_p 3 (.slice e7 e8 e9) rfl (by kernel_rfl)  (fun _ => y_move rfl) (fun _ => hS) ?_
   obtain ⟨x139, l4, hs⟩ := bind_some hs
   obtain ⟨l5, l6, l7, l8⟩ := rs_idx Sl25 Sz3 a8 l4
   refine x_p 4 (.pointer (some ⟨l5, l6, none⟩)) rfl (by kernel_rfl)  (fun _ => l7 _ _ _ _ _ _ _ _ _ rfl rfl) (fun _ => hS) ?_
   refine x_l 5 (.int .i64 x139) rfl (by kernel_rfl)  (fun w' hw' => y_load rfl ((at_load_int Ag3 Sz3 l8) w' hw')) hS ?_
   refine x_p 6 (.bool (x137 == x139)) rfl (by kernel_rfl)  (fun _ => y_eql rfl rfl) (fun _ => hS) ?_
   refine x_end (by kernel_rfl) ?_
   clear hS
   rcases bif_some hs with ⟨f6, hs⟩ | ⟨f6, hs⟩
   ·refine c_condT (congrArg Value.bool f6) ?_
    refine x_start [9] Mx rfl ?_
    have b4 := Chg.drew f5
    generalize World.drew f5 = i2 at b4 ⊢
    have h0 := h0.ext b4
    have h1 := h1.ext b4
    have a0 := a0.cn b4
    have a1 := a1.cn b4
    have a4 := a4.ext b4
    have a7 := a7.ext b4
    have a8 := a8.ext b4
    have hC := hC.ext b4
    have hO := hO.ext b4
    have hS := Chg.refl [] i2
    refine x_p 0 (.slice c3 c4 c5) rfl (by kernel_rfl)  (fun _ => y_move rfl) (fun _ => hS) ?_
    refine x_p 1 (.slice c0 c1 c2) rfl (by kernel_rfl)  (fun _ => y_move rfl) (fun _ => hS) ?_
    obtain ⟨x143, l9, hs⟩ := bind_some hs
    obtain ⟨m0, m1, m2, m3⟩ := rs_idx Sl25 Sz3 a4 l9
    refine x_p 2 (.pointer (some ⟨m0, m1, none⟩)) rfl (by kernel_rfl)  (fun _ => m2 _ _ _ _ _ _ _ _ _ rfl rfl) (fun _ => hS) ?_
    refine x_l 3 (.int .i64 x143) rfl (by kernel_rfl)  (fun w' hw' => y_load rfl ((at_load_int Ag3 Sz3 m3) w' hw')) hS ?_
    refine x_p 4 (.slice e7 e8 e9) rfl (by kernel_rfl)  (fun _ => y_move rfl) (fun _ => hS) ?_
    obtain ⟨x145, m4, hs⟩ := bind_some hs
    obtain ⟨m5, m6, m7, m8⟩ := rs_idx Sl25 Sz3 a8 m4
    refine x_p 5 (.pointer (some ⟨m5, m6, none⟩)) rfl (by kernel_rfl)  (fun _ => m7 _ _ _ _ _ _ _ _ _ rfl rfl) (fun _ => hS) ?_
    refine x_l 6 (.int .i64 x145) rfl (by kernel_rfl)  (fun w' hw' => y_load rfl ((at_load_int Ag3 Sz3 m8) w' hw')) hS ?_
    refine x_one (i := 7) (by kernel_rfl) ?_
    obtain ⟨f7, b6, m9, i3, b2, i4⟩ := new_block i2 [(.int .i64 x143), (.int .i64 x145)] 3
    refine xk_val (w' := f7) (b := false) (.slice (some ⟨b6, 0, none⟩) 2 2) rfl  (y_bslice rfl (by rw [m9, i3]; kernel_rfl)) rfl (fun _ => hS.ext b2) ?_
    have h0 := h0.ext b2
    have h1 := h1.ext b2
    have a0 := a0.cn b2
    have a1 := a1.cn b2
    have a4 := a4.ext b2
    have a7 := a7.ext b2
    have a8 := a8.ext b2
    have hC := hC.ext b2
    have hO := hO.new1 b2 i3 i4.lt
    have d8 := os_of_box (r := (RT.int .i64)) (M := M) (css := [[(.int .i64 x143)], [(.int .i64 x145)]]) (fps := [([] : List Nat), ([] : List Nat)]) (xs := ([x143, x145] : List Int)) i4 ⟨⟨rfl, rfl⟩, ⟨⟨rfl, rfl⟩, trivial⟩⟩ (Nat.le_of_ble_eq_true rfl) (List.nodup_cons.2 ⟨(fun h => nomatch h), List.nodup_nil⟩)
    have d8 : (RT.os 3 (RT.int .i64)).val M f7 (.slice (some ⟨b6, 0, none⟩) 2 2) [x143, x145] [b6] := d8
    have hS := hS.ext b2
    refine x_one (i := 8) (by kernel_rfl) ?_
    obtain ⟨i5, f0, n0, i6, a9, i7⟩ := new_block f7 [(.slice (some ⟨b6, 0, none⟩) 2 2)] 25
    refine xk_val (w' := i5) (b := false) (.slice (some ⟨f0, 0, none⟩) 1 1) rfl  (y_bslice rfl (by rw [n0, i6]; kernel_rfl)) rfl (fun _ => hS.ext a9) ?_
    have h0 := h0.ext a9
    have h1 := h1.ext a9
    have a0 := a0.cn a9
    have a1 := a1.cn a9
    have a4 := a4.ext a9
    have a7 := a7.ext a9
    have a8 := a8.ext a9
    have d8 := d8.ext a9
    have hC := hC.ext a9
    have hO := hO.new1 a9 i6 i7.lt
    have hO := hO.perm (R := (f0 :: ((([b6])) ++ ([]))) ++ (c6 ++ (([a5]) ++ (([a6]) ++ ([]))))) (by simp)
    have n1 := hO.nd
    have f8 := os_of_box (r := (RT.os 3 (RT.int .i64))) (M := M) (css := [[(.slice (some ⟨b6, 0, none⟩) 2 2)]]) (fps := [([b6] : List Nat)]) (xs := ([[x143, x145]] : List (List Int))) i7 ⟨(os_unval d8), trivial⟩ (Nat.le_of_ble_eq_true rfl) n1
    have f8 : (RT.os 25 (RT.os 3 (RT.int .i64))).val M i5 (.slice (some ⟨f0, 0, none⟩) 1 1) [[x143, x145]] (f0 :: ((([b6])) ++ ([]))) := f8
    have hS := hS.ext a9
    refine x_one (i := 9) (by kernel_rfl) ?_
    obtain ⟨y152, n2, hs⟩ := bind_some hs
    have hO := hO.fr1
    obtain ⟨f9, g0, g1, n3, n4, n5, b7, n6, g2⟩ := app_os Rw43 n2 a7 f8 hO.inM (fun g hg hq => hO.apart g hq (mem_l hg))
    have c7 := os_block a7
    refine xk_val (w' := n3) (b := true) (.slice f9 g0 g1) rfl  (y_append rfl rfl (n5 _)) rfl (fun h => nomatch h) ?_
    have hO := hO.fr1
    have hO := hO.fr1
    have h0 := h0.mt b7 hO c7
    have h1 := h1.mt b7 hO c7
    have a0 := a0.ap b7 hO c7 (mem_r (mem_r (mem_l (List.mem_singleton.2 rfl))))
    have a1 := a1.ap b7 hO c7 (mem_r (mem_l (List.mem_singleton.2 rfl)))
    have a4 := a4.mt b7 hO c7
    have a8 := a8.mt b7 hO c7
    have hC := hC.st b7 hO c7
    have hO := hO.eat b7 n6 (os_nodup g2) g2.fpl
    refine x_p 10 (.slice f9 g0 g1) rfl (by kernel_rfl)  (fun _ => y_assign rfl) (fun h => nomatch h) ?_
    refine x_end (by kernel_rfl) ?_
    clear hS
    refine c_region ?_
    refine pl_val (.int .i64 (w64 ((b1 : Int) + 1))) (y_add rfl rfl) ?_
    refine pl_val (.int .i64 (w64 ((b1 : Int) + 1))) (y_move rfl) ?_
    refine c_nil ?_
    cases hs
    have hO := hO.fr2
    have hO := hO.fr2
    have hO := hO.fr2
    exact ⟨_, rfl, drop_cons_next hd, _, f9, g0, g1, n4, fr_ovl 46 ⟨rfl, rfl, rfl, rfl, rfl, rfl, rfl, rfl, rfl, congrArg (Value.int .i64) (w64_succ hlt (Int.natCast_nonneg _) (rs_max h1)), trivial⟩, hC, hO, h0, h1, a0, a1, a4, g2⟩
   refine c_condF (congrArg Value.bool f6) ?_
   refine wp_skip ?_
   refine c_region ?_
   refine pl_val (.int .i64 (w64 ((b1 : Int) + 1))) (y_add rfl rfl) ?_
   refine pl_val (.int .i64 (w64 ((b1 : Int) + 1))) (y_move rfl) ?_
   refine c_nil ?_
   cases hs
   have hO := hO.fr2
   have hO := hO.fr2
   have hO := hO.fr2
   exact ⟨_, rfl, drop_cons_next hd, _, c3, c4, c5, c6, fr_ovl 46 ⟨rfl, rfl, rfl, rfl, rfl, rfl, rfl, rfl, rfl, congrArg (Value.int .i64) (w64_succ hlt (Int.natCast_nonneg _) (rs_max h1)), trivial⟩, hC, hO, h0, h1, a0, a1, a4, a7⟩
  ·skip
   have hO := hO.fr2
   have hO := hO.fr2
   have hO := hO.fr2
   exact ⟨0, rfl, rfl, _, d3, d4, d5, d6, fr_ovl 46 ⟨rfl, rfl, rfl, rfl, rfl, rfl, rfl, rfl, rfl, rfl, trivial⟩, hC, hO, h0, h1, a0, a1, a4, f4⟩
  cases o122 with
  | nx _ => exact True.intro
  | rt r_ =>
   have hs := after_rt hs
   intro g3 g9 hK
   cases hs
   exact hK
  | br s118 =>
   have hs := after_br hs
   rintro g3 a3 ⟨σ, e3, e4, e5, e6, rfl, hC, hO, h0, h1, a0, a1, a4, n7⟩
   refine c_region ?_
   refine pl_val (.int .i64 (w64 ((b0 : Int) + 1))) (y_add rfl rfl) ?_
   refine pl_val (.int .i64 (w64 ((b0 : Int) + 1))) (y_move rfl) ?_
   refine c_nil ?_
   cases hs
   have hO := hO.fr2
   have hO := hO.fr2
   have hO := hO.fr2
   exact ⟨_, rfl, drop_cons_next hd, _, e3, e4, e5, e6, fr_ovl 46 ⟨rfl, rfl, rfl, rfl, rfl, congrArg (Value.int .i64) (w64_succ hlt (Int.natCast_nonneg _) (rs_max h0)), trivial⟩, hC, hO, h0, h1, a0, a1, n7⟩
 ·skip
  have hO := hO.fr2
  have hO := hO.fr2
  have hO := hO.fr2
  exact ⟨0, rfl, rfl, _, (some ⟨d2, 0, none⟩), 0, 0, ([d2]), fr_ovl 46 ⟨rfl, rfl, rfl, rfl, rfl, rfl, trivial⟩, hC, hO, h0, h1, a0, a1, f2⟩
 cases o81 with
 | nx _ => exact True.intro
 | rt r_ =>
  have hs := after_rt hs
  intro g3 g9 hK
  cases hs
  exact hK
 | br s77 =>
  have hs := after_br hs
  rintro g3 a2 ⟨σ, e0, e1, e2, f3, rfl, hC, hO, h0, h1, a0, a1, n8⟩
  refine c_sr ?_
  refine pl_val (.slice e0 e1 e2) (y_move rfl) ?_
  obtain ⟨b8, o4, i9, n9, hO, c8⟩ := frz_own (Frz.os (Frz.os Frz.int)) n8 hO
  have h0 := h0.sub (M' := b8) i9
  have h1 := h1.sub (M' := b8) i9
  have hK := n9
  obtain ⟨r156, o0, hs⟩ := bind_some hs
  refine pl_call Bd101 rfl (c_impl_makeRelation (M := b8) 2 s77 c8 hO.fut o0) ?_
  rintro _ f1 ⟨g4, g5, g6, rfl, c9, g7⟩
  have hK := hK.trans (show Keeps w b8 (Past b8 a2 f1) from Keeps.past hC.size)
  have h0 := h0.ext c9
  have h1 := h1.ext c9
  have a0 := a0.cn c9
  have a1 := a1.cn c9
  have c8 := c8.ext c9
  have hC := hC.ext c9
  have hO := hO.past c9
  have h0 := h0.sub (M' := (Past b8 a2 f1)) (fun g hg => .inl hg.1)
  have h1 := h1.sub (M' := (Past b8 a2 f1)) (fun g hg => .inl hg.1)
  have c8 := c8.sub (M' := (Past b8 a2 f1)) (fun g hg => .inl hg.1)
  obtain ⟨j0, o1, d0, g8⟩ := box_store (P := Try.prog) a1 [] [(.int .i64 0), (.slice none 0 0)] [] [(.int .i64 r156.1), (.slice g4 g5 g6)] rfl rfl (by intro u hu; simp only [List.mem_cons, List.not_mem_nil, or_false] at hu; rcases hu with rfl | rfl <;> rfl)
  refine pl_skip (w' := j0) (ys_store rfl rfl (o1 _ _ rfl Sz45)) ?_
  have h0 := h0.mt d0 hO same_
  have h1 := h1.mt d0 hO same_
  have a0 := a0.ap d0 hO same_ (mem_l (List.mem_singleton.2 rfl))
  have c8 := c8.mt d0 hO same_
  have g7 := g7.mt d0 hO same_
  have hC := hC.st d0 hO same_
  have hO := hO.ext d0
  have g8 : BoxV j0 a5 45 [(.int .i64 r156.1), (.slice g4 g5 g6)] := g8
  refine c_nil ?_
  refine wp_ret ?_
  cases hs
  exact ⟨_, a5, g4, g5, g6, fr_ovl 46 ⟨rfl, trivial⟩, g8, hC, (Keeps.out hK g7)⟩

theorem Bd84 : Bodied Try.prog 84 := bodied Try.func84 (by kernel_rfl) rfl

theorem Bd83 : Bodied Try.prog 83 := bodied Try.func83 (by kernel_rfl) rfl

theorem Bd85 : Bodied Try.prog 85 := bodied Try.func85 (by kernel_rfl) rfl

def k_impl_factorsToJoin (M : Nat → Prop) (w0 : World) (r : Int) (a : Act) (w : World) : Prop :=
  ∃ (σ : Nat → Value) , a = fr 34 (ovl σ [(4, (.int .i64 r))]) ∧ Chg [] w0 w
def s_impl_factorsToJoin (p : List Int) (q : List Int) : Option (Int) :=
  (s_impl_join p q).bind fun r4 =>
  (s_impl_relationOfPartition r4).bind fun r7 =>
  (s_impl_relationOfPartition p).bind fun r10 =>
  (iter (S := Int × Int × (List (List Int))) (R := Int) (fun s71 =>
  (bif (decide ((s71.2.2.length : Int) < (r7.2.length : Int))) then (bif ((Int.tmod (w64 (s71.1 + 1)) 2) == 0) then some q else some p).bind fun s84 =>
  (s_impl_relationOfPartition s84).bind fun r92 =>
  (s_impl_composeRelations (s71.2.1, s71.2.2) (r92.1, r92.2)).bind fun r96 =>
  some (.nx (w64 (s71.1 + 1), r96.1, r96.2)) else some (.br (s71.1, s71.2.1, s71.2.2)))) FU (1, r10.1, r10.2)).bind fun o75 => after o75 (fun r_ => some r_) (fun s71 =>
  some s71.1)
set_option maxHeartbeats 4000000 in
theorem c_impl_factorsToJoin {M : Nat → Prop} {w : World} {pa0 : Option Addr} {pn0 pc0 : Nat} {pa1 : Option Addr} {pn1 pc1 : Nat} (p : List Int) (q : List Int) (h0 : (RT.rs (RT.int .i64)).val M w (.slice pa0 pn0 pc0) p ([])) (h1 : (RT.rs (RT.int .i64)).val M w (.slice pa1 pn1 pc1) q ([])) (hM : ∀ g, w.heap.size ≤ g → M g) {r : Int} (hs : s_impl_factorsToJoin p q = some r) :
    Gives Try.prog 55 [(.slice pa0 pn0 pc0), (.slice pa1 pn1 pc1)] w (fun v w' => v = (.int .i64 r) ∧ Chg [] w w') := by
 refine calls_fr Try.func55 rfl Try.ntmps55 (Nat.le_of_ble_eq_true rfl) ?_
 have hO := Own.start (N := Nw w []) hM Nw.fut
 have hC := Chg.refl [] w
 unfold s_impl_factorsToJoin at hs
 refine wp_mono (Q := KPost (k_impl_factorsToJoin M w r)) ?_ (fun e a f6 h => ?_)
 rotate_left
 ·cases e
  case ret =>
   obtain ⟨σ, rfl, hrest⟩ := h
   exact ret1x Try.results55 (res_tmp rfl) ⟨rfl, hrest⟩
  all_goals exact (h : False).elim
 refine c_sr ?_
 refine pl_val (.int .i64 0) (y_assign rfl) ?_
 refine c_nil ?_
 refine c_sr ?_
 refine pl_val (.slice pa0 pn0 pc0) (y_move rfl) ?_
 refine pl_val (.slice pa1 pn1 pc1) (y_move rfl) ?_
 obtain ⟨r4, f7, hs⟩ := bind_some hs
 refine pl_call Bd84 rfl (c_impl_join (M := M) p q h0 h1 hO.fut f7) ?_
 rintro _ i5 ⟨i6, i7, i9, c6, rfl, c7, b2, f8⟩
 have h0 := h0.ext c7
 have h1 := h1.ext c7
 have hC := hC.ext c7
 have hO := Own.join0 hO c7 f8
 have hO := hO.perm (R := c6 ++ ([])) (by simp)
 obtain ⟨r7, f9, hs⟩ := bind_some hs
 refine pl_call Bd83 rfl (c_impl_relationOfPartition (M := (Less M c6)) r4 (((Frz.os Frz.int)).val b2 Less.sub Less.not) hO.less.fut f9) ?_
 rintro _ j0 ⟨g0, g1, g2, e6, rfl, c4, b3, g3⟩
 have h0 := h0.ext c4
 have h1 := h1.ext c4
 have b2 := b2.ext c4
 have hC := hC.ext c4
 have hO := Own.join0 hO c4 g3
 have hO := hO.perm (R := e6 ++ (c6 ++ ([]))) (by simp)
 have b3 := b3.free (M' := M) (Free.os (Free.os Free.int))
 refine pl_val (.slice g0 g1 g2) (y_field rfl (by kernel_rfl)) ?_
 refine pl_val (.int .i64 (r7.2.length : Int)) (y_len' Sl43 (os_len b3) rfl) ?_
 refine pl_val (.int .i64 (r7.2.length : Int)) (y_assign rfl) ?_
 refine c_nil ?_
 refine c_sr ?_
 refine pl_val (.slice pa0 pn0 pc0) (y_move rfl) ?_
 obtain ⟨r10, g4, hs⟩ := bind_some hs
 refine pl_call Bd83 rfl (c_impl_relationOfPartition (M := M) p h0 hO.fut g4) ?_
 rintro _ g5 ⟨d2, d3, d4, g6, rfl, c2, c5, g7⟩
 have h0 := h0.ext c2
 have h1 := h1.ext c2
 have b2 := b2.ext c2
 have b3 := b3.ext c2
 have hC := hC.ext c2
 have hO := Own.join0 hO c2 g7
 have hO := hO.perm (R := g6 ++ (e6 ++ (c6 ++ ([])))) (by simp)
 obtain ⟨g8, a3, g9, e7, b7, e8⟩ := new_block g5 [(.int .i64 0), (.slice none 0 0)] 45
 refine pl_val (w' := g8) (.pointer (some ⟨a3, 0, none⟩)) (y_alloc (by rw [g9, e7]; kernel_rfl)) ?_
 have h0 := h0.ext b7
 have h1 := h1.ext b7
 have b2 := b2.ext b7
 have b3 := b3.ext b7
 have c5 := c5.ext b7
 have hC := hC.ext b7
 have hO := hO.new1 b7 e7 e8.lt
 obtain ⟨e9, h2, b8, a0⟩ := box_store (P := Try.prog) e8 [] [(.int .i64 0), (.slice none 0 0)] [] [(.int .i64 r10.1), (.slice d2 d3 d4)] rfl rfl (by intro u hu; simp only [List.mem_cons, List.not_mem_nil, or_false] at hu; rcases hu with rfl | rfl <;> rfl)
 refine pl_skip (w' := e9) (ys_store rfl rfl (h2 _ _ rfl Sz45)) ?_
 have h0 := h0.mt b8 hO same_
 have h1 := h1.mt b8 hO same_
 have b2 := b2.ma b8 hO same_ (fun _ e => (mem_r (mem_r (mem_l (e)))))
 have b3 := b3.ma b8 hO same_ (fun _ e => (mem_r (mem_l (e))))
 have c5 := c5.ma b8 hO same_ (fun _ e => (mem_l (e)))
 have hC := hC.st b8 hO same_
 have hO := hO.ext b8
 have a0 : BoxV e9 a3 45 [(.int .i64 r10.1), (.slice d2 d3 d4)] := a0
 refine c_nil ?_
 refine c_sr ?_
 refine pl_val (.int .i64 1) (y_assign rfl) ?_
 refine c_nil ?_
 refine c_seq ?_
 have hO := hO.fr2
 have hO := hO.drop
 have hO := hO.fr2
 have hO := hO.drop
 have hO := hO.fr1
 obtain ⟨d5, j1, f0, h3, hO, h4⟩ := frz_own (Frz.os (Frz.os Frz.int)) c5 hO
 have h0 := h0.sub (M' := d5) f0
 have h1 := h1.sub (M' := d5) f0
 have hK := h3
 obtain ⟨o75, h5, hs⟩ := bind_some hs
 refine wp_block ?_
 refine wp_iter (id := 0) (I := fun s71 a a2 => ∃ (σ : Nat → Value) (a4 : Nat → Prop) (a7 : Option Addr) (a8 : Nat) (a9 : Nat), a = fr 34 (ovl σ [(0, (.slice pa0 pn0 pc0)), (1, (.slice pa1 pn1 pc1)), (5, (.int .i64 (r7.2.length : Int))), (6, (.pointer (some ⟨a3, 0, none⟩))), (7, (.int .i64 s71.1))]) ∧ Chg [] w a2 ∧ Own (Nw w []) a4 a2 (([a3]) ++ []) ∧ Keeps w M a4 ∧ (RT.rs (RT.int .i64)).val a4 a2 (.slice pa0 pn0 pc0) p ([]) ∧ (RT.rs (RT.int .i64)).val a4 a2 (.slice pa1 pn1 pc1) q ([]) ∧ BoxV a2 a3 45 [(.int .i64 s71.2.1), (.slice a7 a8 a9)] ∧ (RT.rs (RT.rs (RT.int .i64))).val a4 a2 (.slice a7 a8 a9) s71.2.2 ([])) (J := fun s71 a a2 => ∃ (σ : Nat → Value) (c3 : Nat → Prop) (d6 : Option Addr) (d7 : Nat) (d8 : Nat), a = fr 34 (ovl σ [(7, (.int .i64 s71.1))]) ∧ Chg [] w a2 ∧ Own (Nw w []) c3 a2 (([a3]) ++ []) ∧ Keeps w M c3 ∧ (RT.rs (RT.int .i64)).val c3 a2 (.slice pa0 pn0 pc0) p ([]) ∧ (RT.rs (RT.int .i64)).val c3 a2 (.slice pa1 pn1 pc1) q ([]) ∧ BoxV a2 a3 45 [(.int .i64 s71.2.1), (.slice d6 d7 d8)] ∧ (RT.rs (RT.rs (RT.int .i64))).val c3 a2 (.slice d6 d7 d8) s71.2.2 ([])) (K := (k_impl_factorsToJoin M w)) ?_ FU (1, r10.1, r10.2) o75 _ _ ?_ h5 ?_
 ·rintro s71 o75 a a2 ⟨σ, a4, a7, a8, a9, rfl, hC, hO, hK, h0, h1, a0, a1⟩ hs
  refine c_seq ?_
  refine c_sr ?_
  refine pl_val (.pointer (some ⟨a3, 1, none⟩)) (y_faddr rfl Fa45x1) ?_
  refine pl_val (.slice a7 a8 a9) (y_load rfl ((box_load Ag43 Sz43 a0 [(.int .i64 s71.2.1)] [(.slice a7 a8 a9)] [] rfl rfl (fun _ => rfl)) _ (Chg.refl _ _))) ?_
  refine pl_val (.int .i64 (s71.2.2.length : Int)) (y_len' Sl43 (rs_len a1) rfl) ?_
  refine pl_val (.int .i64 (r7.2.length : Int)) (y_move rfl) ?_
  refine pl_val (.bool (decide ((s71.2.2.length : Int) < (r7.2.length : Int)))) (y_lss rfl rfl) ?_
  refine c_nil ?_
  rcases bif_some hs with ⟨d9, hs⟩ | ⟨d9, hs⟩
  ·refine c_condT (congrArg Value.bool d9) ?_
   refine wp_skip ?_
   refine wp_block ?_
   refine c_sr ?_
   refine pl_val (.int .i64 s71.1) (y_move rfl) ?_
   refine pl_val (.int .i64 (w64 (s71.1 + 1))) (y_add rfl rfl) ?_
   refine pl_val (.int .i64 (w64 (s71.1 + 1))) (y_assign rfl) ?_
   refine c_nil ?_
   refine c_sr ?_
   refine pl_val (.slice pa0 pn0 pc0) (y_move rfl) ?_
   refine pl_val (.slice pa0 pn0 pc0) (y_assign rfl) ?_
   refine c_nil ?_
   refine c_seq ?_
   refine c_sr ?_
   refine pl_val (.int .i64 (w64 (s71.1 + 1))) (y_move rfl) ?_
   refine pl_val (.int .i64 (Int.tmod (w64 (s71.1 + 1)) 2)) (y_rem rfl rfl (by decide)) ?_
   refine pl_val (.bool ((Int.tmod (w64 (s71.1 + 1)) 2) == 0)) (y_eql rfl rfl) ?_
   refine c_nil ?_
   obtain ⟨s84, h6, hs⟩ := bind_some hs
   refine c_mid (I := fun a b0 => ∃ (σ : Nat → Value) (c8 : Option Addr) (c9 : Nat) (d0 : Nat), a = fr 34 (ovl σ [(0, (.slice pa0 pn0 pc0)), (1, (.slice pa1 pn1 pc1)), (5, (.int .i64 (r7.2.length : Int))), (6, (.pointer (some ⟨a3, 0, none⟩))), (7, (.int .i64 (w64 (s71.1 + 1)))), (8, (.slice c8 c9 d0))]) ∧ Chg [] w b0 ∧ Own (Nw w []) a4 b0 (([a3]) ++ []) ∧ (RT.rs (RT.int .i64)).val a4 b0 (.slice pa0 pn0 pc0) p ([]) ∧ (RT.rs (RT.int .i64)).val a4 b0 (.slice pa1 pn1 pc1) q ([]) ∧ BoxV b0 a3 45 [(.int .i64 s71.2.1), (.slice a7 a8 a9)] ∧ (RT.rs (RT.rs (RT.int .i64))).val a4 b0 (.slice a7 a8 a9) s71.2.2 ([]) ∧ (RT.rs (RT.int .i64)).val a4 b0 (.slice c8 c9 d0) s84 ([])) ?_ ?_
   ·replace hs := h6
    rcases bif_some hs with ⟨e0, hs⟩ | ⟨e0, hs⟩
    ·refine c_condT (congrArg Value.bool e0) ?_
     refine c_region ?_
     refine pl_val (.slice pa1 pn1 pc1) (y_move rfl) ?_
     refine pl_val (.slice pa1 pn1 pc1) (y_assign rfl) ?_
     refine c_nil ?_
     cases hs
     exact ⟨_, pa1, pn1, pc1, fr_ovl 34 ⟨rfl, rfl, rfl, rfl, rfl, rfl, trivial⟩, hC, hO, h0, h1, a0, a1, h1⟩
    refine c_condF (congrArg Value.bool e0) ?_
    refine wp_skip ?_
    cases hs
    exact ⟨_, pa0, pn0, pc0, fr_ovl 34 ⟨rfl, rfl, rfl, rfl, rfl, rfl, trivial⟩, hC, hO, h0, h1, a0, a1, h0⟩
   rintro f1 b0 ⟨σ, c8, c9, d0, rfl, hC, hO, h0, h1, a0, a1, a5⟩
   refine x_start [3, 4] Mx rfl ?_
   have b4 := Chg.drew b0
   generalize World.drew b0 = h7 at b4 ⊢
   have h0 := h0.ext b4
   have h1 := h1.ext b4
   have a0 := a0.cn b4
   have a1 := a1.ext b4
   have a5 := a5.ext b4
   have hC := hC.ext b4
   have hO := hO.ext b4
   have hS := Chg.refl [] h7
   refine x_l 0 (.agg #[(.int .i64 s71.2.1), (.slice a7 a8 a9)]) rfl (by kernel_rfl)  (fun w' hw' => y_load rfl ((box_load Ag45 Sz45 a0 [] [(.int .i64 s71.2.1), (.slice a7 a8 a9)] [] rfl rfl (fun h => nomatch h)) w' hw')) hS ?_
   refine x_p 1 (.slice c8 c9 d0) rfl (by kernel_rfl)  (fun _ => y_move rfl) (fun _ => hS) ?_
   refine x_one (i := 2) (by kernel_rfl) ?_
   obtain ⟨r92, h8, hs⟩ := bind_some hs
   refine xk_call (b := false) rfl  Bd83 rfl (c_impl_relationOfPartition (M := a4) s84 a5 hO.fut h8) rfl (by rintro _ _ _ ⟨h9, i0, i1, f2, rfl, b1, f3, f4⟩; exact hS.ext b1) ?_
   rintro _ b9 ⟨h9, i0, i1, f2, rfl, b1, f3, f4⟩
   have h0 := h0.ext b1
   have h1 := h1.ext b1
   have a0 := a0.cn b1
   have a1 := a1.ext b1
   have a5 := a5.ext b1
   have hC := hC.ext b1
   have hO := Own.join0 hO b1 f4
   have hO := hO.perm (R := f2 ++ (([a3]) ++ ([]))) (by simp)
   have hS := hS.ext b1
   refine x_one (i := 3) (by kernel_rfl) ?_
   obtain ⟨a6, j2, d1, i2, hO, c0⟩ := frz_own (Frz.os (Frz.os Frz.int)) f3 hO
   have h0 := h0.sub (M' := a6) d1
   have h1 := h1.sub (M' := a6) d1
   have a1 := a1.sub (M' := a6) d1
   have a5 := a5.sub (M' := a6) d1
   have hK := hK.trans i2
   obtain ⟨r96, i3, hs⟩ := bind_some hs
   refine xk_call (b := true) rfl  Bd85 rfl (c_impl_composeRelations (M := a6) (s71.2.1, s71.2.2) (r92.1, r92.2) a1 c0 hO.fut i3) rfl (fun h => nomatch h) ?_
   rintro _ c1 ⟨e1, e2, e3, rfl, b5, e4⟩
   have hK := hK.trans (show Keeps w a6 (Past a6 b9 c1) from Keeps.past hC.size)
   have h0 := h0.ext b5
   have h1 := h1.ext b5
   have a0 := a0.cn b5
   have a1 := a1.ext b5
   have a5 := a5.ext b5
   have c0 := c0.ext b5
   have hC := hC.ext b5
   have hO := hO.past b5
   have h0 := h0.sub (M' := (Past a6 b9 c1)) (fun g hg => .inl hg.1)
   have h1 := h1.sub (M' := (Past a6 b9 c1)) (fun g hg => .inl hg.1)
   have a1 := a1.sub (M' := (Past a6 b9 c1)) (fun g hg => .inl hg.1)
   have a5 := a5.sub (M' := (Past a6 b9 c1)) (fun g hg => .inl hg.1)
   have c0 := c0.sub (M' := (Past a6 b9 c1)) (fun g hg => .inl hg.1)
   refine x_one (i := 4) (by kernel_rfl) ?_
   obtain ⟨f5, i4, b6, e5⟩ := box_store (P := Try.prog) a0 [] [(.int .i64 s71.2.1), (.slice a7 a8 a9)] [] [(.int .i64 r96.1), (.slice e1 e2 e3)] rfl rfl (by intro u hu; simp only [List.mem_cons, List.not_mem_nil, or_false] at hu; rcases hu with rfl | rfl <;> rfl)
   refine xk_skip (w' := f5) (b := true) rfl (ys_store rfl rfl (i4 _ _ rfl Sz45)) rfl (fun h => nomatch h) ?_
   have h0 := h0.mt b6 hO same_
   have h1 := h1.mt b6 hO same_
   have a1 := a1.mt b6 hO same_
   have a5 := a5.mt b6 hO same_
   have c0 := c0.mt b6 hO same_
   have e4 := e4.mt b6 hO same_
   have hC := hC.st b6 hO same_
   have hO := hO.ext b6
   have e5 : BoxV f5 a3 45 [(.int .i64 r96.1), (.slice e1 e2 e3)] := e5
   refine x_end (by kernel_rfl) ?_
   clear hS
   cases hs
   exact ⟨_, (Past a6 b9 c1), e1, e2, e3, fr_ovl 34 ⟨rfl, rfl, rfl, rfl, rfl, trivial⟩, hC, hO, hK, h0, h1, e5, e4⟩
  refine c_condF (congrArg Value.bool d9) ?_
  refine wp_exit ?_
  cases hs
  exact ⟨rfl, _, a4, a7, a8, a9, fr_ovl 34 ⟨rfl, trivial⟩, hC, hO, hK, h0, h1, a0, a1⟩
 ·skip
  exact ⟨_, d5, d2, d3, d4, fr_ovl 34 ⟨rfl, rfl, rfl, rfl, rfl, trivial⟩, hC, hO, hK, h0, h1, a0, h4⟩
 cases o75 with
 | nx _ => exact True.intro
 | rt r_ =>
  have hs := after_rt hs
  intro f1 f6 hK
  cases hs
  exact hK
 | br s71 =>
  have hs := after_br hs
  rintro f1 a2 ⟨σ, c3, d6, d7, d8, rfl, hC, hO, hK, h0, h1, a0, j3⟩
  refine c_sr ?_
  refine pl_val (.int .i64 s71.1) (y_move rfl) ?_
  refine pl_val (.int .i64 s71.1) (y_assign rfl) ?_
  refine c_nil ?_
  refine wp_ret ?_
  cases hs
  exact ⟨_, fr_ovl 34 ⟨rfl, trivial⟩, hC⟩

theorem Bd55 : Bodied Try.prog 55 := bodied Try.func55 (by kernel_rfl) rfl

def k_impl_FactorsToJoin (M : Nat → Prop) (w0 : World) (r : Int × Bool) (a : Act) (w : World) : Prop :=
  ∃ (σ : Nat → Value) , a = fr 16 (ovl σ [(6, (.int .i64 r.1)), (7, (.bool r.2))]) ∧ Chg [] w0 w
def s_impl_FactorsToJoin (n : Int) (p : List Int) (q : List Int) : Option (Int × Bool) :=
  (s_impl_arePartitions n p q).bind fun r4 =>
  (bif (!r4) then some (0, false) else (s_impl_factorsToJoin p q).bind fun r7 =>
  some (r7, true))
set_option maxHeartbeats 4000000 in
theorem c_impl_FactorsToJoin {M : Nat → Prop} {w : World} {pa0 : Option Addr} {pn0 pc0 : Nat} {pa1 : Option Addr} {pn1 pc1 : Nat} (n : Int) (p : List Int) (q : List Int) (h0 : (RT.rs (RT.int .i64)).val M w (.slice pa0 pn0 pc0) p ([])) (h1 : (RT.rs (RT.int .i64)).val M w (.slice pa1 pn1 pc1) q ([])) (hM : ∀ g, w.heap.size ≤ g → M g) {r : Int × Bool} (hs : s_impl_FactorsToJoin n p q = some r) :
    Gives Try.prog 25 [(.int .i64 n), (.slice pa0 pn0 pc0), (.slice pa1 pn1 pc1)] w (fun v w' => v = (.tuple #[(.int .i64 r.1), (.bool r.2)]) ∧ Chg [] w w') := by
 refine calls_fr Try.func25 rfl Try.ntmps25 (Nat.le_of_ble_eq_true rfl) ?_
 have hO := Own.start (N := Nw w []) hM Nw.fut
 have hC := Chg.refl [] w
 unfold s_impl_FactorsToJoin at hs
 refine wp_mono (Q := KPost (k_impl_FactorsToJoin M w r)) ?_ (fun e a a5 h => ?_)
 rotate_left
 ·cases e
  case ret =>
   obtain ⟨σ, rfl, hrest⟩ := h
   exact ret2x Try.results25 (res_tmp rfl) (res_tmp rfl) ⟨rfl, hrest⟩
  all_goals exact (h : False).elim
 refine c_sr ?_
 refine pl_val (.int .i64 0) (y_assign rfl) ?_
 refine pl_val (.bool false) (y_assign rfl) ?_
 refine c_nil ?_
 refine c_seq ?_
 refine c_sr ?_
 refine pl_val (.int .i64 n) (y_move rfl) ?_
 refine pl_val (.slice pa0 pn0 pc0) (y_move rfl) ?_
 refine pl_val (.slice pa1 pn1 pc1) (y_move rfl) ?_
 obtain ⟨r4, a3, hs⟩ := bind_some hs
 refine pl_call Bd48 rfl (c_impl_arePartitions (M := M) n p q h0 h1 hO.fut a3) ?_
 rintro _ a6 ⟨rfl, a0⟩
 have h0 := h0.ext a0
 have h1 := h1.ext a0
 have hC := hC.ext a0
 have hO := hO.ext a0
 refine pl_val (.bool (!r4)) (y_not rfl) ?_
 refine c_nil ?_
 rcases bif_some hs with ⟨a2, hs⟩ | ⟨a2, hs⟩
 ·refine c_condT (congrArg Value.bool a2) ?_
  refine c_sr ?_
  refine pl_val (.int .i64 0) (y_assign rfl) ?_
  refine pl_val (.bool false) (y_assign rfl) ?_
  refine c_nil ?_
  refine wp_ret ?_
  cases hs
  exact ⟨_, fr_ovl 16 ⟨rfl, rfl, trivial⟩, hC⟩
 refine c_condF (congrArg Value.bool a2) ?_
 refine wp_skip ?_
 refine c_sr ?_
 refine pl_val (.slice pa0 pn0 pc0) (y_move rfl) ?_
 refine pl_val (.slice pa1 pn1 pc1) (y_move rfl) ?_
 obtain ⟨r7, a4, hs⟩ := bind_some hs
 refine pl_call Bd55 rfl (c_impl_factorsToJoin (M := M) p q h0 h1 hO.fut a4) ?_
 rintro _ a7 ⟨rfl, a1⟩
 have h0 := h0.ext a1
 have h1 := h1.ext a1
 have hC := hC.ext a1
 have hO := hO.ext a1
 refine pl_val (.int .i64 r7) (y_assign rfl) ?_
 refine pl_val (.bool true) (y_assign rfl) ?_
 refine c_nil ?_
 refine wp_ret ?_
 cases hs
 exact ⟨_, fr_ovl 16 ⟨rfl, rfl, trivial⟩, hC⟩

def k_spec_l1Own (M : Nat → Prop) (w0 : World) (r : (List Int)) (a : Act) (w : World) : Prop :=
  ∃ (σ : Nat → Value) (ra0 : Option Addr) (rn0 rc0 : Nat) (rf0 : List Nat), a = fr 6 (ovl σ [(2, (.slice ra0 rn0 rc0))]) ∧ Chg [] w0 w ∧ (RT.os 3 (RT.int .i64)).val M w (.slice ra0 rn0 rc0) r rf0 ∧ Own (Nw w0 []) (fun _ => True) w (rf0 ++ ([]))
def s_spec_l1Own (l : List Int) : Option ((List Int)) :=
  (app ([]) l).bind fun y5 =>
  some y5
set_option maxHeartbeats 4000000 in
theorem c_spec_l1Own {M : Nat → Prop} {w : World} {pa0 : Option Addr} {pn0 pc0 : Nat} (l : List Int) (h0 : (RT.rs (RT.int .i64)).val M w (.slice pa0 pn0 pc0) l ([])) (hM : ∀ g, w.heap.size ≤ g → M g) {r : (List Int)} (hs : s_spec_l1Own l = some r) :
    Gives Try.prog 102 [(.slice pa0 pn0 pc0)] w (fun v w' => ∃ (ra0 : Option Addr) (rn0 rc0 : Nat) (rf0 : List Nat), v = (.slice ra0 rn0 rc0) ∧ Chg [] w w' ∧ (RT.os 3 (RT.int .i64)).val M w' (.slice ra0 rn0 rc0) r rf0 ∧ Own (Nw w []) (fun _ => True) w' (rf0 ++ ([]))) := by
 refine calls_fr Try.func102 rfl Try.ntmps102 (Nat.le_of_ble_eq_true rfl) ?_
 have hO := Own.start (N := Nw w []) hM Nw.fut
 have hC := Chg.refl [] w
 unfold s_spec_l1Own at hs
 refine wp_mono (Q := KPost (k_spec_l1Own M w r)) ?_ (fun e a b8 h => ?_)
 rotate_left
 ·cases e
  case ret =>
   obtain ⟨σ, ra0, rn0, rc0, rf0, rfl, hrest⟩ := h
   exact ret1x Try.results102 (res_tmp rfl) ⟨ra0, rn0, rc0, rf0, rfl, hrest⟩
  all_goals exact (h : False).elim
 refine c_sr ?_
 refine pl_val (.slice none 0 0) (y_assign rfl) ?_
 refine c_nil ?_
 refine c_sr ?_
 obtain ⟨a8, a1, b2, a9, a2, b0⟩ := new_block w [] 3
 refine pl_val (w' := a8) (.slice (some ⟨a1, 0, none⟩) 0 0) (y_bslice rfl (by rw [b2, a9]; kernel_rfl)) ?_
 have h0 := h0.ext a2
 have hC := hC.ext a2
 have hO := hO.new1 a2 a9 b0.lt
 have a0 := os_of_box (r := (RT.int .i64)) (M := M) (css := []) (fps := []) (xs := ([] : List Int)) b0 trivial (Nat.zero_le _) (List.nodup_cons.2 ⟨(fun h => nomatch h), List.nodup_nil⟩)
 have a0 : (RT.os 3 (RT.int .i64)).val M a8 (.slice (some ⟨a1, 0, none⟩) 0 0) [] [a1] := a0
 refine pl_val (.slice pa0 pn0 pc0) (y_move rfl) ?_
 obtain ⟨y5, b3, hs⟩ := bind_some hs
 obtain ⟨a3, a4, a5, b4, b5, b6, a6, b7, a7⟩ := app_rs Rw25 b3 a0 h0 hO.inM
 have b1 := os_block a0
 refine pl_val (w' := b4) (.slice a3 a4 a5) (y_append rfl rfl (b6 _)) ?_
 have h0 := h0.mt a6 hO b1
 have hC := hC.st a6 hO b1
 have hO := hO.grow a6 b7 (os_nodup a7) a7.fpl
 refine pl_val (.slice a3 a4 a5) (y_assign rfl) ?_
 refine c_nil ?_
 refine wp_ret ?_
 cases hs
 exact ⟨_, a3, a4, a5, b5, fr_ovl 6 ⟨rfl, trivial⟩, hC, a7, hO.top⟩

theorem Bd102 : Bodied Try.prog 102 := bodied Try.func102 (by kernel_rfl) rfl

def k_spec_l6Join (M : Nat → Prop) (w0 : World) (r : (List Int)) (a : Act) (w : World) : Prop :=
  ∃ (σ : Nat → Value) (ra0 : Option Addr) (rn0 rc0 : Nat) (rf0 : List Nat), a = fr 23 (ovl σ [(4, (.slice ra0 rn0 rc0))]) ∧ Chg [] w0 w ∧ (RT.os 3 (RT.int .i64)).val M w (.slice ra0 rn0 rc0) r rf0 ∧ Own (Nw w0 []) (fun _ => True) w (rf0 ++ ([]))
def s_spec_l6Join (p : List Int) (q : List Int) : Option ((List Int)) :=
  (s_spec_l1Own p).bind fun r4 =>
  (forC (S := (List Int)) (R := (List Int)) (fun k15 s13 =>
  (idx q k15).bind fun x23 =>
  (s_spec_l6Unite s13 k15 x23).bind fun r26 =>
  some (.nx r26)) 0 (q.length : Int) r4).bind fun o17 => after o17 (fun r_ => some r_) (fun s13 =>
  some s13)
set_option maxHeartbeats 4000000 in
theorem c_spec_l6Join {M : Nat → Prop} {w : World} {pa0 : Option Addr} {pn0 pc0 : Nat} {pa1 : Option Addr} {pn1 pc1 : Nat} (p : List Int) (q : List Int) (h0 : (RT.rs (RT.int .i64)).val M w (.slice pa0 pn0 pc0) p ([])) (h1 : (RT.rs (RT.int .i64)).val M w (.slice pa1 pn1 pc1) q ([])) (hM : ∀ g, w.heap.size ≤ g → M g) {r : (List Int)} (hs : s_spec_l6Join p q = some r) :
    Gives Try.prog 86 [(.slice pa0 pn0 pc0), (.slice pa1 pn1 pc1)] w (fun v w' => ∃ (ra0 : Option Addr) (rn0 rc0 : Nat) (rf0 : List Nat), v = (.slice ra0 rn0 rc0) ∧ Chg [] w w' ∧ (RT.os 3 (RT.int .i64)).val M w' (.slice ra0 rn0 rc0) r rf0 ∧ Own (Nw w []) (fun _ => True) w' (rf0 ++ ([]))) := by
 refine calls_fr Try.func86 rfl Try.ntmps86 (Nat.le_of_ble_eq_true rfl) ?_
 have hO := Own.start (N := Nw w []) hM Nw.fut
 have hC := Chg.refl [] w
 unfold s_spec_l6Join at hs
 refine wp_mono (Q := KPost (k_spec_l6Join M w r)) ?_ (fun e a c1 h => ?_)
 rotate_left
 ·cases e
  case ret =>
   obtain ⟨σ, ra0, rn0, rc0, rf0, rfl, hrest⟩ := h
   exact ret1x Try.results86 (res_tmp rfl) ⟨ra0, rn0, rc0, rf0, rfl, hrest⟩
  all_goals exact (h : False).elim
 refine c_sr ?_
 refine pl_val (.slice none 0 0) (y_assign rfl) ?_
 refine c_nil ?_
 refine c_sr ?_
 refine pl_val (.slice pa0 pn0 pc0) (y_move rfl) ?_
 obtain ⟨r4, c2, hs⟩ := bind_some hs
 refine pl_call Bd102 rfl (c_spec_l1Own (M := M) p h0 hO.fut c2) ?_
 rintro _ d5 ⟨b3, b4, b5, b6, rfl, a9, c3, c4⟩
 have h0 := h0.ext a9
 have h1 := h1.ext a9
 have hC := hC.ext a9
 have hO := Own.join0 hO a9 c4
 have hO := hO.perm (R := b6 ++ ([])) (by simp)
 refine pl_val (.slice b3 b4 b5) (y_assign rfl) ?_
 refine c_nil ?_
 refine c_seq ?_
 refine c_sr ?_
 refine pl_val (.int .i64 0) (y_assign rfl) ?_
 refine c_nil ?_
 obtain ⟨o17, c5, hs⟩ := bind_some hs
 refine wp_block ?_
 refine wp_forC (id := 0) (q.length : Int) (I := fun k15 s13 a a0 => ∃ (σ : Nat → Value) (a2 : Option Addr) (a3 : Nat) (a4 : Nat) (a1 : List Nat), a = fr 23 (ovl σ [(1, (.slice pa1 pn1 pc1)), (5, (.slice a2 a3 a4)), (6, (.int .i64 k15))]) ∧ Chg [] w a0 ∧ Own (Nw w []) M a0 (a1 ++ []) ∧ (RT.rs (RT.int .i64)).val M a0 (.slice pa1 pn1 pc1) q ([]) ∧ (RT.os 3 (RT.int .i64)).val M a0 (.slice a2 a3 a4) s13 a1) (J := fun s13 a a0 => ∃ (σ : Nat → Value) (a5 : Option Addr) (a6 : Nat) (a7 : Nat) (b0 : List Nat), a = fr 23 (ovl σ [(5, (.slice a5 a6 a7))]) ∧ Chg [] w a0 ∧ Own (Nw w []) M a0 (b0 ++ []) ∧ (RT.rs (RT.int .i64)).val M a0 (.slice pa1 pn1 pc1) q ([]) ∧ (RT.os 3 (RT.int .i64)).val M a0 (.slice a5 a6 a7) s13 b0) (K := (k_spec_l6Join M w)) ?_ ?_ 0 r4 o17 _ _ ?_ c5 ?_
 ·rintro k15 s13 a a0 ⟨σ, a2, a3, a4, a1, rfl, hC, hO, h1, a8⟩ hlt
  refine c_seq ?_
  refine c_sr ?_
  refine pl_val (.int .i64 k15) (y_move rfl) ?_
  refine pl_val (.slice pa1 pn1 pc1) (y_move rfl) ?_
  refine pl_val (.int .i64 (q.length : Int)) (y_len' Sl25 (rs_len h1) rfl) ?_
  refine pl_val (.bool (decide (k15 < (q.length : Int)))) (y_lss rfl rfl) ?_
  refine c_nil ?_
  refine c_condF (congrArg Value.bool (decide_eq_false hlt)) ?_
  refine wp_exit ?_
  exact ⟨rfl, _, a2, a3, a4, a1, fr_ovl 23 ⟨rfl, trivial⟩, hC, hO, h1, a8⟩
 ·rintro k15 s13 o17 a a0 ⟨σ, a2, a3, a4, a1, rfl, hC, hO, h1, a8⟩ hlt hw hs
  refine c_seq ?_
  refine c_sr ?_
  refine pl_val (.int .i64 k15) (y_move rfl) ?_
  refine pl_val (.slice pa1 pn1 pc1) (y_move rfl) ?_
  refine pl_val (.int .i64 (q.length : Int)) (y_len' Sl25 (rs_len h1) rfl) ?_
  refine pl_val (.bool (decide (k15 < (q.length : Int)))) (y_lss rfl rfl) ?_
  refine c_nil ?_
  refine c_condT (congrArg Value.bool (decide_eq_true hlt)) ?_
  refine wp_skip ?_
  refine c_seq ?_
  refine wp_block ?_
  refine c_region ?_
  refine pl_val (.slice a2 a3 a4) (y_move rfl) ?_
  refine pl_val (.int .i64 k15) (y_move rfl) ?_
  refine pl_val (.slice pa1 pn1 pc1) (y_move rfl) ?_
  refine pl_val (.int .i64 k15) (y_move rfl) ?_
  obtain ⟨x23, c6, hs⟩ := bind_some hs
  obtain ⟨c7, c8, c9, d0⟩ := rs_idx Sl25 Sz3 h1 c6
  refine pl_val (.pointer (some ⟨c7, c8, none⟩)) (c9 _ _ _ _ _ _ _ _ _ rfl rfl) ?_
  refine pl_val (.int .i64 x23) (y_load rfl ((at_load_int Ag3 Sz3 d0) _ (Chg.refl _ _))) ?_
  obtain ⟨r26, d1, hs⟩ := bind_some hs
  refine pl_call Bd97 rfl (c_spec_l6Unite (M := (Less M a1)) s13 k15 x23 (((Frz.os Frz.int)).val a8 Less.sub Less.not) hO.less.fut d1) ?_
  rintro _ d6 ⟨b7, b8, b9, c0, rfl, b1, b2, d2⟩
  have h1 := h1.ext b1
  have a8 := a8.ext b1
  have hC := hC.ext b1
  have hO := Own.join0 hO b1 d2
  have hO := hO.perm (R := c0 ++ (a1 ++ ([]))) (by simp)
  have b2 := b2.free (M' := M) (Free.os Free.int)
  refine pl_val (.slice b7 b8 b9) (y_assign rfl) ?_
  refine c_nil ?_
  refine c_region ?_
  refine pl_val (.int .i64 k15) (y_move rfl) ?_
  refine pl_val (.int .i64 (w64 (k15 + 1))) (y_add rfl rfl) ?_
  refine pl_val (.int .i64 (w64 (k15 + 1))) (y_assign rfl) ?_
  refine c_nil ?_
  cases hs
  have hO := hO.fr1
  have hO := hO.drop
  exact ⟨_, b7, b8, b9, c0, fr_ovl 23 ⟨rfl, rfl, congrArg (Value.int .i64) hw, trivial⟩, hC, hO, h1, b2⟩
 ·skip
  exact ⟨_, b3, b4, b5, b6, fr_ovl 23 ⟨rfl, rfl, rfl, trivial⟩, hC, hO, h1, c3⟩
 cases o17 with
 | nx _ => exact True.intro
 | rt r_ =>
  have hs := after_rt hs
  intro d3 c1 hK
  cases hs
  exact hK
 | br s13 =>
  have hs := after_br hs
  rintro d3 a0 ⟨σ, a5, a6, a7, b0, rfl, hC, hO, h1, d4⟩
  refine c_sr ?_
  refine pl_val (.slice a5 a6 a7) (y_move rfl) ?_
  refine pl_val (.slice a5 a6 a7) (y_assign rfl) ?_
  refine c_nil ?_
  refine wp_ret ?_
  cases hs
  exact ⟨_, a5, a6, a7, b0, fr_ovl 23 ⟨rfl, trivial⟩, hC, d4, hO.top⟩

theorem Bd86 : Bodied Try.prog 86 := bodied Try.func86 (by kernel_rfl) rfl

def k_spec_l16Factors (M : Nat → Prop) (w0 : World) (r : Int) (a : Act) (w : World) : Prop :=
  ∃ (σ : Nat → Value) , a = fr 38 (ovl σ [(4, (.int .i64 r))]) ∧ Chg [] w0 w
def s_spec_l16Factors (p : List Int) (q : List Int) : Option (Int) :=
  (s_spec_l6Join p q).bind fun r4 =>
  (s_spec_l13OfPartition r4).bind fun r7 =>
  (s_spec_l13OfPartition p).bind fun r10 =>
  (iter (S := Int × Int × (List (List Int))) (R := Int) (fun s58 =>
  (s_spec_l8Same s58.2.2 r7.2).bind fun r70 =>
  (bif (!r70) then (bif ((Int.tmod (w64 (s58.1 + 1)) 2) == 0) then (s_spec_l13OfPartition q).bind fun r75 =>
  (s_spec_l13Compose (p.length : Int) (s58.2.1, s58.2.2) (r75.1, r75.2)).bind fun r78 =>
  some (.nx (w64 (s58.1 + 1), r78.1, r78.2)) else (s_spec_l13OfPartition p).bind fun r83 =>
  (s_spec_l13Compose (p.length : Int) (s58.2.1, s58.2.2) (r83.1, r83.2)).bind fun r86 =>
  some (.nx (w64 (s58.1 + 1), r86.1, r86.2))) else some (.br (s58.1, s58.2.1, s58.2.2)))) FU (1, r10.1, r10.2)).bind fun o62 => after o62 (fun r_ => some r_) (fun s58 =>
  some s58.1)
set_option maxHeartbeats 4000000 in
theorem c_spec_l16Factors {M : Nat → Prop} {w : World} {pa0 : Option Addr} {pn0 pc0 : Nat} {pa1 : Option Addr} {pn1 pc1 : Nat} (p : List Int) (q : List Int) (h0 : (RT.rs (RT.int .i64)).val M w (.slice pa0 pn0 pc0) p ([])) (h1 : (RT.rs (RT.int .i64)).val M w (.slice pa1 pn1 pc1) q ([])) (hM : ∀ g, w.heap.size ≤ g → M g) {r : Int} (hs : s_spec_l16Factors p q = some r) :
    Gives Try.prog 56 [(.slice pa0 pn0 pc0), (.slice pa1 pn1 pc1)] w (fun v w' => v = (.int .i64 r) ∧ Chg [] w w') := by
 refine calls_fr Try.func56 rfl Try.ntmps56 (Nat.le_of_ble_eq_true rfl) ?_
 have hO := Own.start (N := Nw w []) hM Nw.fut
 have hC := Chg.refl [] w
 unfold s_spec_l16Factors at hs
 refine wp_mono (Q := KPost (k_spec_l16Factors M w r)) ?_ (fun e a h6 h => ?_)
 rotate_left
 ·cases e
  case ret =>
   obtain ⟨σ, rfl, hrest⟩ := h
   exact ret1x Try.results56 (res_tmp rfl) ⟨rfl, hrest⟩
  all_goals exact (h : False).elim
 refine c_sr ?_
 refine pl_val (.int .i64 0) (y_assign rfl) ?_
 refine c_nil ?_
 refine c_sr ?_
 refine pl_val (.slice pa0 pn0 pc0) (y_move rfl) ?_
 refine pl_val (.slice pa1 pn1 pc1) (y_move rfl) ?_
 obtain ⟨r4, h7, hs⟩ := bind_some hs
 refine pl_call Bd86 rfl (c_spec_l6Join (M := M) p q h0 h1 hO.fut h7) ?_
 rintro _ k7 ⟨k8, k9, l0, d6, rfl, d7, a6, h8⟩
 have h0 := h0.ext d7
 have h1 := h1.ext d7
 have hC := hC.ext d7
 have hO := Own.join0 hO d7 h8
 have hO := hO.perm (R := d6 ++ ([])) (by simp)
 obtain ⟨r7, h9, hs⟩ := bind_some hs
 refine pl_call Bd80 rfl (c_spec_l13OfPartition (M := (Less M d6)) r4 (((Frz.os Frz.int)).val a6 Less.sub Less.not) hO.less.fut h9) ?_
 rintro _ l1 ⟨c2, c3, c4, b3, rfl, d5, a0, i0⟩
 have h0 := h0.ext d5
 have h1 := h1.ext d5
 have a6 := a6.ext d5
 have hC := hC.ext d5
 have hO := Own.join0 hO d5 i0
 have hO := hO.perm (R := b3 ++ (d6 ++ ([]))) (by simp)
 have a0 := a0.free (M' := M) (Free.os (Free.os Free.int))
 refine pl_val (.slice pa0 pn0 pc0) (y_move rfl) ?_
 obtain ⟨r10, i1, hs⟩ := bind_some hs
 refine pl_call Bd80 rfl (c_spec_l13OfPartition (M := M) p h0 hO.fut i1) ?_
 rintro _ i2 ⟨e9, f0, f1, g2, rfl, d0, b7, i3⟩
 have h0 := h0.ext d0
 have h1 := h1.ext d0
 have a6 := a6.ext d0
 have a0 := a0.ext d0
 have hC := hC.ext d0
 have hO := Own.join0 hO d0 i3
 have hO := hO.perm (R := g2 ++ (b3 ++ (d6 ++ ([])))) (by simp)
 obtain ⟨g3, a7, i4, g4, c9, d8⟩ := new_block i2 [(.int .i64 0), (.slice none 0 0)] 45
 refine pl_val (w' := g3) (.pointer (some ⟨a7, 0, none⟩)) (y_alloc (by rw [i4, g4]; kernel_rfl)) ?_
 have h0 := h0.ext c9
 have h1 := h1.ext c9
 have a6 := a6.ext c9
 have a0 := a0.ext c9
 have b7 := b7.ext c9
 have hC := hC.ext c9
 have hO := hO.new1 c9 g4 d8.lt
 obtain ⟨i5, a5, i6, g5, c5, d9⟩ := new_block g3 [(.int .i64 0), (.slice none 0 0)] 45
 refine pl_val (w' := i5) (.pointer (some ⟨a5, 0, none⟩)) (y_alloc (by rw [i6, g5]; kernel_rfl)) ?_
 have h0 := h0.ext c5
 have h1 := h1.ext c5
 have a6 := a6.ext c5
 have a0 := a0.ext c5
 have b7 := b7.ext c5
 have d8 := d8.cn c5
 have hC := hC.ext c5
 have hO := hO.new1 c5 g5 d9.lt
 obtain ⟨g6, i7, c6, a1⟩ := box_store (P := Try.prog) d8 [] [(.int .i64 0), (.slice none 0 0)] [] [(.int .i64 r7.1), (.slice c2 c3 c4)] rfl rfl (by intro u hu; simp only [List.mem_cons, List.not_mem_nil, or_false] at hu; rcases hu with rfl | rfl <;> rfl)
 refine pl_skip (w' := g6) (ys_store rfl rfl (i7 _ _ rfl Sz45)) ?_
 have hO := hO.fr1
 have h0 := h0.mt c6 hO same_
 have h1 := h1.mt c6 hO same_
 have a6 := a6.ma c6 hO same_ (fun _ e => (mem_r (mem_r (mem_r (mem_l (e))))))
 have a0 := a0.ma c6 hO same_ (fun _ e => (mem_r (mem_r (mem_l (e)))))
 have b7 := b7.ma c6 hO same_ (fun _ e => (mem_r (mem_l (e))))
 have d9 := d9.ap c6 hO same_ (mem_l (List.mem_singleton.2 rfl))
 have hC := hC.st c6 hO same_
 have hO := hO.ext c6
 have a1 : BoxV g6 a7 45 [(.int .i64 r7.1), (.slice c2 c3 c4)] := a1
 obtain ⟨g7, i9, c7, a2⟩ := box_store (P := Try.prog) d9 [] [(.int .i64 0), (.slice none 0 0)] [] [(.int .i64 r10.1), (.slice e9 f0 f1)] rfl rfl (by intro u hu; simp only [List.mem_cons, List.not_mem_nil, or_false] at hu; rcases hu with rfl | rfl <;> rfl)
 refine pl_skip (w' := g7) (ys_store rfl rfl (i9 _ _ rfl Sz45)) ?_
 have hO := hO.fr1
 have h0 := h0.mt c7 hO same_
 have h1 := h1.mt c7 hO same_
 have a6 := a6.ma c7 hO same_ (fun _ e => (mem_r (mem_r (mem_r (mem_l (e))))))
 have a0 := a0.ma c7 hO same_ (fun _ e => (mem_r (mem_r (mem_l (e)))))
 have b7 := b7.ma c7 hO same_ (fun _ e => (mem_r (mem_l (e))))
 have a1 := a1.ap c7 hO same_ (mem_l (List.mem_singleton.2 rfl))
 have hC := hC.st c7 hO same_
 have hO := hO.ext c7
 have a2 : BoxV g7 a5 45 [(.int .i64 r10.1), (.slice e9 f0 f1)] := a2
 refine c_nil ?_
 refine c_sr ?_
 refine pl_val (.int .i64 1) (y_assign rfl) ?_
 refine c_nil ?_
 refine c_seq ?_
 have hO := hO.fr4
 have hO := hO.drop
 obtain ⟨o62, j0, hs⟩ := bind_some hs
 refine wp_block ?_
 refine wp_iter (id := 0) (I := fun s58 a a4 => ∃ (σ : Nat → Value) (a8 : Option Addr) (a9 : Nat) (b0 : Nat) (b4 : List Nat), a = fr 38 (ovl σ [(0, (.slice pa0 pn0 pc0)), (1, (.slice pa1 pn1 pc1)), (5, (.pointer (some ⟨a7, 0, none⟩))), (6, (.pointer (some ⟨a5, 0, none⟩))), (7, (.int .i64 s58.1))]) ∧ Chg [] w a4 ∧ Own (Nw w []) M a4 (b4 ++ (([a5]) ++ (([a7]) ++ (b3 ++ [])))) ∧ (RT.rs (RT.int .i64)).val M a4 (.slice pa0 pn0 pc0) p ([]) ∧ (RT.rs (RT.int .i64)).val M a4 (.slice pa1 pn1 pc1) q ([]) ∧ (RT.os 25 (RT.os 3 (RT.int .i64))).val M a4 (.slice c2 c3 c4) r7.2 b3 ∧ BoxV a4 a7 45 [(.int .i64 r7.1), (.slice c2 c3 c4)] ∧ BoxV a4 a5 45 [(.int .i64 s58.2.1), (.slice a8 a9 b0)] ∧ (RT.os 25 (RT.os 3 (RT.int .i64))).val M a4 (.slice a8 a9 b0) s58.2.2 b4) (J := fun s58 a a4 => ∃ (σ : Nat → Value) (f2 : Option Addr) (f3 : Nat) (f4 : Nat) (f5 : List Nat), a = fr 38 (ovl σ [(7, (.int .i64 s58.1))]) ∧ Chg [] w a4 ∧ Own (Nw w []) M a4 (f5 ++ (([a5]) ++ (([a7]) ++ (b3 ++ [])))) ∧ (RT.rs (RT.int .i64)).val M a4 (.slice pa0 pn0 pc0) p ([]) ∧ (RT.rs (RT.int .i64)).val M a4 (.slice pa1 pn1 pc1) q ([]) ∧ (RT.os 25 (RT.os 3 (RT.int .i64))).val M a4 (.slice c2 c3 c4) r7.2 b3 ∧ BoxV a4 a7 45 [(.int .i64 r7.1), (.slice c2 c3 c4)] ∧ BoxV a4 a5 45 [(.int .i64 s58.2.1), (.slice f2 f3 f4)] ∧ (RT.os 25 (RT.os 3 (RT.int .i64))).val M a4 (.slice f2 f3 f4) s58.2.2 f5) (K := (k_spec_l16Factors M w)) ?_ FU (1, r10.1, r10.2) o62 _ _ ?_ j0 ?_
 ·rintro s58 o62 a a4 ⟨σ, a8, a9, b0, b4, rfl, hC, hO, h0, h1, a0, a1, a2, a3⟩ hs
  refine c_seq ?_
  refine c_sr ?_
  refine pl_val (.pointer (some ⟨a5, 1, none⟩)) (y_faddr rfl Fa45x1) ?_
  refine pl_val (.slice a8 a9 b0) (y_load rfl ((box_load Ag43 Sz43 a2 [(.int .i64 s58.2.1)] [(.slice a8 a9 b0)] [] rfl rfl (fun _ => rfl)) _ (Chg.refl _ _))) ?_
  refine pl_val (.pointer (some ⟨a7, 1, none⟩)) (y_faddr rfl Fa45x1) ?_
  refine pl_val (.slice c2 c3 c4) (y_load rfl ((box_load Ag43 Sz43 a1 [(.int .i64 r7.1)] [(.slice c2 c3 c4)] [] rfl rfl (fun _ => rfl)) _ (Chg.refl _ _))) ?_
  have hO := hO.fr3
  have hO := hO.fr1
  obtain ⟨r70, j1, hs⟩ := bind_some hs
  refine pl_call Bd82 rfl (c_spec_l8Same (M := (Less (Less M b4) b3)) s58.2.2 r7.2 ((((Frz.os (Frz.os Frz.int))).val a3 Less.sub Less.not).sub Less.sub) (((Frz.os (Frz.os Frz.int))).val (a0.sub Less.sub) Less.sub Less.not) (hO.less).less.fut j1) ?_
  rintro _ e0 ⟨rfl, c8⟩
  have h0 := h0.ext c8
  have h1 := h1.ext c8
  have a0 := a0.ext c8
  have a1 := a1.cn c8
  have a2 := a2.cn c8
  have a3 := a3.ext c8
  have hC := hC.ext c8
  have hO := hO.ext c8
  refine pl_val (.bool (!r70)) (y_not rfl) ?_
  refine c_nil ?_
  rcases bif_some hs with ⟨f6, hs⟩ | ⟨f6, hs⟩
  ·refine c_condT (congrArg Value.bool f6) ?_
   refine wp_skip ?_
   refine wp_block ?_
   refine c_sr ?_
   refine pl_val (.int .i64 s58.1) (y_move rfl) ?_
   refine pl_val (.int .i64 (w64 (s58.1 + 1))) (y_add rfl rfl) ?_
   refine pl_val (.int .i64 (w64 (s58.1 + 1))) (y_assign rfl) ?_
   refine c_nil ?_
   refine c_sr ?_
   refine pl_val (.int .i64 (w64 (s58.1 + 1))) (y_move rfl) ?_
   refine pl_val (.int .i64 (Int.tmod (w64 (s58.1 + 1)) 2)) (y_rem rfl rfl (by decide)) ?_
   refine pl_val (.bool ((Int.tmod (w64 (s58.1 + 1)) 2) == 0)) (y_eql rfl rfl) ?_
   refine c_nil ?_
   rcases bif_some hs with ⟨f7, hs⟩ | ⟨f7, hs⟩
   ·refine c_condT (congrArg Value.bool f7) ?_
    refine x_start [6] Mx rfl ?_
    have b8 := Chg.drew e0
    generalize World.drew e0 = j2 at b8 ⊢
    have h0 := h0.ext b8
    have h1 := h1.ext b8
    have a0 := a0.ext b8
    have a1 := a1.cn b8
    have a2 := a2.cn b8
    have a3 := a3.ext b8
    have hC := hC.ext b8
    have hO := hO.ext b8
    have hS := Chg.refl [] j2
    refine x_p 0 (.slice pa0 pn0 pc0) rfl (by kernel_rfl)  (fun _ => y_move rfl) (fun _ => hS) ?_
    refine x_p 1 (.int .i64 (p.length : Int)) rfl (by kernel_rfl)  (fun _ => y_len' Sl25 (rs_len h0) rfl) (fun _ => hS) ?_
    refine x_l 2 (.agg #[(.int .i64 s58.2.1), (.slice a8 a9 b0)]) rfl (by kernel_rfl)  (fun w' hw' => y_load rfl ((box_load Ag45 Sz45 a2 [] [(.int .i64 s58.2.1), (.slice a8 a9 b0)] [] rfl rfl (fun h => nomatch h)) w' hw')) hS ?_
    refine x_p 3 (.slice pa1 pn1 pc1) rfl (by kernel_rfl)  (fun _ => y_move rfl) (fun _ => hS) ?_
    refine x_one (i := 4) (by kernel_rfl) ?_
    obtain ⟨r75, j3, hs⟩ := bind_some hs
    refine xk_call (b := false) rfl  Bd80 rfl (c_spec_l13OfPartition (M := M) q h1 hO.fut j3) rfl (by rintro _ _ _ ⟨j4, j5, j6, e1, rfl, b5, d1, g8⟩; exact hS.ext b5) ?_
    rintro _ l2 ⟨j4, j5, j6, e1, rfl, b5, d1, g8⟩
    have h0 := h0.ext b5
    have h1 := h1.ext b5
    have a0 := a0.ext b5
    have a1 := a1.cn b5
    have a2 := a2.cn b5
    have a3 := a3.ext b5
    have hC := hC.ext b5
    have hO := Own.join0 hO b5 g8
    have hO := hO.perm (R := e1 ++ (b4 ++ (b3 ++ (([a5]) ++ (([a7]) ++ ([])))))) (by simp)
    have hS := hS.ext b5
    refine x_one (i := 5) (by kernel_rfl) ?_
    have hO := hO.fr1
    obtain ⟨r78, j7, hs⟩ := bind_some hs
    refine xk_call (b := false) rfl  Bd79 rfl (c_spec_l13Compose (M := (Less (Less M b4) e1)) (p.length : Int) (s58.2.1, s58.2.2) (r75.1, r75.2) ((((Frz.os (Frz.os Frz.int))).val a3 Less.sub Less.not).sub Less.sub) (((Frz.os (Frz.os Frz.int))).val (d1.sub Less.sub) Less.sub Less.not) (hO.less).less.fut j7) rfl (by rintro _ _ _ ⟨e2, e3, e4, f8, rfl, b1, d2, g9⟩; exact hS.ext b1) ?_
    rintro _ l3 ⟨e2, e3, e4, f8, rfl, b1, d2, g9⟩
    have h0 := h0.ext b1
    have h1 := h1.ext b1
    have a0 := a0.ext b1
    have a1 := a1.cn b1
    have a2 := a2.cn b1
    have a3 := a3.ext b1
    have d1 := d1.ext b1
    have hC := hC.ext b1
    have hO := Own.join0 hO b1 g9
    have hO := hO.perm (R := f8 ++ (b4 ++ (e1 ++ (b3 ++ (([a5]) ++ (([a7]) ++ ([]))))))) (by simp)
    have d2 := d2.free (M' := M) (Free.os (Free.os Free.int))
    have hS := hS.ext b1
    refine x_one (i := 6) (by kernel_rfl) ?_
    obtain ⟨h2, j8, b9, f9⟩ := box_store (P := Try.prog) a2 [] [(.int .i64 s58.2.1), (.slice a8 a9 b0)] [] [(.int .i64 r78.1), (.slice e2 e3 e4)] rfl rfl (by intro u hu; simp only [List.mem_cons, List.not_mem_nil, or_false] at hu; rcases hu with rfl | rfl <;> rfl)
    refine xk_skip (w' := h2) (b := true) rfl (ys_store rfl rfl (j8 _ _ rfl Sz45)) rfl (fun h => nomatch h) ?_
    have hO := hO.fr4
    have h0 := h0.mt b9 hO same_
    have h1 := h1.mt b9 hO same_
    have a0 := a0.ma b9 hO same_ (fun _ e => (mem_r (mem_r (mem_r (mem_l (e))))))
    have a1 := a1.ap b9 hO same_ (mem_r (mem_r (mem_r (mem_r (mem_l (List.mem_singleton.2 rfl))))))
    have a3 := a3.ma b9 hO same_ (fun _ e => (mem_r (mem_l (e))))
    have d1 := d1.ma b9 hO same_ (fun _ e => (mem_r (mem_r (mem_l (e)))))
    have d2 := d2.ma b9 hO same_ (fun _ e => (mem_l (e)))
    have hC := hC.st b9 hO same_
    have hO := hO.ext b9
    have f9 : BoxV h2 a5 45 [(.int .i64 r78.1), (.slice e2 e3 e4)] := f9
    refine x_end (by kernel_rfl) ?_
    clear hS
    cases hs
    have hO := hO.fr2
    have hO := hO.drop
    have hO := hO.fr2
    have hO := hO.drop
    have hO := hO.fr2
    have hO := hO.fr3
    have hO := hO.fr2
    have hO := hO.fr3
    exact ⟨_, e2, e3, e4, f8, fr_ovl 38 ⟨rfl, rfl, rfl, rfl, rfl, trivial⟩, hC, hO, h0, h1, a0, a1, f9, d2⟩
   refine c_condF (congrArg Value.bool f7) ?_
   refine x_start [6] Mx rfl ?_
   have c0 := Chg.drew e0
   generalize World.drew e0 = j9 at c0 ⊢
   have h0 := h0.ext c0
   have h1 := h1.ext c0
   have a0 := a0.ext c0
   have a1 := a1.cn c0
   have a2 := a2.cn c0
   have a3 := a3.ext c0
   have hC := hC.ext c0
   have hO := hO.ext c0
   have hS := Chg.refl [] j9
   refine x_p 0 (.slice pa0 pn0 pc0) rfl (by kernel_rfl)  (fun _ => y_move rfl) (fun _ => hS) ?_
   refine x_p 1 (.int .i64 (p.length : Int)) rfl (by kernel_rfl)  (fun _ => y_len' Sl25 (rs_len h0) rfl) (fun _ => hS) ?_
   refine x_l 2 (.agg #[(.int .i64 s58.2.1), (.slice a8 a9 b0)]) rfl (by kernel_rfl)  (fun w' hw' => y_load rfl ((box_load Ag45 Sz45 a2 [] [(.int .i64 s58.2.1), (.slice a8 a9 b0)] [] rfl rfl (fun h => nomatch h)) w' hw')) hS ?_
   refine x_p 3 (.slice pa0 pn0 pc0) rfl (by kernel_rfl)  (fun _ => y_move rfl) (fun _ => hS) ?_
   refine x_one (i := 4) (by kernel_rfl) ?_
   obtain ⟨r83, k0, hs⟩ := bind_some hs
   refine xk_call (b := false) rfl  Bd80 rfl (c_spec_l13OfPartition (M := M) p h0 hO.fut k0) rfl (by rintro _ _ _ ⟨k1, k2, k3, e5, rfl, b6, d3, h3⟩; exact hS.ext b6) ?_
   rintro _ l4 ⟨k1, k2, k3, e5, rfl, b6, d3, h3⟩
   have h0 := h0.ext b6
   have h1 := h1.ext b6
   have a0 := a0.ext b6
   have a1 := a1.cn b6
   have a2 := a2.cn b6
   have a3 := a3.ext b6
   have hC := hC.ext b6
   have hO := Own.join0 hO b6 h3
   have hO := hO.perm (R := e5 ++ (b4 ++ (b3 ++ (([a5]) ++ (([a7]) ++ ([])))))) (by simp)
   have hS := hS.ext b6
   refine x_one (i := 5) (by kernel_rfl) ?_
   have hO := hO.fr1
   obtain ⟨r86, k4, hs⟩ := bind_some hs
   refine xk_call (b := false) rfl  Bd79 rfl (c_spec_l13Compose (M := (Less (Less M b4) e5)) (p.length : Int) (s58.2.1, s58.2.2) (r83.1, r83.2) ((((Frz.os (Frz.os Frz.int))).val a3 Less.sub Less.not).sub Less.sub) (((Frz.os (Frz.os Frz.int))).val (d3.sub Less.sub) Less.sub Less.not) (hO.less).less.fut k4) rfl (by rintro _ _ _ ⟨e6, e7, e8, g0, rfl, b2, d4, h4⟩; exact hS.ext b2) ?_
   rintro _ l5 ⟨e6, e7, e8, g0, rfl, b2, d4, h4⟩
   have h0 := h0.ext b2
   have h1 := h1.ext b2
   have a0 := a0.ext b2
   have a1 := a1.cn b2
   have a2 := a2.cn b2
   have a3 := a3.ext b2
   have d3 := d3.ext b2
   have hC := hC.ext b2
   have hO := Own.join0 hO b2 h4
   have hO := hO.perm (R := g0 ++ (b4 ++ (e5 ++ (b3 ++ (([a5]) ++ (([a7]) ++ ([]))))))) (by simp)
   have d4 := d4.free (M' := M) (Free.os (Free.os Free.int))
   have hS := hS.ext b2
   refine x_one (i := 6) (by kernel_rfl) ?_
   obtain ⟨h5, k5, c1, g1⟩ := box_store (P := Try.prog) a2 [] [(.int .i64 s58.2.1), (.slice a8 a9 b0)] [] [(.int .i64 r86.1), (.slice e6 e7 e8)] rfl rfl (by intro u hu; simp only [List.mem_cons, List.not_mem_nil, or_false] at hu; rcases hu with rfl | rfl <;> rfl)
   refine xk_skip (w' := h5) (b := true) rfl (ys_store rfl rfl (k5 _ _ rfl Sz45)) rfl (fun h => nomatch h) ?_
   have hO := hO.fr4
   have h0 := h0.mt c1 hO same_
   have h1 := h1.mt c1 hO same_
   have a0 := a0.ma c1 hO same_ (fun _ e => (mem_r (mem_r (mem_r (mem_l (e))))))
   have a1 := a1.ap c1 hO same_ (mem_r (mem_r (mem_r (mem_r (mem_l (List.mem_singleton.2 rfl))))))
   have a3 := a3.ma c1 hO same_ (fun _ e => (mem_r (mem_l (e))))
   have d3 := d3.ma c1 hO same_ (fun _ e => (mem_r (mem_r (mem_l (e)))))
   have d4 := d4.ma c1 hO same_ (fun _ e => (mem_l (e)))
   have hC := hC.st c1 hO same_
   have hO := hO.ext c1
   have g1 : BoxV h5 a5 45 [(.int .i64 r86.1), (.slice e6 e7 e8)] := g1
   refine x_end (by kernel_rfl) ?_
   clear hS
   cases hs
   have hO := hO.fr2
   have hO := hO.drop
   have hO := hO.fr2
   have hO := hO.drop
   have hO := hO.fr2
   have hO := hO.fr3
   have hO := hO.fr2
   have hO := hO.fr3
   exact ⟨_, e6, e7, e8, g0, fr_ovl 38 ⟨rfl, rfl, rfl, rfl, rfl, trivial⟩, hC, hO, h0, h1, a0, a1, g1, d4⟩
  refine c_condF (congrArg Value.bool f6) ?_
  refine wp_exit ?_
  cases hs
  have hO := hO.fr1
  have hO := hO.fr3
  have hO := hO.fr3
  have hO := hO.fr3
  exact ⟨rfl, _, a8, a9, b0, b4, fr_ovl 38 ⟨rfl, trivial⟩, hC, hO, h0, h1, a0, a1, a2, a3⟩
 ·skip
  have hO := hO.fr3
  have hO := hO.fr2
  have hO := hO.fr2
  have hO := hO.fr3
  exact ⟨_, e9, f0, f1, g2, fr_ovl 38 ⟨rfl, rfl, rfl, rfl, rfl, trivial⟩, hC, hO, h0, h1, a0, a1, a2, b7⟩
 cases o62 with
 | nx _ => exact True.intro
 | rt r_ =>
  have hs := after_rt hs
  intro k6 h6 hK
  cases hs
  exact hK
 | br s58 =>
  have hs := after_br hs
  rintro k6 a4 ⟨σ, f2, f3, f4, f5, rfl, hC, hO, h0, h1, a0, a1, a2, l6⟩
  refine c_sr ?_
  refine pl_val (.int .i64 s58.1) (y_move rfl) ?_
  refine pl_val (.int .i64 s58.1) (y_assign rfl) ?_
  refine c_nil ?_
  refine wp_ret ?_
  cases hs
  exact ⟨_, fr_ovl 38 ⟨rfl, trivial⟩, hC⟩

theorem Bd56 : Bodied Try.prog 56 := bodied Try.func56 (by kernel_rfl) rfl

def k_spec_FactorsToJoin (M : Nat → Prop) (w0 : World) (r : Int × Bool) (a : Act) (w : World) : Prop :=
  ∃ (σ : Nat → Value) , a = fr 16 (ovl σ [(6, (.int .i64 r.1)), (7, (.bool r.2))]) ∧ Chg [] w0 w
def s_spec_FactorsToJoin (n : Int) (p : List Int) (q : List Int) : Option (Int × Bool) :=
  (s_spec_l16Two n p q).bind fun r4 =>
  (bif (!r4) then some (0, false) else (s_spec_l16Factors p q).bind fun r7 =>
  some (r7, true))
set_option maxHeartbeats 4000000 in
theorem c_spec_FactorsToJoin {M : Nat → Prop} {w : World} {pa0 : Option Addr} {pn0 pc0 : Nat} {pa1 : Option Addr} {pn1 pc1 : Nat} (n : Int) (p : List Int) (q : List Int) (h0 : (RT.rs (RT.int .i64)).val M w (.slice pa0 pn0 pc0) p ([])) (h1 : (RT.rs (RT.int .i64)).val M w (.slice pa1 pn1 pc1) q ([])) (hM : ∀ g, w.heap.size ≤ g → M g) {r : Int × Bool} (hs : s_spec_FactorsToJoin n p q = some r) :
    Gives Try.prog 26 [(.int .i64 n), (.slice pa0 pn0 pc0), (.slice pa1 pn1 pc1)] w (fun v w' => v = (.tuple #[(.int .i64 r.1), (.bool r.2)]) ∧ Chg [] w w') := by
 refine calls_fr Try.func26 rfl Try.ntmps26 (Nat.le_of_ble_eq_true rfl) ?_
 have hO := Own.start (N := Nw w []) hM Nw.fut
 have hC := Chg.refl [] w
 unfold s_spec_FactorsToJoin at hs
 refine wp_mono (Q := KPost (k_spec_FactorsToJoin M w r)) ?_ (fun e a a5 h => ?_)
 rotate_left
 ·cases e
  case ret =>
   obtain ⟨σ, rfl, hrest⟩ := h
   exact ret2x Try.results26 (res_tmp rfl) (res_tmp rfl) ⟨rfl, hrest⟩
  all_goals exact (h : False).elim
 refine c_sr ?_
 refine pl_val (.int .i64 0) (y_assign rfl) ?_
 refine pl_val (.bool false) (y_assign rfl) ?_
 refine c_nil ?_
 refine c_seq ?_
 refine c_sr ?_
 refine pl_val (.int .i64 n) (y_move rfl) ?_
 refine pl_val (.slice pa0 pn0 pc0) (y_move rfl) ?_
 refine pl_val (.slice pa1 pn1 pc1) (y_move rfl) ?_
 obtain ⟨r4, a3, hs⟩ := bind_some hs
 refine pl_call Bd50 rfl (c_spec_l16Two (M := M) n p q h0 h1 hO.fut a3) ?_
 rintro _ a6 ⟨rfl, a0⟩
 have h0 := h0.ext a0
 have h1 := h1.ext a0
 have hC := hC.ext a0
 have hO := hO.ext a0
 refine pl_val (.bool (!r4)) (y_not rfl) ?_
 refine c_nil ?_
 rcases bif_some hs with ⟨a2, hs⟩ | ⟨a2, hs⟩
 ·refine c_condT (congrArg Value.bool a2) ?_
  refine c_sr ?_
  refine pl_val (.int .i64 0) (y_assign rfl) ?_
  refine pl_val (.bool false) (y_assign rfl) ?_
  refine c_nil ?_
  refine wp_ret ?_
  cases hs
  exact ⟨_, fr_ovl 16 ⟨rfl, rfl, trivial⟩, hC⟩
 refine c_condF (congrArg Value.bool a2) ?_
 refine wp_skip ?_
 refine c_sr ?_
 refine pl_val (.slice pa0 pn0 pc0) (y_move rfl) ?_
 refine pl_val (.slice pa1 pn1 pc1) (y_move rfl) ?_
 obtain ⟨r7, a4, hs⟩ := bind_some hs
 refine pl_call Bd56 rfl (c_spec_l16Factors (M := M) p q h0 h1 hO.fut a4) ?_
 rintro _ a7 ⟨rfl, a1⟩
 have h0 := h0.ext a1
 have h1 := h1.ext a1
 have hC := hC.ext a1
 have hO := hO.ext a1
 refine pl_val (.int .i64 r7) (y_assign rfl) ?_
 refine pl_val (.bool true) (y_assign rfl) ?_
 refine c_nil ?_
 refine wp_ret ?_
 cases hs
 exact ⟨_, fr_ovl 16 ⟨rfl, rfl, trivial⟩, hC⟩

end Go.Proofs
